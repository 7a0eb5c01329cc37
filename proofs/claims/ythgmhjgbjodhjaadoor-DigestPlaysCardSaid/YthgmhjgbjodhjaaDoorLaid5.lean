/- The program's table of the rounds' numbers, as the row lists it, lies as the walks ask; and what comes in as bytes or as a digest. -/
import Derived.Test.YthgmhjgbjodhjaaDoorRows
import Derived.Test.YthgmhjgbjodhjaaDoorSha2
import Derived.Test.YthgmhjgbjodhjaaDoorSha3
import Derived.Test.YthgmhjgbjodhjaaDoorSha8
import Derived.Test.YthgmhjgbjodhjaaDoorOpens
import Derived.ProofKit
import Derived.LaidMore
import Derived.OpenShut
import Derived.Stop.Joined
namespace Go.Proofs.YthgmhjgbjodhjaaDoor.Laid5
open Go.Proofs.YthgmhjgbjodhjaaDoor Go.ChangeShapes Go.WideShapes Go.ChangeAt Go.RowKit Go.Proofs.YthgmhjgbjodhjaaDoor.Sha Go.Proofs.YthgmhjgbjodhjaaDoor.Sha2 Go.Proofs.YthgmhjgbjodhjaaDoor.Sha3 Go.Proofs.YthgmhjgbjodhjaaDoor.Sha8 Go.Proofs.YthgmhjgbjodhjaaDoorW.PrintWords
set_option linter.unusedVariables false

def laidK {H : Type} : List (String × DataW H) := [("tabulary/digest.k", Rows.laid_tabulary_digest_k)]
theorem gK : Tryd.prog.globalNamed "tabulary/digest.k" = some 0 := by kernel_rfl
theorem tK : (Tryd.prog.globals[0]?).map (·.type) = some T64 := by kernel_rfl

theorem kb_of_laid {W : World} (h : laidMetH Tryd.prog laidK W) : KB W := by
  rw [MakeChecks.laidMetH_plain _ _ _ (by kernel_rfl)] at h
  obtain ⟨ps, ⟨g0, t0, cs0, f0, p0, q0, hg0, ht0, hv0, hd0, _, _⟩, _, _⟩ := h
  obtain rfl := Option.some.inj (gK.symm.trans hg0)
  obtain rfl := Option.some.inj (tK.symm.trans ht0)
  obtain ⟨xs, m1, rfl, hx1, hlen, hn3, hel⟩ := DataW.trod_array Tryd.underlying49 hd0
  have c1 : Tryd.prog.cellsOf 42 = 1 := by kernel_rfl
  simp only [Prod.mk.injEq] at hx1
  have hx2 := hx1.1
  unfold Rows.laid_tabulary_digest_k at hx2
  injection hx2 with hx2
  have hk : ∀ j : Nat, j < 64 → cs0[j]? = some (.int .u32 (bn KL j)) := by
    intro j hj
    have hE := hel j hj
    rw [List.getElem?_eq_getElem (by omega), c1, Nat.mul_one] at hE
    obtain ⟨y, hy, hz, hw⟩ := DataW.trod_int Tryd.underlying42 hE
    have hd := congrArg (fun l => l[j]?) hx2
    simp only [List.getElem?_map, List.getElem?_eq_getElem (show j < xs.length by omega), Option.map_some] at hd
    rw [hz] at hd
    have hall : ∀ j : Nat, j < 64 → ([1116352408, 1899447441, 3049323471, 3921009573, 961987163, 1508970993, 2453635748, 2870763221, 3624381080, 310598401, 607225278, 1426881987, 1925078388, 2162078206, 2614888103, 3248222580, 3835390401, 4022224774, 264347078, 604807628, 770255983, 1249150122, 1555081692, 1996064986, 2554220882, 2821834349, 2952996808, 3210313671, 3336571891, 3584528711, 113926993, 338241895, 666307205, 773529912, 1294757372, 1396182291, 1695183700, 1986661051, 2177026350, 2456956037, 2730485921, 2820302411, 3259730800, 3345764771, 3516065817, 3600352804, 4094571909, 275423344, 430227734, 506948616, 659060556, 883997877, 958139571, 1322822218, 1537002063, 1747873779, 1955562222, 2024104815, 2227730452, 2361852424, 2428436474, 2756734187, 3204031479, 3329325298] : List Int)[j]? = some (bn KL j) := by decide
    have hy2 : y = bn KL j := by
      have h2 := hall j hj
      have h3 : some (DataW.lit (.int .u32 y) : DataW Unit) = (some (bn KL j)).map (fun n => DataW.lit (.int .u32 n)) := by
        rw [← h2, ← List.getElem?_map]
        exact hd.symm ▸ rfl
      simpa using h3
    subst hy2
    have hlt : j < cs0.toList.length := by
      rw [hlen, show Tryd.prog.cellsOf 49 = 64 by kernel_rfl]; exact hj
    have h0 := congrArg (fun z => z[0]?) hy
    simp only [List.getElem?_take, List.getElem?_drop, Nat.add_zero, List.getElem?_cons_zero] at h0
    simpa using h0
  have hc : ∀ j : Nat, j < 64 → W.cell? ⟨0, j, none⟩ = some (.int .u32 (bn KL j)) := by
    intro j hj
    have := World.var?_cell hg0 hv0 j
    rw [this]
    simpa using hk j hj
  exact ⟨block_lt_of_cell (hc 0 (by decide)), hc⟩

theorem okWide_array {P : Program} {w : World} {r : Reach} {base : Nat} {t e : TypeId} {n : Nat} {v : Value} (ht : P.underlying t = some (.array n e)) (h : Value.okWide P w r base t v) : ∃ cs, v = .agg cs ∧ cs.size = P.cellsOf t := by
  simp only [Value.okWide, ht] at h
  obtain ⟨cs, h1, h2, _⟩ := h
  exact ⟨cs, h1, h2⟩
end Go.Proofs.YthgmhjgbjodhjaaDoor.Laid5
