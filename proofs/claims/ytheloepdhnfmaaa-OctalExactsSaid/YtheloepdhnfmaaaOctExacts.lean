/- OctalExacts walked: for every row of bytes the Go program's octal Exact answers as the document's reference does, and what was handed in stays as it was. No condition. -/
import Derived.WalkKit
import Derived.Lib.Hide
import Derived.Test.YtheloepdhnfmaaaOctLent
import Derived.Test.YtheloepdhnfmaaaOctPure
namespace Go.Proofs.Ytheloepdhnfmaaa.OctExacts
open Go.Proofs.Ytheloepdhnfmaaa Go.RowKit Go.Proofs.YtheloepdhnfmaaaW.PrintWords Go.Proofs.YtheloepdhnfmaaaW.PrintLast Go.Proofs.YtheloepdhnfmaaaW.PrintMore Go.Proofs.Ytheloepdhnfmaaa.POctalExacts
set_option linter.unusedVariables false
set_option linter.unusedSimpArgs false


set_option maxRecDepth 100000 in
theorem walk (a0 : Option Addr) (len0 cap0 : Nat) (z0 : List Int) (w : World) (w0 : (a0 = none ∧ len0 = 0 ∧ cap0 = 0 ∧ z0 = []) ∨ ∃ x, a0 = some x ∧ len0 ≤ cap0 ∧ cap0 ≤ maxLen ∧ z0.length = cap0 ∧ (∀ i, i < z0.length → w.cell? (x.add i) = some (.int .u8 (z0.getD i 0))) ∧ ∀ n ∈ z0, (Lit.int .u8 n).wf = true) (y0 : len0 * 1 ≤ 140737488351232) :
    Calls Try.prog 5 #[.slice a0 len0 cap0] w fun e w' => e = .returned (.bool true) ∧ Below w.heap.size w w' := by
  obtain ⟨l0, rfl, hr0, hm0, hw0, hc0⟩ := ReadsInt.ofRowC w0
  have hl : l0.length ≤ 140737488351232 := by omega
  have hb := OctPure.bytes_of_wf hw0
  have hk0 : Kd.C (Kd.int .u8) w a0 l0.length l0 := Kd.C_of_reads (d := (0 : Int)) (h1 := fun _ => rfl) hr0
  have HR := Lib.hid hk0
  clear hk0
  have hsm : tabularylaw07_same.f (l0.length + 1) l0 l0 = some true := by rw [OctPure.same_some l0 l0 _ (by omega) (by omega)]; simp
  have HS := Lib.hid hsm
  clear hr0 hm0 hw0 w0 hsm
  have h1 := OctPure.exact_oct l0 hb 200 (by omega)
  have h2 := OctPure.rexact l0 hb 200 (by omega)
  obtain ⟨g1, g2, hg⟩ : ∃ g1 g2, OctPure.exactS l0 = (g1, g2) := ⟨_, _, rfl⟩
  rw [hg] at h1 h2
  have H1 := Lib.hid h1
  have H2 := Lib.hid h2
  clear h1 h2 hg hb
  go_enter Try.func5, Try.ntmps5
  go_wp2_with (go_at_call 16; ((with_reducible refine (OctLent.lent_any _ _ l0 _ HR.out hc0 hl).mono ?_); rintro e w1 ⟨Ao, co, rfl, ho, hb1⟩; have HB1 := Lib.hid hb1; have HRa := Lib.hid (Kd.C_below HR.out hb1); have HO := Lib.hid ho; have hro := Kd.R_reads' ho; have hco : l0.length ≤ co := (by have := hro.2.1; simp at this; omega); have hCl := Kd.C_take (m := l0.length) hro.2.2 (by simp); rw [List.take_left] at hCl; have HI := Lib.hid hCl; clear hro hCl ho hb1))
  go_wp2_with (go_at_call 20; go_loud ((with_reducible refine (octal_Exact.calls 200 _ _ l0 _ _ _ HI.out hco H1.out).mono ?_); rintro e w2 ⟨rfl, hb2⟩; have HB2 := Lib.hid (HB1.out.trans (hb2.mono HB1.out.size)); have HRb := Lib.hid (Kd.C_below HRa.out hb2); have HO2 := Lib.hid (Kd.R_below HO.out hb2); clear hb2))
  go_wp2_with (go_at_call 21; go_loud ((with_reducible refine (tabularyref07_Exact.calls 200 _ _ l0 _ _ _ HRb.out hc0 H2.out).mono ?_); rintro e w3 ⟨rfl, hb3⟩; have HB3 := Lib.hid (HB2.out.trans (hb3.mono HB2.out.size)); have HRc := Lib.hid (Kd.C_below HRb.out hb3); have HO3 := Lib.hid (Kd.R_below HO2.out hb3); clear hb3))
  go_wp2_with (go_at_call 19; go_loud ((with_reducible refine (OctLent.kept_any _ _ l0 _ _ _ _ HO3.out HRc.out hc0 hl _ HS.out).mono ?_); rintro e w4 ⟨rfl, hb4⟩; have HB4 := Lib.hid (HB3.out.trans (hb4.mono HB3.out.size)); clear hb4))
  go_ret
  exact ⟨rfl, HB4.out⟩

end Go.Proofs.Ytheloepdhnfmaaa.OctExacts
