/- GfTurns walked: the Go program's powers of 2 go through all numbers but 0 before one comes again: the closed law returns true in every world. -/
import Derived.Test.YtfpiegglpagkmaaGf
import Derived.Test.YtfpiegglpagkmaaPGfTurnsx
namespace Go.Proofs.Ytfpiegglpagkmaa.Turns
open Go.Proofs.Ytfpiegglpagkmaa Go.RowKit Go.Proofs.YtfpiegglpagkmaaW.PrintWords Go.Proofs.YtfpiegglpagkmaaW.PrintLast Go.Proofs.YtfpiegglpagkmaaW.PrintMore

/-- Which numbers were met in k rounds. -/
def seen : Nat → List Int
  | 0 => List.replicate 256 0
  | k + 1 => (seen k).set (GfMath.pw k) 1

theorem seen_len (k : Nat) : (seen k).length = 256 := by
  induction k with
  | zero => exact List.length_replicate
  | succ k ih => show ((seen k).set _ _).length = 256; simp [ih]

theorem seen_new_all : (List.range 255).all (fun k => decide ((seen k).getD (GfMath.pw k) 7 = 0)) = true := by kernel_rfl

theorem seen_new (k : Nat) (h : k < 255) : (seen k)[GfMath.pw k]'(by rw [seen_len]; exact GfMath.pw_lt k) = 0 := by
  have := of_decide_eq_true (List.all_eq_true.mp seen_new_all k (List.mem_range.mpr h))
  rwa [List.getD_eq_getElem?_getD, List.getElem?_eq_getElem (by rw [seen_len]; exact GfMath.pw_lt k)] at this

def Z1 : Array Value := (nums .i64 (List.replicate 256 0)).toArray

theorem tb_pw (i : Nat) (h : i < 255) : Gf.tb (i : Int) = ((GfMath.pw i : Nat) : Int) := by
  unfold Gf.tb Gf.TBL rd
  rw [Int.toNat_natCast, List.getD_eq_getElem?_getD, List.getElem?_map, ← GfMath.ex_pw h]
  unfold GfMath.ex
  rw [List.getD_eq_getElem?_getD]
  cases GfMath.tabN[i]? <;> rfl

theorem exp_at (n : Int) (i : Nat) (h : i < 255) (hn : Gf.mod255 n = i) : Gf.expF n = some ((GfMath.pw i : Nat) : Int) := by
  unfold Gf.expF; rw [hn, tb_pw i h]

theorem lg_tb (a : Nat) : Gf.tb (255 + (a : Int)) = ((GfMath.lg a : Nat) : Int) := by
  have e : (255 + (a : Int)) = ((255 + a : Nat) : Int) := by omega
  rw [e]
  unfold Gf.tb Gf.TBL rd GfMath.lg
  rw [Int.toNat_natCast, List.getD_eq_getElem?_getD, List.getElem?_map, List.getD_eq_getElem?_getD]
  cases GfMath.tabN[255 + a]? <;> rfl

theorem log_at (i : Nat) (h : i < 255) : Gf.logF ((GfMath.pw i : Nat) : Int) = some ((i : Int), 0) := by
  unfold Gf.logF
  have h1 := GfMath.pw_lt i
  have h2 := GfMath.pw_ne i
  rw [if_pos (by omega), if_neg (by omega), lg_tb, GfMath.lg_pw h]

theorem mod_low (k : Nat) (h : k < 255) : Gf.mod255 ((k : Int) - 255) = k := by
  unfold Gf.mod255
  have h1 : Int.tmod (-((k : Int) - 255)) 255 = -Int.tmod ((k : Int) - 255) 255 := Int.neg_tmod _ _
  rw [Int.tmod_eq_emod_of_nonneg (by omega)] at h1
  omega
theorem mod_at (k : Nat) (h : k < 255) : Gf.mod255 (k : Int) = k := by
  unfold Gf.mod255
  rw [Int.tmod_eq_emod_of_nonneg (by omega)]; omega
theorem mod_high (k : Nat) (h : k < 255) : Gf.mod255 ((k : Int) + 510) = k := by
  unfold Gf.mod255
  rw [Int.tmod_eq_emod_of_nonneg (by omega)]; omega

theorem nums_set' (k : IntKind) (l : List Int) (i : Nat) (v : Int) : (nums k l).toArray.setIfInBounds i (.int k v) = (nums k (l.set i v)).toArray := by
  simp [nums, List.map_set]

theorem seen_cell {w : World} {b k : Nat} (h : w.heap[b]? = some (.cells (nums .i64 (seen k)).toArray 25 (0, 0))) (hk : k < 255) : w.cell? ⟨b, GfMath.pw k, none⟩ = some (.int .i64 0) := by
  have hl := seen_len k
  have hp := GfMath.pw_lt k
  rw [blk_cell h, List.getElem?_toArray]
  simp only [nums, List.getElem?_map]
  rw [List.getElem?_eq_getElem (by omega), seen_new k hk]
  rfl

set_option maxRecDepth 100000 in
theorem walk (W : World) : Calls Try.prog 4 #[] W fun e w' => e = .returned (.bool true) ∧ Below W.heap.size W w' := by
  have hz : ∀ w, (zeroValue 25).run Try.prog w = .ok (.agg Z1) w := fun _ => by kernel_rfl
  go_enter Try.func4, Try.ntmps4
  go_wp2
  go_loopw [2] (fun v2 wr => ∃ k : Nat, k ≤ 255 ∧ v2 = .int .i64 k ∧ wr.heap[W.heap.size]? = some (.cells (nums .i64 (seen k)).toArray 25 (0, 0)) ∧ Below W.heap.size W wr) (fun v2 _ => 255 - (intOf v2).toNat)
  case atStart =>
    exact ⟨0, by omega, rfl, blk_new _ _, (Below.refl _ _).alloc (Nat.le_refl _) _⟩
  case round =>
    obtain ⟨k, hk, rfl, hm, hb⟩ := hrel
    by_cases hlt : k < 255
    · have hx1 := GfMath.pw_lt k
      have hx0 := GfMath.pw_ne k
      have hS := Lib.hid (show seen (k + 1) = (seen k).set (GfMath.pw k) 1 from rfl)
      have E1 := Lib.hid (exp_at k k hlt (mod_at k hlt))
      have E2 := Lib.hid (log_at k hlt)
      have E3 := Lib.hid (exp_at _ k hlt (mod_low k hlt))
      have E4 := Lib.hid (exp_at _ k hlt (mod_high k hlt))
      have HM := Lib.hid hm
      have HB := Lib.hid hb
      have hsz := blk_lt hm
      clear hm hb
      have hxb : (((GfMath.pw k : Nat) : Int) == 0) = false := by simp; omega
      have hxi : ((GfMath.pw k : Nat) : Int) < 256 := by omega
      go_wp2_with (first
        | (go_at_call 14; (with_reducible refine (Gf.log_calls _ _ _ _ E2.out).mono ?_); rintro e w2 ⟨rfl, hb2⟩; have HB2 := Lib.hid (HB1.out.trans (hb2.mono (by have := HB1.out.size; omega))); have HM2 := Lib.hid (blk_below HM1.out hb2); clear hb2; have hc2 := seen_cell HM2.out hlt)
        | (go_at_call 13; (with_reducible refine (Gf.exp_calls _ _ _ E1.out).mono ?_); rintro e w1 ⟨rfl, hb1⟩; have HB1 := Lib.hid (HB.out.trans (hb1.mono (by have := HB.out.size; omega))); have HM1 := Lib.hid (blk_below HM.out hb1); clear hb1)
        | (go_at_call 13; (with_reducible refine (Gf.exp_calls _ _ _ E3.out).mono ?_); rintro e w3 ⟨rfl, hb3⟩; have HB3 := Lib.hid (HB2.out.trans (hb3.mono (by have := HB2.out.size; omega))); have HM3 := Lib.hid (blk_below HM2.out hb3); clear hb3)
        | (go_at_call 13; (with_reducible refine (Gf.exp_calls _ _ _ E4.out).mono ?_); rintro e w4 ⟨rfl, hb4⟩; have HB4 := Lib.hid (HB3.out.trans (hb4.mono (by have := HB3.out.size; omega))); have HM4 := Lib.hid (blk_below HM3.out hb4); clear hb4; have hc4 := seen_cell HM4.out hlt; have hf4 := blk_frozen HM4.out (GfMath.pw k)))
      go_roundw
      case rel =>
        refine ⟨k + 1, by omega, by go_num, ?_, HB4.out.setCell (by simp) _⟩
        rw [blk_set HM4.out, nums_set', hS.out]
      case measure => simp [intOf]; omega
    · have hk255 : k = 255 := by omega
      have HB := Lib.hid hb
      have hsz := blk_lt hm
      have hwk : PGfTurns.tabularylaw01_wakes.f 50 = some true := by decide +kernel
      clear hm hb
      go_wp2_with (go_at_call 12; (with_reducible refine (PGfTurns.tabularylaw01_wakes.calls 50 true _ hwk).mono ?_); rintro e w1 ⟨rfl, hb1⟩; have HB1 := Lib.hid (HB.out.trans (hb1.mono (by have := HB.out.size; omega))); clear hb1)
      go_ret
      exact ⟨rfl, HB1.out⟩
end Go.Proofs.Ytfpiegglpagkmaa.Turns
