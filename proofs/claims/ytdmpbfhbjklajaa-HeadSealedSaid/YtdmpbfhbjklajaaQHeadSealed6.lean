/- Texts of this claim, laid together by wip/tools/squash.py: PHeadSealedx4. -/
import Derived.Test.YtdmpbfhbjklajaaQHeadSealed5

-- Written by wip/tools/myprint.py, a program of this session over the print tool: not a printed text of the kit's
section
namespace Go.Proofs.Ytdmpbfhbjklajaa.PHeadSealed
open Go.RowKit Go.Proofs.YtdmpbfhbjklajaaW.PrintWords Go.Proofs.YtdmpbfhbjklajaaW.PrintLast Go.Proofs.YtdmpbfhbjklajaaW.PrintMore
attribute [local go_sem] max2_int min2_int max_two min_two max_three min_three max_four min_four   -- for this text's walks alone
set_option linter.unusedVariables false
set_option linter.unusedSimpArgs false

/-! ### tabularylaw10_HeadSealed: function 8 -/
set_option maxRecDepth 100000
mutual
def tabularylaw10_HeadSealed.l0 : Nat → Int → Int → List Int → Option (Bool)
  | 0, _, _, _ => none
  | k + 1, x1, x2, x7 => if (x7.length : Int) < 512 then (if x7.length < 140737488355328 then (tabularylaw10_HeadSealed.l0 k x1 x2 (x7 ++ [((x7.length : Int)) % 256])) else (none)) else (if 512 ≤ (x7.length : Int) then ((some (x7.take (512 : Int).toNat : List Int)).bind fun y145 => ((head_Sum.f y145).bind fun bt148 => ((head_Seal.f y145).bind fun bt150 => (if bt148.2 = 0 then (if bt150.2 = 0 then (tabularylaw10_HeadSealed.j1 k x1 x2 y145 bt148.1 bt150.1 ((bt150.1.length : Int) != 512)) else (tabularylaw10_HeadSealed.j1 k x1 x2 y145 bt148.1 bt150.1 true)) else (tabularylaw10_HeadSealed.j1 k x1 x2 y145 bt148.1 bt150.1 true))))) else (none))
def tabularylaw10_HeadSealed.j1 : Nat → Int → Int → List Int → Int → List Int → Bool → Option (Bool)
  | 0, _, _, _, _, _, _ => none
  | k + 1, x1, x2, x7, x8, x10, x56 => if x56 = true then (some false) else ((head_Sum.f x10).bind fun bt154 => ((head_Seal.f x10).bind fun bt156 => ((head_Get.f x10).bind fun bt160 => (if bt154.2 = 0 then (if bt156.2 = 0 then (if x8 = bt154.1 then ((tabularylaw10_same.f k x10 bt156.1).bind fun t169 => (if t169 = true then (if bt160.2.2.2.2.2.2.2 = 101 then (tabularylaw10_HeadSealed.j2 k x1 x2 x7 x8 true) else (if 148 ≤ (x10.length : Int) then (if 148 ≤ (x7.length : Int) then ((tabularylaw10_same.f k (x10.take 148) (x7.take 148)).bind fun t179 => (if t179 = true then (if 156 ≤ (x10.length : Int) then (if 156 ≤ (x7.length : Int) then ((tabularylaw10_same.f k (x10.drop 156) (x7.drop 156)).bind fun t189 => (tabularylaw10_HeadSealed.j2 k x1 x2 x7 x8 (!t189))) else (none)) else (none)) else (tabularylaw10_HeadSealed.j2 k x1 x2 x7 x8 true))) else (none)) else (none))) else (tabularylaw10_HeadSealed.j2 k x1 x2 x7 x8 true))) else (tabularylaw10_HeadSealed.j2 k x1 x2 x7 x8 true)) else (tabularylaw10_HeadSealed.j2 k x1 x2 x7 x8 true)) else (tabularylaw10_HeadSealed.j2 k x1 x2 x7 x8 true)))))
def tabularylaw10_HeadSealed.j2 : Nat → Int → Int → List Int → Int → Bool → Option (Bool)
  | 0, _, _, _, _, _ => none
  | k + 1, x1, x2, x7, x8, x108 => if x108 = true then (some false) else ((tabularylaw10_place.f x1 512).bind fun t190 => ((tabularylaw10_place.f x2 512).bind fun t191 => (if t190 ≥ 148 then (if t190 < 156 then (some true) else (if t191 ≥ 148 then (if t191 < 156 then (some true) else (if 0 ≤ t191 then (if t191 < (x7.length : Int) then (if 0 ≤ t190 then (if t190 < (x7.length : Int) then ((head_Sum.f ((x7.set (t190 : Int).toNat (rd x7 t191)).set (t191 : Int).toNat (rd x7 t190))).bind fun bt196 => (if bt196.2 = 0 then (some (bt196.1 == x8)) else (some false))) else (none)) else (none)) else (none)) else (none))) else (if 0 ≤ t191 then (if t191 < (x7.length : Int) then (if 0 ≤ t190 then (if t190 < (x7.length : Int) then ((head_Sum.f ((x7.set (t190 : Int).toNat (rd x7 t191)).set (t191 : Int).toNat (rd x7 t190))).bind fun bt202 => (if bt202.2 = 0 then (some (bt202.1 == x8)) else (some false))) else (none)) else (none)) else (none)) else (none)))) else (if t191 ≥ 148 then (if t191 < 156 then (some true) else (if 0 ≤ t191 then (if t191 < (x7.length : Int) then (if 0 ≤ t190 then (if t190 < (x7.length : Int) then ((head_Sum.f ((x7.set (t190 : Int).toNat (rd x7 t191)).set (t191 : Int).toNat (rd x7 t190))).bind fun bt208 => (if bt208.2 = 0 then (some (bt208.1 == x8)) else (some false))) else (none)) else (none)) else (none)) else (none))) else (if 0 ≤ t191 then (if t191 < (x7.length : Int) then (if 0 ≤ t190 then (if t190 < (x7.length : Int) then ((head_Sum.f ((x7.set (t190 : Int).toNat (rd x7 t191)).set (t191 : Int).toNat (rd x7 t190))).bind fun bt214 => (if bt214.2 = 0 then (some (bt214.1 == x8)) else (some false))) else (none)) else (none)) else (none)) else (none))))))
end
def tabularylaw10_HeadSealed.f (k : Nat) (l0 : List Int) (a1 : Int) (a2 : Int) : Option (Bool) := (tabularylaw10_awake.f k).bind fun t138 => (if t138 = true then (if ([] : List Int).length + l0.length < 140737488355328 then (tabularylaw10_HeadSealed.l0 k a1 a2 (([] : List Int) ++ l0)) else (none)) else (some false))
def tabularylaw10_HeadSealed.T15 : Bool × List (List Nat × List Nat) := (true, [([], []), ([0], [0]), ([1], [1]), ([2], [2]), ([3, 2], [2, 3]), ([2, 4], [2, 4]), ([5, 2], [5]), ([6], [6]), ([6], [6]), ([7, 8, 6], [6, 7, 8]), ([6, 9], [6, 9]), ([10, 6], [10]), ([11], [11]), ([11], [11]), ([12, 13, 11, 11], [11, 12, 13]), ([14, 11], [11, 14]), ([11, 15], [11, 15]), ([16, 14], [16]), ([17], [17]), ([18, 17], [17, 18]), ([17, 19], [17, 19]), ([20, 17], [20]), ([21], [21]), ([22, 21], [21, 22]), ([21], [21]), ([24, 21], [21, 24]), ([23, 25, 21, 21], [21, 23, 25]), ([26, 21], [21, 26]), ([21, 27], [21, 27]), ([28, 26], [28]), ([29], [29]), ([30, 29], [29, 30]), ([29], [29]), ([32, 29], [29, 32]), ([31, 33, 29, 29], [29, 31, 33]), ([34, 29], [29, 34]), ([29, 35], [29, 35])])
def tabularylaw10_HeadSealed.B15 : List Nat := [0, 1, 3, 7, 15, 31, 63, 127, 127, 511, 1023, 2047, 4095, 4095, 16383, 32767, 65535, 131071, 262143, 524287, 1048575, 2097151, 4194303, 8388607, 4194303, 20971519, 67108863, 134217727, 268435455, 536870911, 1073741823, 2147483647, 1073741823, 5368709119, 17179869183, 34359738367, 68719476735]
theorem tabularylaw10_HeadSealed.tab15 : rtab .any (opsOf Try.f8 15) = tabularylaw10_HeadSealed.T15 := by kernel_rfl
theorem tabularylaw10_HeadSealed.bits15 : waitsOk tabularylaw10_HeadSealed.T15.2 tabularylaw10_HeadSealed.B15 = true := by kernel_rfl
def tabularylaw10_HeadSealed.T21 : Bool × List (List Nat × List Nat) := (true, [([], []), ([], []), ([], []), ([], []), ([], []), ([], []), ([4, 5], [4, 5]), ([6], [6]), ([], []), ([], []), ([8, 9], [8, 9]), ([10], [10]), ([0, 1, 0, 1, 4, 5, 6, 7, 11], [0, 1]), ([12, 7, 0, 1, 4, 5, 6, 7, 11], [7, 12]), ([2, 3, 0, 1, 2, 3, 4, 5, 6, 7, 8, 9, 10, 11, 12, 13], [2, 3]), ([14, 11, 13, 0, 1, 2, 3, 4, 5, 6, 7, 8, 9, 10, 11, 12, 13], [11, 14])])
def tabularylaw10_HeadSealed.B21 : List Nat := [0, 0, 0, 0, 0, 0, 48, 112, 0, 0, 768, 1792, 4083, 8179, 16383, 32767]
theorem tabularylaw10_HeadSealed.tab21 : rtab .any (opsOf Try.f8 21) = tabularylaw10_HeadSealed.T21 := by kernel_rfl
theorem tabularylaw10_HeadSealed.bits21 : waitsOk tabularylaw10_HeadSealed.T21.2 tabularylaw10_HeadSealed.B21 = true := by kernel_rfl
set_option hygiene false
local macro "zzq0" : tactic => `(tactic| (replace H := Option.bind_eq_some_iff.mp H))
local macro "zzq1" : tactic => `(tactic| (have H := H1))
local macro "zzq2" : tactic => `(tactic| (have H' := Aside0.mk H))
local macro "zzq3" : tactic => `(tactic| (exact absurd H (by simp)))
local macro "zzq4" : tactic => `(tactic| ((try simp only [Act.put, List.setIfInBounds_toArray, List.set_cons_zero, List.set_cons_succ])))
local macro "zzq5" : tactic => `(tactic| ((first | rw [c21b0] | (simp only [i64_w, i32_w]; rw [c21b0]) | skip)))
local macro "zzq6" : tactic => `(tactic| (case rel => exact ⟨_, (true), (by first | rfl | (simp; done) | (simp [*]; done)), H', ⟨by have := HK1.out; first | omega | exact Nat.le_refl _⟩, ⟨by (with_reducible repeat (first | apply Kd.R_alloc | apply Kd.R_drewN | apply Kd.R_drew)); exact HO147.out⟩, ⟨by (with_reducible repeat (first | apply Kd.V_alloc | apply Kd.V_drewN | apply Kd.V_drew)); exact HO152.out⟩, ⟨by repeat (first | (with_reducible first | exact HB.out | apply below_alloc | apply pw_below_drewN | apply below_drew1) | exact HB.out)⟩⟩))
local macro "zzq7" : tactic => `(tactic| (have H1 : (some false) = some r := by rw [if_pos rfl] at H; exact H))
local macro "zzq8" : tactic => `(tactic| (obtain rfl := Option.some.inj H))
local macro "zzq9" : tactic => `(tactic| (exact ⟨by first | rfl | (simp [errW_none, errW_some] <;> rfl) | (simp [*, errW_none, errW_some] <;> rfl), by repeat (first | (with_reducible first | exact HB.out | apply below_alloc | apply pw_below_drewN | apply below_drew1) | exact HB.out)⟩))
local macro "zzq10" : tactic => `(tactic| ((first | rw [c35b0] | (simp only [i64_w, i32_w]; rw [c35b0]) | skip)))
local macro "zzq11" : tactic => `(tactic| (have n0_ : Aside0 (Kd.R (Kd.int .u8) 5 (((((((w33.setCell ⟨gb168, 0, none⟩ (.string t160)).setCell ⟨gb168, 1, none⟩ (.string t161)).setCell ⟨gb168, 2, none⟩ (.int .i64 t162)).setCell ⟨gb168, 3, none⟩ (.int .i64 t163)).setCell ⟨gb168, 4, none⟩ (.int .i64 t164)).setCell ⟨gb168, 5, none⟩ (.int .u8 t165)).setCell ⟨gb168, 6, none⟩ (.string t166)) w.heap.size (fun _ => True) (.slice Ao17 y145.length co17) y145) := ⟨by (with_reducible repeat (first | apply Kd.R_alloc | apply Kd.R_drewN | apply Kd.R_drew)); exact Kd.R_mono (Kd.R_far (p := ⟨gb168, 6, none⟩) (Kd.R_far (p := ⟨gb168, 5, none⟩) (Kd.R_far (p := ⟨gb168, 4, none⟩) (Kd.R_far (p := ⟨gb168, 3, none⟩) (Kd.R_far (p := ⟨gb168, 2, none⟩) (Kd.R_far (p := ⟨gb168, 1, none⟩) (Kd.R_far (p := ⟨gb168, 0, none⟩) (Kd.R_types HO_7.out BK168.out (by decide)) (fun _ hk => hk.2) (.string t160)) (fun _ hk => hk.2) (.string t161)) (fun _ hk => hk.2) (.int .i64 t162)) (fun _ hk => hk.2) (.int .i64 t163)) (fun _ hk => hk.2) (.int .i64 t164)) (fun _ hk => hk.2) (.int .u8 t165)) (fun _ hk => hk.2) (.string t166)) (fun _ hk => trivial)⟩))
local macro "zzq12" : tactic => `(tactic| (have n1_ : Aside0 (Kd.V (Kd.int .u8) 5 (((((((w33.setCell ⟨gb168, 0, none⟩ (.string t160)).setCell ⟨gb168, 1, none⟩ (.string t161)).setCell ⟨gb168, 2, none⟩ (.int .i64 t162)).setCell ⟨gb168, 3, none⟩ (.int .i64 t163)).setCell ⟨gb168, 4, none⟩ (.int .i64 t164)).setCell ⟨gb168, 5, none⟩ (.int .u8 t165)).setCell ⟨gb168, 6, none⟩ (.string t166)) w.heap.size (fun k_ => some k_ ≠ (.slice Ao17 y145.length co17 : Value).ownBlock ∧ k_ ≠ gb168) (.slice Ao29 t150.length co29) t150) := ⟨by (with_reducible repeat (first | apply Kd.V_alloc | apply Kd.V_drewN | apply Kd.V_drew)); exact Kd.V_mono (Kd.V_far (p := ⟨gb168, 6, none⟩) (Kd.V_far (p := ⟨gb168, 5, none⟩) (Kd.V_far (p := ⟨gb168, 4, none⟩) (Kd.V_far (p := ⟨gb168, 3, none⟩) (Kd.V_far (p := ⟨gb168, 2, none⟩) (Kd.V_far (p := ⟨gb168, 1, none⟩) (Kd.V_far (p := ⟨gb168, 0, none⟩) (Kd.V_mono HO_10.out (fun k_ hk => (⟨hk, hk.2⟩ : _ ∧ k_ ≠ gb168))) (fun _ hk => hk.2) (.string t160)) (fun _ hk => hk.2) (.string t161)) (fun _ hk => hk.2) (.int .i64 t162)) (fun _ hk => hk.2) (.int .i64 t163)) (fun _ hk => hk.2) (.int .i64 t164)) (fun _ hk => hk.2) (.int .u8 t165)) (fun _ hk => hk.2) (.string t166)) (fun _ hk => ⟨hk.1.1, hk.1.2⟩)⟩))
local macro "zzq13" : tactic => `(tactic| (have n2_ : Aside0 (Kd.V (Kd.int .u8) 5 (((((((w33.setCell ⟨gb168, 0, none⟩ (.string t160)).setCell ⟨gb168, 1, none⟩ (.string t161)).setCell ⟨gb168, 2, none⟩ (.int .i64 t162)).setCell ⟨gb168, 3, none⟩ (.int .i64 t163)).setCell ⟨gb168, 4, none⟩ (.int .i64 t164)).setCell ⟨gb168, 5, none⟩ (.int .u8 t165)).setCell ⟨gb168, 6, none⟩ (.string t166)) w.heap.size (fun k_ => some k_ ≠ (.slice Ao17 y145.length co17 : Value).ownBlock ∧ k_ ≠ gb168) v157 t156) := ⟨by (with_reducible repeat (first | apply Kd.V_alloc | apply Kd.V_drewN | apply Kd.V_drew)); exact Kd.V_mono (Kd.V_far (p := ⟨gb168, 6, none⟩) (Kd.V_far (p := ⟨gb168, 5, none⟩) (Kd.V_far (p := ⟨gb168, 4, none⟩) (Kd.V_far (p := ⟨gb168, 3, none⟩) (Kd.V_far (p := ⟨gb168, 2, none⟩) (Kd.V_far (p := ⟨gb168, 1, none⟩) (Kd.V_far (p := ⟨gb168, 0, none⟩) (Kd.V_mono HO158.out (fun k_ hk => (⟨hk, hk.2⟩ : _ ∧ k_ ≠ gb168))) (fun _ hk => hk.2) (.string t160)) (fun _ hk => hk.2) (.string t161)) (fun _ hk => hk.2) (.int .i64 t162)) (fun _ hk => hk.2) (.int .i64 t163)) (fun _ hk => hk.2) (.int .i64 t164)) (fun _ hk => hk.2) (.int .u8 t165)) (fun _ hk => hk.2) (.string t166)) (fun _ hk => ⟨hk.1.1, hk.1.2⟩)⟩))
local macro "zzq14" : tactic => `(tactic| (have n3_ : Aside0 ((((((((w33.setCell ⟨gb168, 0, none⟩ (.string t160)).setCell ⟨gb168, 1, none⟩ (.string t161)).setCell ⟨gb168, 2, none⟩ (.int .i64 t162)).setCell ⟨gb168, 3, none⟩ (.int .i64 t163)).setCell ⟨gb168, 4, none⟩ (.int .i64 t164)).setCell ⟨gb168, 5, none⟩ (.int .u8 t165)).setCell ⟨gb168, 6, none⟩ (.string t166)).heap[gb168]? = some (.cells #[.string t160, .string t161, .int .i64 t162, .int .i64 t163, .int .i64 t164, .int .u8 t165, .string t166] 24 (0, 0))) := ⟨by (with_reducible repeat (first | refine blk_drewN ?_ _ | refine blk_drew ?_ | refine blk_alloc ?_ _)); refine blk_put (cs := #[.string t160, .string t161, .int .i64 t162, .int .i64 t163, .int .i64 t164, .int .u8 t165, .string (⟨#[]⟩ : ByteArray)]) ?_ 6 _ rfl; (with_reducible repeat (first | refine blk_drewN ?_ _ | refine blk_drew ?_ | refine blk_alloc ?_ _)); refine blk_put (cs := #[.string t160, .string t161, .int .i64 t162, .int .i64 t163, .int .i64 t164, .int .u8 0, .string (⟨#[]⟩ : ByteArray)]) ?_ 5 _ rfl; (with_reducible repeat (first | refine blk_drewN ?_ _ | refine blk_drew ?_ | refine blk_alloc ?_ _)); refine blk_put (cs := #[.string t160, .string t161, .int .i64 t162, .int .i64 t163, .int .i64 0, .int .u8 0, .string (⟨#[]⟩ : ByteArray)]) ?_ 4 _ rfl; (with_reducible repeat (first | refine blk_drewN ?_ _ | refine blk_drew ?_ | refine blk_alloc ?_ _)); refine blk_put (cs := #[.string t160, .string t161, .int .i64 t162, .int .i64 0, .int .i64 0, .int .u8 0, .string (⟨#[]⟩ : ByteArray)]) ?_ 3 _ rfl; (with_reducible repeat (first | refine blk_drewN ?_ _ | refine blk_drew ?_ | refine blk_alloc ?_ _)); refine blk_put (cs := #[.string t160, .string t161, .int .i64 0, .int .i64 0, .int .i64 0, .int .u8 0, .string (⟨#[]⟩ : ByteArray)]) ?_ 2 _ rfl; (with_reducible repeat (first | refine blk_drewN ?_ _ | refine blk_drew ?_ | refine blk_alloc ?_ _)); refine blk_put (cs := #[.string t160, .string (⟨#[]⟩ : ByteArray), .int .i64 0, .int .i64 0, .int .i64 0, .int .u8 0, .string (⟨#[]⟩ : ByteArray)]) ?_ 1 _ rfl; (with_reducible repeat (first | refine blk_drewN ?_ _ | refine blk_drew ?_ | refine blk_alloc ?_ _)); refine blk_put (cs := #[.string (⟨#[]⟩ : ByteArray), .string (⟨#[]⟩ : ByteArray), .int .i64 0, .int .i64 0, .int .i64 0, .int .u8 0, .string (⟨#[]⟩ : ByteArray)]) ?_ 0 _ rfl; (with_reducible repeat (first | refine blk_drewN ?_ _ | refine blk_drew ?_ | refine blk_alloc ?_ _)); exact BK168.out⟩))
local macro "zzq15" : tactic => `(tactic| (have n4_ : Aside0 (Below w.heap.size w (((((((w33.setCell ⟨gb168, 0, none⟩ (.string t160)).setCell ⟨gb168, 1, none⟩ (.string t161)).setCell ⟨gb168, 2, none⟩ (.int .i64 t162)).setCell ⟨gb168, 3, none⟩ (.int .i64 t163)).setCell ⟨gb168, 4, none⟩ (.int .i64 t164)).setCell ⟨gb168, 5, none⟩ (.int .u8 t165)).setCell ⟨gb168, 6, none⟩ (.string t166))) := ⟨by repeat (first | (with_reducible first | exact HB.out | apply below_alloc | apply pw_below_drewN | apply below_drew1 | refine below_set ?_ GE168.out) | exact HB.out)⟩))
local macro "zzq16" : tactic => `(tactic| ((try clear HO_7)))
local macro "zzq17" : tactic => `(tactic| ((try clear HO_10)))
local macro "zzq18" : tactic => `(tactic| ((try clear HO158)))
local macro "zzq19" : tactic => `(tactic| ((try clear BK168)))
local macro "zzq20" : tactic => `(tactic| (have HO_7 := n0_))
local macro "zzq21" : tactic => `(tactic| (have HO_10 := n1_))
local macro "zzq22" : tactic => `(tactic| (have HO158 := n2_))
local macro "zzq23" : tactic => `(tactic| (have BK168 := n3_))
local macro "zzq24" : tactic => `(tactic| (have HB := n4_))
local macro "zzq25" : tactic => `(tactic| (clear n0_ n1_ n2_ n3_ n4_))
local macro "zzq26" : tactic => `(tactic| (have n0_ := Aside0.mk (Kd.R_drew HO_7.out)))
local macro "zzq27" : tactic => `(tactic| (have n1_ := Aside0.mk (Kd.V_drew HO_10.out)))
local macro "zzq28" : tactic => `(tactic| (have n2_ := Aside0.mk (Kd.V_drew HO158.out)))
local macro "zzq29" : tactic => `(tactic| (have n3_ := Aside0.mk (blk_drew BK168.out)))
local macro "zzq30" : tactic => `(tactic| (have n4_ := Aside0.mk (below_drew1 HB.out)))
local macro "zzq31" : tactic => `(tactic| (clear HO_7))
local macro "zzq32" : tactic => `(tactic| (clear BK168))
local macro "zzq33" : tactic => `(tactic| (refine start_ (n := 37) (S := fun w' => True) (ds := []) #[false, false, false, false, false, false, false, false, false, false, false, false, false, false, false, false, false, false, false, false, false, false, false, false, false, false, false, false, false, false, false, false, false, false, false, false, false] (by kernel_rfl) rfl rfl trivial (fun hHeld => ?_); refine with_tabW tabularylaw10_HeadSealed.tab15 tabularylaw10_HeadSealed.bits15 (fun HT_ HW_ => ?_)))
local macro "zzq34" : tactic => `(tactic| (refine pure_ (i := 0) (N := some 72) (v := ?_) (a' := ?_) #[true, false, false, false, false, false, false, false, false, false, false, false, false, false, false, false, false, false, false, false, false, false, false, false, false, false, false, false, false, false, false, false, false, false, false, false, false] rfl rfl (any_of HT_.out (by kernel_rfl)) (fun _ _ _ h => h) (Or.inl ⟨by rfl, ?_⟩) ?_ ?_))
local macro "zzq35" : tactic => `(tactic| (intro w'))
local macro "zzq36" : tactic => `(tactic| (go_simp))
local macro "zzq37" : tactic => `(tactic| ((first | (with_reducible rfl) | ((try simp only [*]); (with_reducible rfl)))))
local macro "zzq38" : tactic => `(tactic| (simp only [Act.put, List.setIfInBounds_toArray, List.set_cons_zero, List.set_cons_succ, i64_w, i32_w]))
local macro "zzq39" : tactic => `(tactic| (refine pure_ (i := 1) (N := some 73) (v := ?_) (a' := ?_) #[true, true, false, false, false, false, false, false, false, false, false, false, false, false, false, false, false, false, false, false, false, false, false, false, false, false, false, false, false, false, false, false, false, false, false, false, false] rfl rfl (any_of HT_.out (by kernel_rfl)) (fun _ _ _ h => h) (Or.inl ⟨by rfl, ?_⟩) ?_ ?_))
local macro "zzq40" : tactic => `(tactic| (refine pure_ (i := 2) (N := some 74) (v := ?_) (a' := ?_) #[true, true, true, false, false, false, false, false, false, false, false, false, false, false, false, false, false, false, false, false, false, false, false, false, false, false, false, false, false, false, false, false, false, false, false, false, false] rfl rfl (any_of HT_.out (by kernel_rfl)) (fun _ _ _ h => h) (Or.inl ⟨by rfl, ?_⟩) ?_ ?_))
local macro "zzq41" : tactic => `(tactic| (refine pure_ (i := 3) (N := some 75) (v := ?_) (a' := ?_) #[true, true, true, true, false, false, false, false, false, false, false, false, false, false, false, false, false, false, false, false, false, false, false, false, false, false, false, false, false, false, false, false, false, false, false, false, false] rfl rfl (any_of HT_.out (by kernel_rfl)) (fun _ _ _ h => h) (Or.inl ⟨by rfl, ?_⟩) ?_ ?_))
local macro "zzq42" : tactic => `(tactic| (refine pure_ (i := 4) (N := some 76) (v := ?_) (a' := ?_) #[true, true, true, true, true, false, false, false, false, false, false, false, false, false, false, false, false, false, false, false, false, false, false, false, false, false, false, false, false, false, false, false, false, false, false, false, false] rfl rfl (any_of HT_.out (by kernel_rfl)) (fun _ _ _ h => h) (Or.inl ⟨by rfl, ?_⟩) ?_ ?_))
local macro "zzq43" : tactic => `(tactic| (refine pure_ (i := 5) (N := some 77) (v := ?_) (a' := ?_) #[true, true, true, true, true, true, false, false, false, false, false, false, false, false, false, false, false, false, false, false, false, false, false, false, false, false, false, false, false, false, false, false, false, false, false, false, false] rfl rfl (any_of HT_.out (by kernel_rfl)) (fun _ _ _ h => h) (Or.inl ⟨by rfl, ?_⟩) ?_ ?_))
local macro "zzq44" : tactic => `(tactic| (refine pure_ (i := 6) (N := some 78) (v := ?_) (a' := ?_) #[true, true, true, true, true, true, true, false, false, false, false, false, false, false, false, false, false, false, false, false, false, false, false, false, false, false, false, false, false, false, false, false, false, false, false, false, false] rfl rfl (any_of HT_.out (by kernel_rfl)) (fun _ _ _ h => h) (Or.inl ⟨by rfl, ?_⟩) ?_ ?_))
local macro "zzq45" : tactic => `(tactic| (refine pure_ (i := 7) (N := some 79) (v := ?_) (a' := ?_) #[true, true, true, true, true, true, true, true, false, false, false, false, false, false, false, false, false, false, false, false, false, false, false, false, false, false, false, false, false, false, false, false, false, false, false, false, false] rfl rfl (any_of HT_.out (by kernel_rfl)) (fun _ _ _ h => h) (Or.inl ⟨by rfl, ?_⟩) ?_ ?_))
local macro "zzq46" : tactic => `(tactic| (refine pure_ (i := 8) (N := some 80) (v := ?_) (a' := ?_) #[true, true, true, true, true, true, true, true, true, false, false, false, false, false, false, false, false, false, false, false, false, false, false, false, false, false, false, false, false, false, false, false, false, false, false, false, false] rfl rfl (any_of HT_.out (by kernel_rfl)) (fun _ _ _ h => h) (Or.inl ⟨by rfl, ?_⟩) ?_ ?_))
local macro "zzq47" : tactic => `(tactic| (refine pure_ (i := 9) (N := some 81) (v := ?_) (a' := ?_) #[true, true, true, true, true, true, true, true, true, true, false, false, false, false, false, false, false, false, false, false, false, false, false, false, false, false, false, false, false, false, false, false, false, false, false, false, false] rfl rfl (any_of HT_.out (by kernel_rfl)) (fun _ _ _ h => h) (Or.inl ⟨by rfl, ?_⟩) ?_ ?_))
local macro "zzq48" : tactic => `(tactic| (refine pure_ (i := 10) (N := some 82) (v := ?_) (a' := ?_) #[true, true, true, true, true, true, true, true, true, true, true, false, false, false, false, false, false, false, false, false, false, false, false, false, false, false, false, false, false, false, false, false, false, false, false, false, false] rfl rfl (any_of HT_.out (by kernel_rfl)) (fun _ _ _ h => h) (Or.inl ⟨by rfl, ?_⟩) ?_ ?_))
local macro "zzq49" : tactic => `(tactic| (refine pure_ (i := 11) (N := some 83) (v := ?_) (a' := ?_) #[true, true, true, true, true, true, true, true, true, true, true, true, false, false, false, false, false, false, false, false, false, false, false, false, false, false, false, false, false, false, false, false, false, false, false, false, false] rfl rfl (any_of HT_.out (by kernel_rfl)) (fun _ _ _ h => h) (Or.inl ⟨by rfl, ?_⟩) ?_ ?_))
local macro "zzq50" : tactic => `(tactic| (refine pure_ (i := 12) (N := some 84) (v := ?_) (a' := ?_) #[true, true, true, true, true, true, true, true, true, true, true, true, true, false, false, false, false, false, false, false, false, false, false, false, false, false, false, false, false, false, false, false, false, false, false, false, false] rfl rfl (any_of HT_.out (by kernel_rfl)) (fun _ _ _ h => h) (Or.inl ⟨by rfl, ?_⟩) ?_ ?_))
local macro "zzq51" : tactic => `(tactic| (refine pure_ (i := 13) (N := some 85) (v := ?_) (a' := ?_) #[true, true, true, true, true, true, true, true, true, true, true, true, true, true, false, false, false, false, false, false, false, false, false, false, false, false, false, false, false, false, false, false, false, false, false, false, false] rfl rfl (any_of HT_.out (by kernel_rfl)) (fun _ _ _ h => h) (Or.inl ⟨by rfl, ?_⟩) ?_ ?_))
local macro "zzq52" : tactic => `(tactic| (refine one_ (i := 14) (N := some 86) #[true, true, true, true, true, true, true, true, true, true, true, true, true, true, true, false, false, false, false, false, false, false, false, false, false, false, false, false, false, false, false, false, false, false, false, false, false] rfl rfl (one_of HT_.out (by kernel_rfl)) (by decide) (fun K hK => ?_)))
local macro "zzq53" : tactic => `(tactic| (with_reducible refine (tabularylaw10_same.calls kj15 _ _ t150 _ _ t156 true _ ?side1 ?side2 ?side3 ?side4 A38.out).mono ?_))
local macro "zzq54" : tactic => `(tactic| ((case side1 => repeat (first | exact (Kd.V_reads' HO_10.out).2.2 | (with_reducible refine Kd.C_alloc ?_ _) | (with_reducible refine Kd.C_drewN ?_ _) | (with_reducible refine Kd.C_drew ?_)))))
local macro "zzq55" : tactic => `(tactic| ((case side2 => exact (Kd.V_reads' HO_10.out).2.1)))
local macro "zzq56" : tactic => `(tactic| ((case side3 => repeat (first | exact (Kd.V_reads' HO158.out).2.2 | (with_reducible refine Kd.C_alloc ?_ _) | (with_reducible refine Kd.C_drewN ?_ _) | (with_reducible refine Kd.C_drew ?_)))))
local macro "zzq57" : tactic => `(tactic| ((case side4 => exact (Kd.V_reads' HO158.out).2.1)))
local macro "zzq58" : tactic => `(tactic| (rintro e w' ⟨rfl, ⟨nd, rfl⟩⟩))
local macro "zzq59" : tactic => `(tactic| (refine ⟨_, rfl, ?_⟩))
local macro "zzq60" : tactic => `(tactic| (refine hK.out _ _ trivial (fun hHeld => ?_)))
local macro "zzq61" : tactic => `(tactic| (clear hK K))
local macro "zzq62" : tactic => `(tactic| (refine norm_ (a' := ?_) ?_ ?_))
local macro "zzq63" : tactic => `(tactic| (refine pure_ (i := 15) (N := some 87) (v := ?_) (a' := ?_) #[true, true, true, true, true, true, true, true, true, true, true, true, true, true, true, true, false, false, false, false, false, false, false, false, false, false, false, false, false, false, false, false, false, false, false, false, false] rfl rfl (any_of HT_.out (by kernel_rfl)) (fun _ _ _ h => h) (Or.inl ⟨by rfl, ?_⟩) ?_ ?_))
local macro "zzq64" : tactic => `(tactic| (refine pure_ (i := 16) (N := some 88) (v := ?_) (a' := ?_) #[true, true, true, true, true, true, true, true, true, true, true, true, true, true, true, true, true, false, false, false, false, false, false, false, false, false, false, false, false, false, false, false, false, false, false, false, false] rfl rfl (any_of HT_.out (by kernel_rfl)) (fun _ _ _ h => h) (Or.inl ⟨by rfl, ?_⟩) ?_ ?_))
local macro "zzq65" : tactic => `(tactic| (refine pure_ (i := 17) (N := some 89) (v := ?_) (a' := ?_) #[true, true, true, true, true, true, true, true, true, true, true, true, true, true, true, true, true, true, false, false, false, false, false, false, false, false, false, false, false, false, false, false, false, false, false, false, false] rfl rfl (any_of HT_.out (by kernel_rfl)) (fun _ _ _ h => h) (Or.inl ⟨by rfl, ?_⟩) ?_ ?_))
local macro "zzq66" : tactic => `(tactic| (refine pure_ (i := 18) (N := some 90) (v := ?_) (a' := ?_) #[true, true, true, true, true, true, true, true, true, true, true, true, true, true, true, true, true, true, true, false, false, false, false, false, false, false, false, false, false, false, false, false, false, false, false, false, false] rfl rfl (any_of HT_.out (by kernel_rfl)) (fun _ _ _ h => h) (Or.inl ⟨by rfl, ?_⟩) ?_ ?_))
local macro "zzq67" : tactic => `(tactic| (refine pure_ (i := 19) (N := some 91) (v := ?_) (a' := ?_) #[true, true, true, true, true, true, true, true, true, true, true, true, true, true, true, true, true, true, true, true, false, false, false, false, false, false, false, false, false, false, false, false, false, false, false, false, false] rfl rfl (any_of HT_.out (by kernel_rfl)) (fun _ _ _ h => h) (Or.inl ⟨by rfl, ?_⟩) ?_ ?_))
local macro "zzq68" : tactic => `(tactic| (refine pure_ (i := 20) (N := some 92) (v := ?_) (a' := ?_) #[true, true, true, true, true, true, true, true, true, true, true, true, true, true, true, true, true, true, true, true, true, false, false, false, false, false, false, false, false, false, false, false, false, false, false, false, false] rfl rfl (any_of HT_.out (by kernel_rfl)) (fun _ _ _ h => h) (Or.inl ⟨by rfl, ?_⟩) ?_ ?_))
local macro "zzq69" : tactic => `(tactic| (refine pure_ (i := 21) (N := some 93) (v := ?_) (a' := ?_) #[true, true, true, true, true, true, true, true, true, true, true, true, true, true, true, true, true, true, true, true, true, true, false, false, false, false, false, false, false, false, false, false, false, false, false, false, false] rfl rfl (any_of HT_.out (by kernel_rfl)) (fun _ _ _ h => h) (Or.inl ⟨by rfl, ?_⟩) ?_ ?_))
local macro "zzq70" : tactic => `(tactic| (refine pure_ (i := 22) (N := some 94) (v := undef) (a' := ?_) #[true, true, true, true, true, true, true, true, true, true, true, true, true, true, true, true, true, true, true, true, true, true, true, false, false, false, false, false, false, false, false, false, false, false, false, false, false] rfl rfl (any_of HT_.out (by kernel_rfl)) (fun _ _ _ h => h) (Or.inr ⟨by rfl, rfl⟩) ?_ ?_))
local macro "zzq71" : tactic => `(tactic| (refine pure_ (i := 23) (N := some 95) (v := undef) (a' := ?_) #[true, true, true, true, true, true, true, true, true, true, true, true, true, true, true, true, true, true, true, true, true, true, true, true, false, false, false, false, false, false, false, false, false, false, false, false, false] rfl rfl (any_of HT_.out (by kernel_rfl)) (fun _ _ _ h => h) (Or.inr ⟨by rfl, rfl⟩) ?_ ?_))
local macro "zzq72" : tactic => `(tactic| (refine pure_ (i := 24) (N := some 96) (v := undef) (a' := ?_) #[true, true, true, true, true, true, true, true, true, true, true, true, true, true, true, true, true, true, true, true, true, true, true, true, true, false, false, false, false, false, false, false, false, false, false, false, false] rfl rfl (any_of HT_.out (by kernel_rfl)) (fun _ _ _ h => h) (Or.inr ⟨by rfl, rfl⟩) ?_ ?_))
local macro "zzq73" : tactic => `(tactic| (refine pure_ (i := 25) (N := some 97) (v := undef) (a' := ?_) #[true, true, true, true, true, true, true, true, true, true, true, true, true, true, true, true, true, true, true, true, true, true, true, true, true, true, false, false, false, false, false, false, false, false, false, false, false] rfl rfl (any_of HT_.out (by kernel_rfl)) (fun _ _ _ h => h) (Or.inr ⟨by rfl, rfl⟩) ?_ ?_))
local macro "zzq74" : tactic => `(tactic| (refine pure_ (i := 26) (N := some 98) (v := undef) (a' := ?_) #[true, true, true, true, true, true, true, true, true, true, true, true, true, true, true, true, true, true, true, true, true, true, true, true, true, true, true, false, false, false, false, false, false, false, false, false, false] rfl rfl (any_of HT_.out (by kernel_rfl)) (fun _ _ _ h => h) (Or.inr ⟨by rfl, rfl⟩) ?_ ?_))
local macro "zzq75" : tactic => `(tactic| (refine pure_ (i := 27) (N := some 99) (v := undef) (a' := ?_) #[true, true, true, true, true, true, true, true, true, true, true, true, true, true, true, true, true, true, true, true, true, true, true, true, true, true, true, true, false, false, false, false, false, false, false, false, false] rfl rfl (any_of HT_.out (by kernel_rfl)) (fun _ _ _ h => h) (Or.inr ⟨by rfl, rfl⟩) ?_ ?_))
local macro "zzq76" : tactic => `(tactic| (refine pure_ (i := 28) (N := some 100) (v := ?_) (a' := ?_) #[true, true, true, true, true, true, true, true, true, true, true, true, true, true, true, true, true, true, true, true, true, true, true, true, true, true, true, true, true, false, false, false, false, false, false, false, false] rfl rfl (any_of HT_.out (by kernel_rfl)) (fun _ _ _ h => h) (Or.inl ⟨by rfl, ?_⟩) ?_ ?_))
local macro "zzq77" : tactic => `(tactic| (refine pure_ (i := 29) (N := some 101) (v := ?_) (a' := ?_) #[true, true, true, true, true, true, true, true, true, true, true, true, true, true, true, true, true, true, true, true, true, true, true, true, true, true, true, true, true, true, false, false, false, false, false, false, false] rfl rfl (any_of HT_.out (by kernel_rfl)) (fun _ _ _ h => h) (Or.inl ⟨by rfl, ?_⟩) ?_ ?_))
local macro "zzq78" : tactic => `(tactic| (refine pure_ (i := 30) (N := some 102) (v := undef) (a' := ?_) #[true, true, true, true, true, true, true, true, true, true, true, true, true, true, true, true, true, true, true, true, true, true, true, true, true, true, true, true, true, true, true, false, false, false, false, false, false] rfl rfl (any_of HT_.out (by kernel_rfl)) (fun _ _ _ h => h) (Or.inr ⟨by rfl, rfl⟩) ?_ ?_))
local macro "zzq79" : tactic => `(tactic| (refine pure_ (i := 31) (N := some 103) (v := undef) (a' := ?_) #[true, true, true, true, true, true, true, true, true, true, true, true, true, true, true, true, true, true, true, true, true, true, true, true, true, true, true, true, true, true, true, true, false, false, false, false, false] rfl rfl (any_of HT_.out (by kernel_rfl)) (fun _ _ _ h => h) (Or.inr ⟨by rfl, rfl⟩) ?_ ?_))
local macro "zzq80" : tactic => `(tactic| (refine pure_ (i := 32) (N := some 104) (v := undef) (a' := ?_) #[true, true, true, true, true, true, true, true, true, true, true, true, true, true, true, true, true, true, true, true, true, true, true, true, true, true, true, true, true, true, true, true, true, false, false, false, false] rfl rfl (any_of HT_.out (by kernel_rfl)) (fun _ _ _ h => h) (Or.inr ⟨by rfl, rfl⟩) ?_ ?_))
local macro "zzq81" : tactic => `(tactic| (refine pure_ (i := 33) (N := some 105) (v := undef) (a' := ?_) #[true, true, true, true, true, true, true, true, true, true, true, true, true, true, true, true, true, true, true, true, true, true, true, true, true, true, true, true, true, true, true, true, true, true, false, false, false] rfl rfl (any_of HT_.out (by kernel_rfl)) (fun _ _ _ h => h) (Or.inr ⟨by rfl, rfl⟩) ?_ ?_))
local macro "zzq82" : tactic => `(tactic| (refine pure_ (i := 34) (N := some 106) (v := undef) (a' := ?_) #[true, true, true, true, true, true, true, true, true, true, true, true, true, true, true, true, true, true, true, true, true, true, true, true, true, true, true, true, true, true, true, true, true, true, true, false, false] rfl rfl (any_of HT_.out (by kernel_rfl)) (fun _ _ _ h => h) (Or.inr ⟨by rfl, rfl⟩) ?_ ?_))
local macro "zzq83" : tactic => `(tactic| (refine pure_ (i := 35) (N := some 107) (v := undef) (a' := ?_) #[true, true, true, true, true, true, true, true, true, true, true, true, true, true, true, true, true, true, true, true, true, true, true, true, true, true, true, true, true, true, true, true, true, true, true, true, false] rfl rfl (any_of HT_.out (by kernel_rfl)) (fun _ _ _ h => h) (Or.inr ⟨by rfl, rfl⟩) ?_ ?_))
local macro "zzq84" : tactic => `(tactic| (refine pure_ (i := 36) (N := some 108) (v := ?_) (a' := ?_) #[true, true, true, true, true, true, true, true, true, true, true, true, true, true, true, true, true, true, true, true, true, true, true, true, true, true, true, true, true, true, true, true, true, true, true, true, true] rfl rfl (any_of HT_.out (by kernel_rfl)) (fun _ _ _ h => h) (Or.inl ⟨by rfl, ?_⟩) ?_ ?_))
local macro "zzq85" : tactic => `(tactic| (refine done_ (done_of HT_.out (by kernel_rfl)) ?_))
local macro "zzq86" : tactic => `(tactic| (case rel => exact ⟨_, (true), (by first | rfl | (simp; done) | (simp [*]; done)), H', ⟨by have := HK1.out; have := HJ15.out; first | omega | exact Nat.le_refl _⟩, ⟨by (with_reducible repeat (first | apply Kd.R_alloc | apply Kd.R_drewN | apply Kd.R_drew)); exact HO_7.out⟩, ⟨by (with_reducible repeat (first | refine blk_drewN ?_ _ | refine blk_drew ?_ | refine blk_alloc ?_ _)); exact BK168.out⟩, ⟨by repeat (first | (with_reducible first | exact HB.out | apply below_alloc | apply pw_below_drewN | apply below_drew1 | refine below_set ?_ GE168.out) | exact HB.out)⟩⟩))
local macro "zzq87" : tactic => `(tactic| (have HC174 := Aside0.mk (show y170.length ≤ co29 from by omega)))
local macro "zzq88" : tactic => `(tactic| (have HC178 := Aside0.mk (show y175.length ≤ co17 from by omega)))
local macro "zzq89" : tactic => `(tactic| (refine pure_ (i := 22) (N := some 94) (v := ?_) (a' := ?_) #[true, true, true, true, true, true, true, true, true, true, true, true, true, true, true, true, true, true, true, true, true, true, true, false, false, false, false, false, false, false, false, false, false, false, false, false, false] rfl rfl (any_of HT_.out (by kernel_rfl)) (fun _ _ _ h => h) (Or.inl ⟨by rfl, ?_⟩) ?_ ?_))
local macro "zzq90" : tactic => `(tactic| (refine pure_ (i := 23) (N := some 95) (v := ?_) (a' := ?_) #[true, true, true, true, true, true, true, true, true, true, true, true, true, true, true, true, true, true, true, true, true, true, true, true, false, false, false, false, false, false, false, false, false, false, false, false, false] rfl rfl (any_of HT_.out (by kernel_rfl)) (fun _ _ _ h => h) (Or.inl ⟨by rfl, ?_⟩) ?_ ?_))
local macro "zzq91" : tactic => `(tactic| (refine pure_ (i := 24) (N := some 96) (v := ?_) (a' := ?_) #[true, true, true, true, true, true, true, true, true, true, true, true, true, true, true, true, true, true, true, true, true, true, true, true, true, false, false, false, false, false, false, false, false, false, false, false, false] rfl rfl (any_of HT_.out (by kernel_rfl)) (fun _ _ _ h => h) (Or.inl ⟨by rfl, ?_⟩) ?_ ?_))
local macro "zzq92" : tactic => `(tactic| (refine pure_ (i := 25) (N := some 97) (v := ?_) (a' := ?_) #[true, true, true, true, true, true, true, true, true, true, true, true, true, true, true, true, true, true, true, true, true, true, true, true, true, true, false, false, false, false, false, false, false, false, false, false, false] rfl rfl (any_of HT_.out (by kernel_rfl)) (fun _ _ _ h => h) (Or.inl ⟨by rfl, ?_⟩) ?_ ?_))
local macro "zzq93" : tactic => `(tactic| (refine one_ (i := 26) (N := some 98) #[true, true, true, true, true, true, true, true, true, true, true, true, true, true, true, true, true, true, true, true, true, true, true, true, true, true, true, false, false, false, false, false, false, false, false, false, false] rfl rfl (one_of HT_.out (by kernel_rfl)) (by decide) (fun K hK => ?_)))
local macro "zzq94" : tactic => `(tactic| (refine goes_ Try.func19 (by kernel_rfl) rfl #[.slice Ao29 y170.length co29, .slice Ao17 y175.length co17] (by rfl) rfl rfl (by (try simp only [List.map_toArray, List.map_cons, List.map_nil]); first | done | rfl | (simp only [List.length_drop, List.length_take]; rfl)) ?_))
local macro "zzq95" : tactic => `(tactic| ((case side1 => repeat (first | exact (Kd.V_reads' HO174.out).2.2 | (with_reducible refine Kd.C_alloc ?_ _) | (with_reducible refine Kd.C_drewN ?_ _) | (with_reducible refine Kd.C_drew ?_)))))
local macro "zzq96" : tactic => `(tactic| ((case side3 => repeat (first | exact (by repeat (first | (with_reducible exact HR178.out) | (with_reducible refine Kd.C_alloc ?_ _) | (with_reducible refine Kd.C_drewN ?_ _) | (with_reducible refine Kd.C_drew ?_) | exact HR178.out)) | (with_reducible refine Kd.C_alloc ?_ _) | (with_reducible refine Kd.C_drewN ?_ _) | (with_reducible refine Kd.C_drew ?_)))))
local macro "zzq97" : tactic => `(tactic| (refine pure_ (i := 27) (N := some 99) (v := ?_) (a' := ?_) #[true, true, true, true, true, true, true, true, true, true, true, true, true, true, true, true, true, true, true, true, true, true, true, true, true, true, true, true, false, false, false, false, false, false, false, false, false] rfl rfl (any_of HT_.out (by kernel_rfl)) (fun _ _ _ h => h) (Or.inl ⟨by rfl, ?_⟩) ?_ ?_))
local macro "zzq98" : tactic => `(tactic| (have H1 : (tabularylaw10_HeadSealed.j2 kj15 a1 a2 y145 t148 true) = some r := by rw [if_neg (show ¬ (false = true) by decide)] at H; exact H))
local macro "zzq99" : tactic => `(tactic| (refine pure_ (i := 18) (N := some 90) (v := undef) (a' := ?_) #[true, true, true, true, true, true, true, true, true, true, true, true, true, true, true, true, true, true, true, false, false, false, false, false, false, false, false, false, false, false, false, false, false, false, false, false, false] rfl rfl (any_of HT_.out (by kernel_rfl)) (fun _ _ _ h => h) (Or.inr ⟨by rfl, rfl⟩) ?_ ?_))
local macro "zzq100" : tactic => `(tactic| (refine pure_ (i := 19) (N := some 91) (v := undef) (a' := ?_) #[true, true, true, true, true, true, true, true, true, true, true, true, true, true, true, true, true, true, true, true, false, false, false, false, false, false, false, false, false, false, false, false, false, false, false, false, false] rfl rfl (any_of HT_.out (by kernel_rfl)) (fun _ _ _ h => h) (Or.inr ⟨by rfl, rfl⟩) ?_ ?_))
local macro "zzq101" : tactic => `(tactic| (refine pure_ (i := 12) (N := some 84) (v := undef) (a' := ?_) #[true, true, true, true, true, true, true, true, true, true, true, true, true, false, false, false, false, false, false, false, false, false, false, false, false, false, false, false, false, false, false, false, false, false, false, false, false] rfl rfl (any_of HT_.out (by kernel_rfl)) (fun _ _ _ h => h) (Or.inr ⟨by rfl, rfl⟩) ?_ ?_))
local macro "zzq102" : tactic => `(tactic| (refine pure_ (i := 13) (N := some 85) (v := undef) (a' := ?_) #[true, true, true, true, true, true, true, true, true, true, true, true, true, true, false, false, false, false, false, false, false, false, false, false, false, false, false, false, false, false, false, false, false, false, false, false, false] rfl rfl (any_of HT_.out (by kernel_rfl)) (fun _ _ _ h => h) (Or.inr ⟨by rfl, rfl⟩) ?_ ?_))
local macro "zzq103" : tactic => `(tactic| (refine pure_ (i := 14) (N := some 86) (v := undef) (a' := ?_) #[true, true, true, true, true, true, true, true, true, true, true, true, true, true, true, false, false, false, false, false, false, false, false, false, false, false, false, false, false, false, false, false, false, false, false, false, false] rfl rfl (any_of HT_.out (by kernel_rfl)) (fun _ _ _ h => h) (Or.inr ⟨by rfl, rfl⟩) ?_ ?_))
local macro "zzq104" : tactic => `(tactic| (refine pure_ (i := 15) (N := some 87) (v := undef) (a' := ?_) #[true, true, true, true, true, true, true, true, true, true, true, true, true, true, true, true, false, false, false, false, false, false, false, false, false, false, false, false, false, false, false, false, false, false, false, false, false] rfl rfl (any_of HT_.out (by kernel_rfl)) (fun _ _ _ h => h) (Or.inr ⟨by rfl, rfl⟩) ?_ ?_))
local macro "zzq105" : tactic => `(tactic| (refine pure_ (i := 7) (N := some 79) (v := undef) (a' := ?_) #[true, true, true, true, true, true, true, true, false, false, false, false, false, false, false, false, false, false, false, false, false, false, false, false, false, false, false, false, false, false, false, false, false, false, false, false, false] rfl rfl (any_of HT_.out (by kernel_rfl)) (fun _ _ _ h => h) (Or.inr ⟨by rfl, rfl⟩) ?_ ?_))
local macro "zzq106" : tactic => `(tactic| (refine pure_ (i := 8) (N := some 80) (v := undef) (a' := ?_) #[true, true, true, true, true, true, true, true, true, false, false, false, false, false, false, false, false, false, false, false, false, false, false, false, false, false, false, false, false, false, false, false, false, false, false, false, false] rfl rfl (any_of HT_.out (by kernel_rfl)) (fun _ _ _ h => h) (Or.inr ⟨by rfl, rfl⟩) ?_ ?_))
local macro "zzq107" : tactic => `(tactic| (refine pure_ (i := 9) (N := some 81) (v := undef) (a' := ?_) #[true, true, true, true, true, true, true, true, true, true, false, false, false, false, false, false, false, false, false, false, false, false, false, false, false, false, false, false, false, false, false, false, false, false, false, false, false] rfl rfl (any_of HT_.out (by kernel_rfl)) (fun _ _ _ h => h) (Or.inr ⟨by rfl, rfl⟩) ?_ ?_))
local macro "zzq108" : tactic => `(tactic| (exact ⟨by first | rfl | (simp [errW_none, errW_some] <;> rfl) | (simp [*, errW_none, errW_some] <;> rfl), by repeat (first | (with_reducible first | exact HB.out | apply below_alloc | apply pw_below_drewN | apply below_drew1 | refine below_set ?_ GE168.out) | exact HB.out)⟩))
local macro "zzq109" : tactic => `(tactic| (go_wp2_with (first | ((with_reducible refine gate_callee (f := 28) rfl ?_); refine goesL_ (some 110) rfl rfl Try.func28 (by kernel_rfl) rfl #[.int .i64 a1, .int .i64 512] rfl (by (try simp only [List.map_toArray, List.map_cons, List.map_nil]); first | done | rfl | (simp only [List.length_drop, List.length_take]; rfl)) ?_; (with_reducible refine (tabularylaw10_place.calls a1 512 t190 _ A73.out).mono ?_); rintro e w' ⟨rfl, ⟨nd, rfl⟩⟩; refine ⟨_, rfl, ?_⟩) | ((with_reducible refine gate_callee (f := 28) rfl ?_); refine goesL_ (some 112) rfl rfl Try.func28 (by kernel_rfl) rfl #[.int .i64 a2, .int .i64 512] rfl (by (try simp only [List.map_toArray, List.map_cons, List.map_nil]); first | done | rfl | (simp only [List.length_drop, List.length_take]; rfl)) ?_; (with_reducible refine (tabularylaw10_place.calls a2 512 t191 _ A74.out).mono ?_); rintro e w' ⟨rfl, ⟨nd, rfl⟩⟩; refine ⟨_, rfl, ?_⟩))))
local macro "zzq110" : tactic => `(tactic| (try go_wp2_with (first | ((with_reducible refine gate_callee (f := 28) rfl ?_); refine goesL_ (some 110) rfl rfl Try.func28 (by kernel_rfl) rfl #[.int .i64 a1, .int .i64 512] rfl (by (try simp only [List.map_toArray, List.map_cons, List.map_nil]); first | done | rfl | (simp only [List.length_drop, List.length_take]; rfl)) ?_; (with_reducible refine (tabularylaw10_place.calls a1 512 t190 _ A73.out).mono ?_); rintro e w' ⟨rfl, ⟨nd, rfl⟩⟩; refine ⟨_, rfl, ?_⟩; (try (rw [drewN_self wc]; generalize hq_ : World.drewN wc _ = wc; have n0_ : Aside0 (Kd.R (Kd.int .u8) 5 wc w.heap.size (fun _ => True) (.slice Ao17 y145.length co17) y145) := ⟨by rw [← hq_]; exact (by (with_reducible repeat (first | apply Kd.R_alloc | apply Kd.R_drewN | apply Kd.R_drew)); exact HO_7.out)⟩; have n1_ : Aside0 (wc.heap[gb168]? = some (.cells #[.string t160, .string t161, .int .i64 t162, .int .i64 t163, .int .i64 t164, .int .u8 t165, .string t166] 24 (0, 0))) := ⟨by rw [← hq_]; exact (by (with_reducible repeat (first | refine blk_drewN ?_ _ | refine blk_drew ?_ | refine blk_alloc ?_ _)); exact BK168.out)⟩; have n2_ : Aside0 (Below w.heap.size w wc) := ⟨by rw [← hq_]; exact (by repeat (first | (with_reducible first | exact HB.out | apply below_alloc | apply pw_below_drewN | apply below_drew1 | refine below_set ?_ GE168.out) | exact HB.out))⟩; clear HO_7 BK168 HB hq_; have HO_7 := n0_; have BK168 := n1_; have HB := n2_; clear n0_ n1_ n2_))) | ((with_reducible refine gate_callee (f := 28) rfl ?_); refine goesL_ (some 112) rfl rfl Try.func28 (by kernel_rfl) rfl #[.int .i64 a2, .int .i64 512] rfl (by (try simp only [List.map_toArray, List.map_cons, List.map_nil]); first | done | rfl | (simp only [List.length_drop, List.length_take]; rfl)) ?_; (with_reducible refine (tabularylaw10_place.calls a2 512 t191 _ A74.out).mono ?_); rintro e w' ⟨rfl, ⟨nd, rfl⟩⟩; refine ⟨_, rfl, ?_⟩; (try (rw [drewN_self wc]; generalize hq_ : World.drewN wc _ = wc; have n0_ : Aside0 (Kd.R (Kd.int .u8) 5 wc w.heap.size (fun _ => True) (.slice Ao17 y145.length co17) y145) := ⟨by rw [← hq_]; exact (by (with_reducible repeat (first | apply Kd.R_alloc | apply Kd.R_drewN | apply Kd.R_drew)); exact HO_7.out)⟩; have n1_ : Aside0 (wc.heap[gb168]? = some (.cells #[.string t160, .string t161, .int .i64 t162, .int .i64 t163, .int .i64 t164, .int .u8 t165, .string t166] 24 (0, 0))) := ⟨by rw [← hq_]; exact (by (with_reducible repeat (first | refine blk_drewN ?_ _ | refine blk_drew ?_ | refine blk_alloc ?_ _)); exact BK168.out)⟩; have n2_ : Aside0 (Below w.heap.size w wc) := ⟨by rw [← hq_]; exact (by repeat (first | (with_reducible first | exact HB.out | apply below_alloc | apply pw_below_drewN | apply below_drew1 | refine below_set ?_ GE168.out) | exact HB.out))⟩; clear HO_7 BK168 HB hq_; have HO_7 := n0_; have BK168 := n1_; have HB := n2_; clear n0_ n1_ n2_))))))
local macro "zzq111" : tactic => `(tactic| (have n1_ := Aside0.mk (blk_drew BK168.out)))
local macro "zzq112" : tactic => `(tactic| (have n2_ := Aside0.mk (below_drew1 HB.out)))
local macro "zzq113" : tactic => `(tactic| (have BK168 := n1_))
local macro "zzq114" : tactic => `(tactic| (have HB := n2_))
local macro "zzq115" : tactic => `(tactic| (clear n0_ n1_ n2_))
local macro "zzq116" : tactic => `(tactic| (have p192 : 0 ≤ (t191 : Int) := of_decide_eq_true (by first | (with_reducible assumption) | assumption)))
local macro "zzq117" : tactic => `(tactic| (have q192 : t191 < (y145.length : Int) := of_decide_eq_true (by first | (with_reducible assumption) | assumption)))
local macro "zzq118" : tactic => `(tactic| (obtain ⟨ad192, e192, hx192_0⟩ := Kd.at_int (Kd.R_reads' HO_7.out).2.2 t191 p192 q192))
local macro "zzq119" : tactic => `(tactic| (have p193 : 0 ≤ (t190 : Int) := of_decide_eq_true (by first | (with_reducible assumption) | assumption)))
local macro "zzq120" : tactic => `(tactic| (have q193 : t190 < (y145.length : Int) := of_decide_eq_true (by first | (with_reducible assumption) | assumption)))
local macro "zzq121" : tactic => `(tactic| (obtain ⟨ad193, e193, hx193_0⟩ := Kd.at_int (Kd.R_reads' HO_7.out).2.2 t190 p193 q193))
local macro "zzq122" : tactic => `(tactic| (have p83 : 0 ≤ (t190 : Int) := of_decide_eq_true (by first | (with_reducible assumption) | assumption)))
local macro "zzq123" : tactic => `(tactic| (have q83 : (t190 : Int) < ((y145.length : Int) : Int) := of_decide_eq_true (by first | (with_reducible assumption) | assumption)))
local macro "zzq124" : tactic => `(tactic| (obtain ⟨go83, co83, eo83, gb83, gl83, cl83, HG83⟩ := Kd.R_form HO_7.out (by omega)))
local macro "zzq125" : tactic => `(tactic| ((first | cases eo83 | (injection eo83 with ea_ en_ ec_; (first | subst ea_ | (injection ea_ with ea_; subst ea_)); subst ec_; clear en_))))
local macro "zzq126" : tactic => `(tactic| (obtain ⟨hx83_0, hf83_0⟩ := Kd.R_celln 0 HO_7.out (t190 : Int) p83 q83))
local macro "zzq127" : tactic => `(tactic| (have p84 : 0 ≤ (t191 : Int) := of_decide_eq_true (by first | (with_reducible assumption) | assumption)))
local macro "zzq128" : tactic => `(tactic| (have q84 : (t191 : Int) < ((y145.length : Int) : Int) := of_decide_eq_true (by first | (with_reducible assumption) | assumption)))
local macro "zzq129" : tactic => `(tactic| (refine start_ (n := 16) (S := fun w' => w'.cell? ⟨go83, (t191).toNat, none⟩ = some (.int .u8 (rd y145 t191)) ∧ w'.cell? ⟨go83, (t190).toNat, none⟩ = some (.int .u8 (rd y145 t190))) (ds := [13, 15]) #[false, false, false, false, false, false, false, false, false, false, false, false, false, false, false, false] (by kernel_rfl) rfl rfl ⟨hx192_0, hx193_0⟩ (fun hHeld => ?_); refine with_tabW tabularylaw10_HeadSealed.tab21 tabularylaw10_HeadSealed.bits21 (fun HT_ HW_ => ?_)))
local macro "zzq130" : tactic => `(tactic| (refine pure_ (i := 0) (N := some 127) (v := ?_) (a' := ?_) #[true, false, false, false, false, false, false, false, false, false, false, false, false, false, false, false] rfl rfl (any_of HT_.out (by kernel_rfl)) (fun _ _ _ h => h) (Or.inl ⟨by rfl, ?_⟩) ?_ ?_))
local macro "zzq131" : tactic => `(tactic| (refine pure_ (i := 1) (N := some 128) (v := ?_) (a' := ?_) #[true, true, false, false, false, false, false, false, false, false, false, false, false, false, false, false] rfl rfl (any_of HT_.out (by kernel_rfl)) (fun _ _ _ h => h) (Or.inl ⟨by rfl, ?_⟩) ?_ ?_))
local macro "zzq132" : tactic => `(tactic| (refine pure_ (i := 2) (N := some 129) (v := ?_) (a' := ?_) #[true, true, true, false, false, false, false, false, false, false, false, false, false, false, false, false] rfl rfl (any_of HT_.out (by kernel_rfl)) (fun _ _ _ h => h) (Or.inl ⟨by rfl, ?_⟩) ?_ ?_))
local macro "zzq133" : tactic => `(tactic| (refine pure_ (i := 3) (N := some 130) (v := ?_) (a' := ?_) #[true, true, true, true, false, false, false, false, false, false, false, false, false, false, false, false] rfl rfl (any_of HT_.out (by kernel_rfl)) (fun _ _ _ h => h) (Or.inl ⟨by rfl, ?_⟩) ?_ ?_))
local macro "zzq134" : tactic => `(tactic| (refine pure_ (i := 4) (N := some 131) (v := ?_) (a' := ?_) #[true, true, true, true, true, false, false, false, false, false, false, false, false, false, false, false] rfl rfl (any_of HT_.out (by kernel_rfl)) (fun _ _ _ h => h) (Or.inl ⟨by rfl, ?_⟩) ?_ ?_))
local macro "zzq135" : tactic => `(tactic| (refine pure_ (i := 5) (N := some 132) (v := ?_) (a' := ?_) #[true, true, true, true, true, true, false, false, false, false, false, false, false, false, false, false] rfl rfl (any_of HT_.out (by kernel_rfl)) (fun _ _ _ h => h) (Or.inl ⟨by rfl, ?_⟩) ?_ ?_))
local macro "zzq136" : tactic => `(tactic| (refine pure_ (i := 6) (N := some 133) (v := ?_) (a' := ?_) #[true, true, true, true, true, true, true, false, false, false, false, false, false, false, false, false] rfl rfl (any_of HT_.out (by kernel_rfl)) (fun _ _ _ h => h) (Or.inl ⟨by rfl, ?_⟩) ?_ ?_))
local macro "zzq137" : tactic => `(tactic| (refine pure_ (i := 8) (N := some 135) (v := ?_) (a' := ?_) #[true, true, true, true, true, true, true, false, true, false, false, false, false, false, false, false] rfl rfl (any_of HT_.out (by kernel_rfl)) (fun _ _ _ h => h) (Or.inl ⟨by rfl, ?_⟩) ?_ ?_))
local macro "zzq138" : tactic => `(tactic| (refine pure_ (i := 9) (N := some 136) (v := ?_) (a' := ?_) #[true, true, true, true, true, true, true, false, true, true, false, false, false, false, false, false] rfl rfl (any_of HT_.out (by kernel_rfl)) (fun _ _ _ h => h) (Or.inl ⟨by rfl, ?_⟩) ?_ ?_))
local macro "zzq139" : tactic => `(tactic| (refine pure_ (i := 10) (N := some 137) (v := ?_) (a' := ?_) #[true, true, true, true, true, true, true, false, true, true, true, false, false, false, false, false] rfl rfl (any_of HT_.out (by kernel_rfl)) (fun _ _ _ h => h) (Or.inl ⟨by rfl, ?_⟩) ?_ ?_))
local macro "zzq140" : tactic => `(tactic| (refine take_ (i := 7) (N := some 134) (v := ?_) (a' := ?_) #[true, true, true, true, true, true, true, true, true, true, true, false, false, false, false, false] rfl rfl (take_ofW HT_.out HW_.out (by kernel_rfl)) (fun _ _ _ h => h) (Or.inl ⟨by rfl, ?_⟩) hHeld ?_ ?_))
local macro "zzq141" : tactic => `(tactic| (rintro w' ⟨s0, s1⟩))
local macro "zzq142" : tactic => `(tactic| (refine take_ (i := 11) (N := some 138) (v := ?_) (a' := ?_) #[true, true, true, true, true, true, true, true, true, true, true, true, false, false, false, false] rfl rfl (take_ofW HT_.out HW_.out (by kernel_rfl)) (fun _ _ _ h => h) (Or.inl ⟨by rfl, ?_⟩) hHeld ?_ ?_))
local macro "zzq143" : tactic => `(tactic| (refine pure_ (i := 12) (N := some 139) (v := ?_) (a' := ?_) #[true, true, true, true, true, true, true, true, true, true, true, true, true, false, false, false] rfl rfl (any_of HT_.out (by kernel_rfl)) (fun _ _ _ h => h) (Or.inl ⟨by rfl, ?_⟩) ?_ ?_))
local macro "zzq144" : tactic => `(tactic| (refine last_ (i := 13) (N := none) #[true, true, true, true, true, true, true, true, true, true, true, true, true, true, false, false] rfl rfl (one_of HT_.out (by kernel_rfl)) (by decide) (fun K hK => ?_)))
local macro "zzq145" : tactic => `(tactic| (refine skip_ (w1 := ?_) (by rfl) rfl ?_ ?_))
local macro "zzq146" : tactic => `(tactic| (refine hK.out _ _ ?_))
local macro "zzq147" : tactic => `(tactic| (refine pure_ (i := 14) (N := some 140) (v := ?_) (a' := ?_) #[true, true, true, true, true, true, true, true, true, true, true, true, true, true, true, false] rfl rfl (any_of HT_.out (by kernel_rfl)) (fun _ _ _ h => h) (Or.inl ⟨by rfl, ?_⟩) ?_ ?_))
local macro "zzq148" : tactic => `(tactic| (refine last_ (i := 15) (N := none) #[true, true, true, true, true, true, true, true, true, true, true, true, true, true, true, true] rfl rfl (one_of HT_.out (by kernel_rfl)) (by decide) (fun K hK => ?_)))
local macro "zzq149" : tactic => `(tactic| (have p198 : 0 ≤ (t191 : Int) := of_decide_eq_true (by first | (with_reducible assumption) | assumption)))
local macro "zzq150" : tactic => `(tactic| (have q198 : t191 < (y145.length : Int) := of_decide_eq_true (by first | (with_reducible assumption) | assumption)))
local macro "zzq151" : tactic => `(tactic| (obtain ⟨ad198, e198, hx198_0⟩ := Kd.at_int (Kd.R_reads' HO_7.out).2.2 t191 p198 q198))
local macro "zzq152" : tactic => `(tactic| (have p199 : 0 ≤ (t190 : Int) := of_decide_eq_true (by first | (with_reducible assumption) | assumption)))
local macro "zzq153" : tactic => `(tactic| (have q199 : t190 < (y145.length : Int) := of_decide_eq_true (by first | (with_reducible assumption) | assumption)))
local macro "zzq154" : tactic => `(tactic| (obtain ⟨ad199, e199, hx199_0⟩ := Kd.at_int (Kd.R_reads' HO_7.out).2.2 t190 p199 q199))
local macro "zzq155" : tactic => `(tactic| (have p99 : 0 ≤ (t190 : Int) := of_decide_eq_true (by first | (with_reducible assumption) | assumption)))
local macro "zzq156" : tactic => `(tactic| (have q99 : (t190 : Int) < ((y145.length : Int) : Int) := of_decide_eq_true (by first | (with_reducible assumption) | assumption)))
local macro "zzq157" : tactic => `(tactic| (obtain ⟨go99, co99, eo99, gb99, gl99, cl99, HG99⟩ := Kd.R_form HO_7.out (by omega)))
local macro "zzq158" : tactic => `(tactic| ((first | cases eo99 | (injection eo99 with ea_ en_ ec_; (first | subst ea_ | (injection ea_ with ea_; subst ea_)); subst ec_; clear en_))))
local macro "zzq159" : tactic => `(tactic| (obtain ⟨hx99_0, hf99_0⟩ := Kd.R_celln 0 HO_7.out (t190 : Int) p99 q99))
local macro "zzq160" : tactic => `(tactic| (have p100 : 0 ≤ (t191 : Int) := of_decide_eq_true (by first | (with_reducible assumption) | assumption)))
local macro "zzq161" : tactic => `(tactic| (have q100 : (t191 : Int) < ((y145.length : Int) : Int) := of_decide_eq_true (by first | (with_reducible assumption) | assumption)))
local macro "zzq162" : tactic => `(tactic| (refine start_ (n := 16) (S := fun w' => w'.cell? ⟨go99, (t191).toNat, none⟩ = some (.int .u8 (rd y145 t191)) ∧ w'.cell? ⟨go99, (t190).toNat, none⟩ = some (.int .u8 (rd y145 t190))) (ds := [13, 15]) #[false, false, false, false, false, false, false, false, false, false, false, false, false, false, false, false] (by kernel_rfl) rfl rfl ⟨hx198_0, hx199_0⟩ (fun hHeld => ?_); refine with_tabW tabularylaw10_HeadSealed.tab21 tabularylaw10_HeadSealed.bits21 (fun HT_ HW_ => ?_)))
local macro "zzq163" : tactic => `(tactic| (have p204 : 0 ≤ (t191 : Int) := of_decide_eq_true (by first | (with_reducible assumption) | assumption)))
local macro "zzq164" : tactic => `(tactic| (have q204 : t191 < (y145.length : Int) := of_decide_eq_true (by first | (with_reducible assumption) | assumption)))
local macro "zzq165" : tactic => `(tactic| (obtain ⟨ad204, e204, hx204_0⟩ := Kd.at_int (Kd.R_reads' HO_7.out).2.2 t191 p204 q204))
local macro "zzq166" : tactic => `(tactic| (have p205 : 0 ≤ (t190 : Int) := of_decide_eq_true (by first | (with_reducible assumption) | assumption)))
local macro "zzq167" : tactic => `(tactic| (have q205 : t190 < (y145.length : Int) := of_decide_eq_true (by first | (with_reducible assumption) | assumption)))
local macro "zzq168" : tactic => `(tactic| (obtain ⟨ad205, e205, hx205_0⟩ := Kd.at_int (Kd.R_reads' HO_7.out).2.2 t190 p205 q205))
local macro "zzq169" : tactic => `(tactic| (have p117 : 0 ≤ (t190 : Int) := of_decide_eq_true (by first | (with_reducible assumption) | assumption)))
local macro "zzq170" : tactic => `(tactic| (have q117 : (t190 : Int) < ((y145.length : Int) : Int) := of_decide_eq_true (by first | (with_reducible assumption) | assumption)))
local macro "zzq171" : tactic => `(tactic| (obtain ⟨go117, co117, eo117, gb117, gl117, cl117, HG117⟩ := Kd.R_form HO_7.out (by omega)))
local macro "zzq172" : tactic => `(tactic| ((first | cases eo117 | (injection eo117 with ea_ en_ ec_; (first | subst ea_ | (injection ea_ with ea_; subst ea_)); subst ec_; clear en_))))
local macro "zzq173" : tactic => `(tactic| (obtain ⟨hx117_0, hf117_0⟩ := Kd.R_celln 0 HO_7.out (t190 : Int) p117 q117))
local macro "zzq174" : tactic => `(tactic| (have p118 : 0 ≤ (t191 : Int) := of_decide_eq_true (by first | (with_reducible assumption) | assumption)))
local macro "zzq175" : tactic => `(tactic| (have q118 : (t191 : Int) < ((y145.length : Int) : Int) := of_decide_eq_true (by first | (with_reducible assumption) | assumption)))
local macro "zzq176" : tactic => `(tactic| (refine start_ (n := 16) (S := fun w' => w'.cell? ⟨go117, (t191).toNat, none⟩ = some (.int .u8 (rd y145 t191)) ∧ w'.cell? ⟨go117, (t190).toNat, none⟩ = some (.int .u8 (rd y145 t190))) (ds := [13, 15]) #[false, false, false, false, false, false, false, false, false, false, false, false, false, false, false, false] (by kernel_rfl) rfl rfl ⟨hx204_0, hx205_0⟩ (fun hHeld => ?_); refine with_tabW tabularylaw10_HeadSealed.tab21 tabularylaw10_HeadSealed.bits21 (fun HT_ HW_ => ?_)))
local macro "zzq177" : tactic => `(tactic| (have p210 : 0 ≤ (t191 : Int) := of_decide_eq_true (by first | (with_reducible assumption) | assumption)))
local macro "zzq178" : tactic => `(tactic| (have q210 : t191 < (y145.length : Int) := of_decide_eq_true (by first | (with_reducible assumption) | assumption)))
local macro "zzq179" : tactic => `(tactic| (obtain ⟨ad210, e210, hx210_0⟩ := Kd.at_int (Kd.R_reads' HO_7.out).2.2 t191 p210 q210))
local macro "zzq180" : tactic => `(tactic| (have p211 : 0 ≤ (t190 : Int) := of_decide_eq_true (by first | (with_reducible assumption) | assumption)))
local macro "zzq181" : tactic => `(tactic| (have q211 : t190 < (y145.length : Int) := of_decide_eq_true (by first | (with_reducible assumption) | assumption)))
local macro "zzq182" : tactic => `(tactic| (obtain ⟨ad211, e211, hx211_0⟩ := Kd.at_int (Kd.R_reads' HO_7.out).2.2 t190 p211 q211))
local macro "zzq183" : tactic => `(tactic| (have p133 : 0 ≤ (t190 : Int) := of_decide_eq_true (by first | (with_reducible assumption) | assumption)))
local macro "zzq184" : tactic => `(tactic| (have q133 : (t190 : Int) < ((y145.length : Int) : Int) := of_decide_eq_true (by first | (with_reducible assumption) | assumption)))
local macro "zzq185" : tactic => `(tactic| (obtain ⟨go133, co133, eo133, gb133, gl133, cl133, HG133⟩ := Kd.R_form HO_7.out (by omega)))
local macro "zzq186" : tactic => `(tactic| ((first | cases eo133 | (injection eo133 with ea_ en_ ec_; (first | subst ea_ | (injection ea_ with ea_; subst ea_)); subst ec_; clear en_))))
local macro "zzq187" : tactic => `(tactic| (obtain ⟨hx133_0, hf133_0⟩ := Kd.R_celln 0 HO_7.out (t190 : Int) p133 q133))
local macro "zzq188" : tactic => `(tactic| (have p134 : 0 ≤ (t191 : Int) := of_decide_eq_true (by first | (with_reducible assumption) | assumption)))
local macro "zzq189" : tactic => `(tactic| (have q134 : (t191 : Int) < ((y145.length : Int) : Int) := of_decide_eq_true (by first | (with_reducible assumption) | assumption)))
local macro "zzq190" : tactic => `(tactic| (refine start_ (n := 16) (S := fun w' => w'.cell? ⟨go133, (t191).toNat, none⟩ = some (.int .u8 (rd y145 t191)) ∧ w'.cell? ⟨go133, (t190).toNat, none⟩ = some (.int .u8 (rd y145 t190))) (ds := [13, 15]) #[false, false, false, false, false, false, false, false, false, false, false, false, false, false, false, false] (by kernel_rfl) rfl rfl ⟨hx210_0, hx211_0⟩ (fun hHeld => ?_); refine with_tabW tabularylaw10_HeadSealed.tab21 tabularylaw10_HeadSealed.bits21 (fun HT_ HW_ => ?_)))
set_option hygiene true
set_option maxHeartbeats 8000000 in
set_option maxRecDepth 100000 in
theorem tabularylaw10_HeadSealed.calls (k : Nat) (A0 : Option Addr) (c0 : Nat) (l0 : List Int) (a1 : Int) (a2 : Int) (r : Bool) (w : World) (hr0 : Kd.C (Kd.int .u8) w A0 l0.length l0) (hc0 : l0.length ≤ c0) (h : tabularylaw10_HeadSealed.f k l0 a1 a2 = some r) :
  Calls Try.prog 8 #[.slice A0 l0.length c0, .int .i64 a1, .int .i64 a2] w fun e w' => e = .returned (.bool r) ∧ Below w.heap.size w w' := by
 have hu24 := Try.underlying24
 have HR0 := Aside0.mk hr0
 have HC0 := Aside0.mk hc0
 clear hr0 hc0
 have HB := Aside0.mk (Below.refl w.heap.size w)
 have H : ((tabularylaw10_awake.f k).bind fun t138 => (if t138 = true then (if ([] : List Int).length + l0.length < 140737488355328 then (tabularylaw10_HeadSealed.l0 k a1 a2 (([] : List Int) ++ l0)) else (none)) else (some false))) = some r := h
 clear h
 zzq0
 obtain ⟨t138, A40, H⟩ := H
 replace H : (if t138 = true then (if ([] : List Int).length + l0.length < 140737488355328 then (tabularylaw10_HeadSealed.l0 k a1 a2 (([] : List Int) ++ l0)) else (none)) else (some false)) = some r := H
 have A4 := Aside0.mk A40
 clear A40
 by_cases c5 : t138 = true
 ·subst c5
  have H1 : (if ([] : List Int).length + l0.length < 140737488355328 then (tabularylaw10_HeadSealed.l0 k a1 a2 (([] : List Int) ++ l0)) else (none)) = some r := by rw [if_pos rfl] at H; exact H
  clear H
  zzq1
  clear H1
  by_cases c6 : ([] : List Int).length + l0.length < 140737488355328
  ·rw [if_pos c6] at H
   have LMc6 := Aside0.mk c6
   clear c6
   obtain ⟨y139, hy139⟩ : ∃ y_ : List Int, y_ = (([] : List Int) ++ l0) := ⟨_, rfl⟩
   replace H : (tabularylaw10_HeadSealed.l0 k a1 a2 y139) = some r := by first | (rw [hy139]; with_reducible exact H) | (have H2_ := (Option.bind_some _ _).symm.trans H; rw [hy139]; with_reducible exact H2_) | (have H2_ := (Option.bind_some _ _).symm.trans H; with_reducible exact H2_) | with_reducible exact H | (rw [hy139]; exact H) | exact H
   have Ny139 := Aside0.mk hy139
   clear hy139
   zzq2
   clear H
   go_enter Try.func8, Try.ntmps8
   go_wp2_with (first | ((with_reducible refine gate_callee (f := 27) rfl ?_); refine goesL_ (some 20) rfl rfl Try.func27 (by kernel_rfl) rfl #[] rfl (by (try simp only [List.map_toArray, List.map_cons, List.map_nil]); first | done | rfl | (simp only [List.length_drop, List.length_take]; rfl)) ?_; (with_reducible refine (tabularylaw10_awake.calls k  true _ A4.out).mono ?_); rintro e w7 ⟨rfl, hb⟩; refine ⟨_, rfl, ?_⟩; have n0_ := Aside0.mk (below_step (by repeat (first | (with_reducible first | exact HB.out | apply below_alloc | apply pw_below_drewN | apply below_drew1) | exact HB.out)) hb); clear HB; have HB := n0_; clear n0_; (try clear hb); (try clear hb2); (try clear hk); (try clear hi)) | ((with_reducible refine gate_builtin (b := .append) (xs := #[.tmp 22, .tmp 23]) rfl ?_); (try (refine gate_guard (by rfl) ?_; dsimp only)); at_builtin; refine Kd.R_append_rows (Kd.int .u8) (w0 := w) w.heap.size rfl (.tmp 22) (.tmp 23) 22 5 (.int .u8 0) 1 rfl Try.underlying22 info5 rfl (by decide) (by omega) (.slice none 0 0) ([] : List Int) l0 _ _ _ (fun _ => True) (fun _ => False) rfl rfl ?aO ?aR (fun _ _ h => h) (fun _ h => h.elim) ?aF ?aB ?aS ?aL ?_; (case aR => repeat (first | exact (Kd.C_below HR0.out HB.out) | (with_reducible refine Kd.C_alloc ?_ _) | (with_reducible refine Kd.C_drewN ?_ _) | (with_reducible refine Kd.C_drew ?_))); (case aB => exact (by repeat (first | (with_reducible first | exact HB.out | apply below_alloc | apply pw_below_drewN | apply below_drew1) | exact HB.out))); (case aF => exact (fun _ _ => trivial)); (case aO => exact ((Kd.R_nil _ _ _ _ (fun _ => True)))); (case aS => exact (below_size (by repeat (first | (with_reducible first | exact HB.out | apply below_alloc | apply pw_below_drewN | apply below_drew1) | exact HB.out)))); (case aL => have := LMc6.out; omega); intro v140 w8 ho hb hg hat; rw [← Ny139.out] at ho; have n0_ := Aside0.mk (hb); have n1_ := Aside0.mk (ho); clear HB; have HB := n0_; have HO141 := n1_; clear n0_ n1_; clear ho hb hg hat))
   go_loopg [7] k (fun kq v7 w' => ∃ (x7_1 : List Int), Aside0 (tabularylaw10_HeadSealed.l0 kq a1 a2 x7_1 = some r) ∧ Aside0 (kq ≤ k) ∧ Aside0 (Kd.R (Kd.int .u8) 5 w' w.heap.size (fun _ => True) v7 x7_1) ∧ Aside0 (Below w.heap.size w w'))
   case atStart => exact ⟨(y139), H', ⟨Nat.le_refl _⟩, ⟨by (with_reducible repeat (first | apply Kd.R_alloc | apply Kd.R_drewN | apply Kd.R_drew)); exact HO141.out⟩, ⟨by repeat (first | (with_reducible first | exact HB.out | apply below_alloc | apply pw_below_drewN | apply below_drew1) | exact HB.out)⟩⟩
   case round =>
    clear H'
    try clear c2
    try clear p2
    try clear c5
    try clear c6
    try clear c8
    obtain ⟨x7_1, HA, HK1, HO_7, HB⟩ := hrel
    cases gk with
    | zero => exact absurd HA.out (by simp [tabularylaw10_HeadSealed.l0])
    | succ k1 =>
     have H := HA.out
     clear HA
     simp only [tabularylaw10_HeadSealed.l0] at H
     by_cases c9 : (x7_1.length : Int) < 512
     ·rw [if_pos c9] at H
      have c9b0 : decide ((x7_1.length : Int) < 512) = true := decide_eq_true c9
      have c9b1 : decide (x7_1.length < 512) = true := decide_eq_true (by omega)
      clear c9
      by_cases c10 : x7_1.length < 140737488355328
      ·rw [if_pos c10] at H
       have LMc10 := Aside0.mk c10
       clear c10
       obtain ⟨y142, hy142⟩ : ∃ y_ : List Int, y_ = (x7_1 ++ [((x7_1.length : Int)) % 256]) := ⟨_, rfl⟩
       replace H : (tabularylaw10_HeadSealed.l0 k1 a1 a2 y142) = some r := by first | (rw [hy142]; with_reducible exact H) | (have H2_ := (Option.bind_some _ _).symm.trans H; rw [hy142]; with_reducible exact H2_) | (have H2_ := (Option.bind_some _ _).symm.trans H; with_reducible exact H2_) | with_reducible exact H | (rw [hy142]; exact H) | exact H
       have Ny142 := Aside0.mk hy142
       clear hy142
       zzq2
       clear H
       obtain ⟨Ao11, co11, eo11⟩ := Kd.R_slice HO_7.out
       subst eo11
       go_wp2_with (first | ((with_reducible refine gate_builtin (b := .append) (xs := #[.tmp 28, .tmp 32]) rfl ?_); (try (refine gate_guard (by rfl) ?_; dsimp only)); at_builtin; refine Kd.R_append (Kd.int .u8) (w0 := w) w.heap.size rfl (.tmp 28) (.tmp 32) 22 5 (.int .u8 0) 1 rfl Try.underlying22 info5 rfl (by decide) (by omega) (.slice Ao11 x7_1.length co11) x7_1 (((x7_1.length : Int)) % 256) [.int .u8 (((x7_1.length : Int)) % 256)] (fun _ => True) (fun _ => False) rfl rfl ?aP (fun _ hk => hk.elim) ?aF ?aO ?aB ?aS ?aL ?_; (case aP => exact rfl); (case aB => exact (by repeat (first | (with_reducible first | exact HB.out | apply below_alloc | apply pw_below_drewN | apply below_drew1) | exact HB.out))); (case aF => exact (fun _ _ => trivial)); (case aO => exact (by (with_reducible repeat (first | apply Kd.R_alloc | apply Kd.R_drewN | apply Kd.R_drew)); exact HO_7.out)); (case aS => exact (below_size (by repeat (first | (with_reducible first | exact HB.out | apply below_alloc | apply pw_below_drewN | apply below_drew1) | exact HB.out)))); (case aL => have := LMc10.out; omega); intro v143 w12 ho hb hg hat; rw [← Ny142.out] at ho; have n0_ := Aside0.mk (hb); have n1_ := Aside0.mk (ho); clear HB; clear HO_7; have HB := n0_; have HO144 := n1_; clear n0_ n1_; clear ho hb hg hat))
       go_roundg k1
       case measure => have := HK1.out; omega
       case rel => exact ⟨(y142), H', ⟨by have := HK1.out; omega⟩, ⟨by (with_reducible repeat (first | apply Kd.R_alloc | apply Kd.R_drewN | apply Kd.R_drew)); exact HO144.out⟩, ⟨by repeat (first | (with_reducible first | exact HB.out | apply below_alloc | apply pw_below_drewN | apply below_drew1) | exact HB.out)⟩⟩
      ·rw [if_neg c10] at H
       zzq3
     ·rw [if_neg c9] at H
      have c9b0 : decide ((x7_1.length : Int) < 512) = false := decide_eq_false c9
      have c9b1 : decide (x7_1.length < 512) = false := decide_eq_false (by omega)
      clear c9
      by_cases c13 : 512 ≤ (x7_1.length : Int)
      ·rw [if_pos c13] at H
       have c13b0 := eq_true c13
       have c13b1 : decide (512 ≤ (x7_1.length : Int)) = true := decide_eq_true c13
       clear c13
       obtain ⟨y145, hy145⟩ : ∃ y_ : List Int, y_ = (x7_1.take (512 : Int).toNat) := ⟨_, rfl⟩
       replace H : ((head_Sum.f y145).bind fun bt148 => ((head_Seal.f y145).bind fun bt150 => (if bt148.2 = 0 then (if bt150.2 = 0 then (tabularylaw10_HeadSealed.j1 k1 a1 a2 y145 bt148.1 bt150.1 ((bt150.1.length : Int) != 512)) else (tabularylaw10_HeadSealed.j1 k1 a1 a2 y145 bt148.1 bt150.1 true)) else (tabularylaw10_HeadSealed.j1 k1 a1 a2 y145 bt148.1 bt150.1 true)))) = some r := by first | (rw [hy145]; with_reducible exact H) | (have H2_ := (Option.bind_some _ _).symm.trans H; rw [hy145]; with_reducible exact H2_) | (have H2_ := (Option.bind_some _ _).symm.trans H; with_reducible exact H2_) | with_reducible exact H | (rw [hy145]; exact H) | exact H
       have Ny145 := Aside0.mk hy145
       clear hy145
       zzq0
       obtain ⟨⟨t148, t149⟩, A140, H⟩ := H
       replace H : ((head_Seal.f y145).bind fun bt150 => (if t149 = 0 then (if bt150.2 = 0 then (tabularylaw10_HeadSealed.j1 k1 a1 a2 y145 t148 bt150.1 ((bt150.1.length : Int) != 512)) else (tabularylaw10_HeadSealed.j1 k1 a1 a2 y145 t148 bt150.1 true)) else (tabularylaw10_HeadSealed.j1 k1 a1 a2 y145 t148 bt150.1 true))) = some r := H
       have A14 := Aside0.mk A140
       clear A140
       zzq0
       obtain ⟨⟨t150, t153⟩, A150, H⟩ := H
       replace H : (if t149 = 0 then (if t153 = 0 then (tabularylaw10_HeadSealed.j1 k1 a1 a2 y145 t148 t150 ((t150.length : Int) != 512)) else (tabularylaw10_HeadSealed.j1 k1 a1 a2 y145 t148 t150 true)) else (tabularylaw10_HeadSealed.j1 k1 a1 a2 y145 t148 t150 true)) = some r := H
       have A15 := Aside0.mk A150
       clear A150
       have HC16 := Aside0.mk H
       clear H
       obtain ⟨Ao17, co17, eo17⟩ := Kd.R_slice HO_7.out
       subst eo17
       have q18 : (512 : Int) ≤ ((x7_1.length : Int) : Int) := of_decide_eq_true (by first | (with_reducible assumption) | assumption)
       obtain ⟨i018, hi018, _, hsz18, _⟩ := info_parts info5
       have hcut18 := cut_to (P := Try.prog) 22 5 .i64 Try.underlying22 hi018 Ao17 x7_1.length co17 512 (by omega) q18 (Kd.R_reads' HO_7.out).2.1
       have hr18 := Kd.R_take (m := (512 : Int).toNat) HO_7.out (by omega)
       have hy18 : y145.length = (512 : Int).toNat := (by rw [Ny145.out, List.length_take]; omega)
       rw [← Ny145.out] at hr18
       rw [← hy18] at hr18 hcut18
       clear hy18 hi018 hsz18 HO_7
       have HO147 := Aside0.mk hr18
       clear hr18
       replace q18 := eq_true q18
       go_upto_region 10 with (first | ((with_reducible refine gate_callee (f := 13) rfl ?_); refine goesL_ (some 38) rfl rfl Try.func13 (by kernel_rfl) rfl #[.slice Ao17 y145.length co17] rfl (by (try simp only [List.map_toArray, List.map_cons, List.map_nil]); first | done | rfl | (simp only [List.length_drop, List.length_take]; rfl)) ?_; (with_reducible refine (head_Sum.calls _ _ y145 t148 t149 _ ?side1 ?side2 A14.out).mono ?_); (case side1 => repeat (first | exact (Kd.R_reads' HO147.out).2.2 | (with_reducible refine Kd.C_alloc ?_ _) | (with_reducible refine Kd.C_drewN ?_ _) | (with_reducible refine Kd.C_drew ?_))); (case side2 => exact (Kd.R_reads' HO147.out).2.1); rintro e w19 ⟨rfl, hb⟩; refine ⟨_, rfl, ?_⟩; have n0_ := Aside0.mk (Kd.R_below (by (with_reducible repeat (first | apply Kd.R_alloc | apply Kd.R_drewN | apply Kd.R_drew)); exact HO147.out) hb); have n1_ := Aside0.mk (below_step (by repeat (first | (with_reducible first | exact HB.out | apply below_alloc | apply pw_below_drewN | apply below_drew1) | exact HB.out)) hb); clear HO147; clear HB; have HO147 := n0_; have HB := n1_; clear n0_ n1_; (try clear hb); (try clear hb2); (try clear hk); (try clear hi)) | ((with_reducible refine gate_callee (f := 14) rfl ?_); refine goesL_ (some 43) rfl rfl Try.func14 (by kernel_rfl) rfl #[.slice Ao17 y145.length co17] rfl (by (try simp only [List.map_toArray, List.map_cons, List.map_nil]); first | done | rfl | (simp only [List.length_drop, List.length_take]; rfl)) ?_; (with_reducible refine (head_Seal.calls _ _ y145 t150 t153 _ ?side1 ?side2 A15.out).mono ?_); (case side1 => repeat (first | exact (Kd.R_reads' HO147.out).2.2 | (with_reducible refine Kd.C_alloc ?_ _) | (with_reducible refine Kd.C_drewN ?_ _) | (with_reducible refine Kd.C_drew ?_))); (case side2 => exact (Kd.R_reads' HO147.out).2.1); rintro e w20 ⟨v151, rfl, ho0, hb⟩; refine ⟨_, rfl, ?_⟩; have n0_ := Aside0.mk (Kd.R_below (by (with_reducible repeat (first | apply Kd.R_alloc | apply Kd.R_drewN | apply Kd.R_drew)); exact HO147.out) hb); have n1_ := Aside0.mk (Kd.V_lower (Kd.V_mono (ok' := fun k_ => some k_ ≠ (.slice Ao17 y145.length co17 : Value).ownBlock) ho0 (fun k_ hk_ => (Kd.fresh' (Kd.R_lt (by (with_reducible repeat (first | apply Kd.R_alloc | apply Kd.R_drewN | apply Kd.R_drew)); exact HO147.out)) k_ hk_))) (below_size (by repeat (first | (with_reducible first | exact HB.out | apply below_alloc | apply pw_below_drewN | apply below_drew1) | exact HB.out)))); have n2_ := Aside0.mk (below_step (by repeat (first | (with_reducible first | exact HB.out | apply below_alloc | apply pw_below_drewN | apply below_drew1) | exact HB.out)) hb); clear HO147; clear HB; have HO147 := n0_; have HO152 := n1_; have HB := n2_; clear n0_ n1_ n2_; (try clear hb); (try clear hb2); (try clear hk); (try clear hi); (try clear ho0)))
       zzq4
       go_cut [56] (fun v56 wc => ∃ (kq : Nat) (x56_15 : Bool), v56 = .bool x56_15 ∧ Aside0 (tabularylaw10_HeadSealed.j1 kq a1 a2 y145 t148 t150 x56_15 = some r) ∧ Aside0 (kq ≤ k1) ∧ Aside0 (Kd.R (Kd.int .u8) 5 wc w.heap.size (fun _ => True) (.slice Ao17 y145.length co17) y145) ∧ Aside0 (Kd.V (Kd.int .u8) 5 wc w.heap.size (fun k_ => some k_ ≠ ((.slice Ao17 y145.length co17) : Value).ownBlock) v151 t150) ∧ Aside0 (Below w.heap.size w wc))
       case first =>
        have H := HC16.out
        clear HC16
        by_cases c21 : t149 = 0
        ·rw [if_pos c21] at H
         have c21b0 : (t149 == 0) = true := beq_iff_eq.mpr c21
         have c21b1 : (t149 != 0) = false := bne_eq_false_iff_eq.mpr c21
         clear c21
         zzq5
         by_cases c22 : t153 = 0
         ·rw [if_pos c22] at H
          have c22b0 : (t153 == 0) = true := beq_iff_eq.mpr c22
          have c22b1 : (t153 != 0) = false := bne_eq_false_iff_eq.mpr c22
          clear c22
          zzq2
          clear H
          obtain ⟨Ao23, co23, eo23⟩ := Kd.V_slice HO152.out
          subst eo23
          go_wp2
          go_meet
          case rel => exact ⟨_, (((t150.length : Int) != 512)), (by first | rfl | (simp; done) | (simp [*]; done)), H', ⟨by have := HK1.out; first | omega | exact Nat.le_refl _⟩, ⟨by (with_reducible repeat (first | apply Kd.R_alloc | apply Kd.R_drewN | apply Kd.R_drew)); exact HO147.out⟩, ⟨by (with_reducible repeat (first | apply Kd.V_alloc | apply Kd.V_drewN | apply Kd.V_drew)); exact HO152.out⟩, ⟨by repeat (first | (with_reducible first | exact HB.out | apply below_alloc | apply pw_below_drewN | apply below_drew1) | exact HB.out)⟩⟩
         ·rw [if_neg c22] at H
          have c22b0 : (t153 == 0) = false := beq_eq_false_iff_ne.mpr c22
          have c22b1 : (t153 != 0) = true := bne_iff_ne.mpr c22
          zzq2
          clear H
          go_wp2
          go_meet
          zzq6
        ·rw [if_neg c21] at H
         have c21b0 : (t149 == 0) = false := beq_eq_false_iff_ne.mpr c21
         have c21b1 : (t149 != 0) = true := bne_iff_ne.mpr c21
         zzq5
         zzq2
         clear H
         go_wp2
         go_meet
         zzq6
       case rest =>
        clear HC16
        try clear c1
        try clear q1
        try clear c2
        try clear p2
        try clear c5
        try clear c6
        try clear c8
        try clear c9
        try clear c9b0
        try clear c9b1
        try clear c10
        try clear c13
        try clear c13b0
        try clear c13b1
        try clear c14
        try clear q18
        try clear c21
        try clear c21b0
        try clear c21b1
        try clear c22
        try clear c22b0
        try clear c22b1
        try clear p2
        try clear q18
        obtain ⟨kq, x56_15, rfl, HA, HJ15, HO_7, HO_10, HB⟩ := hcut
        cases kq with
        | zero => exact absurd HA.out (by simp [tabularylaw10_HeadSealed.j1])
        | succ kj15 =>
         have H := HA.out
         clear HA
         simp only [tabularylaw10_HeadSealed.j1] at H
         by_cases c24 : x56_15 = true
         ·subst c24
          zzq7
          clear H
          zzq1
          clear H1
          zzq8
          go_wp2
          go_ret
          zzq9
         ·replace c24 := Bool.eq_false_iff.mpr c24
          subst c24
          have H1 : ((head_Sum.f t150).bind fun bt154 => ((head_Seal.f t150).bind fun bt156 => ((head_Get.f t150).bind fun bt160 => (if bt154.2 = 0 then (if bt156.2 = 0 then (if t148 = bt154.1 then ((tabularylaw10_same.f kj15 t150 bt156.1).bind fun t169 => (if t169 = true then (if bt160.2.2.2.2.2.2.2 = 101 then (tabularylaw10_HeadSealed.j2 kj15 a1 a2 y145 t148 true) else (if 148 ≤ (t150.length : Int) then (if 148 ≤ (y145.length : Int) then ((tabularylaw10_same.f kj15 (t150.take 148) (y145.take 148)).bind fun t179 => (if t179 = true then (if 156 ≤ (t150.length : Int) then (if 156 ≤ (y145.length : Int) then ((tabularylaw10_same.f kj15 (t150.drop 156) (y145.drop 156)).bind fun t189 => (tabularylaw10_HeadSealed.j2 kj15 a1 a2 y145 t148 (!t189))) else (none)) else (none)) else (tabularylaw10_HeadSealed.j2 kj15 a1 a2 y145 t148 true))) else (none)) else (none))) else (tabularylaw10_HeadSealed.j2 kj15 a1 a2 y145 t148 true))) else (tabularylaw10_HeadSealed.j2 kj15 a1 a2 y145 t148 true)) else (tabularylaw10_HeadSealed.j2 kj15 a1 a2 y145 t148 true)) else (tabularylaw10_HeadSealed.j2 kj15 a1 a2 y145 t148 true))))) = some r := by rw [if_neg (show ¬ (false = true) by decide)] at H; exact H
          clear H
          zzq1
          clear H1
          zzq0
          obtain ⟨⟨t154, t155⟩, A250, H⟩ := H
          replace H : ((head_Seal.f t150).bind fun bt156 => ((head_Get.f t150).bind fun bt160 => (if t155 = 0 then (if bt156.2 = 0 then (if t148 = t154 then ((tabularylaw10_same.f kj15 t150 bt156.1).bind fun t169 => (if t169 = true then (if bt160.2.2.2.2.2.2.2 = 101 then (tabularylaw10_HeadSealed.j2 kj15 a1 a2 y145 t148 true) else (if 148 ≤ (t150.length : Int) then (if 148 ≤ (y145.length : Int) then ((tabularylaw10_same.f kj15 (t150.take 148) (y145.take 148)).bind fun t179 => (if t179 = true then (if 156 ≤ (t150.length : Int) then (if 156 ≤ (y145.length : Int) then ((tabularylaw10_same.f kj15 (t150.drop 156) (y145.drop 156)).bind fun t189 => (tabularylaw10_HeadSealed.j2 kj15 a1 a2 y145 t148 (!t189))) else (none)) else (none)) else (tabularylaw10_HeadSealed.j2 kj15 a1 a2 y145 t148 true))) else (none)) else (none))) else (tabularylaw10_HeadSealed.j2 kj15 a1 a2 y145 t148 true))) else (tabularylaw10_HeadSealed.j2 kj15 a1 a2 y145 t148 true)) else (tabularylaw10_HeadSealed.j2 kj15 a1 a2 y145 t148 true)) else (tabularylaw10_HeadSealed.j2 kj15 a1 a2 y145 t148 true)))) = some r := H
          have A25 := Aside0.mk A250
          clear A250
          zzq0
          obtain ⟨⟨t156, t159⟩, A260, H⟩ := H
          replace H : ((head_Get.f t150).bind fun bt160 => (if t155 = 0 then (if t159 = 0 then (if t148 = t154 then ((tabularylaw10_same.f kj15 t150 t156).bind fun t169 => (if t169 = true then (if bt160.2.2.2.2.2.2.2 = 101 then (tabularylaw10_HeadSealed.j2 kj15 a1 a2 y145 t148 true) else (if 148 ≤ (t150.length : Int) then (if 148 ≤ (y145.length : Int) then ((tabularylaw10_same.f kj15 (t150.take 148) (y145.take 148)).bind fun t179 => (if t179 = true then (if 156 ≤ (t150.length : Int) then (if 156 ≤ (y145.length : Int) then ((tabularylaw10_same.f kj15 (t150.drop 156) (y145.drop 156)).bind fun t189 => (tabularylaw10_HeadSealed.j2 kj15 a1 a2 y145 t148 (!t189))) else (none)) else (none)) else (tabularylaw10_HeadSealed.j2 kj15 a1 a2 y145 t148 true))) else (none)) else (none))) else (tabularylaw10_HeadSealed.j2 kj15 a1 a2 y145 t148 true))) else (tabularylaw10_HeadSealed.j2 kj15 a1 a2 y145 t148 true)) else (tabularylaw10_HeadSealed.j2 kj15 a1 a2 y145 t148 true)) else (tabularylaw10_HeadSealed.j2 kj15 a1 a2 y145 t148 true))) = some r := H
          have A26 := Aside0.mk A260
          clear A260
          zzq0
          obtain ⟨⟨t160, t161, t162, t163, t164, t165, t166, t167⟩, A270, H⟩ := H
          replace H : (if t155 = 0 then (if t159 = 0 then (if t148 = t154 then ((tabularylaw10_same.f kj15 t150 t156).bind fun t169 => (if t169 = true then (if t167 = 101 then (tabularylaw10_HeadSealed.j2 kj15 a1 a2 y145 t148 true) else (if 148 ≤ (t150.length : Int) then (if 148 ≤ (y145.length : Int) then ((tabularylaw10_same.f kj15 (t150.take 148) (y145.take 148)).bind fun t179 => (if t179 = true then (if 156 ≤ (t150.length : Int) then (if 156 ≤ (y145.length : Int) then ((tabularylaw10_same.f kj15 (t150.drop 156) (y145.drop 156)).bind fun t189 => (tabularylaw10_HeadSealed.j2 kj15 a1 a2 y145 t148 (!t189))) else (none)) else (none)) else (tabularylaw10_HeadSealed.j2 kj15 a1 a2 y145 t148 true))) else (none)) else (none))) else (tabularylaw10_HeadSealed.j2 kj15 a1 a2 y145 t148 true))) else (tabularylaw10_HeadSealed.j2 kj15 a1 a2 y145 t148 true)) else (tabularylaw10_HeadSealed.j2 kj15 a1 a2 y145 t148 true)) else (tabularylaw10_HeadSealed.j2 kj15 a1 a2 y145 t148 true)) = some r := H
          have A27 := Aside0.mk A270
          clear A270
          have HC28 := Aside0.mk H
          clear H
          obtain ⟨Ao29, co29, eo29⟩ := Kd.V_slice HO_10.out
          subst eo29
          go_upto_region 15 with (first | ((with_reducible refine gate_callee (f := 13) rfl ?_); refine goesL_ (some 59) rfl rfl Try.func13 (by kernel_rfl) rfl #[.slice Ao29 t150.length co29] rfl (by (try simp only [List.map_toArray, List.map_cons, List.map_nil]); first | done | rfl | (simp only [List.length_drop, List.length_take]; rfl)) ?_; (with_reducible refine (head_Sum.calls _ _ t150 t154 t155 _ ?side1 ?side2 A25.out).mono ?_); (case side1 => repeat (first | exact (Kd.V_reads' HO_10.out).2.2 | (with_reducible refine Kd.C_alloc ?_ _) | (with_reducible refine Kd.C_drewN ?_ _) | (with_reducible refine Kd.C_drew ?_))); (case side2 => exact (Kd.V_reads' HO_10.out).2.1); rintro e w30 ⟨rfl, hb⟩; refine ⟨_, rfl, ?_⟩; have n0_ := Aside0.mk (Kd.R_below (by (with_reducible repeat (first | apply Kd.R_alloc | apply Kd.R_drewN | apply Kd.R_drew)); exact HO_7.out) hb); have n1_ := Aside0.mk (Kd.V_below (by (with_reducible repeat (first | apply Kd.V_alloc | apply Kd.V_drewN | apply Kd.V_drew)); exact HO_10.out) hb); have n2_ := Aside0.mk (below_step (by repeat (first | (with_reducible first | exact HB.out | apply below_alloc | apply pw_below_drewN | apply below_drew1) | exact HB.out)) hb); clear HO_7; clear HO_10; clear HB; have HO_7 := n0_; have HO_10 := n1_; have HB := n2_; clear n0_ n1_ n2_; (try clear hb); (try clear hb2); (try clear hk); (try clear hi)) | ((with_reducible refine gate_callee (f := 14) rfl ?_); refine goesL_ (some 64) rfl rfl Try.func14 (by kernel_rfl) rfl #[.slice Ao29 t150.length co29] rfl (by (try simp only [List.map_toArray, List.map_cons, List.map_nil]); first | done | rfl | (simp only [List.length_drop, List.length_take]; rfl)) ?_; (with_reducible refine (head_Seal.calls _ _ t150 t156 t159 _ ?side1 ?side2 A26.out).mono ?_); (case side1 => repeat (first | exact (Kd.V_reads' HO_10.out).2.2 | (with_reducible refine Kd.C_alloc ?_ _) | (with_reducible refine Kd.C_drewN ?_ _) | (with_reducible refine Kd.C_drew ?_))); (case side2 => exact (Kd.V_reads' HO_10.out).2.1); rintro e w31 ⟨v157, rfl, ho0, hb⟩; refine ⟨_, rfl, ?_⟩; have n0_ := Aside0.mk (Kd.R_below (by (with_reducible repeat (first | apply Kd.R_alloc | apply Kd.R_drewN | apply Kd.R_drew)); exact HO_7.out) hb); have n1_ := Aside0.mk (Kd.V_below (by (with_reducible repeat (first | apply Kd.V_alloc | apply Kd.V_drewN | apply Kd.V_drew)); exact HO_10.out) hb); have n2_ := Aside0.mk (Kd.V_lower (Kd.V_mono (ok' := fun k_ => some k_ ≠ (.slice Ao17 y145.length co17 : Value).ownBlock) ho0 (fun k_ hk_ => (Kd.fresh' (Kd.R_lt (by (with_reducible repeat (first | apply Kd.R_alloc | apply Kd.R_drewN | apply Kd.R_drew)); exact HO_7.out)) k_ hk_))) (below_size (by repeat (first | (with_reducible first | exact HB.out | apply below_alloc | apply pw_below_drewN | apply below_drew1) | exact HB.out)))); have n3_ := Aside0.mk (below_step (by repeat (first | (with_reducible first | exact HB.out | apply below_alloc | apply pw_below_drewN | apply below_drew1) | exact HB.out)) hb); clear HO_7; clear HO_10; clear HB; have HO_7 := n0_; have HO_10 := n1_; have HO158 := n2_; have HB := n3_; clear n0_ n1_ n2_ n3_; (try clear hb); (try clear hb2); (try clear hk); (try clear hi); (try clear ho0)) | ((with_reducible refine gate_callee (f := 25) rfl ?_); refine goesL_ (some 69) rfl rfl Try.func25 (by kernel_rfl) rfl #[.slice Ao29 t150.length co29] rfl (by (try simp only [List.map_toArray, List.map_cons, List.map_nil]); first | done | rfl | (simp only [List.length_drop, List.length_take]; rfl)) ?_; (with_reducible refine (head_Get.calls _ _ t150 t160 t161 t162 t163 t164 t165 t166 t167 _ ?side1 ?side2 A27.out).mono ?_); (case side1 => repeat (first | exact (Kd.V_reads' HO_10.out).2.2 | (with_reducible refine Kd.C_alloc ?_ _) | (with_reducible refine Kd.C_drewN ?_ _) | (with_reducible refine Kd.C_drew ?_))); (case side2 => exact (Kd.V_reads' HO_10.out).2.1); rintro e w32 ⟨rfl, hb⟩; refine ⟨_, rfl, ?_⟩; have n0_ := Aside0.mk (Kd.R_below (by (with_reducible repeat (first | apply Kd.R_alloc | apply Kd.R_drewN | apply Kd.R_drew)); exact HO_7.out) hb); have n1_ := Aside0.mk (Kd.V_below (by (with_reducible repeat (first | apply Kd.V_alloc | apply Kd.V_drewN | apply Kd.V_drew)); exact HO_10.out) hb); have n2_ := Aside0.mk (Kd.V_below (by (with_reducible repeat (first | apply Kd.V_alloc | apply Kd.V_drewN | apply Kd.V_drew)); exact HO158.out) hb); have n3_ := Aside0.mk (below_step (by repeat (first | (with_reducible first | exact HB.out | apply below_alloc | apply pw_below_drewN | apply below_drew1) | exact HB.out)) hb); clear HO_7; clear HO_10; clear HO158; clear HB; have HO_7 := n0_; have HO_10 := n1_; have HO158 := n2_; have HB := n3_; clear n0_ n1_ n2_ n3_; (try clear hb); (try clear hb2); (try clear hk); (try clear hi)) | ((with_reducible refine gate_dst (N := 16) rfl ?_); (try (refine gate_guard (by rfl) ?_; dsimp only)); refine box_event ?hg (N := 16) ?hd (cs := #[.string (⟨#[]⟩ : ByteArray), .string (⟨#[]⟩ : ByteArray), .int .i64 0, .int .i64 0, .int .i64 0, .int .u8 0, .string (⟨#[]⟩ : ByteArray)]) (t := 24) ?hr ?_; (case hd => rfl); (case hg => rfl); (case hr => first | (go_simp; done) | (go_simp; rfl)); intro gb168 hg w33 hbox hb; have n0_ := Aside0.mk (Kd.R_below (by (with_reducible repeat (first | apply Kd.R_alloc | apply Kd.R_drewN | apply Kd.R_drew)); exact HO_7.out) hb); have n1_ := Aside0.mk (Kd.V_below (Kd.V_elderB (by (with_reducible repeat (first | apply Kd.V_alloc | apply Kd.V_drewN | apply Kd.V_drew)); exact HO_10.out) gb168 (Nat.le_of_eq hg.symm)) hb); have n2_ := Aside0.mk (Kd.V_below (Kd.V_elderB (by (with_reducible repeat (first | apply Kd.V_alloc | apply Kd.V_drewN | apply Kd.V_drew)); exact HO158.out) gb168 (Nat.le_of_eq hg.symm)) hb); have n3_ := Aside0.mk (below_step (by repeat (first | (with_reducible first | exact HB.out | apply below_alloc | apply pw_below_drewN | apply below_drew1) | exact HB.out)) hb); have n4_ := Aside0.mk (hbox); have n5_ := Aside0.mk ((by rw [hg]; exact (below_size (by repeat (first | (with_reducible first | exact HB.out | apply below_alloc | apply pw_below_drewN | apply below_drew1) | exact HB.out))) : w.heap.size ≤ gb168)); have n6_ := Aside0.mk ((by rw [hg]; exact (below_size (by repeat (first | (with_reducible first | exact HB.out | apply below_alloc | apply pw_below_drewN | apply below_drew1) | exact HB.out))) : w.heap.size ≤ gb168)); clear HO_7; clear HO_10; clear HO158; clear HB; have HO_7 := n0_; have HO_10 := n1_; have HO158 := n2_; have HB := n3_; have BK168 := n4_; have GW168 := n5_; have GE168 := n6_; clear n0_ n1_ n2_ n3_ n4_ n5_ n6_; clear hb hbox hg; have hcz34_0 : w33.cell? ⟨gb168, 0, none⟩ = some (.string (⟨#[]⟩ : ByteArray)) := (blk_cell BK168.out 0).trans rfl; have hcz34_1 : w33.cell? ⟨gb168, 1, none⟩ = some (.string (⟨#[]⟩ : ByteArray)) := (blk_cell BK168.out 1).trans rfl; have hcz34_2 : w33.cell? ⟨gb168, 2, none⟩ = some (.int .i64 0) := (blk_cell BK168.out 2).trans rfl; have hcz34_3 : w33.cell? ⟨gb168, 3, none⟩ = some (.int .i64 0) := (blk_cell BK168.out 3).trans rfl; have hcz34_4 : w33.cell? ⟨gb168, 4, none⟩ = some (.int .i64 0) := (blk_cell BK168.out 4).trans rfl; have hcz34_5 : w33.cell? ⟨gb168, 5, none⟩ = some (.int .u8 0) := (blk_cell BK168.out 5).trans rfl; have hcz34_6 : w33.cell? ⟨gb168, 6, none⟩ = some (.string (⟨#[]⟩ : ByteArray)) := (blk_cell BK168.out 6).trans rfl; have hfz34_0 := blk_frozen BK168.out 0; have hfz34_1 := blk_frozen BK168.out 1; have hfz34_2 := blk_frozen BK168.out 2; have hfz34_3 := blk_frozen BK168.out 3; have hfz34_4 := blk_frozen BK168.out 4; have hfz34_5 := blk_frozen BK168.out 5; have hfz34_6 := blk_frozen BK168.out 6))
          zzq4
          go_cut [108] (fun v108 wc => ∃ (kq : Nat) (x108_27 : Bool), v108 = .bool x108_27 ∧ Aside0 (tabularylaw10_HeadSealed.j2 kq a1 a2 y145 t148 x108_27 = some r) ∧ Aside0 (kq ≤ kj15) ∧ Aside0 (Kd.R (Kd.int .u8) 5 wc w.heap.size (fun _ => True) (.slice Ao17 y145.length co17) y145) ∧ Aside0 (wc.heap[gb168]? = some (.cells #[.string t160, .string t161, .int .i64 t162, .int .i64 t163, .int .i64 t164, .int .u8 t165, .string t166] 24 (0, 0))) ∧ Aside0 (Below w.heap.size w wc))
          case first =>
           have H := HC28.out
           clear HC28
           by_cases c35 : t155 = 0
           ·rw [if_pos c35] at H
            have c35b0 : (t155 == 0) = true := beq_iff_eq.mpr c35
            have c35b1 : (t155 != 0) = false := bne_eq_false_iff_eq.mpr c35
            clear c35
            zzq10
            by_cases c36 : t159 = 0
            ·rw [if_pos c36] at H
             have c36b0 : (t159 == 0) = true := beq_iff_eq.mpr c36
             have c36b1 : (t159 != 0) = false := bne_eq_false_iff_eq.mpr c36
             clear c36
             by_cases c37 : t148 = t154
             ·rw [if_pos c37] at H
              have c37b0 : (t148 == t154) = true := beq_iff_eq.mpr c37
              have c37b1 : (t148 != t154) = false := bne_eq_false_iff_eq.mpr c37
              clear c37
              zzq0
              obtain ⟨t169, A380, H⟩ := H
              replace H : (if t169 = true then (if t167 = 101 then (tabularylaw10_HeadSealed.j2 kj15 a1 a2 y145 t148 true) else (if 148 ≤ (t150.length : Int) then (if 148 ≤ (y145.length : Int) then ((tabularylaw10_same.f kj15 (t150.take 148) (y145.take 148)).bind fun t179 => (if t179 = true then (if 156 ≤ (t150.length : Int) then (if 156 ≤ (y145.length : Int) then ((tabularylaw10_same.f kj15 (t150.drop 156) (y145.drop 156)).bind fun t189 => (tabularylaw10_HeadSealed.j2 kj15 a1 a2 y145 t148 (!t189))) else (none)) else (none)) else (tabularylaw10_HeadSealed.j2 kj15 a1 a2 y145 t148 true))) else (none)) else (none))) else (tabularylaw10_HeadSealed.j2 kj15 a1 a2 y145 t148 true)) = some r := H
              have A38 := Aside0.mk A380
              clear A380
              by_cases c39 : t169 = true
              ·subst c39
               have H1 : (if t167 = 101 then (tabularylaw10_HeadSealed.j2 kj15 a1 a2 y145 t148 true) else (if 148 ≤ (t150.length : Int) then (if 148 ≤ (y145.length : Int) then ((tabularylaw10_same.f kj15 (t150.take 148) (y145.take 148)).bind fun t179 => (if t179 = true then (if 156 ≤ (t150.length : Int) then (if 156 ≤ (y145.length : Int) then ((tabularylaw10_same.f kj15 (t150.drop 156) (y145.drop 156)).bind fun t189 => (tabularylaw10_HeadSealed.j2 kj15 a1 a2 y145 t148 (!t189))) else (none)) else (none)) else (tabularylaw10_HeadSealed.j2 kj15 a1 a2 y145 t148 true))) else (none)) else (none))) = some r := by rw [if_pos rfl] at H; exact H
               clear H
               zzq1
               clear H1
               by_cases c40 : t167 = 101
               ·rw [if_pos c40] at H
                have c40b0 : (t167 == 101) = true := beq_iff_eq.mpr c40
                have c40b1 : (t167 != 101) = false := bne_eq_false_iff_eq.mpr c40
                clear c40
                zzq2
                clear H
                try go_wp2
                zzq11
                zzq12
                zzq13
                zzq14
                zzq15
                zzq16
                zzq17
                zzq18
                zzq19
                (try clear HB)
                generalize (((((((w33.setCell ⟨gb168, 0, none⟩ (.string t160)).setCell ⟨gb168, 1, none⟩ (.string t161)).setCell ⟨gb168, 2, none⟩ (.int .i64 t162)).setCell ⟨gb168, 3, none⟩ (.int .i64 t163)).setCell ⟨gb168, 4, none⟩ (.int .i64 t164)).setCell ⟨gb168, 5, none⟩ (.int .u8 t165)).setCell ⟨gb168, 6, none⟩ (.string t166)) = w41 at n0_ n1_ n2_ n3_ n4_ ⊢
                zzq20
                zzq21
                zzq22
                zzq23
                zzq24
                zzq25
                zzq26
                zzq27
                zzq28
                zzq29
                zzq30
                zzq31
                clear HO_10
                clear HO158
                zzq32
                clear HB
                zzq20
                zzq21
                zzq22
                zzq23
                zzq24
                zzq25
                obtain ⟨Ao43, co43, eo43⟩ := Kd.V_slice HO158.out
                (first | subst eo43 | (injection eo43 with f1_ f2_ f3_; have f4_ := f1_.symm; have f5_ := f3_.symm; clear f1_ f2_ f3_; subst f4_; subst f5_))
                zzq33
                generalize w41.drew = w42 at HO_7 HO_10 HO158 BK168 HB hHeld ⊢
                zzq34
                rotate_left
                ·zzq35
                 zzq36
                 zzq37
                rotate_left
                ·zzq38
                 rfl
                zzq39
                rotate_left
                ·zzq35
                 zzq36
                 zzq37
                rotate_left
                ·zzq38
                 rfl
                zzq40
                rotate_left
                ·zzq35
                 zzq36
                 zzq37
                rotate_left
                ·zzq38
                 rfl
                zzq41
                rotate_left
                ·zzq35
                 zzq36
                 zzq37
                rotate_left
                ·zzq38
                 rfl
                zzq42
                rotate_left
                ·zzq35
                 zzq36
                 zzq37
                rotate_left
                ·zzq38
                 rfl
                zzq43
                rotate_left
                ·zzq35
                 zzq36
                 zzq37
                rotate_left
                ·zzq38
                 rfl
                zzq44
                rotate_left
                ·zzq35
                 zzq36
                 zzq37
                rotate_left
                ·zzq38
                 rfl
                zzq45
                rotate_left
                ·zzq35
                 zzq36
                 zzq37
                rotate_left
                ·zzq38
                 rfl
                zzq46
                rotate_left
                ·zzq35
                 zzq36
                 zzq37
                rotate_left
                ·zzq38
                 rfl
                zzq47
                rotate_left
                ·zzq35
                 zzq36
                 zzq37
                rotate_left
                ·zzq38
                 rfl
                zzq48
                rotate_left
                ·zzq35
                 zzq36
                 zzq37
                rotate_left
                ·zzq38
                 rfl
                zzq49
                rotate_left
                ·zzq35
                 zzq36
                 zzq37
                rotate_left
                ·zzq38
                 rfl
                zzq50
                rotate_left
                ·zzq35
                 zzq36
                 zzq37
                rotate_left
                ·zzq38
                 rfl
                zzq51
                rotate_left
                ·zzq35
                 zzq36
                 zzq37
                rotate_left
                ·zzq38
                 rfl
                zzq52
                refine goes_ Try.func19 (by kernel_rfl) rfl #[.slice Ao29 t150.length co29, .slice Ao43 t156.length co43] (by rfl) rfl rfl (by (try simp only [List.map_toArray, List.map_cons, List.map_nil]); first | done | rfl | (simp only [List.length_drop, List.length_take]; rfl)) ?_
                zzq53
                zzq54
                zzq55
                zzq56
                zzq57
                zzq58
                zzq59
                zzq60
                zzq61
                zzq62
                rotate_left
                ·show Act.put _ (some 86) _ = _
                 zzq38
                 rfl
                zzq63
                rotate_left
                ·zzq35
                 zzq36
                 zzq37
                rotate_left
                ·zzq38
                 rfl
                zzq64
                rotate_left
                ·zzq35
                 zzq36
                 zzq37
                rotate_left
                ·zzq38
                 rfl
                zzq65
                rotate_left
                ·zzq35
                 zzq36
                 zzq37
                rotate_left
                ·zzq38
                 rfl
                zzq66
                rotate_left
                ·zzq35
                 zzq36
                 zzq37
                rotate_left
                ·zzq38
                 rfl
                zzq67
                rotate_left
                ·zzq35
                 zzq36
                 zzq37
                rotate_left
                ·zzq38
                 rfl
                zzq68
                rotate_left
                ·zzq35
                 zzq36
                 zzq37
                rotate_left
                ·zzq38
                 rfl
                zzq69
                rotate_left
                ·zzq35
                 zzq36
                 zzq37
                rotate_left
                ·zzq38
                 rfl
                zzq70
                rotate_left
                ·zzq38
                 rfl
                zzq71
                rotate_left
                ·zzq38
                 rfl
                zzq72
                rotate_left
                ·zzq38
                 rfl
                zzq73
                rotate_left
                ·zzq38
                 rfl
                zzq74
                rotate_left
                ·zzq38
                 rfl
                zzq75
                rotate_left
                ·zzq38
                 rfl
                zzq76
                rotate_left
                ·zzq35
                 zzq36
                 zzq37
                rotate_left
                ·zzq38
                 rfl
                zzq77
                rotate_left
                ·zzq35
                 zzq36
                 zzq37
                rotate_left
                ·zzq38
                 rfl
                zzq78
                rotate_left
                ·zzq38
                 rfl
                zzq79
                rotate_left
                ·zzq38
                 rfl
                zzq80
                rotate_left
                ·zzq38
                 rfl
                zzq81
                rotate_left
                ·zzq38
                 rfl
                zzq82
                rotate_left
                ·zzq38
                 rfl
                zzq83
                rotate_left
                ·zzq38
                 rfl
                zzq84
                rotate_left
                ·zzq35
                 zzq36
                 zzq37
                rotate_left
                ·zzq38
                 rfl
                zzq85
                try go_wp2
                go_meet
                zzq86
               ·rw [if_neg c40] at H
                have c40b0 : (t167 == 101) = false := beq_eq_false_iff_ne.mpr c40
                have c40b1 : (t167 != 101) = true := bne_iff_ne.mpr c40
                by_cases c44 : 148 ≤ (t150.length : Int)
                ·rw [if_pos c44] at H
                 have c44b0 := eq_true c44
                 have c44b1 : decide (148 ≤ (t150.length : Int)) = true := decide_eq_true c44
                 clear c44
                 obtain ⟨y170, hy170⟩ : ∃ y_ : List Int, y_ = (t150.take 148) := ⟨_, rfl⟩
                 replace H : (if 148 ≤ (y145.length : Int) then ((tabularylaw10_same.f kj15 y170 (y145.take 148)).bind fun t179 => (if t179 = true then (if 156 ≤ (t150.length : Int) then (if 156 ≤ (y145.length : Int) then ((tabularylaw10_same.f kj15 (t150.drop 156) (y145.drop 156)).bind fun t189 => (tabularylaw10_HeadSealed.j2 kj15 a1 a2 y145 t148 (!t189))) else (none)) else (none)) else (tabularylaw10_HeadSealed.j2 kj15 a1 a2 y145 t148 true))) else (none)) = some r := by first | (rw [hy170]; with_reducible exact H) | (have H2_ := (Option.bind_some _ _).symm.trans H; rw [hy170]; with_reducible exact H2_) | (have H2_ := (Option.bind_some _ _).symm.trans H; with_reducible exact H2_) | with_reducible exact H | (rw [hy170]; exact H) | exact H
                 have Ny170 := Aside0.mk hy170
                 clear hy170
                 by_cases c45 : 148 ≤ (y145.length : Int)
                 ·rw [if_pos c45] at H
                  have c45b0 := eq_true c45
                  have c45b1 : decide (148 ≤ (y145.length : Int)) = true := decide_eq_true c45
                  clear c45
                  obtain ⟨y175, hy175⟩ : ∃ y_ : List Int, y_ = (y145.take 148) := ⟨_, rfl⟩
                  replace H : ((tabularylaw10_same.f kj15 y170 y175).bind fun t179 => (if t179 = true then (if 156 ≤ (t150.length : Int) then (if 156 ≤ (y145.length : Int) then ((tabularylaw10_same.f kj15 (t150.drop 156) (y145.drop 156)).bind fun t189 => (tabularylaw10_HeadSealed.j2 kj15 a1 a2 y145 t148 (!t189))) else (none)) else (none)) else (tabularylaw10_HeadSealed.j2 kj15 a1 a2 y145 t148 true))) = some r := by first | (rw [hy175]; with_reducible exact H) | (have H2_ := (Option.bind_some _ _).symm.trans H; rw [hy175]; with_reducible exact H2_) | (have H2_ := (Option.bind_some _ _).symm.trans H; with_reducible exact H2_) | with_reducible exact H | (rw [hy175]; exact H) | exact H
                  have Ny175 := Aside0.mk hy175
                  clear hy175
                  zzq0
                  obtain ⟨t179, A460, H⟩ := H
                  replace H : (if t179 = true then (if 156 ≤ (t150.length : Int) then (if 156 ≤ (y145.length : Int) then ((tabularylaw10_same.f kj15 (t150.drop 156) (y145.drop 156)).bind fun t189 => (tabularylaw10_HeadSealed.j2 kj15 a1 a2 y145 t148 (!t189))) else (none)) else (none)) else (tabularylaw10_HeadSealed.j2 kj15 a1 a2 y145 t148 true)) = some r := H
                  have A46 := Aside0.mk A460
                  clear A460
                  by_cases c47 : t179 = true
                  ·subst c47
                   have H1 : (if 156 ≤ (t150.length : Int) then (if 156 ≤ (y145.length : Int) then ((tabularylaw10_same.f kj15 (t150.drop 156) (y145.drop 156)).bind fun t189 => (tabularylaw10_HeadSealed.j2 kj15 a1 a2 y145 t148 (!t189))) else (none)) else (none)) = some r := by rw [if_pos rfl] at H; exact H
                   clear H
                   zzq1
                   clear H1
                   by_cases c48 : 156 ≤ (t150.length : Int)
                   ·rw [if_pos c48] at H
                    have c48b0 := eq_true c48
                    have c48b1 : decide (156 ≤ (t150.length : Int)) = true := decide_eq_true c48
                    clear c48
                    obtain ⟨y180, hy180⟩ : ∃ y_ : List Int, y_ = (t150.drop 156) := ⟨_, rfl⟩
                    replace H : (if 156 ≤ (y145.length : Int) then ((tabularylaw10_same.f kj15 y180 (y145.drop 156)).bind fun t189 => (tabularylaw10_HeadSealed.j2 kj15 a1 a2 y145 t148 (!t189))) else (none)) = some r := by first | (rw [hy180]; with_reducible exact H) | (have H2_ := (Option.bind_some _ _).symm.trans H; rw [hy180]; with_reducible exact H2_) | (have H2_ := (Option.bind_some _ _).symm.trans H; with_reducible exact H2_) | with_reducible exact H | (rw [hy180]; exact H) | exact H
                    have Ny180 := Aside0.mk hy180
                    clear hy180
                    by_cases c49 : 156 ≤ (y145.length : Int)
                    ·rw [if_pos c49] at H
                     have c49b0 := eq_true c49
                     have c49b1 : decide (156 ≤ (y145.length : Int)) = true := decide_eq_true c49
                     clear c49
                     obtain ⟨y185, hy185⟩ : ∃ y_ : List Int, y_ = (y145.drop 156) := ⟨_, rfl⟩
                     replace H : ((tabularylaw10_same.f kj15 y180 y185).bind fun t189 => (tabularylaw10_HeadSealed.j2 kj15 a1 a2 y145 t148 (!t189))) = some r := by first | (rw [hy185]; with_reducible exact H) | (have H2_ := (Option.bind_some _ _).symm.trans H; rw [hy185]; with_reducible exact H2_) | (have H2_ := (Option.bind_some _ _).symm.trans H; with_reducible exact H2_) | with_reducible exact H | (rw [hy185]; exact H) | exact H
                     have Ny185 := Aside0.mk hy185
                     clear hy185
                     zzq0
                     obtain ⟨t189, A500, H⟩ := H
                     replace H : (tabularylaw10_HeadSealed.j2 kj15 a1 a2 y145 t148 (!t189)) = some r := H
                     have A50 := Aside0.mk A500
                     clear A500
                     zzq2
                     clear H
                     try go_wp2
                     zzq11
                     zzq12
                     zzq13
                     zzq14
                     zzq15
                     zzq16
                     zzq17
                     zzq18
                     zzq19
                     (try clear HB)
                     generalize (((((((w33.setCell ⟨gb168, 0, none⟩ (.string t160)).setCell ⟨gb168, 1, none⟩ (.string t161)).setCell ⟨gb168, 2, none⟩ (.int .i64 t162)).setCell ⟨gb168, 3, none⟩ (.int .i64 t163)).setCell ⟨gb168, 4, none⟩ (.int .i64 t164)).setCell ⟨gb168, 5, none⟩ (.int .u8 t165)).setCell ⟨gb168, 6, none⟩ (.string t166)) = w51 at n0_ n1_ n2_ n3_ n4_ ⊢
                     zzq20
                     zzq21
                     zzq22
                     zzq23
                     zzq24
                     zzq25
                     zzq26
                     zzq27
                     zzq28
                     zzq29
                     zzq30
                     zzq31
                     clear HO_10
                     clear HO158
                     zzq32
                     clear HB
                     zzq20
                     zzq21
                     zzq22
                     zzq23
                     zzq24
                     zzq25
                     obtain ⟨Ao53, co53, eo53⟩ := Kd.V_slice HO158.out
                     (first | subst eo53 | (injection eo53 with f1_ f2_ f3_; have f4_ := f1_.symm; have f5_ := f3_.symm; clear f1_ f2_ f3_; subst f4_; subst f5_))
                     zzq33
                     generalize w51.drew = w52 at HO_7 HO_10 HO158 BK168 HB hHeld ⊢
                     zzq34
                     rotate_left
                     ·zzq35
                      zzq36
                      zzq37
                     rotate_left
                     ·zzq38
                      rfl
                     zzq39
                     rotate_left
                     ·zzq35
                      zzq36
                      zzq37
                     rotate_left
                     ·zzq38
                      rfl
                     zzq40
                     rotate_left
                     ·zzq35
                      zzq36
                      zzq37
                     rotate_left
                     ·zzq38
                      rfl
                     zzq41
                     rotate_left
                     ·zzq35
                      zzq36
                      zzq37
                     rotate_left
                     ·zzq38
                      rfl
                     zzq42
                     rotate_left
                     ·zzq35
                      zzq36
                      zzq37
                     rotate_left
                     ·zzq38
                      rfl
                     zzq43
                     rotate_left
                     ·zzq35
                      zzq36
                      zzq37
                     rotate_left
                     ·zzq38
                      rfl
                     zzq44
                     rotate_left
                     ·zzq35
                      zzq36
                      zzq37
                     rotate_left
                     ·zzq38
                      rfl
                     zzq45
                     rotate_left
                     ·zzq35
                      zzq36
                      zzq37
                     rotate_left
                     ·zzq38
                      rfl
                     zzq46
                     rotate_left
                     ·zzq35
                      zzq36
                      zzq37
                     rotate_left
                     ·zzq38
                      rfl
                     zzq47
                     rotate_left
                     ·zzq35
                      zzq36
                      zzq37
                     rotate_left
                     ·zzq38
                      rfl
                     zzq48
                     rotate_left
                     ·zzq35
                      zzq36
                      zzq37
                     rotate_left
                     ·zzq38
                      rfl
                     zzq49
                     rotate_left
                     ·zzq35
                      zzq36
                      zzq37
                     rotate_left
                     ·zzq38
                      rfl
                     zzq50
                     rotate_left
                     ·zzq35
                      zzq36
                      zzq37
                     rotate_left
                     ·zzq38
                      rfl
                     zzq51
                     rotate_left
                     ·zzq35
                      zzq36
                      zzq37
                     rotate_left
                     ·zzq38
                      rfl
                     zzq52
                     refine goes_ Try.func19 (by kernel_rfl) rfl #[.slice Ao29 t150.length co29, .slice Ao53 t156.length co53] (by rfl) rfl rfl (by (try simp only [List.map_toArray, List.map_cons, List.map_nil]); first | done | rfl | (simp only [List.length_drop, List.length_take]; rfl)) ?_
                     zzq53
                     zzq54
                     zzq55
                     zzq56
                     zzq57
                     zzq58
                     zzq59
                     have q54 : (148 : Int) ≤ ((t150.length : Int) : Int) := of_decide_eq_true (by first | (with_reducible assumption) | assumption)
                     obtain ⟨i054, hi054, _, hsz54, _⟩ := info_parts info5
                     have hroom54 : t150.length ≤ co29 := (Kd.V_reads' HO_10.out).2.1
                     have hC54 : Kd.F (Kd.int .u8) _ _ Ao29 t150.length t150 := (Kd.V_at (base := w.heap.size) HO_10.out).2.2
                     have hcut54 := cut_to (P := Try.prog) 22 5 .i64 Try.underlying22 hi054 Ao29 t150.length co29 148 (by omega) q54 hroom54
                     have hr54 := Kd.F_take (m := 148) hC54 (by omega)
                     have hy54 : y170.length = (148 : Int).toNat := (by rw [Ny170.out, List.length_take]; omega)
                     rw [← Ny170.out] at hr54
                     rw [← hy54] at hcut54
                     have HO174 := Aside0.mk (show Kd.V (Kd.int .u8) 5 _ w.heap.size _ (.slice Ao29 y170.length co29) y170 from Kd.V_mk (by omega) hr54)
                     zzq87
                     clear hr54 hC54 hroom54 hi054 hsz54
                     have KY54 := Aside0.mk hy54
                     clear hy54
                     replace q54 := eq_true q54
                     have q55 : (148 : Int) ≤ ((y145.length : Int) : Int) := of_decide_eq_true (by first | (with_reducible assumption) | assumption)
                     obtain ⟨i055, hi055, _, hsz55, _⟩ := info_parts info5
                     have hroom55 : y145.length ≤ co17 := (Kd.R_reads' HO_7.out).2.1
                     have hC55 : Kd.C (Kd.int .u8) _ Ao17 y145.length y145 := (Kd.R_reads' HO_7.out).2.2
                     have hcut55 := cut_to (P := Try.prog) 22 5 .i64 Try.underlying22 hi055 Ao17 y145.length co17 148 (by omega) q55 hroom55
                     have hr55 := Kd.C_take (m := 148) hC55 (by omega)
                     have hy55 : y175.length = (148 : Int).toNat := (by rw [Ny175.out, List.length_take]; omega)
                     rw [← Ny175.out] at hr55
                     rw [← hy55] at hcut55
                     have HR178 := Aside0.mk hr55
                     zzq88
                     clear hr55 hC55 hroom55 hi055 hsz55
                     have KY55 := Aside0.mk hy55
                     clear hy55
                     have KL55 := Aside0.mk (show 148 ≤ y145.length from by omega)
                     replace q55 := eq_true q55
                     zzq60
                     zzq61
                     zzq62
                     rotate_left
                     ·show Act.put _ (some 86) _ = _
                      zzq38
                      rfl
                     zzq63
                     rotate_left
                     ·zzq35
                      zzq36
                      zzq37
                     rotate_left
                     ·zzq38
                      rfl
                     zzq64
                     rotate_left
                     ·zzq35
                      zzq36
                      zzq37
                     rotate_left
                     ·zzq38
                      rfl
                     zzq65
                     rotate_left
                     ·zzq35
                      zzq36
                      zzq37
                     rotate_left
                     ·zzq38
                      rfl
                     zzq66
                     rotate_left
                     ·zzq35
                      zzq36
                      zzq37
                     rotate_left
                     ·zzq38
                      rfl
                     zzq67
                     rotate_left
                     ·zzq35
                      zzq36
                      zzq37
                     rotate_left
                     ·zzq38
                      rfl
                     zzq68
                     rotate_left
                     ·zzq35
                      zzq36
                      zzq37
                     rotate_left
                     ·zzq38
                      rfl
                     zzq69
                     rotate_left
                     ·zzq35
                      zzq36
                      zzq37
                     rotate_left
                     ·zzq38
                      rfl
                     zzq89
                     rotate_left
                     ·zzq35
                      zzq36
                      zzq37
                     rotate_left
                     ·zzq38
                      rfl
                     zzq90
                     rotate_left
                     ·zzq35
                      zzq36
                      zzq37
                     rotate_left
                     ·zzq38
                      rfl
                     zzq91
                     rotate_left
                     ·zzq35
                      zzq36
                      zzq37
                     rotate_left
                     ·zzq38
                      rfl
                     zzq92
                     rotate_left
                     ·zzq35
                      zzq36
                      zzq37
                     rotate_left
                     ·zzq38
                      rfl
                     zzq93
                     zzq94
                     with_reducible refine (tabularylaw10_same.calls kj15 _ _ y170 _ _ y175 true _ ?side1 ?side2 ?side3 ?side4 A46.out).mono ?_
                     zzq95
                     (case side2 => exact (Kd.V_reads' HO174.out).2.1)
                     zzq96
                     (case side4 => exact HC178.out)
                     zzq58
                     zzq59
                     have q56 : (156 : Int) ≤ ((t150.length : Int) : Int) := of_decide_eq_true (by first | (with_reducible assumption) | assumption)
                     obtain ⟨i056, hi056, _, hsz56, _⟩ := info_parts info5
                     have hroom56 : t150.length ≤ co29 := (Kd.V_reads' HO_10.out).2.1
                     have hC56 : Kd.F (Kd.int .u8) _ _ Ao29 t150.length t150 := (Kd.V_at (base := w.heap.size) HO_10.out).2.2
                     have hcut56 := cut_from (P := Try.prog) 22 5 .i64 Try.underlying22 hi056 1 hsz56 Ao29 t150.length co29 156 (by omega) q56
                     have hr56 := Kd.F_cut (m := (156 : Int).toNat) (c := co29) hC56 (by omega) hroom56
                     obtain ⟨A56, hA56⟩ : ∃ A1, A1 = (if co29 = (156 : Int).toNat then Ao29 else (Ao29 : Option Addr).map (·.add ((156 : Int).toNat * 1))) := ⟨_, rfl⟩
                     obtain ⟨c56, hc56⟩ : ∃ c1, c1 = co29 - (156 : Int).toNat := ⟨_, rfl⟩
                     have hy56 : y180.length = t150.length - (156 : Int).toNat := (by rw [Ny180.out, List.length_drop] <;> omega)
                     rw [show (t150).drop (156 : Int).toNat = y180 from Ny180.out.symm] at hr56
                     replace hr56 : Kd.F (Kd.int .u8) _ _ A56 y180.length y180 := (by rw [hA56]; exact hr56)
                     rw [← hy56, ← hA56, ← hc56] at hcut56
                     have HO184 := Aside0.mk (show Kd.V (Kd.int .u8) 5 _ w.heap.size _ (.slice A56 y180.length c56) y180 from Kd.V_mk (by rw [hy56, hc56]; exact Nat.sub_le_sub_right hroom56 _) hr56)
                     have HC184 := Aside0.mk (show y180.length ≤ c56 from by rw [hy56, hc56]; exact Nat.sub_le_sub_right hroom56 _)
                     clear hr56 hC56 hroom56 hi056 hsz56 hc56
                     have KY56 := Aside0.mk hy56
                     have KA56 := Aside0.mk hA56
                     clear hy56 hA56
                     replace q56 := eq_true q56
                     have q57 : (156 : Int) ≤ ((y145.length : Int) : Int) := of_decide_eq_true (by first | (with_reducible assumption) | assumption)
                     obtain ⟨i057, hi057, _, hsz57, _⟩ := info_parts info5
                     have hroom57 : y145.length ≤ co17 := (Kd.R_reads' HO_7.out).2.1
                     have hC57 : Kd.C (Kd.int .u8) _ Ao17 y145.length y145 := (Kd.R_reads' HO_7.out).2.2
                     have hcut57 := cut_from (P := Try.prog) 22 5 .i64 Try.underlying22 hi057 1 hsz57 Ao17 y145.length co17 156 (by omega) q57
                     have hr57 := Kd.C_drop (m := (156 : Int).toNat) (c := co17) hC57 (by omega) hroom57
                     obtain ⟨A57, hA57⟩ : ∃ A1, A1 = (if co17 = (156 : Int).toNat then Ao17 else (Ao17 : Option Addr).map (·.add ((156 : Int).toNat * 1))) := ⟨_, rfl⟩
                     obtain ⟨c57, hc57⟩ : ∃ c1, c1 = co17 - (156 : Int).toNat := ⟨_, rfl⟩
                     have hy57 : y185.length = y145.length - (156 : Int).toNat := (by rw [Ny185.out, List.length_drop] <;> omega)
                     rw [show (y145).drop (156 : Int).toNat = y185 from Ny185.out.symm] at hr57
                     replace hr57 : Kd.C (Kd.int .u8) _ A57 y185.length y185 := (by rw [hA57]; exact hr57)
                     rw [← hy57, ← hA57, ← hc57] at hcut57
                     have HR188 := Aside0.mk hr57
                     have HC188 := Aside0.mk (show y185.length ≤ c57 from by rw [hy57, hc57]; exact Nat.sub_le_sub_right hroom57 _)
                     clear hr57 hC57 hroom57 hi057 hsz57 hc57
                     have KY57 := Aside0.mk hy57
                     have KA57 := Aside0.mk hA57
                     clear hy57 hA57
                     have KL57 := Aside0.mk (show 156 ≤ y145.length from by omega)
                     replace q57 := eq_true q57
                     zzq60
                     zzq61
                     zzq62
                     rotate_left
                     ·show Act.put _ (some 98) _ = _
                      zzq38
                      rfl
                     zzq97
                     rotate_left
                     ·zzq35
                      zzq36
                      zzq37
                     rotate_left
                     ·zzq38
                      rfl
                     zzq76
                     rotate_left
                     ·zzq35
                      zzq36
                      zzq37
                     rotate_left
                     ·zzq38
                      rfl
                     zzq77
                     rotate_left
                     ·zzq35
                      zzq36
                      zzq37
                     rotate_left
                     ·zzq38
                      rfl
                     refine pure_ (i := 30) (N := some 102) (v := ?_) (a' := ?_) #[true, true, true, true, true, true, true, true, true, true, true, true, true, true, true, true, true, true, true, true, true, true, true, true, true, true, true, true, true, true, true, false, false, false, false, false, false] rfl rfl (any_of HT_.out (by kernel_rfl)) (fun _ _ _ h => h) (Or.inl ⟨by rfl, ?_⟩) ?_ ?_
                     rotate_left
                     ·zzq35
                      zzq36
                      zzq37
                     rotate_left
                     ·zzq38
                      rfl
                     refine pure_ (i := 31) (N := some 103) (v := ?_) (a' := ?_) #[true, true, true, true, true, true, true, true, true, true, true, true, true, true, true, true, true, true, true, true, true, true, true, true, true, true, true, true, true, true, true, true, false, false, false, false, false] rfl rfl (any_of HT_.out (by kernel_rfl)) (fun _ _ _ h => h) (Or.inl ⟨by rfl, ?_⟩) ?_ ?_
                     rotate_left
                     ·zzq35
                      zzq36
                      zzq37
                     rotate_left
                     ·zzq38
                      rfl
                     refine pure_ (i := 32) (N := some 104) (v := ?_) (a' := ?_) #[true, true, true, true, true, true, true, true, true, true, true, true, true, true, true, true, true, true, true, true, true, true, true, true, true, true, true, true, true, true, true, true, true, false, false, false, false] rfl rfl (any_of HT_.out (by kernel_rfl)) (fun _ _ _ h => h) (Or.inl ⟨by rfl, ?_⟩) ?_ ?_
                     rotate_left
                     ·zzq35
                      zzq36
                      zzq37
                     rotate_left
                     ·zzq38
                      rfl
                     refine pure_ (i := 33) (N := some 105) (v := ?_) (a' := ?_) #[true, true, true, true, true, true, true, true, true, true, true, true, true, true, true, true, true, true, true, true, true, true, true, true, true, true, true, true, true, true, true, true, true, true, false, false, false] rfl rfl (any_of HT_.out (by kernel_rfl)) (fun _ _ _ h => h) (Or.inl ⟨by rfl, ?_⟩) ?_ ?_
                     rotate_left
                     ·zzq35
                      zzq36
                      zzq37
                     rotate_left
                     ·zzq38
                      rfl
                     refine one_ (i := 34) (N := some 106) #[true, true, true, true, true, true, true, true, true, true, true, true, true, true, true, true, true, true, true, true, true, true, true, true, true, true, true, true, true, true, true, true, true, true, true, false, false] rfl rfl (one_of HT_.out (by kernel_rfl)) (by decide) (fun K hK => ?_)
                     refine goes_ Try.func19 (by kernel_rfl) rfl #[.slice A56 y180.length c56, .slice A57 y185.length c57] (by rfl) rfl rfl (by (try simp only [List.map_toArray, List.map_cons, List.map_nil]); first | done | rfl | (simp only [List.length_drop, List.length_take]; rfl)) ?_
                     with_reducible refine (tabularylaw10_same.calls kj15 _ _ y180 _ _ y185 t189 _ ?side1 ?side2 ?side3 ?side4 A50.out).mono ?_
                     (case side1 => repeat (first | exact (Kd.V_reads' HO184.out).2.2 | (with_reducible refine Kd.C_alloc ?_ _) | (with_reducible refine Kd.C_drewN ?_ _) | (with_reducible refine Kd.C_drew ?_)))
                     (case side2 => exact (Kd.V_reads' HO184.out).2.1)
                     (case side3 => repeat (first | exact (by repeat (first | (with_reducible exact HR188.out) | (with_reducible refine Kd.C_alloc ?_ _) | (with_reducible refine Kd.C_drewN ?_ _) | (with_reducible refine Kd.C_drew ?_) | exact HR188.out)) | (with_reducible refine Kd.C_alloc ?_ _) | (with_reducible refine Kd.C_drewN ?_ _) | (with_reducible refine Kd.C_drew ?_)))
                     (case side4 => exact HC188.out)
                     zzq58
                     zzq59
                     zzq60
                     zzq61
                     zzq62
                     rotate_left
                     ·show Act.put _ (some 106) _ = _
                      zzq38
                      rfl
                     refine pure_ (i := 35) (N := some 107) (v := ?_) (a' := ?_) #[true, true, true, true, true, true, true, true, true, true, true, true, true, true, true, true, true, true, true, true, true, true, true, true, true, true, true, true, true, true, true, true, true, true, true, true, false] rfl rfl (any_of HT_.out (by kernel_rfl)) (fun _ _ _ h => h) (Or.inl ⟨by rfl, ?_⟩) ?_ ?_
                     rotate_left
                     ·zzq35
                      zzq36
                      zzq37
                     rotate_left
                     ·zzq38
                      rfl
                     zzq84
                     rotate_left
                     ·zzq35
                      zzq36
                      zzq37
                     rotate_left
                     ·zzq38
                      rfl
                     zzq85
                     try go_wp2
                     go_meet
                     case rel => exact ⟨_, (!t189), (by first | rfl | (simp; done) | (simp [*]; done)), H', ⟨by have := HK1.out; have := HJ15.out; first | omega | exact Nat.le_refl _⟩, ⟨by (with_reducible repeat (first | apply Kd.R_alloc | apply Kd.R_drewN | apply Kd.R_drew)); exact HO_7.out⟩, ⟨by (with_reducible repeat (first | refine blk_drewN ?_ _ | refine blk_drew ?_ | refine blk_alloc ?_ _)); exact BK168.out⟩, ⟨by repeat (first | (with_reducible first | exact HB.out | apply below_alloc | apply pw_below_drewN | apply below_drew1 | refine below_set ?_ GE168.out) | exact HB.out)⟩⟩
                    ·rw [if_neg c49] at H
                     zzq3
                   ·rw [if_neg c48] at H
                    zzq3
                  ·replace c47 := Bool.eq_false_iff.mpr c47
                   subst c47
                   zzq98
                   clear H
                   zzq1
                   clear H1
                   zzq2
                   clear H
                   try go_wp2
                   zzq11
                   zzq12
                   zzq13
                   zzq14
                   zzq15
                   zzq16
                   zzq17
                   zzq18
                   zzq19
                   (try clear HB)
                   generalize (((((((w33.setCell ⟨gb168, 0, none⟩ (.string t160)).setCell ⟨gb168, 1, none⟩ (.string t161)).setCell ⟨gb168, 2, none⟩ (.int .i64 t162)).setCell ⟨gb168, 3, none⟩ (.int .i64 t163)).setCell ⟨gb168, 4, none⟩ (.int .i64 t164)).setCell ⟨gb168, 5, none⟩ (.int .u8 t165)).setCell ⟨gb168, 6, none⟩ (.string t166)) = w58 at n0_ n1_ n2_ n3_ n4_ ⊢
                   zzq20
                   zzq21
                   zzq22
                   zzq23
                   zzq24
                   zzq25
                   zzq26
                   zzq27
                   zzq28
                   zzq29
                   zzq30
                   zzq31
                   clear HO_10
                   clear HO158
                   zzq32
                   clear HB
                   zzq20
                   zzq21
                   zzq22
                   zzq23
                   zzq24
                   zzq25
                   obtain ⟨Ao60, co60, eo60⟩ := Kd.V_slice HO158.out
                   (first | subst eo60 | (injection eo60 with f1_ f2_ f3_; have f4_ := f1_.symm; have f5_ := f3_.symm; clear f1_ f2_ f3_; subst f4_; subst f5_))
                   zzq33
                   generalize w58.drew = w59 at HO_7 HO_10 HO158 BK168 HB hHeld ⊢
                   zzq34
                   rotate_left
                   ·zzq35
                    zzq36
                    zzq37
                   rotate_left
                   ·zzq38
                    rfl
                   zzq39
                   rotate_left
                   ·zzq35
                    zzq36
                    zzq37
                   rotate_left
                   ·zzq38
                    rfl
                   zzq40
                   rotate_left
                   ·zzq35
                    zzq36
                    zzq37
                   rotate_left
                   ·zzq38
                    rfl
                   zzq41
                   rotate_left
                   ·zzq35
                    zzq36
                    zzq37
                   rotate_left
                   ·zzq38
                    rfl
                   zzq42
                   rotate_left
                   ·zzq35
                    zzq36
                    zzq37
                   rotate_left
                   ·zzq38
                    rfl
                   zzq43
                   rotate_left
                   ·zzq35
                    zzq36
                    zzq37
                   rotate_left
                   ·zzq38
                    rfl
                   zzq44
                   rotate_left
                   ·zzq35
                    zzq36
                    zzq37
                   rotate_left
                   ·zzq38
                    rfl
                   zzq45
                   rotate_left
                   ·zzq35
                    zzq36
                    zzq37
                   rotate_left
                   ·zzq38
                    rfl
                   zzq46
                   rotate_left
                   ·zzq35
                    zzq36
                    zzq37
                   rotate_left
                   ·zzq38
                    rfl
                   zzq47
                   rotate_left
                   ·zzq35
                    zzq36
                    zzq37
                   rotate_left
                   ·zzq38
                    rfl
                   zzq48
                   rotate_left
                   ·zzq35
                    zzq36
                    zzq37
                   rotate_left
                   ·zzq38
                    rfl
                   zzq49
                   rotate_left
                   ·zzq35
                    zzq36
                    zzq37
                   rotate_left
                   ·zzq38
                    rfl
                   zzq50
                   rotate_left
                   ·zzq35
                    zzq36
                    zzq37
                   rotate_left
                   ·zzq38
                    rfl
                   zzq51
                   rotate_left
                   ·zzq35
                    zzq36
                    zzq37
                   rotate_left
                   ·zzq38
                    rfl
                   zzq52
                   refine goes_ Try.func19 (by kernel_rfl) rfl #[.slice Ao29 t150.length co29, .slice Ao60 t156.length co60] (by rfl) rfl rfl (by (try simp only [List.map_toArray, List.map_cons, List.map_nil]); first | done | rfl | (simp only [List.length_drop, List.length_take]; rfl)) ?_
                   zzq53
                   zzq54
                   zzq55
                   zzq56
                   zzq57
                   zzq58
                   zzq59
                   have q61 : (148 : Int) ≤ ((t150.length : Int) : Int) := of_decide_eq_true (by first | (with_reducible assumption) | assumption)
                   obtain ⟨i061, hi061, _, hsz61, _⟩ := info_parts info5
                   have hroom61 : t150.length ≤ co29 := (Kd.V_reads' HO_10.out).2.1
                   have hC61 : Kd.F (Kd.int .u8) _ _ Ao29 t150.length t150 := (Kd.V_at (base := w.heap.size) HO_10.out).2.2
                   have hcut61 := cut_to (P := Try.prog) 22 5 .i64 Try.underlying22 hi061 Ao29 t150.length co29 148 (by omega) q61 hroom61
                   have hr61 := Kd.F_take (m := 148) hC61 (by omega)
                   have hy61 : y170.length = (148 : Int).toNat := (by rw [Ny170.out, List.length_take]; omega)
                   rw [← Ny170.out] at hr61
                   rw [← hy61] at hcut61
                   have HO174 := Aside0.mk (show Kd.V (Kd.int .u8) 5 _ w.heap.size _ (.slice Ao29 y170.length co29) y170 from Kd.V_mk (by omega) hr61)
                   zzq87
                   clear hr61 hC61 hroom61 hi061 hsz61
                   have KY61 := Aside0.mk hy61
                   clear hy61
                   replace q61 := eq_true q61
                   have q62 : (148 : Int) ≤ ((y145.length : Int) : Int) := of_decide_eq_true (by first | (with_reducible assumption) | assumption)
                   obtain ⟨i062, hi062, _, hsz62, _⟩ := info_parts info5
                   have hroom62 : y145.length ≤ co17 := (Kd.R_reads' HO_7.out).2.1
                   have hC62 : Kd.C (Kd.int .u8) _ Ao17 y145.length y145 := (Kd.R_reads' HO_7.out).2.2
                   have hcut62 := cut_to (P := Try.prog) 22 5 .i64 Try.underlying22 hi062 Ao17 y145.length co17 148 (by omega) q62 hroom62
                   have hr62 := Kd.C_take (m := 148) hC62 (by omega)
                   have hy62 : y175.length = (148 : Int).toNat := (by rw [Ny175.out, List.length_take]; omega)
                   rw [← Ny175.out] at hr62
                   rw [← hy62] at hcut62
                   have HR178 := Aside0.mk hr62
                   zzq88
                   clear hr62 hC62 hroom62 hi062 hsz62
                   have KY62 := Aside0.mk hy62
                   clear hy62
                   have KL62 := Aside0.mk (show 148 ≤ y145.length from by omega)
                   replace q62 := eq_true q62
                   zzq60
                   zzq61
                   zzq62
                   rotate_left
                   ·show Act.put _ (some 86) _ = _
                    zzq38
                    rfl
                   zzq63
                   rotate_left
                   ·zzq35
                    zzq36
                    zzq37
                   rotate_left
                   ·zzq38
                    rfl
                   zzq64
                   rotate_left
                   ·zzq35
                    zzq36
                    zzq37
                   rotate_left
                   ·zzq38
                    rfl
                   zzq65
                   rotate_left
                   ·zzq35
                    zzq36
                    zzq37
                   rotate_left
                   ·zzq38
                    rfl
                   zzq66
                   rotate_left
                   ·zzq35
                    zzq36
                    zzq37
                   rotate_left
                   ·zzq38
                    rfl
                   zzq67
                   rotate_left
                   ·zzq35
                    zzq36
                    zzq37
                   rotate_left
                   ·zzq38
                    rfl
                   zzq68
                   rotate_left
                   ·zzq35
                    zzq36
                    zzq37
                   rotate_left
                   ·zzq38
                    rfl
                   zzq69
                   rotate_left
                   ·zzq35
                    zzq36
                    zzq37
                   rotate_left
                   ·zzq38
                    rfl
                   zzq89
                   rotate_left
                   ·zzq35
                    zzq36
                    zzq37
                   rotate_left
                   ·zzq38
                    rfl
                   zzq90
                   rotate_left
                   ·zzq35
                    zzq36
                    zzq37
                   rotate_left
                   ·zzq38
                    rfl
                   zzq91
                   rotate_left
                   ·zzq35
                    zzq36
                    zzq37
                   rotate_left
                   ·zzq38
                    rfl
                   zzq92
                   rotate_left
                   ·zzq35
                    zzq36
                    zzq37
                   rotate_left
                   ·zzq38
                    rfl
                   zzq93
                   zzq94
                   with_reducible refine (tabularylaw10_same.calls kj15 _ _ y170 _ _ y175 false _ ?side1 ?side2 ?side3 ?side4 A46.out).mono ?_
                   zzq95
                   (case side2 => exact (Kd.V_reads' HO174.out).2.1)
                   zzq96
                   (case side4 => exact HC178.out)
                   zzq58
                   zzq59
                   zzq60
                   zzq61
                   zzq62
                   rotate_left
                   ·show Act.put _ (some 98) _ = _
                    zzq38
                    rfl
                   zzq97
                   rotate_left
                   ·zzq35
                    zzq36
                    zzq37
                   rotate_left
                   ·zzq38
                    rfl
                   zzq76
                   rotate_left
                   ·zzq35
                    zzq36
                    zzq37
                   rotate_left
                   ·zzq38
                    rfl
                   zzq77
                   rotate_left
                   ·zzq35
                    zzq36
                    zzq37
                   rotate_left
                   ·zzq38
                    rfl
                   zzq78
                   rotate_left
                   ·zzq38
                    rfl
                   zzq79
                   rotate_left
                   ·zzq38
                    rfl
                   zzq80
                   rotate_left
                   ·zzq38
                    rfl
                   zzq81
                   rotate_left
                   ·zzq38
                    rfl
                   zzq82
                   rotate_left
                   ·zzq38
                    rfl
                   zzq83
                   rotate_left
                   ·zzq38
                    rfl
                   zzq84
                   rotate_left
                   ·zzq35
                    zzq36
                    zzq37
                   rotate_left
                   ·zzq38
                    rfl
                   zzq85
                   try go_wp2
                   go_meet
                   zzq86
                 ·rw [if_neg c45] at H
                  zzq3
                ·rw [if_neg c44] at H
                 zzq3
              ·replace c39 := Bool.eq_false_iff.mpr c39
               subst c39
               zzq98
               clear H
               zzq1
               clear H1
               zzq2
               clear H
               try go_wp2
               zzq11
               zzq12
               zzq13
               zzq14
               zzq15
               zzq16
               zzq17
               zzq18
               zzq19
               (try clear HB)
               generalize (((((((w33.setCell ⟨gb168, 0, none⟩ (.string t160)).setCell ⟨gb168, 1, none⟩ (.string t161)).setCell ⟨gb168, 2, none⟩ (.int .i64 t162)).setCell ⟨gb168, 3, none⟩ (.int .i64 t163)).setCell ⟨gb168, 4, none⟩ (.int .i64 t164)).setCell ⟨gb168, 5, none⟩ (.int .u8 t165)).setCell ⟨gb168, 6, none⟩ (.string t166)) = w63 at n0_ n1_ n2_ n3_ n4_ ⊢
               zzq20
               zzq21
               zzq22
               zzq23
               zzq24
               zzq25
               zzq26
               zzq27
               zzq28
               zzq29
               zzq30
               zzq31
               clear HO_10
               clear HO158
               zzq32
               clear HB
               zzq20
               zzq21
               zzq22
               zzq23
               zzq24
               zzq25
               obtain ⟨Ao65, co65, eo65⟩ := Kd.V_slice HO158.out
               (first | subst eo65 | (injection eo65 with f1_ f2_ f3_; have f4_ := f1_.symm; have f5_ := f3_.symm; clear f1_ f2_ f3_; subst f4_; subst f5_))
               zzq33
               generalize w63.drew = w64 at HO_7 HO_10 HO158 BK168 HB hHeld ⊢
               zzq34
               rotate_left
               ·zzq35
                zzq36
                zzq37
               rotate_left
               ·zzq38
                rfl
               zzq39
               rotate_left
               ·zzq35
                zzq36
                zzq37
               rotate_left
               ·zzq38
                rfl
               zzq40
               rotate_left
               ·zzq35
                zzq36
                zzq37
               rotate_left
               ·zzq38
                rfl
               zzq41
               rotate_left
               ·zzq35
                zzq36
                zzq37
               rotate_left
               ·zzq38
                rfl
               zzq42
               rotate_left
               ·zzq35
                zzq36
                zzq37
               rotate_left
               ·zzq38
                rfl
               zzq43
               rotate_left
               ·zzq35
                zzq36
                zzq37
               rotate_left
               ·zzq38
                rfl
               zzq44
               rotate_left
               ·zzq35
                zzq36
                zzq37
               rotate_left
               ·zzq38
                rfl
               zzq45
               rotate_left
               ·zzq35
                zzq36
                zzq37
               rotate_left
               ·zzq38
                rfl
               zzq46
               rotate_left
               ·zzq35
                zzq36
                zzq37
               rotate_left
               ·zzq38
                rfl
               zzq47
               rotate_left
               ·zzq35
                zzq36
                zzq37
               rotate_left
               ·zzq38
                rfl
               zzq48
               rotate_left
               ·zzq35
                zzq36
                zzq37
               rotate_left
               ·zzq38
                rfl
               zzq49
               rotate_left
               ·zzq35
                zzq36
                zzq37
               rotate_left
               ·zzq38
                rfl
               zzq50
               rotate_left
               ·zzq35
                zzq36
                zzq37
               rotate_left
               ·zzq38
                rfl
               zzq51
               rotate_left
               ·zzq35
                zzq36
                zzq37
               rotate_left
               ·zzq38
                rfl
               zzq52
               refine goes_ Try.func19 (by kernel_rfl) rfl #[.slice Ao29 t150.length co29, .slice Ao65 t156.length co65] (by rfl) rfl rfl (by (try simp only [List.map_toArray, List.map_cons, List.map_nil]); first | done | rfl | (simp only [List.length_drop, List.length_take]; rfl)) ?_
               with_reducible refine (tabularylaw10_same.calls kj15 _ _ t150 _ _ t156 false _ ?side1 ?side2 ?side3 ?side4 A38.out).mono ?_
               zzq54
               zzq55
               zzq56
               zzq57
               zzq58
               zzq59
               zzq60
               zzq61
               zzq62
               rotate_left
               ·show Act.put _ (some 86) _ = _
                zzq38
                rfl
               zzq63
               rotate_left
               ·zzq35
                zzq36
                zzq37
               rotate_left
               ·zzq38
                rfl
               zzq64
               rotate_left
               ·zzq35
                zzq36
                zzq37
               rotate_left
               ·zzq38
                rfl
               zzq65
               rotate_left
               ·zzq35
                zzq36
                zzq37
               rotate_left
               ·zzq38
                rfl
               zzq99
               rotate_left
               ·zzq38
                rfl
               zzq100
               rotate_left
               ·zzq38
                rfl
               zzq68
               rotate_left
               ·zzq35
                zzq36
                zzq37
               rotate_left
               ·zzq38
                rfl
               zzq69
               rotate_left
               ·zzq35
                zzq36
                zzq37
               rotate_left
               ·zzq38
                rfl
               zzq70
               rotate_left
               ·zzq38
                rfl
               zzq71
               rotate_left
               ·zzq38
                rfl
               zzq72
               rotate_left
               ·zzq38
                rfl
               zzq73
               rotate_left
               ·zzq38
                rfl
               zzq74
               rotate_left
               ·zzq38
                rfl
               zzq75
               rotate_left
               ·zzq38
                rfl
               zzq76
               rotate_left
               ·zzq35
                zzq36
                zzq37
               rotate_left
               ·zzq38
                rfl
               zzq77
               rotate_left
               ·zzq35
                zzq36
                zzq37
               rotate_left
               ·zzq38
                rfl
               zzq78
               rotate_left
               ·zzq38
                rfl
               zzq79
               rotate_left
               ·zzq38
                rfl
               zzq80
               rotate_left
               ·zzq38
                rfl
               zzq81
               rotate_left
               ·zzq38
                rfl
               zzq82
               rotate_left
               ·zzq38
                rfl
               zzq83
               rotate_left
               ·zzq38
                rfl
               zzq84
               rotate_left
               ·zzq35
                zzq36
                zzq37
               rotate_left
               ·zzq38
                rfl
               zzq85
               try go_wp2
               go_meet
               zzq86
             ·rw [if_neg c37] at H
              have c37b0 : (t148 == t154) = false := beq_eq_false_iff_ne.mpr c37
              have c37b1 : (t148 != t154) = true := bne_iff_ne.mpr c37
              zzq2
              clear H
              try go_wp2
              zzq11
              zzq12
              zzq13
              zzq14
              zzq15
              zzq16
              zzq17
              zzq18
              zzq19
              (try clear HB)
              generalize (((((((w33.setCell ⟨gb168, 0, none⟩ (.string t160)).setCell ⟨gb168, 1, none⟩ (.string t161)).setCell ⟨gb168, 2, none⟩ (.int .i64 t162)).setCell ⟨gb168, 3, none⟩ (.int .i64 t163)).setCell ⟨gb168, 4, none⟩ (.int .i64 t164)).setCell ⟨gb168, 5, none⟩ (.int .u8 t165)).setCell ⟨gb168, 6, none⟩ (.string t166)) = w66 at n0_ n1_ n2_ n3_ n4_ ⊢
              zzq20
              zzq21
              zzq22
              zzq23
              zzq24
              zzq25
              zzq26
              zzq27
              zzq28
              zzq29
              zzq30
              zzq31
              clear HO_10
              clear HO158
              zzq32
              clear HB
              zzq20
              zzq21
              zzq22
              zzq23
              zzq24
              zzq25
              zzq33
              generalize w66.drew = w67 at HO_7 HO_10 HO158 BK168 HB hHeld ⊢
              zzq34
              rotate_left
              ·zzq35
               zzq36
               zzq37
              rotate_left
              ·zzq38
               rfl
              zzq39
              rotate_left
              ·zzq35
               zzq36
               zzq37
              rotate_left
              ·zzq38
               rfl
              zzq40
              rotate_left
              ·zzq35
               zzq36
               zzq37
              rotate_left
              ·zzq38
               rfl
              zzq41
              rotate_left
              ·zzq35
               zzq36
               zzq37
              rotate_left
              ·zzq38
               rfl
              zzq42
              rotate_left
              ·zzq35
               zzq36
               zzq37
              rotate_left
              ·zzq38
               rfl
              zzq43
              rotate_left
              ·zzq35
               zzq36
               zzq37
              rotate_left
              ·zzq38
               rfl
              zzq44
              rotate_left
              ·zzq35
               zzq36
               zzq37
              rotate_left
              ·zzq38
               rfl
              zzq45
              rotate_left
              ·zzq35
               zzq36
               zzq37
              rotate_left
              ·zzq38
               rfl
              zzq46
              rotate_left
              ·zzq35
               zzq36
               zzq37
              rotate_left
              ·zzq38
               rfl
              zzq47
              rotate_left
              ·zzq35
               zzq36
               zzq37
              rotate_left
              ·zzq38
               rfl
              zzq48
              rotate_left
              ·zzq35
               zzq36
               zzq37
              rotate_left
              ·zzq38
               rfl
              zzq49
              rotate_left
              ·zzq35
               zzq36
               zzq37
              rotate_left
              ·zzq38
               rfl
              zzq101
              rotate_left
              ·zzq38
               rfl
              zzq102
              rotate_left
              ·zzq38
               rfl
              zzq103
              rotate_left
              ·zzq38
               rfl
              zzq104
              rotate_left
              ·zzq38
               rfl
              zzq64
              rotate_left
              ·zzq35
               zzq36
               zzq37
              rotate_left
              ·zzq38
               rfl
              zzq65
              rotate_left
              ·zzq35
               zzq36
               zzq37
              rotate_left
              ·zzq38
               rfl
              zzq99
              rotate_left
              ·zzq38
               rfl
              zzq100
              rotate_left
              ·zzq38
               rfl
              zzq68
              rotate_left
              ·zzq35
               zzq36
               zzq37
              rotate_left
              ·zzq38
               rfl
              zzq69
              rotate_left
              ·zzq35
               zzq36
               zzq37
              rotate_left
              ·zzq38
               rfl
              zzq70
              rotate_left
              ·zzq38
               rfl
              zzq71
              rotate_left
              ·zzq38
               rfl
              zzq72
              rotate_left
              ·zzq38
               rfl
              zzq73
              rotate_left
              ·zzq38
               rfl
              zzq74
              rotate_left
              ·zzq38
               rfl
              zzq75
              rotate_left
              ·zzq38
               rfl
              zzq76
              rotate_left
              ·zzq35
               zzq36
               zzq37
              rotate_left
              ·zzq38
               rfl
              zzq77
              rotate_left
              ·zzq35
               zzq36
               zzq37
              rotate_left
              ·zzq38
               rfl
              zzq78
              rotate_left
              ·zzq38
               rfl
              zzq79
              rotate_left
              ·zzq38
               rfl
              zzq80
              rotate_left
              ·zzq38
               rfl
              zzq81
              rotate_left
              ·zzq38
               rfl
              zzq82
              rotate_left
              ·zzq38
               rfl
              zzq83
              rotate_left
              ·zzq38
               rfl
              zzq84
              rotate_left
              ·zzq35
               zzq36
               zzq37
              rotate_left
              ·zzq38
               rfl
              zzq85
              try go_wp2
              go_meet
              zzq86
            ·rw [if_neg c36] at H
             have c36b0 : (t159 == 0) = false := beq_eq_false_iff_ne.mpr c36
             have c36b1 : (t159 != 0) = true := bne_iff_ne.mpr c36
             zzq2
             clear H
             try go_wp2
             zzq11
             zzq12
             zzq13
             zzq14
             zzq15
             zzq16
             zzq17
             zzq18
             zzq19
             (try clear HB)
             generalize (((((((w33.setCell ⟨gb168, 0, none⟩ (.string t160)).setCell ⟨gb168, 1, none⟩ (.string t161)).setCell ⟨gb168, 2, none⟩ (.int .i64 t162)).setCell ⟨gb168, 3, none⟩ (.int .i64 t163)).setCell ⟨gb168, 4, none⟩ (.int .i64 t164)).setCell ⟨gb168, 5, none⟩ (.int .u8 t165)).setCell ⟨gb168, 6, none⟩ (.string t166)) = w68 at n0_ n1_ n2_ n3_ n4_ ⊢
             zzq20
             zzq21
             zzq22
             zzq23
             zzq24
             zzq25
             zzq26
             zzq27
             zzq28
             zzq29
             zzq30
             zzq31
             clear HO_10
             clear HO158
             zzq32
             clear HB
             zzq20
             zzq21
             zzq22
             zzq23
             zzq24
             zzq25
             zzq33
             generalize w68.drew = w69 at HO_7 HO_10 HO158 BK168 HB hHeld ⊢
             zzq34
             rotate_left
             ·zzq35
              zzq36
              zzq37
             rotate_left
             ·zzq38
              rfl
             zzq39
             rotate_left
             ·zzq35
              zzq36
              zzq37
             rotate_left
             ·zzq38
              rfl
             zzq40
             rotate_left
             ·zzq35
              zzq36
              zzq37
             rotate_left
             ·zzq38
              rfl
             zzq41
             rotate_left
             ·zzq35
              zzq36
              zzq37
             rotate_left
             ·zzq38
              rfl
             zzq42
             rotate_left
             ·zzq35
              zzq36
              zzq37
             rotate_left
             ·zzq38
              rfl
             zzq43
             rotate_left
             ·zzq35
              zzq36
              zzq37
             rotate_left
             ·zzq38
              rfl
             zzq44
             rotate_left
             ·zzq35
              zzq36
              zzq37
             rotate_left
             ·zzq38
              rfl
             zzq105
             rotate_left
             ·zzq38
              rfl
             zzq106
             rotate_left
             ·zzq38
              rfl
             zzq107
             rotate_left
             ·zzq38
              rfl
             zzq48
             rotate_left
             ·zzq35
              zzq36
              zzq37
             rotate_left
             ·zzq38
              rfl
             zzq49
             rotate_left
             ·zzq35
              zzq36
              zzq37
             rotate_left
             ·zzq38
              rfl
             zzq101
             rotate_left
             ·zzq38
              rfl
             zzq102
             rotate_left
             ·zzq38
              rfl
             zzq103
             rotate_left
             ·zzq38
              rfl
             zzq104
             rotate_left
             ·zzq38
              rfl
             zzq64
             rotate_left
             ·zzq35
              zzq36
              zzq37
             rotate_left
             ·zzq38
              rfl
             zzq65
             rotate_left
             ·zzq35
              zzq36
              zzq37
             rotate_left
             ·zzq38
              rfl
             zzq99
             rotate_left
             ·zzq38
              rfl
             zzq100
             rotate_left
             ·zzq38
              rfl
             zzq68
             rotate_left
             ·zzq35
              zzq36
              zzq37
             rotate_left
             ·zzq38
              rfl
             zzq69
             rotate_left
             ·zzq35
              zzq36
              zzq37
             rotate_left
             ·zzq38
              rfl
             zzq70
             rotate_left
             ·zzq38
              rfl
             zzq71
             rotate_left
             ·zzq38
              rfl
             zzq72
             rotate_left
             ·zzq38
              rfl
             zzq73
             rotate_left
             ·zzq38
              rfl
             zzq74
             rotate_left
             ·zzq38
              rfl
             zzq75
             rotate_left
             ·zzq38
              rfl
             zzq76
             rotate_left
             ·zzq35
              zzq36
              zzq37
             rotate_left
             ·zzq38
              rfl
             zzq77
             rotate_left
             ·zzq35
              zzq36
              zzq37
             rotate_left
             ·zzq38
              rfl
             zzq78
             rotate_left
             ·zzq38
              rfl
             zzq79
             rotate_left
             ·zzq38
              rfl
             zzq80
             rotate_left
             ·zzq38
              rfl
             zzq81
             rotate_left
             ·zzq38
              rfl
             zzq82
             rotate_left
             ·zzq38
              rfl
             zzq83
             rotate_left
             ·zzq38
              rfl
             zzq84
             rotate_left
             ·zzq35
              zzq36
              zzq37
             rotate_left
             ·zzq38
              rfl
             zzq85
             try go_wp2
             go_meet
             zzq86
           ·rw [if_neg c35] at H
            have c35b0 : (t155 == 0) = false := beq_eq_false_iff_ne.mpr c35
            have c35b1 : (t155 != 0) = true := bne_iff_ne.mpr c35
            zzq10
            zzq2
            clear H
            try go_wp2
            zzq11
            zzq12
            zzq13
            zzq14
            zzq15
            zzq16
            zzq17
            zzq18
            zzq19
            (try clear HB)
            generalize (((((((w33.setCell ⟨gb168, 0, none⟩ (.string t160)).setCell ⟨gb168, 1, none⟩ (.string t161)).setCell ⟨gb168, 2, none⟩ (.int .i64 t162)).setCell ⟨gb168, 3, none⟩ (.int .i64 t163)).setCell ⟨gb168, 4, none⟩ (.int .i64 t164)).setCell ⟨gb168, 5, none⟩ (.int .u8 t165)).setCell ⟨gb168, 6, none⟩ (.string t166)) = w70 at n0_ n1_ n2_ n3_ n4_ ⊢
            zzq20
            zzq21
            zzq22
            zzq23
            zzq24
            zzq25
            zzq26
            zzq27
            zzq28
            zzq29
            zzq30
            zzq31
            clear HO_10
            clear HO158
            zzq32
            clear HB
            zzq20
            zzq21
            zzq22
            zzq23
            zzq24
            zzq25
            zzq33
            generalize w70.drew = w71 at HO_7 HO_10 HO158 BK168 HB hHeld ⊢
            zzq34
            rotate_left
            ·zzq35
             zzq36
             zzq37
            rotate_left
            ·zzq38
             rfl
            zzq39
            rotate_left
            ·zzq35
             zzq36
             zzq37
            rotate_left
            ·zzq38
             rfl
            zzq40
            rotate_left
            ·zzq35
             zzq36
             zzq37
            rotate_left
            ·zzq38
             rfl
            refine pure_ (i := 3) (N := some 75) (v := undef) (a' := ?_) #[true, true, true, true, false, false, false, false, false, false, false, false, false, false, false, false, false, false, false, false, false, false, false, false, false, false, false, false, false, false, false, false, false, false, false, false, false] rfl rfl (any_of HT_.out (by kernel_rfl)) (fun _ _ _ h => h) (Or.inr ⟨by rfl, rfl⟩) ?_ ?_
            rotate_left
            ·zzq38
             rfl
            refine pure_ (i := 4) (N := some 76) (v := undef) (a' := ?_) #[true, true, true, true, true, false, false, false, false, false, false, false, false, false, false, false, false, false, false, false, false, false, false, false, false, false, false, false, false, false, false, false, false, false, false, false, false] rfl rfl (any_of HT_.out (by kernel_rfl)) (fun _ _ _ h => h) (Or.inr ⟨by rfl, rfl⟩) ?_ ?_
            rotate_left
            ·zzq38
             rfl
            zzq43
            rotate_left
            ·zzq35
             zzq36
             zzq37
            rotate_left
            ·zzq38
             rfl
            zzq44
            rotate_left
            ·zzq35
             zzq36
             zzq37
            rotate_left
            ·zzq38
             rfl
            zzq105
            rotate_left
            ·zzq38
             rfl
            zzq106
            rotate_left
            ·zzq38
             rfl
            zzq107
            rotate_left
            ·zzq38
             rfl
            zzq48
            rotate_left
            ·zzq35
             zzq36
             zzq37
            rotate_left
            ·zzq38
             rfl
            zzq49
            rotate_left
            ·zzq35
             zzq36
             zzq37
            rotate_left
            ·zzq38
             rfl
            zzq101
            rotate_left
            ·zzq38
             rfl
            zzq102
            rotate_left
            ·zzq38
             rfl
            zzq103
            rotate_left
            ·zzq38
             rfl
            zzq104
            rotate_left
            ·zzq38
             rfl
            zzq64
            rotate_left
            ·zzq35
             zzq36
             zzq37
            rotate_left
            ·zzq38
             rfl
            zzq65
            rotate_left
            ·zzq35
             zzq36
             zzq37
            rotate_left
            ·zzq38
             rfl
            zzq99
            rotate_left
            ·zzq38
             rfl
            zzq100
            rotate_left
            ·zzq38
             rfl
            zzq68
            rotate_left
            ·zzq35
             zzq36
             zzq37
            rotate_left
            ·zzq38
             rfl
            zzq69
            rotate_left
            ·zzq35
             zzq36
             zzq37
            rotate_left
            ·zzq38
             rfl
            zzq70
            rotate_left
            ·zzq38
             rfl
            zzq71
            rotate_left
            ·zzq38
             rfl
            zzq72
            rotate_left
            ·zzq38
             rfl
            zzq73
            rotate_left
            ·zzq38
             rfl
            zzq74
            rotate_left
            ·zzq38
             rfl
            zzq75
            rotate_left
            ·zzq38
             rfl
            zzq76
            rotate_left
            ·zzq35
             zzq36
             zzq37
            rotate_left
            ·zzq38
             rfl
            zzq77
            rotate_left
            ·zzq35
             zzq36
             zzq37
            rotate_left
            ·zzq38
             rfl
            zzq78
            rotate_left
            ·zzq38
             rfl
            zzq79
            rotate_left
            ·zzq38
             rfl
            zzq80
            rotate_left
            ·zzq38
             rfl
            zzq81
            rotate_left
            ·zzq38
             rfl
            zzq82
            rotate_left
            ·zzq38
             rfl
            zzq83
            rotate_left
            ·zzq38
             rfl
            zzq84
            rotate_left
            ·zzq35
             zzq36
             zzq37
            rotate_left
            ·zzq38
             rfl
            zzq85
            try go_wp2
            go_meet
            zzq86
          case rest =>
           clear HC28
           try clear p2
           try clear c3
           try clear c35
           try clear c35b0
           try clear c35b1
           try clear c36
           try clear c36b0
           try clear c36b1
           obtain ⟨kq, x108_27, rfl, HA, HJ27, HO_7, BK168, HB⟩ := hcut
           cases kq with
           | zero => exact absurd HA.out (by simp [tabularylaw10_HeadSealed.j2])
           | succ kj27 =>
            have H := HA.out
            clear HA
            simp only [tabularylaw10_HeadSealed.j2] at H
            by_cases c72 : x108_27 = true
            ·subst c72
             zzq7
             clear H
             zzq1
             clear H1
             zzq8
             go_wp2
             go_ret
             zzq108
            ·replace c72 := Bool.eq_false_iff.mpr c72
             subst c72
             have H1 : ((tabularylaw10_place.f a1 512).bind fun t190 => ((tabularylaw10_place.f a2 512).bind fun t191 => (if t190 ≥ 148 then (if t190 < 156 then (some true) else (if t191 ≥ 148 then (if t191 < 156 then (some true) else (if 0 ≤ t191 then (if t191 < (y145.length : Int) then (if 0 ≤ t190 then (if t190 < (y145.length : Int) then ((head_Sum.f ((y145.set (t190 : Int).toNat (rd y145 t191)).set (t191 : Int).toNat (rd y145 t190))).bind fun bt196 => (if bt196.2 = 0 then (some (bt196.1 == t148)) else (some false))) else (none)) else (none)) else (none)) else (none))) else (if 0 ≤ t191 then (if t191 < (y145.length : Int) then (if 0 ≤ t190 then (if t190 < (y145.length : Int) then ((head_Sum.f ((y145.set (t190 : Int).toNat (rd y145 t191)).set (t191 : Int).toNat (rd y145 t190))).bind fun bt202 => (if bt202.2 = 0 then (some (bt202.1 == t148)) else (some false))) else (none)) else (none)) else (none)) else (none)))) else (if t191 ≥ 148 then (if t191 < 156 then (some true) else (if 0 ≤ t191 then (if t191 < (y145.length : Int) then (if 0 ≤ t190 then (if t190 < (y145.length : Int) then ((head_Sum.f ((y145.set (t190 : Int).toNat (rd y145 t191)).set (t191 : Int).toNat (rd y145 t190))).bind fun bt208 => (if bt208.2 = 0 then (some (bt208.1 == t148)) else (some false))) else (none)) else (none)) else (none)) else (none))) else (if 0 ≤ t191 then (if t191 < (y145.length : Int) then (if 0 ≤ t190 then (if t190 < (y145.length : Int) then ((head_Sum.f ((y145.set (t190 : Int).toNat (rd y145 t191)).set (t191 : Int).toNat (rd y145 t190))).bind fun bt214 => (if bt214.2 = 0 then (some (bt214.1 == t148)) else (some false))) else (none)) else (none)) else (none)) else (none)))))) = some r := by rw [if_neg (show ¬ (false = true) by decide)] at H; exact H
             clear H
             zzq1
             clear H1
             zzq0
             obtain ⟨t190, A730, H⟩ := H
             replace H : ((tabularylaw10_place.f a2 512).bind fun t191 => (if t190 ≥ 148 then (if t190 < 156 then (some true) else (if t191 ≥ 148 then (if t191 < 156 then (some true) else (if 0 ≤ t191 then (if t191 < (y145.length : Int) then (if 0 ≤ t190 then (if t190 < (y145.length : Int) then ((head_Sum.f ((y145.set (t190 : Int).toNat (rd y145 t191)).set (t191 : Int).toNat (rd y145 t190))).bind fun bt196 => (if bt196.2 = 0 then (some (bt196.1 == t148)) else (some false))) else (none)) else (none)) else (none)) else (none))) else (if 0 ≤ t191 then (if t191 < (y145.length : Int) then (if 0 ≤ t190 then (if t190 < (y145.length : Int) then ((head_Sum.f ((y145.set (t190 : Int).toNat (rd y145 t191)).set (t191 : Int).toNat (rd y145 t190))).bind fun bt202 => (if bt202.2 = 0 then (some (bt202.1 == t148)) else (some false))) else (none)) else (none)) else (none)) else (none)))) else (if t191 ≥ 148 then (if t191 < 156 then (some true) else (if 0 ≤ t191 then (if t191 < (y145.length : Int) then (if 0 ≤ t190 then (if t190 < (y145.length : Int) then ((head_Sum.f ((y145.set (t190 : Int).toNat (rd y145 t191)).set (t191 : Int).toNat (rd y145 t190))).bind fun bt208 => (if bt208.2 = 0 then (some (bt208.1 == t148)) else (some false))) else (none)) else (none)) else (none)) else (none))) else (if 0 ≤ t191 then (if t191 < (y145.length : Int) then (if 0 ≤ t190 then (if t190 < (y145.length : Int) then ((head_Sum.f ((y145.set (t190 : Int).toNat (rd y145 t191)).set (t191 : Int).toNat (rd y145 t190))).bind fun bt214 => (if bt214.2 = 0 then (some (bt214.1 == t148)) else (some false))) else (none)) else (none)) else (none)) else (none))))) = some r := H
             have A73 := Aside0.mk A730
             clear A730
             zzq0
             obtain ⟨t191, A740, H⟩ := H
             replace H : (if t190 ≥ 148 then (if t190 < 156 then (some true) else (if t191 ≥ 148 then (if t191 < 156 then (some true) else (if 0 ≤ t191 then (if t191 < (y145.length : Int) then (if 0 ≤ t190 then (if t190 < (y145.length : Int) then ((head_Sum.f ((y145.set (t190 : Int).toNat (rd y145 t191)).set (t191 : Int).toNat (rd y145 t190))).bind fun bt196 => (if bt196.2 = 0 then (some (bt196.1 == t148)) else (some false))) else (none)) else (none)) else (none)) else (none))) else (if 0 ≤ t191 then (if t191 < (y145.length : Int) then (if 0 ≤ t190 then (if t190 < (y145.length : Int) then ((head_Sum.f ((y145.set (t190 : Int).toNat (rd y145 t191)).set (t191 : Int).toNat (rd y145 t190))).bind fun bt202 => (if bt202.2 = 0 then (some (bt202.1 == t148)) else (some false))) else (none)) else (none)) else (none)) else (none)))) else (if t191 ≥ 148 then (if t191 < 156 then (some true) else (if 0 ≤ t191 then (if t191 < (y145.length : Int) then (if 0 ≤ t190 then (if t190 < (y145.length : Int) then ((head_Sum.f ((y145.set (t190 : Int).toNat (rd y145 t191)).set (t191 : Int).toNat (rd y145 t190))).bind fun bt208 => (if bt208.2 = 0 then (some (bt208.1 == t148)) else (some false))) else (none)) else (none)) else (none)) else (none))) else (if 0 ≤ t191 then (if t191 < (y145.length : Int) then (if 0 ≤ t190 then (if t190 < (y145.length : Int) then ((head_Sum.f ((y145.set (t190 : Int).toNat (rd y145 t191)).set (t191 : Int).toNat (rd y145 t190))).bind fun bt214 => (if bt214.2 = 0 then (some (bt214.1 == t148)) else (some false))) else (none)) else (none)) else (none)) else (none)))) = some r := H
             have A74 := Aside0.mk A740
             clear A740
             by_cases c75 : t190 ≥ 148
             ·rw [if_pos c75] at H
              have c75b0 : decide (148 ≤ t190) = true := decide_eq_true c75
              clear c75
              by_cases c76 : t190 < 156
              ·rw [if_pos c76] at H
               have c76b0 : decide (t190 < 156) = true := decide_eq_true c76
               clear c76
               zzq8
               zzq109
               go_ret
               zzq108
              ·rw [if_neg c76] at H
               have c76b0 : decide (t190 < 156) = false := decide_eq_false c76
               clear c76
               by_cases c77 : t191 ≥ 148
               ·rw [if_pos c77] at H
                have c77b0 : decide (148 ≤ t191) = true := decide_eq_true c77
                clear c77
                by_cases c78 : t191 < 156
                ·rw [if_pos c78] at H
                 have c78b0 : decide (t191 < 156) = true := decide_eq_true c78
                 clear c78
                 zzq8
                 zzq109
                 go_ret
                 zzq108
                ·rw [if_neg c78] at H
                 have c78b0 : decide (t191 < 156) = false := decide_eq_false c78
                 clear c78
                 by_cases c79 : 0 ≤ t191
                 ·rw [if_pos c79] at H
                  have c79b0 : decide (0 ≤ t191) = true := decide_eq_true c79
                  clear c79
                  by_cases c80 : t191 < (y145.length : Int)
                  ·rw [if_pos c80] at H
                   have c80b0 : decide (t191 < (y145.length : Int)) = true := decide_eq_true c80
                   clear c80
                   by_cases c81 : 0 ≤ t190
                   ·rw [if_pos c81] at H
                    have c81b0 : decide (0 ≤ t190) = true := decide_eq_true c81
                    clear c81
                    by_cases c82 : t190 < (y145.length : Int)
                    ·rw [if_pos c82] at H
                     have c82b0 : decide (t190 < (y145.length : Int)) = true := decide_eq_true c82
                     clear c82
                     obtain ⟨y194, hy194⟩ : ∃ y_ : List Int, y_ = (y145.set (t190 : Int).toNat (rd y145 t191)) := ⟨_, rfl⟩
                     replace H : ((head_Sum.f (y194.set (t191 : Int).toNat (rd y145 t190))).bind fun bt196 => (if bt196.2 = 0 then (some (bt196.1 == t148)) else (some false))) = some r := by first | (rw [hy194]; with_reducible exact H) | (have H2_ := (Option.bind_some _ _).symm.trans H; rw [hy194]; with_reducible exact H2_) | (have H2_ := (Option.bind_some _ _).symm.trans H; with_reducible exact H2_) | with_reducible exact H | (rw [hy194]; exact H) | exact H
                     have Ny194 := Aside0.mk hy194
                     clear hy194
                     obtain ⟨y195, hy195⟩ : ∃ y_ : List Int, y_ = (y194.set (t191 : Int).toNat (rd y145 t190)) := ⟨_, rfl⟩
                     replace H : ((head_Sum.f y195).bind fun bt196 => (if bt196.2 = 0 then (some (bt196.1 == t148)) else (some false))) = some r := by first | (rw [hy195]; with_reducible exact H) | (have H2_ := (Option.bind_some _ _).symm.trans H; rw [hy195]; with_reducible exact H2_) | (have H2_ := (Option.bind_some _ _).symm.trans H; with_reducible exact H2_) | with_reducible exact H | (rw [hy195]; exact H) | exact H
                     have Ny195 := Aside0.mk hy195
                     clear hy195
                     zzq0
                     obtain ⟨⟨t196, t197⟩, A850, H⟩ := H
                     replace H : (if t197 = 0 then (some (t196 == t148)) else (some false)) = some r := H
                     have A85 := Aside0.mk A850
                     clear A850
                     by_cases c86 : t197 = 0
                     ·rw [if_pos c86] at H
                      have c86b0 : (t197 == 0) = true := beq_iff_eq.mpr c86
                      have c86b1 : (t197 != 0) = false := bne_eq_false_iff_eq.mpr c86
                      clear c86
                      zzq8
                      zzq110
                      zzq26
                      zzq111
                      zzq112
                      zzq31
                      zzq32
                      clear HB
                      zzq20
                      zzq113
                      zzq114
                      zzq115
                      zzq116
                      zzq117
                      zzq118
                      cases e192
                      replace p192 := eq_true p192
                      replace q192 := eq_true q192
                      zzq119
                      zzq120
                      zzq121
                      obtain rfl : ad192 = ad193 := (by injection e193)
                      replace p193 := eq_true p193
                      replace q193 := eq_true q193
                      zzq122
                      zzq123
                      zzq124
                      zzq125
                      have GB83 := Aside0.mk gb83
                      have GG83 := Aside0.mk HG83
                      clear gb83 gl83 HG83
                      (first | simp only [add_plain] at hx192_0 | skip)
                      (first | simp only [add_plain] at hx193_0 | skip)
                      zzq126
                      replace p83 := eq_true p83
                      replace q83 := eq_true q83
                      have HP88 := Kd.R_putn HO_7.out (t190 : Int) (rd y145 t191)
                      rw [← Ny194.out] at HP88
                      have HQ88 := Aside0.mk HP88
                      clear HP88
                      zzq127
                      zzq128
                      obtain ⟨hx84_0, hf84_0⟩ := Kd.R_celln 0 HQ88.out (t191 : Int) p84 q84
                      replace p84 := eq_true p84
                      replace q84 := eq_true q84
                      have HP89 := Kd.R_putn HQ88.out (t191 : Int) (rd y145 t190)
                      rw [← Ny195.out] at HP89
                      have HQ89 := Aside0.mk HP89
                      clear HP89
                      zzq129
                      generalize wc.drew = w87 at HO_7 BK168 HB GG83 HQ88 HQ89 hf83_0 hf84_0 hx192_0 hx193_0 hx83_0 hx84_0 hHeld ⊢
                      zzq130
                      rotate_left
                      ·zzq35
                       zzq36
                       zzq37
                      rotate_left
                      ·zzq38
                       rfl
                      zzq131
                      rotate_left
                      ·zzq35
                       zzq36
                       zzq37
                      rotate_left
                      ·zzq38
                       rfl
                      zzq132
                      rotate_left
                      ·zzq35
                       zzq36
                       zzq37
                      rotate_left
                      ·zzq38
                       rfl
                      zzq133
                      rotate_left
                      ·zzq35
                       zzq36
                       zzq37
                      rotate_left
                      ·zzq38
                       rfl
                      zzq134
                      rotate_left
                      ·zzq35
                       zzq36
                       zzq37
                      rotate_left
                      ·zzq38
                       rfl
                      zzq135
                      rotate_left
                      ·zzq35
                       zzq36
                       zzq37
                      rotate_left
                      ·zzq38
                       rfl
                      zzq136
                      rotate_left
                      ·zzq35
                       zzq36
                       zzq37
                      rotate_left
                      ·zzq38
                       rfl
                      zzq137
                      rotate_left
                      ·zzq35
                       zzq36
                       zzq37
                      rotate_left
                      ·zzq38
                       rfl
                      zzq138
                      rotate_left
                      ·zzq35
                       zzq36
                       zzq37
                      rotate_left
                      ·zzq38
                       rfl
                      zzq139
                      rotate_left
                      ·zzq35
                       zzq36
                       zzq37
                      rotate_left
                      ·zzq38
                       rfl
                      zzq140
                      rotate_left
                      ·zzq141
                       zzq36
                       zzq37
                      rotate_left
                      ·zzq38
                       rfl
                      zzq142
                      rotate_left
                      ·zzq141
                       zzq36
                       zzq37
                      rotate_left
                      ·zzq38
                       rfl
                      zzq143
                      rotate_left
                      ·zzq35
                       zzq36
                       zzq37
                      rotate_left
                      ·zzq38
                       rfl
                      zzq144
                      zzq145
                      rotate_left
                      ·zzq36
                       rfl
                      zzq146
                      zzq61
                      zzq147
                      rotate_left
                      ·zzq35
                       zzq36
                       zzq37
                      rotate_left
                      ·zzq38
                       rfl
                      zzq148
                      zzq145
                      rotate_left
                      ·zzq36
                       rfl
                      zzq146
                      zzq61
                      zzq85
                      try go_wp2_with (first | ((with_reducible refine gate_callee (f := 13) rfl ?_); refine goesL_ (some 143) rfl rfl Try.func13 (by kernel_rfl) rfl #[.slice (some ⟨go83, 0, none⟩) y195.length co17] rfl (by (try simp only [List.map_toArray, List.map_cons, List.map_nil]); first | done | (rw [show y195.length = y145.length from (Kd.R_reads' HQ89.out).1.symm] <;> rfl) | rfl | (simp only [List.length_drop, List.length_take]; rfl)) ?_; (with_reducible refine (head_Sum.calls _ _ y195 t196 t197 _ ?side1 ?side2 A85.out).mono ?_); (case side1 => refine (Kd.R_reads' (e := 5) (base := w.heap.size) (ok := fun k_ => True) (n := y145.length) (c := co17) ?_).2.2; exact (by (with_reducible repeat (first | apply Kd.R_alloc | apply Kd.R_drewN | apply Kd.R_drew)); exact HQ89.out)); (case side2 => rw [show y195.length = y145.length from (Kd.R_reads' HQ89.out).1.symm]; exact (Kd.R_reads' HO_7.out).2.1); rintro e w90 ⟨rfl, hb⟩; refine ⟨_, rfl, ?_⟩; have n0_ := Aside0.mk (Kd.R_below (by (with_reducible repeat (first | apply Kd.R_alloc | apply Kd.R_drewN | apply Kd.R_drew)); exact HQ89.out) hb); have n1_ := Aside0.mk (blk_below (g := gb168) (o := .cells #[.string t160, .string t161, .int .i64 t162, .int .i64 t163, .int .i64 t164, .int .u8 t165, .string t166] 24 (0, 0)) (by (with_reducible repeat (first | refine blk_drewN ?_ _ | refine blk_drew ?_ | refine blk_alloc ?_ _)); refine blk_far ?_ (by have h_ := Kd.R_ne HO_7.out BK168.out (by decide); intro e_; exact h_ (by rw [e_]; rfl)) _; (with_reducible repeat (first | refine blk_drewN ?_ _ | refine blk_drew ?_ | refine blk_alloc ?_ _)); refine blk_far ?_ (by have h_ := Kd.R_ne HO_7.out BK168.out (by decide); intro e_; exact h_ (by rw [e_]; rfl)) _; (with_reducible repeat (first | refine blk_drewN ?_ _ | refine blk_drew ?_ | refine blk_alloc ?_ _)); exact BK168.out) hb); have n2_ := Aside0.mk (below_step (by repeat (first | (with_reducible first | exact HB.out | apply below_alloc | apply pw_below_drewN | apply below_drew1 | refine below_set ?_ GB83.out | refine below_set ?_ GB83.out | refine below_set ?_ GE168.out) | exact HB.out)) hb); clear HO_7; clear BK168; clear HB; have HO_7 := n0_; have BK168 := n1_; have HB := n2_; clear n0_ n1_ n2_; (try clear hb); (try clear hb2); (try clear hk); (try clear hi)))
                      go_ret
                      zzq108
                     ·rw [if_neg c86] at H
                      have c86b0 : (t197 == 0) = false := beq_eq_false_iff_ne.mpr c86
                      have c86b1 : (t197 != 0) = true := bne_iff_ne.mpr c86
                      zzq8
                      zzq110
                      zzq26
                      zzq111
                      zzq112
                      zzq31
                      zzq32
                      clear HB
                      zzq20
                      zzq113
                      zzq114
                      zzq115
                      zzq116
                      zzq117
                      zzq118
                      cases e192
                      replace p192 := eq_true p192
                      replace q192 := eq_true q192
                      zzq119
                      zzq120
                      zzq121
                      obtain rfl : ad192 = ad193 := (by injection e193)
                      replace p193 := eq_true p193
                      replace q193 := eq_true q193
                      zzq122
                      zzq123
                      zzq124
                      zzq125
                      have GB83 := Aside0.mk gb83
                      have GG83 := Aside0.mk HG83
                      clear gb83 gl83 HG83
                      (first | simp only [add_plain] at hx192_0 | skip)
                      (first | simp only [add_plain] at hx193_0 | skip)
                      zzq126
                      replace p83 := eq_true p83
                      replace q83 := eq_true q83
                      have HP92 := Kd.R_putn HO_7.out (t190 : Int) (rd y145 t191)
                      rw [← Ny194.out] at HP92
                      have HQ92 := Aside0.mk HP92
                      clear HP92
                      zzq127
                      zzq128
                      obtain ⟨hx84_0, hf84_0⟩ := Kd.R_celln 0 HQ92.out (t191 : Int) p84 q84
                      replace p84 := eq_true p84
                      replace q84 := eq_true q84
                      have HP93 := Kd.R_putn HQ92.out (t191 : Int) (rd y145 t190)
                      rw [← Ny195.out] at HP93
                      have HQ93 := Aside0.mk HP93
                      clear HP93
                      zzq129
                      generalize wc.drew = w91 at HO_7 BK168 HB GG83 HQ92 HQ93 hf83_0 hf84_0 hx192_0 hx193_0 hx83_0 hx84_0 hHeld ⊢
                      zzq130
                      rotate_left
                      ·zzq35
                       zzq36
                       zzq37
                      rotate_left
                      ·zzq38
                       rfl
                      zzq131
                      rotate_left
                      ·zzq35
                       zzq36
                       zzq37
                      rotate_left
                      ·zzq38
                       rfl
                      zzq132
                      rotate_left
                      ·zzq35
                       zzq36
                       zzq37
                      rotate_left
                      ·zzq38
                       rfl
                      zzq133
                      rotate_left
                      ·zzq35
                       zzq36
                       zzq37
                      rotate_left
                      ·zzq38
                       rfl
                      zzq134
                      rotate_left
                      ·zzq35
                       zzq36
                       zzq37
                      rotate_left
                      ·zzq38
                       rfl
                      zzq135
                      rotate_left
                      ·zzq35
                       zzq36
                       zzq37
                      rotate_left
                      ·zzq38
                       rfl
                      zzq136
                      rotate_left
                      ·zzq35
                       zzq36
                       zzq37
                      rotate_left
                      ·zzq38
                       rfl
                      zzq137
                      rotate_left
                      ·zzq35
                       zzq36
                       zzq37
                      rotate_left
                      ·zzq38
                       rfl
                      zzq138
                      rotate_left
                      ·zzq35
                       zzq36
                       zzq37
                      rotate_left
                      ·zzq38
                       rfl
                      zzq139
                      rotate_left
                      ·zzq35
                       zzq36
                       zzq37
                      rotate_left
                      ·zzq38
                       rfl
                      zzq140
                      rotate_left
                      ·zzq141
                       zzq36
                       zzq37
                      rotate_left
                      ·zzq38
                       rfl
                      zzq142
                      rotate_left
                      ·zzq141
                       zzq36
                       zzq37
                      rotate_left
                      ·zzq38
                       rfl
                      zzq143
                      rotate_left
                      ·zzq35
                       zzq36
                       zzq37
                      rotate_left
                      ·zzq38
                       rfl
                      zzq144
                      zzq145
                      rotate_left
                      ·zzq36
                       rfl
                      zzq146
                      zzq61
                      zzq147
                      rotate_left
                      ·zzq35
                       zzq36
                       zzq37
                      rotate_left
                      ·zzq38
                       rfl
                      zzq148
                      zzq145
                      rotate_left
                      ·zzq36
                       rfl
                      zzq146
                      zzq61
                      zzq85
                      try go_wp2_with (first | ((with_reducible refine gate_callee (f := 13) rfl ?_); refine goesL_ (some 143) rfl rfl Try.func13 (by kernel_rfl) rfl #[.slice (some ⟨go83, 0, none⟩) y195.length co17] rfl (by (try simp only [List.map_toArray, List.map_cons, List.map_nil]); first | done | (rw [show y195.length = y145.length from (Kd.R_reads' HQ93.out).1.symm] <;> rfl) | rfl | (simp only [List.length_drop, List.length_take]; rfl)) ?_; (with_reducible refine (head_Sum.calls _ _ y195 t196 t197 _ ?side1 ?side2 A85.out).mono ?_); (case side1 => refine (Kd.R_reads' (e := 5) (base := w.heap.size) (ok := fun k_ => True) (n := y145.length) (c := co17) ?_).2.2; exact (by (with_reducible repeat (first | apply Kd.R_alloc | apply Kd.R_drewN | apply Kd.R_drew)); exact HQ93.out)); (case side2 => rw [show y195.length = y145.length from (Kd.R_reads' HQ93.out).1.symm]; exact (Kd.R_reads' HO_7.out).2.1); rintro e w94 ⟨rfl, hb⟩; refine ⟨_, rfl, ?_⟩; have n0_ := Aside0.mk (Kd.R_below (by (with_reducible repeat (first | apply Kd.R_alloc | apply Kd.R_drewN | apply Kd.R_drew)); exact HQ93.out) hb); have n1_ := Aside0.mk (blk_below (g := gb168) (o := .cells #[.string t160, .string t161, .int .i64 t162, .int .i64 t163, .int .i64 t164, .int .u8 t165, .string t166] 24 (0, 0)) (by (with_reducible repeat (first | refine blk_drewN ?_ _ | refine blk_drew ?_ | refine blk_alloc ?_ _)); refine blk_far ?_ (by have h_ := Kd.R_ne HO_7.out BK168.out (by decide); intro e_; exact h_ (by rw [e_]; rfl)) _; (with_reducible repeat (first | refine blk_drewN ?_ _ | refine blk_drew ?_ | refine blk_alloc ?_ _)); refine blk_far ?_ (by have h_ := Kd.R_ne HO_7.out BK168.out (by decide); intro e_; exact h_ (by rw [e_]; rfl)) _; (with_reducible repeat (first | refine blk_drewN ?_ _ | refine blk_drew ?_ | refine blk_alloc ?_ _)); exact BK168.out) hb); have n2_ := Aside0.mk (below_step (by repeat (first | (with_reducible first | exact HB.out | apply below_alloc | apply pw_below_drewN | apply below_drew1 | refine below_set ?_ GB83.out | refine below_set ?_ GB83.out | refine below_set ?_ GE168.out) | exact HB.out)) hb); clear HO_7; clear BK168; clear HB; have HO_7 := n0_; have BK168 := n1_; have HB := n2_; clear n0_ n1_ n2_; (try clear hb); (try clear hb2); (try clear hk); (try clear hi)))
                      go_ret
                      zzq108
                    ·rw [if_neg c82] at H
                     zzq3
                   ·rw [if_neg c81] at H
                    zzq3
                  ·rw [if_neg c80] at H
                   zzq3
                 ·rw [if_neg c79] at H
                  zzq3
               ·rw [if_neg c77] at H
                have c77b0 : decide (148 ≤ t191) = false := decide_eq_false c77
                clear c77
                by_cases c95 : 0 ≤ t191
                ·rw [if_pos c95] at H
                 have c95b0 : decide (0 ≤ t191) = true := decide_eq_true c95
                 clear c95
                 by_cases c96 : t191 < (y145.length : Int)
                 ·rw [if_pos c96] at H
                  have c96b0 : decide (t191 < (y145.length : Int)) = true := decide_eq_true c96
                  clear c96
                  by_cases c97 : 0 ≤ t190
                  ·rw [if_pos c97] at H
                   have c97b0 : decide (0 ≤ t190) = true := decide_eq_true c97
                   clear c97
                   by_cases c98 : t190 < (y145.length : Int)
                   ·rw [if_pos c98] at H
                    have c98b0 : decide (t190 < (y145.length : Int)) = true := decide_eq_true c98
                    clear c98
                    obtain ⟨y200, hy200⟩ : ∃ y_ : List Int, y_ = (y145.set (t190 : Int).toNat (rd y145 t191)) := ⟨_, rfl⟩
                    replace H : ((head_Sum.f (y200.set (t191 : Int).toNat (rd y145 t190))).bind fun bt202 => (if bt202.2 = 0 then (some (bt202.1 == t148)) else (some false))) = some r := by first | (rw [hy200]; with_reducible exact H) | (have H2_ := (Option.bind_some _ _).symm.trans H; rw [hy200]; with_reducible exact H2_) | (have H2_ := (Option.bind_some _ _).symm.trans H; with_reducible exact H2_) | with_reducible exact H | (rw [hy200]; exact H) | exact H
                    have Ny200 := Aside0.mk hy200
                    clear hy200
                    obtain ⟨y201, hy201⟩ : ∃ y_ : List Int, y_ = (y200.set (t191 : Int).toNat (rd y145 t190)) := ⟨_, rfl⟩
                    replace H : ((head_Sum.f y201).bind fun bt202 => (if bt202.2 = 0 then (some (bt202.1 == t148)) else (some false))) = some r := by first | (rw [hy201]; with_reducible exact H) | (have H2_ := (Option.bind_some _ _).symm.trans H; rw [hy201]; with_reducible exact H2_) | (have H2_ := (Option.bind_some _ _).symm.trans H; with_reducible exact H2_) | with_reducible exact H | (rw [hy201]; exact H) | exact H
                    have Ny201 := Aside0.mk hy201
                    clear hy201
                    zzq0
                    obtain ⟨⟨t202, t203⟩, A1010, H⟩ := H
                    replace H : (if t203 = 0 then (some (t202 == t148)) else (some false)) = some r := H
                    have A101 := Aside0.mk A1010
                    clear A1010
                    by_cases c102 : t203 = 0
                    ·rw [if_pos c102] at H
                     have c102b0 : (t203 == 0) = true := beq_iff_eq.mpr c102
                     have c102b1 : (t203 != 0) = false := bne_eq_false_iff_eq.mpr c102
                     clear c102
                     zzq8
                     zzq110
                     zzq26
                     zzq111
                     zzq112
                     zzq31
                     zzq32
                     clear HB
                     zzq20
                     zzq113
                     zzq114
                     zzq115
                     zzq149
                     zzq150
                     zzq151
                     cases e198
                     replace p198 := eq_true p198
                     replace q198 := eq_true q198
                     zzq152
                     zzq153
                     zzq154
                     obtain rfl : ad198 = ad199 := (by injection e199)
                     replace p199 := eq_true p199
                     replace q199 := eq_true q199
                     zzq155
                     zzq156
                     zzq157
                     zzq158
                     have GB99 := Aside0.mk gb99
                     have GG99 := Aside0.mk HG99
                     clear gb99 gl99 HG99
                     (first | simp only [add_plain] at hx198_0 | skip)
                     (first | simp only [add_plain] at hx199_0 | skip)
                     zzq159
                     replace p99 := eq_true p99
                     replace q99 := eq_true q99
                     have HP104 := Kd.R_putn HO_7.out (t190 : Int) (rd y145 t191)
                     rw [← Ny200.out] at HP104
                     have HQ104 := Aside0.mk HP104
                     clear HP104
                     zzq160
                     zzq161
                     obtain ⟨hx100_0, hf100_0⟩ := Kd.R_celln 0 HQ104.out (t191 : Int) p100 q100
                     replace p100 := eq_true p100
                     replace q100 := eq_true q100
                     have HP105 := Kd.R_putn HQ104.out (t191 : Int) (rd y145 t190)
                     rw [← Ny201.out] at HP105
                     have HQ105 := Aside0.mk HP105
                     clear HP105
                     zzq162
                     generalize wc.drew = w103 at HO_7 BK168 HB GG99 HQ104 HQ105 hf100_0 hf99_0 hx100_0 hx198_0 hx199_0 hx99_0 hHeld ⊢
                     zzq130
                     rotate_left
                     ·zzq35
                      zzq36
                      zzq37
                     rotate_left
                     ·zzq38
                      rfl
                     zzq131
                     rotate_left
                     ·zzq35
                      zzq36
                      zzq37
                     rotate_left
                     ·zzq38
                      rfl
                     zzq132
                     rotate_left
                     ·zzq35
                      zzq36
                      zzq37
                     rotate_left
                     ·zzq38
                      rfl
                     zzq133
                     rotate_left
                     ·zzq35
                      zzq36
                      zzq37
                     rotate_left
                     ·zzq38
                      rfl
                     zzq134
                     rotate_left
                     ·zzq35
                      zzq36
                      zzq37
                     rotate_left
                     ·zzq38
                      rfl
                     zzq135
                     rotate_left
                     ·zzq35
                      zzq36
                      zzq37
                     rotate_left
                     ·zzq38
                      rfl
                     zzq136
                     rotate_left
                     ·zzq35
                      zzq36
                      zzq37
                     rotate_left
                     ·zzq38
                      rfl
                     zzq137
                     rotate_left
                     ·zzq35
                      zzq36
                      zzq37
                     rotate_left
                     ·zzq38
                      rfl
                     zzq138
                     rotate_left
                     ·zzq35
                      zzq36
                      zzq37
                     rotate_left
                     ·zzq38
                      rfl
                     zzq139
                     rotate_left
                     ·zzq35
                      zzq36
                      zzq37
                     rotate_left
                     ·zzq38
                      rfl
                     zzq140
                     rotate_left
                     ·zzq141
                      zzq36
                      zzq37
                     rotate_left
                     ·zzq38
                      rfl
                     zzq142
                     rotate_left
                     ·zzq141
                      zzq36
                      zzq37
                     rotate_left
                     ·zzq38
                      rfl
                     zzq143
                     rotate_left
                     ·zzq35
                      zzq36
                      zzq37
                     rotate_left
                     ·zzq38
                      rfl
                     zzq144
                     zzq145
                     rotate_left
                     ·zzq36
                      rfl
                     zzq146
                     zzq61
                     zzq147
                     rotate_left
                     ·zzq35
                      zzq36
                      zzq37
                     rotate_left
                     ·zzq38
                      rfl
                     zzq148
                     zzq145
                     rotate_left
                     ·zzq36
                      rfl
                     zzq146
                     zzq61
                     zzq85
                     try go_wp2_with (first | ((with_reducible refine gate_callee (f := 13) rfl ?_); refine goesL_ (some 143) rfl rfl Try.func13 (by kernel_rfl) rfl #[.slice (some ⟨go99, 0, none⟩) y201.length co17] rfl (by (try simp only [List.map_toArray, List.map_cons, List.map_nil]); first | done | (rw [show y201.length = y145.length from (Kd.R_reads' HQ105.out).1.symm] <;> rfl) | rfl | (simp only [List.length_drop, List.length_take]; rfl)) ?_; (with_reducible refine (head_Sum.calls _ _ y201 t202 t203 _ ?side1 ?side2 A101.out).mono ?_); (case side1 => refine (Kd.R_reads' (e := 5) (base := w.heap.size) (ok := fun k_ => True) (n := y145.length) (c := co17) ?_).2.2; exact (by (with_reducible repeat (first | apply Kd.R_alloc | apply Kd.R_drewN | apply Kd.R_drew)); exact HQ105.out)); (case side2 => rw [show y201.length = y145.length from (Kd.R_reads' HQ105.out).1.symm]; exact (Kd.R_reads' HO_7.out).2.1); rintro e w106 ⟨rfl, hb⟩; refine ⟨_, rfl, ?_⟩; have n0_ := Aside0.mk (Kd.R_below (by (with_reducible repeat (first | apply Kd.R_alloc | apply Kd.R_drewN | apply Kd.R_drew)); exact HQ105.out) hb); have n1_ := Aside0.mk (blk_below (g := gb168) (o := .cells #[.string t160, .string t161, .int .i64 t162, .int .i64 t163, .int .i64 t164, .int .u8 t165, .string t166] 24 (0, 0)) (by (with_reducible repeat (first | refine blk_drewN ?_ _ | refine blk_drew ?_ | refine blk_alloc ?_ _)); refine blk_far ?_ (by have h_ := Kd.R_ne HO_7.out BK168.out (by decide); intro e_; exact h_ (by rw [e_]; rfl)) _; (with_reducible repeat (first | refine blk_drewN ?_ _ | refine blk_drew ?_ | refine blk_alloc ?_ _)); refine blk_far ?_ (by have h_ := Kd.R_ne HO_7.out BK168.out (by decide); intro e_; exact h_ (by rw [e_]; rfl)) _; (with_reducible repeat (first | refine blk_drewN ?_ _ | refine blk_drew ?_ | refine blk_alloc ?_ _)); exact BK168.out) hb); have n2_ := Aside0.mk (below_step (by repeat (first | (with_reducible first | exact HB.out | apply below_alloc | apply pw_below_drewN | apply below_drew1 | refine below_set ?_ GB99.out | refine below_set ?_ GB99.out | refine below_set ?_ GE168.out) | exact HB.out)) hb); clear HO_7; clear BK168; clear HB; have HO_7 := n0_; have BK168 := n1_; have HB := n2_; clear n0_ n1_ n2_; (try clear hb); (try clear hb2); (try clear hk); (try clear hi)))
                     go_ret
                     zzq108
                    ·rw [if_neg c102] at H
                     have c102b0 : (t203 == 0) = false := beq_eq_false_iff_ne.mpr c102
                     have c102b1 : (t203 != 0) = true := bne_iff_ne.mpr c102
                     zzq8
                     zzq110
                     zzq26
                     zzq111
                     zzq112
                     zzq31
                     zzq32
                     clear HB
                     zzq20
                     zzq113
                     zzq114
                     zzq115
                     zzq149
                     zzq150
                     zzq151
                     cases e198
                     replace p198 := eq_true p198
                     replace q198 := eq_true q198
                     zzq152
                     zzq153
                     zzq154
                     obtain rfl : ad198 = ad199 := (by injection e199)
                     replace p199 := eq_true p199
                     replace q199 := eq_true q199
                     zzq155
                     zzq156
                     zzq157
                     zzq158
                     have GB99 := Aside0.mk gb99
                     have GG99 := Aside0.mk HG99
                     clear gb99 gl99 HG99
                     (first | simp only [add_plain] at hx198_0 | skip)
                     (first | simp only [add_plain] at hx199_0 | skip)
                     zzq159
                     replace p99 := eq_true p99
                     replace q99 := eq_true q99
                     have HP108 := Kd.R_putn HO_7.out (t190 : Int) (rd y145 t191)
                     rw [← Ny200.out] at HP108
                     have HQ108 := Aside0.mk HP108
                     clear HP108
                     zzq160
                     zzq161
                     obtain ⟨hx100_0, hf100_0⟩ := Kd.R_celln 0 HQ108.out (t191 : Int) p100 q100
                     replace p100 := eq_true p100
                     replace q100 := eq_true q100
                     have HP109 := Kd.R_putn HQ108.out (t191 : Int) (rd y145 t190)
                     rw [← Ny201.out] at HP109
                     have HQ109 := Aside0.mk HP109
                     clear HP109
                     zzq162
                     generalize wc.drew = w107 at HO_7 BK168 HB GG99 HQ108 HQ109 hf100_0 hf99_0 hx100_0 hx198_0 hx199_0 hx99_0 hHeld ⊢
                     zzq130
                     rotate_left
                     ·zzq35
                      zzq36
                      zzq37
                     rotate_left
                     ·zzq38
                      rfl
                     zzq131
                     rotate_left
                     ·zzq35
                      zzq36
                      zzq37
                     rotate_left
                     ·zzq38
                      rfl
                     zzq132
                     rotate_left
                     ·zzq35
                      zzq36
                      zzq37
                     rotate_left
                     ·zzq38
                      rfl
                     zzq133
                     rotate_left
                     ·zzq35
                      zzq36
                      zzq37
                     rotate_left
                     ·zzq38
                      rfl
                     zzq134
                     rotate_left
                     ·zzq35
                      zzq36
                      zzq37
                     rotate_left
                     ·zzq38
                      rfl
                     zzq135
                     rotate_left
                     ·zzq35
                      zzq36
                      zzq37
                     rotate_left
                     ·zzq38
                      rfl
                     zzq136
                     rotate_left
                     ·zzq35
                      zzq36
                      zzq37
                     rotate_left
                     ·zzq38
                      rfl
                     zzq137
                     rotate_left
                     ·zzq35
                      zzq36
                      zzq37
                     rotate_left
                     ·zzq38
                      rfl
                     zzq138
                     rotate_left
                     ·zzq35
                      zzq36
                      zzq37
                     rotate_left
                     ·zzq38
                      rfl
                     zzq139
                     rotate_left
                     ·zzq35
                      zzq36
                      zzq37
                     rotate_left
                     ·zzq38
                      rfl
                     zzq140
                     rotate_left
                     ·zzq141
                      zzq36
                      zzq37
                     rotate_left
                     ·zzq38
                      rfl
                     zzq142
                     rotate_left
                     ·zzq141
                      zzq36
                      zzq37
                     rotate_left
                     ·zzq38
                      rfl
                     zzq143
                     rotate_left
                     ·zzq35
                      zzq36
                      zzq37
                     rotate_left
                     ·zzq38
                      rfl
                     zzq144
                     zzq145
                     rotate_left
                     ·zzq36
                      rfl
                     zzq146
                     zzq61
                     zzq147
                     rotate_left
                     ·zzq35
                      zzq36
                      zzq37
                     rotate_left
                     ·zzq38
                      rfl
                     zzq148
                     zzq145
                     rotate_left
                     ·zzq36
                      rfl
                     zzq146
                     zzq61
                     zzq85
                     try go_wp2_with (first | ((with_reducible refine gate_callee (f := 13) rfl ?_); refine goesL_ (some 143) rfl rfl Try.func13 (by kernel_rfl) rfl #[.slice (some ⟨go99, 0, none⟩) y201.length co17] rfl (by (try simp only [List.map_toArray, List.map_cons, List.map_nil]); first | done | (rw [show y201.length = y145.length from (Kd.R_reads' HQ109.out).1.symm] <;> rfl) | rfl | (simp only [List.length_drop, List.length_take]; rfl)) ?_; (with_reducible refine (head_Sum.calls _ _ y201 t202 t203 _ ?side1 ?side2 A101.out).mono ?_); (case side1 => refine (Kd.R_reads' (e := 5) (base := w.heap.size) (ok := fun k_ => True) (n := y145.length) (c := co17) ?_).2.2; exact (by (with_reducible repeat (first | apply Kd.R_alloc | apply Kd.R_drewN | apply Kd.R_drew)); exact HQ109.out)); (case side2 => rw [show y201.length = y145.length from (Kd.R_reads' HQ109.out).1.symm]; exact (Kd.R_reads' HO_7.out).2.1); rintro e w110 ⟨rfl, hb⟩; refine ⟨_, rfl, ?_⟩; have n0_ := Aside0.mk (Kd.R_below (by (with_reducible repeat (first | apply Kd.R_alloc | apply Kd.R_drewN | apply Kd.R_drew)); exact HQ109.out) hb); have n1_ := Aside0.mk (blk_below (g := gb168) (o := .cells #[.string t160, .string t161, .int .i64 t162, .int .i64 t163, .int .i64 t164, .int .u8 t165, .string t166] 24 (0, 0)) (by (with_reducible repeat (first | refine blk_drewN ?_ _ | refine blk_drew ?_ | refine blk_alloc ?_ _)); refine blk_far ?_ (by have h_ := Kd.R_ne HO_7.out BK168.out (by decide); intro e_; exact h_ (by rw [e_]; rfl)) _; (with_reducible repeat (first | refine blk_drewN ?_ _ | refine blk_drew ?_ | refine blk_alloc ?_ _)); refine blk_far ?_ (by have h_ := Kd.R_ne HO_7.out BK168.out (by decide); intro e_; exact h_ (by rw [e_]; rfl)) _; (with_reducible repeat (first | refine blk_drewN ?_ _ | refine blk_drew ?_ | refine blk_alloc ?_ _)); exact BK168.out) hb); have n2_ := Aside0.mk (below_step (by repeat (first | (with_reducible first | exact HB.out | apply below_alloc | apply pw_below_drewN | apply below_drew1 | refine below_set ?_ GB99.out | refine below_set ?_ GB99.out | refine below_set ?_ GE168.out) | exact HB.out)) hb); clear HO_7; clear BK168; clear HB; have HO_7 := n0_; have BK168 := n1_; have HB := n2_; clear n0_ n1_ n2_; (try clear hb); (try clear hb2); (try clear hk); (try clear hi)))
                     go_ret
                     zzq108
                   ·rw [if_neg c98] at H
                    zzq3
                  ·rw [if_neg c97] at H
                   zzq3
                 ·rw [if_neg c96] at H
                  zzq3
                ·rw [if_neg c95] at H
                 zzq3
             ·rw [if_neg c75] at H
              have c75b0 : decide (148 ≤ t190) = false := decide_eq_false c75
              clear c75
              by_cases c111 : t191 ≥ 148
              ·rw [if_pos c111] at H
               have c111b0 : decide (148 ≤ t191) = true := decide_eq_true c111
               clear c111
               by_cases c112 : t191 < 156
               ·rw [if_pos c112] at H
                have c112b0 : decide (t191 < 156) = true := decide_eq_true c112
                clear c112
                zzq8
                zzq109
                go_ret
                zzq108
               ·rw [if_neg c112] at H
                have c112b0 : decide (t191 < 156) = false := decide_eq_false c112
                clear c112
                by_cases c113 : 0 ≤ t191
                ·rw [if_pos c113] at H
                 have c113b0 : decide (0 ≤ t191) = true := decide_eq_true c113
                 clear c113
                 by_cases c114 : t191 < (y145.length : Int)
                 ·rw [if_pos c114] at H
                  have c114b0 : decide (t191 < (y145.length : Int)) = true := decide_eq_true c114
                  clear c114
                  by_cases c115 : 0 ≤ t190
                  ·rw [if_pos c115] at H
                   have c115b0 : decide (0 ≤ t190) = true := decide_eq_true c115
                   clear c115
                   by_cases c116 : t190 < (y145.length : Int)
                   ·rw [if_pos c116] at H
                    have c116b0 : decide (t190 < (y145.length : Int)) = true := decide_eq_true c116
                    clear c116
                    obtain ⟨y206, hy206⟩ : ∃ y_ : List Int, y_ = (y145.set (t190 : Int).toNat (rd y145 t191)) := ⟨_, rfl⟩
                    replace H : ((head_Sum.f (y206.set (t191 : Int).toNat (rd y145 t190))).bind fun bt208 => (if bt208.2 = 0 then (some (bt208.1 == t148)) else (some false))) = some r := by first | (rw [hy206]; with_reducible exact H) | (have H2_ := (Option.bind_some _ _).symm.trans H; rw [hy206]; with_reducible exact H2_) | (have H2_ := (Option.bind_some _ _).symm.trans H; with_reducible exact H2_) | with_reducible exact H | (rw [hy206]; exact H) | exact H
                    have Ny206 := Aside0.mk hy206
                    clear hy206
                    obtain ⟨y207, hy207⟩ : ∃ y_ : List Int, y_ = (y206.set (t191 : Int).toNat (rd y145 t190)) := ⟨_, rfl⟩
                    replace H : ((head_Sum.f y207).bind fun bt208 => (if bt208.2 = 0 then (some (bt208.1 == t148)) else (some false))) = some r := by first | (rw [hy207]; with_reducible exact H) | (have H2_ := (Option.bind_some _ _).symm.trans H; rw [hy207]; with_reducible exact H2_) | (have H2_ := (Option.bind_some _ _).symm.trans H; with_reducible exact H2_) | with_reducible exact H | (rw [hy207]; exact H) | exact H
                    have Ny207 := Aside0.mk hy207
                    clear hy207
                    zzq0
                    obtain ⟨⟨t208, t209⟩, A1190, H⟩ := H
                    replace H : (if t209 = 0 then (some (t208 == t148)) else (some false)) = some r := H
                    have A119 := Aside0.mk A1190
                    clear A1190
                    by_cases c120 : t209 = 0
                    ·rw [if_pos c120] at H
                     have c120b0 : (t209 == 0) = true := beq_iff_eq.mpr c120
                     have c120b1 : (t209 != 0) = false := bne_eq_false_iff_eq.mpr c120
                     clear c120
                     zzq8
                     zzq110
                     zzq26
                     zzq111
                     zzq112
                     zzq31
                     zzq32
                     clear HB
                     zzq20
                     zzq113
                     zzq114
                     zzq115
                     zzq163
                     zzq164
                     zzq165
                     cases e204
                     replace p204 := eq_true p204
                     replace q204 := eq_true q204
                     zzq166
                     zzq167
                     zzq168
                     obtain rfl : ad204 = ad205 := (by injection e205)
                     replace p205 := eq_true p205
                     replace q205 := eq_true q205
                     zzq169
                     zzq170
                     zzq171
                     zzq172
                     have GB117 := Aside0.mk gb117
                     have GG117 := Aside0.mk HG117
                     clear gb117 gl117 HG117
                     (first | simp only [add_plain] at hx204_0 | skip)
                     (first | simp only [add_plain] at hx205_0 | skip)
                     zzq173
                     replace p117 := eq_true p117
                     replace q117 := eq_true q117
                     have HP122 := Kd.R_putn HO_7.out (t190 : Int) (rd y145 t191)
                     rw [← Ny206.out] at HP122
                     have HQ122 := Aside0.mk HP122
                     clear HP122
                     zzq174
                     zzq175
                     obtain ⟨hx118_0, hf118_0⟩ := Kd.R_celln 0 HQ122.out (t191 : Int) p118 q118
                     replace p118 := eq_true p118
                     replace q118 := eq_true q118
                     have HP123 := Kd.R_putn HQ122.out (t191 : Int) (rd y145 t190)
                     rw [← Ny207.out] at HP123
                     have HQ123 := Aside0.mk HP123
                     clear HP123
                     zzq176
                     generalize wc.drew = w121 at HO_7 BK168 HB GG117 HQ122 HQ123 hf117_0 hf118_0 hx117_0 hx118_0 hx204_0 hx205_0 hHeld ⊢
                     zzq130
                     rotate_left
                     ·zzq35
                      zzq36
                      zzq37
                     rotate_left
                     ·zzq38
                      rfl
                     zzq131
                     rotate_left
                     ·zzq35
                      zzq36
                      zzq37
                     rotate_left
                     ·zzq38
                      rfl
                     zzq132
                     rotate_left
                     ·zzq35
                      zzq36
                      zzq37
                     rotate_left
                     ·zzq38
                      rfl
                     zzq133
                     rotate_left
                     ·zzq35
                      zzq36
                      zzq37
                     rotate_left
                     ·zzq38
                      rfl
                     zzq134
                     rotate_left
                     ·zzq35
                      zzq36
                      zzq37
                     rotate_left
                     ·zzq38
                      rfl
                     zzq135
                     rotate_left
                     ·zzq35
                      zzq36
                      zzq37
                     rotate_left
                     ·zzq38
                      rfl
                     zzq136
                     rotate_left
                     ·zzq35
                      zzq36
                      zzq37
                     rotate_left
                     ·zzq38
                      rfl
                     zzq137
                     rotate_left
                     ·zzq35
                      zzq36
                      zzq37
                     rotate_left
                     ·zzq38
                      rfl
                     zzq138
                     rotate_left
                     ·zzq35
                      zzq36
                      zzq37
                     rotate_left
                     ·zzq38
                      rfl
                     zzq139
                     rotate_left
                     ·zzq35
                      zzq36
                      zzq37
                     rotate_left
                     ·zzq38
                      rfl
                     zzq140
                     rotate_left
                     ·zzq141
                      zzq36
                      zzq37
                     rotate_left
                     ·zzq38
                      rfl
                     zzq142
                     rotate_left
                     ·zzq141
                      zzq36
                      zzq37
                     rotate_left
                     ·zzq38
                      rfl
                     zzq143
                     rotate_left
                     ·zzq35
                      zzq36
                      zzq37
                     rotate_left
                     ·zzq38
                      rfl
                     zzq144
                     zzq145
                     rotate_left
                     ·zzq36
                      rfl
                     zzq146
                     zzq61
                     zzq147
                     rotate_left
                     ·zzq35
                      zzq36
                      zzq37
                     rotate_left
                     ·zzq38
                      rfl
                     zzq148
                     zzq145
                     rotate_left
                     ·zzq36
                      rfl
                     zzq146
                     zzq61
                     zzq85
                     try go_wp2_with (first | ((with_reducible refine gate_callee (f := 13) rfl ?_); refine goesL_ (some 143) rfl rfl Try.func13 (by kernel_rfl) rfl #[.slice (some ⟨go117, 0, none⟩) y207.length co17] rfl (by (try simp only [List.map_toArray, List.map_cons, List.map_nil]); first | done | (rw [show y207.length = y145.length from (Kd.R_reads' HQ123.out).1.symm] <;> rfl) | rfl | (simp only [List.length_drop, List.length_take]; rfl)) ?_; (with_reducible refine (head_Sum.calls _ _ y207 t208 t209 _ ?side1 ?side2 A119.out).mono ?_); (case side1 => refine (Kd.R_reads' (e := 5) (base := w.heap.size) (ok := fun k_ => True) (n := y145.length) (c := co17) ?_).2.2; exact (by (with_reducible repeat (first | apply Kd.R_alloc | apply Kd.R_drewN | apply Kd.R_drew)); exact HQ123.out)); (case side2 => rw [show y207.length = y145.length from (Kd.R_reads' HQ123.out).1.symm]; exact (Kd.R_reads' HO_7.out).2.1); rintro e w124 ⟨rfl, hb⟩; refine ⟨_, rfl, ?_⟩; have n0_ := Aside0.mk (Kd.R_below (by (with_reducible repeat (first | apply Kd.R_alloc | apply Kd.R_drewN | apply Kd.R_drew)); exact HQ123.out) hb); have n1_ := Aside0.mk (blk_below (g := gb168) (o := .cells #[.string t160, .string t161, .int .i64 t162, .int .i64 t163, .int .i64 t164, .int .u8 t165, .string t166] 24 (0, 0)) (by (with_reducible repeat (first | refine blk_drewN ?_ _ | refine blk_drew ?_ | refine blk_alloc ?_ _)); refine blk_far ?_ (by have h_ := Kd.R_ne HO_7.out BK168.out (by decide); intro e_; exact h_ (by rw [e_]; rfl)) _; (with_reducible repeat (first | refine blk_drewN ?_ _ | refine blk_drew ?_ | refine blk_alloc ?_ _)); refine blk_far ?_ (by have h_ := Kd.R_ne HO_7.out BK168.out (by decide); intro e_; exact h_ (by rw [e_]; rfl)) _; (with_reducible repeat (first | refine blk_drewN ?_ _ | refine blk_drew ?_ | refine blk_alloc ?_ _)); exact BK168.out) hb); have n2_ := Aside0.mk (below_step (by repeat (first | (with_reducible first | exact HB.out | apply below_alloc | apply pw_below_drewN | apply below_drew1 | refine below_set ?_ GB117.out | refine below_set ?_ GB117.out | refine below_set ?_ GE168.out) | exact HB.out)) hb); clear HO_7; clear BK168; clear HB; have HO_7 := n0_; have BK168 := n1_; have HB := n2_; clear n0_ n1_ n2_; (try clear hb); (try clear hb2); (try clear hk); (try clear hi)))
                     go_ret
                     zzq108
                    ·rw [if_neg c120] at H
                     have c120b0 : (t209 == 0) = false := beq_eq_false_iff_ne.mpr c120
                     have c120b1 : (t209 != 0) = true := bne_iff_ne.mpr c120
                     zzq8
                     zzq110
                     zzq26
                     zzq111
                     zzq112
                     zzq31
                     zzq32
                     clear HB
                     zzq20
                     zzq113
                     zzq114
                     zzq115
                     zzq163
                     zzq164
                     zzq165
                     cases e204
                     replace p204 := eq_true p204
                     replace q204 := eq_true q204
                     zzq166
                     zzq167
                     zzq168
                     obtain rfl : ad204 = ad205 := (by injection e205)
                     replace p205 := eq_true p205
                     replace q205 := eq_true q205
                     zzq169
                     zzq170
                     zzq171
                     zzq172
                     have GB117 := Aside0.mk gb117
                     have GG117 := Aside0.mk HG117
                     clear gb117 gl117 HG117
                     (first | simp only [add_plain] at hx204_0 | skip)
                     (first | simp only [add_plain] at hx205_0 | skip)
                     zzq173
                     replace p117 := eq_true p117
                     replace q117 := eq_true q117
                     have HP126 := Kd.R_putn HO_7.out (t190 : Int) (rd y145 t191)
                     rw [← Ny206.out] at HP126
                     have HQ126 := Aside0.mk HP126
                     clear HP126
                     zzq174
                     zzq175
                     obtain ⟨hx118_0, hf118_0⟩ := Kd.R_celln 0 HQ126.out (t191 : Int) p118 q118
                     replace p118 := eq_true p118
                     replace q118 := eq_true q118
                     have HP127 := Kd.R_putn HQ126.out (t191 : Int) (rd y145 t190)
                     rw [← Ny207.out] at HP127
                     have HQ127 := Aside0.mk HP127
                     clear HP127
                     zzq176
                     generalize wc.drew = w125 at HO_7 BK168 HB GG117 HQ126 HQ127 hf117_0 hf118_0 hx117_0 hx118_0 hx204_0 hx205_0 hHeld ⊢
                     zzq130
                     rotate_left
                     ·zzq35
                      zzq36
                      zzq37
                     rotate_left
                     ·zzq38
                      rfl
                     zzq131
                     rotate_left
                     ·zzq35
                      zzq36
                      zzq37
                     rotate_left
                     ·zzq38
                      rfl
                     zzq132
                     rotate_left
                     ·zzq35
                      zzq36
                      zzq37
                     rotate_left
                     ·zzq38
                      rfl
                     zzq133
                     rotate_left
                     ·zzq35
                      zzq36
                      zzq37
                     rotate_left
                     ·zzq38
                      rfl
                     zzq134
                     rotate_left
                     ·zzq35
                      zzq36
                      zzq37
                     rotate_left
                     ·zzq38
                      rfl
                     zzq135
                     rotate_left
                     ·zzq35
                      zzq36
                      zzq37
                     rotate_left
                     ·zzq38
                      rfl
                     zzq136
                     rotate_left
                     ·zzq35
                      zzq36
                      zzq37
                     rotate_left
                     ·zzq38
                      rfl
                     zzq137
                     rotate_left
                     ·zzq35
                      zzq36
                      zzq37
                     rotate_left
                     ·zzq38
                      rfl
                     zzq138
                     rotate_left
                     ·zzq35
                      zzq36
                      zzq37
                     rotate_left
                     ·zzq38
                      rfl
                     zzq139
                     rotate_left
                     ·zzq35
                      zzq36
                      zzq37
                     rotate_left
                     ·zzq38
                      rfl
                     zzq140
                     rotate_left
                     ·zzq141
                      zzq36
                      zzq37
                     rotate_left
                     ·zzq38
                      rfl
                     zzq142
                     rotate_left
                     ·zzq141
                      zzq36
                      zzq37
                     rotate_left
                     ·zzq38
                      rfl
                     zzq143
                     rotate_left
                     ·zzq35
                      zzq36
                      zzq37
                     rotate_left
                     ·zzq38
                      rfl
                     zzq144
                     zzq145
                     rotate_left
                     ·zzq36
                      rfl
                     zzq146
                     zzq61
                     zzq147
                     rotate_left
                     ·zzq35
                      zzq36
                      zzq37
                     rotate_left
                     ·zzq38
                      rfl
                     zzq148
                     zzq145
                     rotate_left
                     ·zzq36
                      rfl
                     zzq146
                     zzq61
                     zzq85
                     try go_wp2_with (first | ((with_reducible refine gate_callee (f := 13) rfl ?_); refine goesL_ (some 143) rfl rfl Try.func13 (by kernel_rfl) rfl #[.slice (some ⟨go117, 0, none⟩) y207.length co17] rfl (by (try simp only [List.map_toArray, List.map_cons, List.map_nil]); first | done | (rw [show y207.length = y145.length from (Kd.R_reads' HQ127.out).1.symm] <;> rfl) | rfl | (simp only [List.length_drop, List.length_take]; rfl)) ?_; (with_reducible refine (head_Sum.calls _ _ y207 t208 t209 _ ?side1 ?side2 A119.out).mono ?_); (case side1 => refine (Kd.R_reads' (e := 5) (base := w.heap.size) (ok := fun k_ => True) (n := y145.length) (c := co17) ?_).2.2; exact (by (with_reducible repeat (first | apply Kd.R_alloc | apply Kd.R_drewN | apply Kd.R_drew)); exact HQ127.out)); (case side2 => rw [show y207.length = y145.length from (Kd.R_reads' HQ127.out).1.symm]; exact (Kd.R_reads' HO_7.out).2.1); rintro e w128 ⟨rfl, hb⟩; refine ⟨_, rfl, ?_⟩; have n0_ := Aside0.mk (Kd.R_below (by (with_reducible repeat (first | apply Kd.R_alloc | apply Kd.R_drewN | apply Kd.R_drew)); exact HQ127.out) hb); have n1_ := Aside0.mk (blk_below (g := gb168) (o := .cells #[.string t160, .string t161, .int .i64 t162, .int .i64 t163, .int .i64 t164, .int .u8 t165, .string t166] 24 (0, 0)) (by (with_reducible repeat (first | refine blk_drewN ?_ _ | refine blk_drew ?_ | refine blk_alloc ?_ _)); refine blk_far ?_ (by have h_ := Kd.R_ne HO_7.out BK168.out (by decide); intro e_; exact h_ (by rw [e_]; rfl)) _; (with_reducible repeat (first | refine blk_drewN ?_ _ | refine blk_drew ?_ | refine blk_alloc ?_ _)); refine blk_far ?_ (by have h_ := Kd.R_ne HO_7.out BK168.out (by decide); intro e_; exact h_ (by rw [e_]; rfl)) _; (with_reducible repeat (first | refine blk_drewN ?_ _ | refine blk_drew ?_ | refine blk_alloc ?_ _)); exact BK168.out) hb); have n2_ := Aside0.mk (below_step (by repeat (first | (with_reducible first | exact HB.out | apply below_alloc | apply pw_below_drewN | apply below_drew1 | refine below_set ?_ GB117.out | refine below_set ?_ GB117.out | refine below_set ?_ GE168.out) | exact HB.out)) hb); clear HO_7; clear BK168; clear HB; have HO_7 := n0_; have BK168 := n1_; have HB := n2_; clear n0_ n1_ n2_; (try clear hb); (try clear hb2); (try clear hk); (try clear hi)))
                     go_ret
                     zzq108
                   ·rw [if_neg c116] at H
                    zzq3
                  ·rw [if_neg c115] at H
                   zzq3
                 ·rw [if_neg c114] at H
                  zzq3
                ·rw [if_neg c113] at H
                 zzq3
              ·rw [if_neg c111] at H
               have c111b0 : decide (148 ≤ t191) = false := decide_eq_false c111
               clear c111
               by_cases c129 : 0 ≤ t191
               ·rw [if_pos c129] at H
                have c129b0 : decide (0 ≤ t191) = true := decide_eq_true c129
                clear c129
                by_cases c130 : t191 < (y145.length : Int)
                ·rw [if_pos c130] at H
                 have c130b0 : decide (t191 < (y145.length : Int)) = true := decide_eq_true c130
                 clear c130
                 by_cases c131 : 0 ≤ t190
                 ·rw [if_pos c131] at H
                  have c131b0 : decide (0 ≤ t190) = true := decide_eq_true c131
                  clear c131
                  by_cases c132 : t190 < (y145.length : Int)
                  ·rw [if_pos c132] at H
                   have c132b0 : decide (t190 < (y145.length : Int)) = true := decide_eq_true c132
                   clear c132
                   obtain ⟨y212, hy212⟩ : ∃ y_ : List Int, y_ = (y145.set (t190 : Int).toNat (rd y145 t191)) := ⟨_, rfl⟩
                   replace H : ((head_Sum.f (y212.set (t191 : Int).toNat (rd y145 t190))).bind fun bt214 => (if bt214.2 = 0 then (some (bt214.1 == t148)) else (some false))) = some r := by first | (rw [hy212]; with_reducible exact H) | (have H2_ := (Option.bind_some _ _).symm.trans H; rw [hy212]; with_reducible exact H2_) | (have H2_ := (Option.bind_some _ _).symm.trans H; with_reducible exact H2_) | with_reducible exact H | (rw [hy212]; exact H) | exact H
                   have Ny212 := Aside0.mk hy212
                   clear hy212
                   obtain ⟨y213, hy213⟩ : ∃ y_ : List Int, y_ = (y212.set (t191 : Int).toNat (rd y145 t190)) := ⟨_, rfl⟩
                   replace H : ((head_Sum.f y213).bind fun bt214 => (if bt214.2 = 0 then (some (bt214.1 == t148)) else (some false))) = some r := by first | (rw [hy213]; with_reducible exact H) | (have H2_ := (Option.bind_some _ _).symm.trans H; rw [hy213]; with_reducible exact H2_) | (have H2_ := (Option.bind_some _ _).symm.trans H; with_reducible exact H2_) | with_reducible exact H | (rw [hy213]; exact H) | exact H
                   have Ny213 := Aside0.mk hy213
                   clear hy213
                   zzq0
                   obtain ⟨⟨t214, t215⟩, A1350, H⟩ := H
                   replace H : (if t215 = 0 then (some (t214 == t148)) else (some false)) = some r := H
                   have A135 := Aside0.mk A1350
                   clear A1350
                   by_cases c136 : t215 = 0
                   ·rw [if_pos c136] at H
                    have c136b0 : (t215 == 0) = true := beq_iff_eq.mpr c136
                    have c136b1 : (t215 != 0) = false := bne_eq_false_iff_eq.mpr c136
                    clear c136
                    zzq8
                    zzq110
                    zzq26
                    zzq111
                    zzq112
                    zzq31
                    zzq32
                    clear HB
                    zzq20
                    zzq113
                    zzq114
                    zzq115
                    zzq177
                    zzq178
                    zzq179
                    cases e210
                    replace p210 := eq_true p210
                    replace q210 := eq_true q210
                    zzq180
                    zzq181
                    zzq182
                    obtain rfl : ad210 = ad211 := (by injection e211)
                    replace p211 := eq_true p211
                    replace q211 := eq_true q211
                    zzq183
                    zzq184
                    zzq185
                    zzq186
                    have GB133 := Aside0.mk gb133
                    have GG133 := Aside0.mk HG133
                    clear gb133 gl133 HG133
                    (first | simp only [add_plain] at hx210_0 | skip)
                    (first | simp only [add_plain] at hx211_0 | skip)
                    zzq187
                    replace p133 := eq_true p133
                    replace q133 := eq_true q133
                    have HP138 := Kd.R_putn HO_7.out (t190 : Int) (rd y145 t191)
                    rw [← Ny212.out] at HP138
                    have HQ138 := Aside0.mk HP138
                    clear HP138
                    zzq188
                    zzq189
                    obtain ⟨hx134_0, hf134_0⟩ := Kd.R_celln 0 HQ138.out (t191 : Int) p134 q134
                    replace p134 := eq_true p134
                    replace q134 := eq_true q134
                    have HP139 := Kd.R_putn HQ138.out (t191 : Int) (rd y145 t190)
                    rw [← Ny213.out] at HP139
                    have HQ139 := Aside0.mk HP139
                    clear HP139
                    zzq190
                    generalize wc.drew = w137 at HO_7 BK168 HB GG133 HQ138 HQ139 hf133_0 hf134_0 hx133_0 hx134_0 hx210_0 hx211_0 hHeld ⊢
                    zzq130
                    rotate_left
                    ·zzq35
                     zzq36
                     zzq37
                    rotate_left
                    ·zzq38
                     rfl
                    zzq131
                    rotate_left
                    ·zzq35
                     zzq36
                     zzq37
                    rotate_left
                    ·zzq38
                     rfl
                    zzq132
                    rotate_left
                    ·zzq35
                     zzq36
                     zzq37
                    rotate_left
                    ·zzq38
                     rfl
                    zzq133
                    rotate_left
                    ·zzq35
                     zzq36
                     zzq37
                    rotate_left
                    ·zzq38
                     rfl
                    zzq134
                    rotate_left
                    ·zzq35
                     zzq36
                     zzq37
                    rotate_left
                    ·zzq38
                     rfl
                    zzq135
                    rotate_left
                    ·zzq35
                     zzq36
                     zzq37
                    rotate_left
                    ·zzq38
                     rfl
                    zzq136
                    rotate_left
                    ·zzq35
                     zzq36
                     zzq37
                    rotate_left
                    ·zzq38
                     rfl
                    zzq137
                    rotate_left
                    ·zzq35
                     zzq36
                     zzq37
                    rotate_left
                    ·zzq38
                     rfl
                    zzq138
                    rotate_left
                    ·zzq35
                     zzq36
                     zzq37
                    rotate_left
                    ·zzq38
                     rfl
                    zzq139
                    rotate_left
                    ·zzq35
                     zzq36
                     zzq37
                    rotate_left
                    ·zzq38
                     rfl
                    zzq140
                    rotate_left
                    ·zzq141
                     zzq36
                     zzq37
                    rotate_left
                    ·zzq38
                     rfl
                    zzq142
                    rotate_left
                    ·zzq141
                     zzq36
                     zzq37
                    rotate_left
                    ·zzq38
                     rfl
                    zzq143
                    rotate_left
                    ·zzq35
                     zzq36
                     zzq37
                    rotate_left
                    ·zzq38
                     rfl
                    zzq144
                    zzq145
                    rotate_left
                    ·zzq36
                     rfl
                    zzq146
                    zzq61
                    zzq147
                    rotate_left
                    ·zzq35
                     zzq36
                     zzq37
                    rotate_left
                    ·zzq38
                     rfl
                    zzq148
                    zzq145
                    rotate_left
                    ·zzq36
                     rfl
                    zzq146
                    zzq61
                    zzq85
                    try go_wp2_with (first | ((with_reducible refine gate_callee (f := 13) rfl ?_); refine goesL_ (some 143) rfl rfl Try.func13 (by kernel_rfl) rfl #[.slice (some ⟨go133, 0, none⟩) y213.length co17] rfl (by (try simp only [List.map_toArray, List.map_cons, List.map_nil]); first | done | (rw [show y213.length = y145.length from (Kd.R_reads' HQ139.out).1.symm] <;> rfl) | rfl | (simp only [List.length_drop, List.length_take]; rfl)) ?_; (with_reducible refine (head_Sum.calls _ _ y213 t214 t215 _ ?side1 ?side2 A135.out).mono ?_); (case side1 => refine (Kd.R_reads' (e := 5) (base := w.heap.size) (ok := fun k_ => True) (n := y145.length) (c := co17) ?_).2.2; exact (by (with_reducible repeat (first | apply Kd.R_alloc | apply Kd.R_drewN | apply Kd.R_drew)); exact HQ139.out)); (case side2 => rw [show y213.length = y145.length from (Kd.R_reads' HQ139.out).1.symm]; exact (Kd.R_reads' HO_7.out).2.1); rintro e w140 ⟨rfl, hb⟩; refine ⟨_, rfl, ?_⟩; have n0_ := Aside0.mk (Kd.R_below (by (with_reducible repeat (first | apply Kd.R_alloc | apply Kd.R_drewN | apply Kd.R_drew)); exact HQ139.out) hb); have n1_ := Aside0.mk (blk_below (g := gb168) (o := .cells #[.string t160, .string t161, .int .i64 t162, .int .i64 t163, .int .i64 t164, .int .u8 t165, .string t166] 24 (0, 0)) (by (with_reducible repeat (first | refine blk_drewN ?_ _ | refine blk_drew ?_ | refine blk_alloc ?_ _)); refine blk_far ?_ (by have h_ := Kd.R_ne HO_7.out BK168.out (by decide); intro e_; exact h_ (by rw [e_]; rfl)) _; (with_reducible repeat (first | refine blk_drewN ?_ _ | refine blk_drew ?_ | refine blk_alloc ?_ _)); refine blk_far ?_ (by have h_ := Kd.R_ne HO_7.out BK168.out (by decide); intro e_; exact h_ (by rw [e_]; rfl)) _; (with_reducible repeat (first | refine blk_drewN ?_ _ | refine blk_drew ?_ | refine blk_alloc ?_ _)); exact BK168.out) hb); have n2_ := Aside0.mk (below_step (by repeat (first | (with_reducible first | exact HB.out | apply below_alloc | apply pw_below_drewN | apply below_drew1 | refine below_set ?_ GB133.out | refine below_set ?_ GB133.out | refine below_set ?_ GE168.out) | exact HB.out)) hb); clear HO_7; clear BK168; clear HB; have HO_7 := n0_; have BK168 := n1_; have HB := n2_; clear n0_ n1_ n2_; (try clear hb); (try clear hb2); (try clear hk); (try clear hi)))
                    go_ret
                    zzq108
                   ·rw [if_neg c136] at H
                    have c136b0 : (t215 == 0) = false := beq_eq_false_iff_ne.mpr c136
                    have c136b1 : (t215 != 0) = true := bne_iff_ne.mpr c136
                    zzq8
                    zzq110
                    zzq26
                    zzq111
                    zzq112
                    zzq31
                    zzq32
                    clear HB
                    zzq20
                    zzq113
                    zzq114
                    zzq115
                    zzq177
                    zzq178
                    zzq179
                    cases e210
                    replace p210 := eq_true p210
                    replace q210 := eq_true q210
                    zzq180
                    zzq181
                    zzq182
                    obtain rfl : ad210 = ad211 := (by injection e211)
                    replace p211 := eq_true p211
                    replace q211 := eq_true q211
                    zzq183
                    zzq184
                    zzq185
                    zzq186
                    have GB133 := Aside0.mk gb133
                    have GG133 := Aside0.mk HG133
                    clear gb133 gl133 HG133
                    (first | simp only [add_plain] at hx210_0 | skip)
                    (first | simp only [add_plain] at hx211_0 | skip)
                    zzq187
                    replace p133 := eq_true p133
                    replace q133 := eq_true q133
                    have HP142 := Kd.R_putn HO_7.out (t190 : Int) (rd y145 t191)
                    rw [← Ny212.out] at HP142
                    have HQ142 := Aside0.mk HP142
                    clear HP142
                    zzq188
                    zzq189
                    obtain ⟨hx134_0, hf134_0⟩ := Kd.R_celln 0 HQ142.out (t191 : Int) p134 q134
                    replace p134 := eq_true p134
                    replace q134 := eq_true q134
                    have HP143 := Kd.R_putn HQ142.out (t191 : Int) (rd y145 t190)
                    rw [← Ny213.out] at HP143
                    have HQ143 := Aside0.mk HP143
                    clear HP143
                    zzq190
                    generalize wc.drew = w141 at HO_7 BK168 HB GG133 HQ142 HQ143 hf133_0 hf134_0 hx133_0 hx134_0 hx210_0 hx211_0 hHeld ⊢
                    zzq130
                    rotate_left
                    ·zzq35
                     zzq36
                     zzq37
                    rotate_left
                    ·zzq38
                     rfl
                    zzq131
                    rotate_left
                    ·zzq35
                     zzq36
                     zzq37
                    rotate_left
                    ·zzq38
                     rfl
                    zzq132
                    rotate_left
                    ·zzq35
                     zzq36
                     zzq37
                    rotate_left
                    ·zzq38
                     rfl
                    zzq133
                    rotate_left
                    ·zzq35
                     zzq36
                     zzq37
                    rotate_left
                    ·zzq38
                     rfl
                    zzq134
                    rotate_left
                    ·zzq35
                     zzq36
                     zzq37
                    rotate_left
                    ·zzq38
                     rfl
                    zzq135
                    rotate_left
                    ·zzq35
                     zzq36
                     zzq37
                    rotate_left
                    ·zzq38
                     rfl
                    zzq136
                    rotate_left
                    ·zzq35
                     zzq36
                     zzq37
                    rotate_left
                    ·zzq38
                     rfl
                    zzq137
                    rotate_left
                    ·zzq35
                     zzq36
                     zzq37
                    rotate_left
                    ·zzq38
                     rfl
                    zzq138
                    rotate_left
                    ·zzq35
                     zzq36
                     zzq37
                    rotate_left
                    ·zzq38
                     rfl
                    zzq139
                    rotate_left
                    ·zzq35
                     zzq36
                     zzq37
                    rotate_left
                    ·zzq38
                     rfl
                    zzq140
                    rotate_left
                    ·zzq141
                     zzq36
                     zzq37
                    rotate_left
                    ·zzq38
                     rfl
                    zzq142
                    rotate_left
                    ·zzq141
                     zzq36
                     zzq37
                    rotate_left
                    ·zzq38
                     rfl
                    zzq143
                    rotate_left
                    ·zzq35
                     zzq36
                     zzq37
                    rotate_left
                    ·zzq38
                     rfl
                    zzq144
                    zzq145
                    rotate_left
                    ·zzq36
                     rfl
                    zzq146
                    zzq61
                    zzq147
                    rotate_left
                    ·zzq35
                     zzq36
                     zzq37
                    rotate_left
                    ·zzq38
                     rfl
                    zzq148
                    zzq145
                    rotate_left
                    ·zzq36
                     rfl
                    zzq146
                    zzq61
                    zzq85
                    try go_wp2_with (first | ((with_reducible refine gate_callee (f := 13) rfl ?_); refine goesL_ (some 143) rfl rfl Try.func13 (by kernel_rfl) rfl #[.slice (some ⟨go133, 0, none⟩) y213.length co17] rfl (by (try simp only [List.map_toArray, List.map_cons, List.map_nil]); first | done | (rw [show y213.length = y145.length from (Kd.R_reads' HQ143.out).1.symm] <;> rfl) | rfl | (simp only [List.length_drop, List.length_take]; rfl)) ?_; (with_reducible refine (head_Sum.calls _ _ y213 t214 t215 _ ?side1 ?side2 A135.out).mono ?_); (case side1 => refine (Kd.R_reads' (e := 5) (base := w.heap.size) (ok := fun k_ => True) (n := y145.length) (c := co17) ?_).2.2; exact (by (with_reducible repeat (first | apply Kd.R_alloc | apply Kd.R_drewN | apply Kd.R_drew)); exact HQ143.out)); (case side2 => rw [show y213.length = y145.length from (Kd.R_reads' HQ143.out).1.symm]; exact (Kd.R_reads' HO_7.out).2.1); rintro e w144 ⟨rfl, hb⟩; refine ⟨_, rfl, ?_⟩; have n0_ := Aside0.mk (Kd.R_below (by (with_reducible repeat (first | apply Kd.R_alloc | apply Kd.R_drewN | apply Kd.R_drew)); exact HQ143.out) hb); have n1_ := Aside0.mk (blk_below (g := gb168) (o := .cells #[.string t160, .string t161, .int .i64 t162, .int .i64 t163, .int .i64 t164, .int .u8 t165, .string t166] 24 (0, 0)) (by (with_reducible repeat (first | refine blk_drewN ?_ _ | refine blk_drew ?_ | refine blk_alloc ?_ _)); refine blk_far ?_ (by have h_ := Kd.R_ne HO_7.out BK168.out (by decide); intro e_; exact h_ (by rw [e_]; rfl)) _; (with_reducible repeat (first | refine blk_drewN ?_ _ | refine blk_drew ?_ | refine blk_alloc ?_ _)); refine blk_far ?_ (by have h_ := Kd.R_ne HO_7.out BK168.out (by decide); intro e_; exact h_ (by rw [e_]; rfl)) _; (with_reducible repeat (first | refine blk_drewN ?_ _ | refine blk_drew ?_ | refine blk_alloc ?_ _)); exact BK168.out) hb); have n2_ := Aside0.mk (below_step (by repeat (first | (with_reducible first | exact HB.out | apply below_alloc | apply pw_below_drewN | apply below_drew1 | refine below_set ?_ GB133.out | refine below_set ?_ GB133.out | refine below_set ?_ GE168.out) | exact HB.out)) hb); clear HO_7; clear BK168; clear HB; have HO_7 := n0_; have BK168 := n1_; have HB := n2_; clear n0_ n1_ n2_; (try clear hb); (try clear hb2); (try clear hk); (try clear hi)))
                    go_ret
                    zzq108
                  ·rw [if_neg c132] at H
                   zzq3
                 ·rw [if_neg c131] at H
                  zzq3
                ·rw [if_neg c130] at H
                 zzq3
               ·rw [if_neg c129] at H
                zzq3
      ·rw [if_neg c13] at H
       zzq3
  ·rw [if_neg c6] at H
   zzq3
 ·replace c5 := Bool.eq_false_iff.mpr c5
  subst c5
  have H1 : (some false) = some r := by rw [if_neg (show ¬ (false = true) by decide)] at H; exact H
  clear H
  zzq1
  clear H1
  zzq8
  go_enter Try.func8, Try.ntmps8
  go_wp2_with (first | ((with_reducible refine gate_callee (f := 27) rfl ?_); refine goesL_ (some 20) rfl rfl Try.func27 (by kernel_rfl) rfl #[] rfl (by (try simp only [List.map_toArray, List.map_cons, List.map_nil]); first | done | rfl | (simp only [List.length_drop, List.length_take]; rfl)) ?_; (with_reducible refine (tabularylaw10_awake.calls k  false _ A4.out).mono ?_); rintro e w145 ⟨rfl, hb⟩; refine ⟨_, rfl, ?_⟩; have n0_ := Aside0.mk (below_step (by repeat (first | (with_reducible first | exact HB.out | apply below_alloc | apply pw_below_drewN | apply below_drew1) | exact HB.out)) hb); clear HB; have HB := n0_; clear n0_; (try clear hb); (try clear hb2); (try clear hk); (try clear hi)))
  go_ret
  zzq9

/-- THE ONE PURE STATEMENT of tabularylaw10_HeadSealed: yours. -/
def tabularylaw10_HeadSealed.Pure : Prop := ∀ (l0 : List Int) (a1 : Int) (a2 : Int), l0.length ≤ maxLen → l0.length * 1 ≤ 140737488351232 → (∀ x ∈ l0, (Lit.int .u8 x).wf = true) → (Lit.int .i64 a1).wf = true → (Lit.int .i64 a2).wf = true → ∃ k, tabularylaw10_HeadSealed.f k l0 a1 a2 = some true
theorem tabularylaw10_HeadSealed.walk (P : tabularylaw10_HeadSealed.Pure) (a0 : Option Addr) (len0 cap0 : Nat) (z0 : List Int) (a1 : Int) (a2 : Int) (w : World) (w0 : (a0 = none ∧ len0 = 0 ∧ cap0 = 0 ∧ z0 = []) ∨ ∃ x, a0 = some x ∧ len0 ≤ cap0 ∧ cap0 ≤ maxLen ∧ z0.length = cap0 ∧ (∀ i, i < z0.length → w.cell? (x.add i) = some (.int .u8 (z0.getD i 0))) ∧ ∀ n ∈ z0, (Lit.int .u8 n).wf = true) (y0 : len0 * 1 ≤ 140737488351232) (w1 : (Lit.int .i64 a1).wf = true) (w2 : (Lit.int .i64 a2).wf = true) :
    Calls Try.prog 8 #[.slice a0 len0 cap0, .int .i64 a1, .int .i64 a2] w fun e w' => e = .returned (.bool true) ∧ Below w.heap.size w w' := by
  obtain ⟨l0, rfl, hr0, hm0, hw0, hc0⟩ := ReadsInt.ofRowC w0
  obtain ⟨k, h⟩ := P l0 a1 a2 hm0 y0 hw0 w1 w2
  refine (tabularylaw10_HeadSealed.calls k _ _ l0 a1 a2 true w (Kd.C_of_reads (d := (0 : Int)) (h1 := fun _ => rfl) hr0) hc0 h).mono ?_
  rintro e w' ⟨rfl, hd⟩
  exact ⟨rfl, hd⟩

end Go.Proofs.Ytdmpbfhbjklajaa.PHeadSealed
end
