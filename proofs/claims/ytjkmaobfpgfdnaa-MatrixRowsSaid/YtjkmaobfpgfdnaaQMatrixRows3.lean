/- Texts of this claim, laid together by wip/tools/squash.py: PMatrixRowsx3, RowsPure, MSpoilt, WalkMatrixRows, Opn. -/
import Derived.Test.YtjkmaobfpgfdnaaQMatrixRows2
import Derived.HandedShaped
import Derived.StillTailTactics
import Derived.Deep.Slices
import Derived.Test.YtjkmaobfpgfdnaaWMore
import Derived.Test.YtjkmaobfpgfdnaaWArr
import Derived.ChangeArms
import Derived.DataElems
import Derived.DataReads
import Derived.OpenShut
import Derived.SizedLaws

-- Written by wip/tools/myprint.py, a program of this session over the print tool: not a printed text of the kit's
section
namespace Go.Proofs.Ytjkmaobfpgfdnaa.PMatrixRows
open Go.RowKit Go.Proofs.YtjkmaobfpgfdnaaW.PrintWords Go.Proofs.YtjkmaobfpgfdnaaW.PrintLast Go.Proofs.YtjkmaobfpgfdnaaW.PrintMore
attribute [local go_sem] max2_int min2_int max_two min_two max_three min_three max_four min_four   -- for this text's walks alone
set_option linter.unusedVariables false
set_option linter.unusedSimpArgs false
set_option maxRecDepth 20000

/-! ### tabularyref01_Mul: function 35 -/
mutual
def tabularyref01_Mul.l0 : Nat → Int → Int → Int → Int → Option (Int)
 | 0, _, _, _, _ => none
 | k + 1, x1, x5, x6, x7 => if x7 < 8 then (if 0 ≤ x7 then (if (Go.bits .and .i64 (shr .i64 (wrap64 (x1)) x7) 1) = 1 then (tabularyref01_Mul.l0 k x1 (Go.bits .xor .i64 x5 (shl .i64 x6 x7)) x6 (wrap64 (x7 + 1))) else (tabularyref01_Mul.l0 k x1 x5 x6 (wrap64 (x7 + 1)))) else (none)) else (tabularyref01_Mul.l1 k x5 14)
def tabularyref01_Mul.l1 : Nat → Int → Int → Option (Int)
 | 0, _, _ => none
 | k + 1, x5, x8 => if x8 ≥ 8 then (if 0 ≤ x8 then (if (Go.bits .and .i64 (shr .i64 x5 x8) 1) = 1 then (if 0 ≤ (wrap64 (x8 - 8)) then (tabularyref01_Mul.l1 k (Go.bits .xor .i64 x5 (shl .i64 285 (wrap64 (x8 - 8)))) (wrap64 (x8 - 1))) else (none)) else (tabularyref01_Mul.l1 k x5 (wrap64 (x8 - 1)))) else (none)) else (some ((x5) % 256))
end
def tabularyref01_Mul.f (k : Nat) (a0 : Int) (a1 : Int) : Option (Int) := tabularyref01_Mul.l0 k a1 0 (wrap64 (a0)) 0
set_option maxHeartbeats 8000000 in
set_option maxRecDepth 100000 in
theorem tabularyref01_Mul.calls (k : Nat) (a0 : Int) (a1 : Int) (r : Int) (w : World) (h : tabularyref01_Mul.f k a0 a1 = some r) :
  Calls Try.prog 35 #[.int .u8 a0, .int .u8 a1] w fun e w' => e = .returned (.int .u8 r) ∧ Drawn0 w w' := by
 have H : (tabularyref01_Mul.l0 k a1 0 (wrap64 (a0)) 0) = some r := h
 clear h
 have H' := Aside0.mk H
 clear H
 go_enter Try.func35, Try.ntmps35
 go_wp2
 go_loopg [5, 7] k (fun kq v5 v7 w' => ∃ (x5_1 : Int) (x7_1 : Int), v5 = .int .i64 x5_1 ∧ v7 = .int .i64 x7_1 ∧ Aside0 (tabularyref01_Mul.l0 kq a1 x5_1 (wrap64 (a0)) x7_1 = some r) ∧ Aside0 (kq ≤ k) ∧ Drawn0 w w')
 case atStart => exact ⟨(0), (0), (by first | rfl | (simp; done) | (simp [*]; done)), (by first | rfl | (simp; done) | (simp [*]; done)), H', ⟨Nat.le_refl _⟩, by repeat (first | exact Drawn0.refl _ | apply Drawn0.step)⟩
 case round =>
  clear H'
  try clear p2
  obtain ⟨x5_1, x7_1, rfl, rfl, HA, HK1, ⟨m1, rfl⟩⟩ := hrel
  cases gk with
  | zero => exact absurd HA.out (by simp [tabularyref01_Mul.l0])
  | succ k1 =>
   have H := HA.out
   clear HA
   simp only [tabularyref01_Mul.l0] at H
   by_cases c3 : x7_1 < 8
   ·rw [if_pos c3] at H
    have c3b0 : decide (x7_1 < 8) = true := decide_eq_true c3
    clear c3
    by_cases c4 : 0 ≤ x7_1
    ·rw [if_pos c4] at H
     have c4b0 := eq_true c4
     have c4b1 : decide (0 ≤ x7_1) = true := decide_eq_true c4
     clear c4
     obtain ⟨ji5, hji5⟩ : ∃ j_ : Int, (shr .i64 (wrap64 (a1)) x7_1) = j_ := ⟨_, rfl⟩
     replace H : (if (Go.bits .and .i64 (ji5) 1) = 1 then (tabularyref01_Mul.l0 k1 a1 (Go.bits .xor .i64 x5_1 (shl .i64 (wrap64 (a0)) x7_1)) (wrap64 (a0)) (wrap64 (x7_1 + 1))) else (tabularyref01_Mul.l0 k1 a1 x5_1 (wrap64 (a0)) (wrap64 (x7_1 + 1)))) = some r := by first | (rw [hji5] at H; exact H) | (simp only [hji5] at H ⊢; exact H)
     have hji5_ : ((wrap64 (a1)) / 2 ^ min x7_1.toNat 64) = ji5 := hji5
     have hji5z : x7_1 ≤ 64 → ((wrap64 (a1)) / 2 ^ x7_1.toNat) = ji5 := shr_small hji5
     by_cases c6 : (Go.bits .and .i64 (ji5) 1) = 1
     ·rw [if_pos c6] at H
      have c6b0 : ((Go.bits .and .i64 (ji5) 1) == 1) = true := beq_iff_eq.mpr c6
      have c6b1 : ((Go.bits .and .i64 (ji5) 1) != 1) = false := bne_eq_false_iff_eq.mpr c6
      clear c6
      have c7b0 := eq_true (of_decide_eq_true (by first | (with_reducible assumption) | assumption) : 0 ≤ x7_1)
      obtain ⟨ji8, hji8⟩ : ∃ j_ : Int, (shl .i64 (wrap64 (a0)) x7_1) = j_ := ⟨_, rfl⟩
      replace H : (tabularyref01_Mul.l0 k1 a1 (Go.bits .xor .i64 x5_1 (ji8)) (wrap64 (a0)) (wrap64 (x7_1 + 1))) = some r := by first | (rw [hji8] at H; exact H) | (simp only [hji8] at H ⊢; exact H)
      have hji8_ : (IntKind.i64.wrap ((wrap64 (a0)) * 2 ^ min x7_1.toNat 64)) = ji8 := hji8
      have hji8z : x7_1 ≤ 64 → (IntKind.i64.wrap ((wrap64 (a0)) * 2 ^ x7_1.toNat)) = ji8 := shl_small hji8
      have hji8y : (wrap64 ((wrap64 (a0)) * 2 ^ min x7_1.toNat 64)) = ji8 := (i64_w _).symm.trans hji8_
      have hji8x : x7_1 ≤ 64 → (wrap64 ((wrap64 (a0)) * 2 ^ x7_1.toNat)) = ji8 := fun h_ => (i64_w _).symm.trans (hji8z h_)
      have H' := Aside0.mk H
      clear H
      go_wp2
      go_roundg k1
      case measure => have := HK1.out; omega
      case rel => exact ⟨(Go.bits .xor .i64 x5_1 (ji8)), (wrap64 (x7_1 + 1)), (by first | rfl | (simp; done) | (simp only [← hji8] <;> (first | rfl | simp)) | (simp [*]; done)), (by first | rfl | (simp; done) | (simp [*]; done)), H', ⟨by have := HK1.out; omega⟩, by repeat (first | exact Drawn0.refl _ | apply Drawn0.step)⟩
     ·rw [if_neg c6] at H
      have c6b0 : ((Go.bits .and .i64 (ji5) 1) == 1) = false := beq_eq_false_iff_ne.mpr c6
      have c6b1 : ((Go.bits .and .i64 (ji5) 1) != 1) = true := bne_iff_ne.mpr c6
      have H' := Aside0.mk H
      clear H
      go_wp2
      go_roundg k1
      case measure => have := HK1.out; omega
      case rel => exact ⟨(x5_1), (wrap64 (x7_1 + 1)), (by first | rfl | (simp; done) | (simp [*]; done)), (by first | rfl | (simp; done) | (simp [*]; done)), H', ⟨by have := HK1.out; omega⟩, by repeat (first | exact Drawn0.refl _ | apply Drawn0.step)⟩
    ·rw [if_neg c4] at H
     exact absurd H (by simp)
   ·rw [if_neg c3] at H
    have c3b0 : decide (x7_1 < 8) = false := decide_eq_false c3
    clear c3
    have H' := Aside0.mk H
    clear H
    go_wp2
    go_loopg [5, 8] k1 (fun kq v5 v8 w' => ∃ (x5_2 : Int) (x8_2 : Int), v5 = .int .i64 x5_2 ∧ v8 = .int .i64 x8_2 ∧ Aside0 (tabularyref01_Mul.l1 kq x5_2 x8_2 = some r) ∧ Aside0 (kq ≤ k1) ∧ Drawn0 w w')
    case atStart => exact ⟨(x5_1), (14), (by first | rfl | (simp; done) | (simp [*]; done)), (by first | rfl | (simp; done) | (simp [*]; done)), H', ⟨Nat.le_refl _⟩, by repeat (first | exact Drawn0.refl _ | apply Drawn0.step)⟩
    case round =>
     clear H'
     try clear p2
     try clear c3
     try clear c3b0
     try clear c4
     try clear c4b0
     try clear c4b1
     try clear c6
     try clear c6b0
     try clear c6b1
     try clear p6
     try clear c7
     try clear c7b0
     try clear p2
     obtain ⟨x5_2, x8_2, rfl, rfl, HA, HK2, ⟨m2, rfl⟩⟩ := hrel
     cases gk with
     | zero => exact absurd HA.out (by simp [tabularyref01_Mul.l1])
     | succ k2 =>
      have H := HA.out
      clear HA
      simp only [tabularyref01_Mul.l1] at H
      by_cases c9 : x8_2 ≥ 8
      ·rw [if_pos c9] at H
       have c9b0 : decide (8 ≤ x8_2) = true := decide_eq_true c9
       clear c9
       by_cases c10 : 0 ≤ x8_2
       ·rw [if_pos c10] at H
        have c10b0 := eq_true c10
        have c10b1 : decide (0 ≤ x8_2) = true := decide_eq_true c10
        clear c10
        obtain ⟨ji11, hji11⟩ : ∃ j_ : Int, (shr .i64 x5_2 x8_2) = j_ := ⟨_, rfl⟩
        replace H : (if (Go.bits .and .i64 (ji11) 1) = 1 then (if 0 ≤ (wrap64 (x8_2 - 8)) then (tabularyref01_Mul.l1 k2 (Go.bits .xor .i64 x5_2 (shl .i64 285 (wrap64 (x8_2 - 8)))) (wrap64 (x8_2 - 1))) else (none)) else (tabularyref01_Mul.l1 k2 x5_2 (wrap64 (x8_2 - 1)))) = some r := by first | (rw [hji11] at H; exact H) | (simp only [hji11] at H ⊢; exact H)
        have hji11_ : (x5_2 / 2 ^ min x8_2.toNat 64) = ji11 := hji11
        have hji11z : x8_2 ≤ 64 → (x5_2 / 2 ^ x8_2.toNat) = ji11 := shr_small hji11
        by_cases c12 : (Go.bits .and .i64 (ji11) 1) = 1
        ·rw [if_pos c12] at H
         have c12b0 : ((Go.bits .and .i64 (ji11) 1) == 1) = true := beq_iff_eq.mpr c12
         have c12b1 : ((Go.bits .and .i64 (ji11) 1) != 1) = false := bne_eq_false_iff_eq.mpr c12
         clear c12
         obtain ⟨ji13, hji13⟩ : ∃ j_ : Int, (wrap64 (x8_2 - 8)) = j_ := ⟨_, rfl⟩
         replace H : (if 0 ≤ (ji13) then (tabularyref01_Mul.l1 k2 (Go.bits .xor .i64 x5_2 (shl .i64 285 (ji13))) (wrap64 (x8_2 - 1))) else (none)) = some r := by first | (rw [hji13] at H; exact H) | (simp only [hji13] at H ⊢; exact H)
         have hji13w : (IntKind.i64.wrap (x8_2 - 8)) = ji13 := (i64_w _).trans hji13
         by_cases c14 : 0 ≤ (ji13)
         ·rw [if_pos c14] at H
          have c14b0 := eq_true c14
          have c14b1 : decide (0 ≤ (ji13)) = true := decide_eq_true c14
          clear c14
          obtain ⟨ji15, hji15⟩ : ∃ j_ : Int, (shl .i64 285 (ji13)) = j_ := ⟨_, rfl⟩
          replace H : (tabularyref01_Mul.l1 k2 (Go.bits .xor .i64 x5_2 (ji15)) (wrap64 (x8_2 - 1))) = some r := by first | (rw [hji15] at H; exact H) | (simp only [hji15] at H ⊢; exact H)
          have hji15_ : (IntKind.i64.wrap (285 * 2 ^ min (ji13).toNat 64)) = ji15 := hji15
          have hji15z : (ji13) ≤ 64 → (IntKind.i64.wrap (285 * 2 ^ (ji13).toNat)) = ji15 := shl_small hji15
          have hji15y : (wrap64 (285 * 2 ^ min (ji13).toNat 64)) = ji15 := (i64_w _).symm.trans hji15_
          have hji15x : (ji13) ≤ 64 → (wrap64 (285 * 2 ^ (ji13).toNat)) = ji15 := fun h_ => (i64_w _).symm.trans (hji15z h_)
          have H' := Aside0.mk H
          clear H
          go_wp2
          go_roundg k2
          case measure => have := HK1.out; have := HK2.out; omega
          case rel => exact ⟨(Go.bits .xor .i64 x5_2 (ji15)), (wrap64 (x8_2 - 1)), (by first | rfl | (simp; done) | (simp only [← hji15] <;> (first | rfl | simp)) | (simp [*]; done)), (by first | rfl | (simp; done) | (simp [*]; done)), H', ⟨by have := HK1.out; have := HK2.out; omega⟩, by repeat (first | exact Drawn0.refl _ | apply Drawn0.step)⟩
         ·rw [if_neg c14] at H
          exact absurd H (by simp)
        ·rw [if_neg c12] at H
         have c12b0 : ((Go.bits .and .i64 (ji11) 1) == 1) = false := beq_eq_false_iff_ne.mpr c12
         have c12b1 : ((Go.bits .and .i64 (ji11) 1) != 1) = true := bne_iff_ne.mpr c12
         have H' := Aside0.mk H
         clear H
         go_wp2
         go_roundg k2
         case measure => have := HK1.out; have := HK2.out; omega
         case rel => exact ⟨(x5_2), (wrap64 (x8_2 - 1)), (by first | rfl | (simp; done) | (simp [*]; done)), (by first | rfl | (simp; done) | (simp [*]; done)), H', ⟨by have := HK1.out; have := HK2.out; omega⟩, by repeat (first | exact Drawn0.refl _ | apply Drawn0.step)⟩
       ·rw [if_neg c10] at H
        exact absurd H (by simp)
      ·rw [if_neg c9] at H
       have c9b0 : decide (8 ≤ x8_2) = false := decide_eq_false c9
       clear c9
       obtain rfl := Option.some.inj H
       go_wp2
       go_ret
       exact ⟨by first | rfl | (simp; done) | (simp [*]; done), by repeat (first | exact Drawn0.refl _ | apply Drawn0.step)⟩

/-! ### tabularyref02_two: function 41 -/
def tabularyref02_two.j0 : Nat → List Int → List Int → Bool → Option (Int)
 | 0, _, _, _ => none
 | k + 1, x0, x1, x12 => if x12 = true then (some 2) else (if (x0.length : Int) = (x1.length : Int) then (some 0) else (some 6))
def tabularyref02_two.f (k : Nat) (l0 : List Int) (l1 : List Int) : Option (Int) := if (l0.length : Int) > 131072 then (tabularyref02_two.j0 k l0 l1 true) else (tabularyref02_two.j0 k l0 l1 (decide ((l1.length : Int) > 131072)))
set_option maxHeartbeats 8000000 in
set_option maxRecDepth 100000 in
theorem tabularyref02_two.calls (k : Nat) (A0 : Option Addr) (c0 : Nat) (l0 : List Int) (A1 : Option Addr) (c1 : Nat) (l1 : List Int) (r : Int) (w : World) (hr0 : Kd.C (Kd.int .u8) w A0 l0.length l0) (hc0 : l0.length ≤ c0) (hr1 : Kd.C (Kd.int .u8) w A1 l1.length l1) (hc1 : l1.length ≤ c1) (h : tabularyref02_two.f k l0 l1 = some r) :
  Calls Try.prog 41 #[.slice A0 l0.length c0, .slice A1 l1.length c1] w fun e w' => e = .returned (.int .i64 r) ∧ Drawn0 w w' := by
 have HR0 := Aside0.mk hr0
 have HC0 := Aside0.mk hc0
 clear hr0 hc0
 have HR1 := Aside0.mk hr1
 have HC1 := Aside0.mk hc1
 clear hr1 hc1
 have H : (if (l0.length : Int) > 131072 then (tabularyref02_two.j0 k l0 l1 true) else (tabularyref02_two.j0 k l0 l1 (decide ((l1.length : Int) > 131072)))) = some r := h
 clear h
 have HC3 := Aside0.mk H
 clear H
 go_enter Try.func41, Try.ntmps41
 go_upto_region 1 with (fail)
 go_cut [12] (fun v12 wc => ∃ (kq : Nat) (x12_2 : Bool), v12 = .bool x12_2 ∧ Aside0 (tabularyref02_two.j0 kq l0 l1 x12_2 = some r) ∧ Aside0 (kq ≤ k) ∧ Drawn0 w wc)
 case first =>
  have H := HC3.out
  clear HC3
  by_cases c4 : (l0.length : Int) > 131072
  ·rw [if_pos c4] at H
   have c4b0 : decide (131072 < (l0.length : Int)) = true := decide_eq_true c4
   have c4b1 : decide (131072 < l0.length) = true := decide_eq_true (by omega)
   clear c4
   (first | rw [c4b0] | (simp only [i64_w, i32_w]; rw [c4b0]) | skip)
   have H' := Aside0.mk H
   clear H
   go_wp2
   go_meet
   case rel => exact ⟨_, (true), (by first | rfl | (simp; done) | (simp [*]; done)), H', ⟨by first | omega | exact Nat.le_refl _⟩, by repeat (first | exact Drawn0.refl _ | apply Drawn0.step)⟩
  ·rw [if_neg c4] at H
   have c4b0 : decide (131072 < (l0.length : Int)) = false := decide_eq_false c4
   have c4b1 : decide (131072 < l0.length) = false := decide_eq_false (by omega)
   clear c4
   (first | rw [c4b0] | (simp only [i64_w, i32_w]; rw [c4b0]) | skip)
   have H' := Aside0.mk H
   clear H
   go_wp2
   go_meet
   case rel => exact ⟨_, (decide ((l1.length : Int) > 131072)), (by first | rfl | (simp; done) | (simp [*]; done)), H', ⟨by first | omega | exact Nat.le_refl _⟩, by repeat (first | exact Drawn0.refl _ | apply Drawn0.step)⟩
 case rest =>
  clear HC3
  try clear c1
  try clear p2
  try clear c4
  try clear c4b0
  try clear c4b1
  obtain ⟨kq, x12_2, rfl, HA, HJ2, ⟨mc2, rfl⟩⟩ := hcut
  cases kq with
  | zero => exact absurd HA.out (by simp [tabularyref02_two.j0])
  | succ kj2 =>
   have H := HA.out
   clear HA
   simp only [tabularyref02_two.j0] at H
   by_cases c5 : x12_2 = true
   ·subst c5
    have H1 : (some 2) = some r := by rw [if_pos rfl] at H; exact H
    clear H
    have H := H1
    clear H1
    obtain rfl := Option.some.inj H
    go_wp2
    go_ret
    exact ⟨by first | rfl | (simp; done) | (simp [*]; done), by repeat (first | exact Drawn0.refl _ | apply Drawn0.step)⟩
   ·replace c5 := Bool.eq_false_iff.mpr c5
    subst c5
    have H1 : (if (l0.length : Int) = (l1.length : Int) then (some 0) else (some 6)) = some r := by rw [if_neg (show ¬ (false = true) by decide)] at H; exact H
    clear H
    have H := H1
    clear H1
    by_cases c6 : (l0.length : Int) = (l1.length : Int)
    ·rw [if_pos c6] at H
     have c6b0 : ((l0.length : Int) == (l1.length : Int)) = true := beq_iff_eq.mpr c6
     have c6b1 : ((l0.length : Int) != (l1.length : Int)) = false := bne_eq_false_iff_eq.mpr c6
     have c6b2 : (l0.length == l1.length) = true := by first | simpa using c6 | (simp at c6 ⊢; omega)
     clear c6
     obtain rfl := Option.some.inj H
     go_wp2
     go_ret
     exact ⟨by first | rfl | (simp; done) | (simp [*]; done), by repeat (first | exact Drawn0.refl _ | apply Drawn0.step)⟩
    ·rw [if_neg c6] at H
     have c6b0 : ((l0.length : Int) == (l1.length : Int)) = false := beq_eq_false_iff_ne.mpr c6
     have c6b1 : ((l0.length : Int) != (l1.length : Int)) = true := bne_iff_ne.mpr c6
     have c6b2 : (l0.length == l1.length) = false := by first | simpa using c6 | (simp at c6 ⊢; omega)
     obtain rfl := Option.some.inj H
     go_wp2
     go_ret
     exact ⟨by first | rfl | (simp; done) | (simp [*]; done), by repeat (first | exact Drawn0.refl _ | apply Drawn0.step)⟩

/-! ### tabularyref02_Plus: function 28 -/
def tabularyref02_Plus.l0 : Nat → List Int → List Int → Int → List Int → Int → Option (List Int × Int)
 | 0, _, _, _, _, _ => none
 | k + 1, x0, x1, x2, x9, x10 => if x10 < (x0.length : Int) then (if 0 ≤ x10 then (if x10 < (x1.length : Int) then ((tabularyref01_Mul.f k x2 (rd x1 x10)).bind fun t188 => (if x9.length < 140737488355328 then (tabularyref02_Plus.l0 k x0 x1 x2 (x9 ++ [Go.bits .xor .u8 (rd x0 x10) t188]) (wrap64 (x10 + 1))) else (none))) else (none)) else (none)) else (some (x9, 0))
def tabularyref02_Plus.f (k : Nat) (l0 : List Int) (l1 : List Int) (a2 : Int) : Option (List Int × Int) := (tabularyref02_two.f k l0 l1).bind fun t185 => (if t185 = 0 then (tabularyref02_Plus.l0 k l0 l1 a2 ([] : List Int) 0) else (some (([] : List Int), t185)))
def tabularyref02_Plus.T8 : Bool × List (List Nat × List Nat) := (true, [([], []), ([], []), ([], []), ([1, 2], [1, 2]), ([3], [3]), ([], []), ([], []), ([], []), ([6, 7], [6, 7]), ([8], [8]), ([5, 9], [5, 9]), ([4, 10], [4, 10]), ([11], [11]), ([0, 12, 10], [0, 12]), ([13, 13, 0, 1, 2, 3, 4, 5, 6, 7, 8, 9, 10, 11, 12, 13], [0, 13])])
def tabularyref02_Plus.B8 : List Nat := [0, 0, 0, 6, 14, 0, 0, 0, 192, 448, 992, 2046, 4094, 8191, 16383]
theorem tabularyref02_Plus.tab8 : rtab .any (opsOf Try.f28 8) = tabularyref02_Plus.T8 := by kernel_rfl
theorem tabularyref02_Plus.bits8 : waitsOk tabularyref02_Plus.T8.2 tabularyref02_Plus.B8 = true := by kernel_rfl
set_option maxHeartbeats 8000000 in
set_option maxRecDepth 100000 in
theorem tabularyref02_Plus.calls (k : Nat) (A0 : Option Addr) (c0 : Nat) (l0 : List Int) (A1 : Option Addr) (c1 : Nat) (l1 : List Int) (a2 : Int) (r1 : List Int) (r2 : Int) (w : World) (hr0 : Kd.C (Kd.int .u8) w A0 l0.length l0) (hc0 : l0.length ≤ c0) (hr1 : Kd.C (Kd.int .u8) w A1 l1.length l1) (hc1 : l1.length ≤ c1) (h : tabularyref02_Plus.f k l0 l1 a2 = some (r1, r2)) :
  Calls Try.prog 28 #[.slice A0 l0.length c0, .slice A1 l1.length c1, .int .u8 a2] w fun e w' => ∃ v0_ : Value, e = .returned (.tuple #[v0_, .int .i64 r2]) ∧ Kd.R (Kd.int .u8) 5 w' w.heap.size (fun _ => True) v0_ r1 ∧ Below w.heap.size w w' := by
 have HR0 := Aside0.mk hr0
 have HC0 := Aside0.mk hc0
 clear hr0 hc0
 have HR1 := Aside0.mk hr1
 have HC1 := Aside0.mk hc1
 clear hr1 hc1
 have HB := Aside0.mk (Below.refl w.heap.size w)
 have H : ((tabularyref02_two.f k l0 l1).bind fun t185 => (if t185 = 0 then (tabularyref02_Plus.l0 k l0 l1 a2 ([] : List Int) 0) else (some (([] : List Int), t185)))) = some (r1, r2) := h
 clear h
 replace H := Option.bind_eq_some_iff.mp H
 obtain ⟨t185, A40, H⟩ := H
 replace H : (if t185 = 0 then (tabularyref02_Plus.l0 k l0 l1 a2 ([] : List Int) 0) else (some (([] : List Int), t185))) = some (r1, r2) := H
 have A4 := Aside0.mk A40
 clear A40
 by_cases c5 : t185 = 0
 ·rw [if_pos c5] at H
  have c5b0 : (t185 == 0) = true := beq_iff_eq.mpr c5
  have c5b1 : (t185 != 0) = false := bne_eq_false_iff_eq.mpr c5
  clear c5
  have H' := Aside0.mk H
  clear H
  go_enter Try.func28, Try.ntmps28
  go_wp2_with (first | ((with_reducible refine gate_callee (f := 41) rfl ?_); refine goesL_ (some 13) rfl rfl Try.func41 (by kernel_rfl) rfl #[.slice A0 l0.length c0, .slice A1 l1.length c1] rfl (by (try simp only [List.map_toArray, List.map_cons, List.map_nil]); first | done | rfl | (simp only [List.length_drop, List.length_take]; rfl)) ?_; (with_reducible refine (tabularyref02_two.calls k _ _ l0 _ _ l1 t185 _ ?side1 ?side2 ?side3 ?side4 A4.out).mono ?_); (case side1 => repeat (first | exact HR0.out | (with_reducible refine Kd.C_alloc ?_ _) | (with_reducible refine Kd.C_drewN ?_ _) | (with_reducible refine Kd.C_drew ?_))); (case side2 => exact HC0.out); (case side3 => repeat (first | exact HR1.out | (with_reducible refine Kd.C_alloc ?_ _) | (with_reducible refine Kd.C_drewN ?_ _) | (with_reducible refine Kd.C_drew ?_))); (case side4 => exact HC1.out); rintro e w' ⟨rfl, ⟨nd, rfl⟩⟩; refine ⟨_, rfl, ?_⟩))
  go_loopg [9, 10] k (fun kq v9 v10 w' => ∃ (x9_1 : List Int) (x10_1 : Int), v10 = .int .i64 x10_1 ∧ Aside0 (tabularyref02_Plus.l0 kq l0 l1 a2 x9_1 x10_1 = some (r1, r2)) ∧ Aside0 (kq ≤ k) ∧ Aside0 (Kd.R (Kd.int .u8) 5 w' w.heap.size (fun _ => True) v9 x9_1) ∧ Aside0 (Below w.heap.size w w'))
  case atStart => exact ⟨(([] : List Int)), (0), (by first | rfl | (simp; done) | (simp [*]; done)), H', ⟨Nat.le_refl _⟩, ⟨by first | exact Kd.R_nil _ _ _ _ _ | exact Kd.N_nil _ _ _ _ _ | exact Kd.V_nil _ _ _ _ _ | exact Kd.Q_nil _ _ _ _ _ | exact Kd.S_nil _ _ _ _ _⟩, ⟨by repeat (first | (with_reducible first | exact HB.out | apply below_alloc | apply pw_below_drewN | apply below_drew1) | exact HB.out)⟩⟩
  case round =>
   clear H'
   try clear c1
   try clear c2
   try clear p2
   try clear c4
   try clear c5
   try clear c5b0
   try clear c5b1
   obtain ⟨x9_1, x10_1, rfl, HA, HK1, HO_9, HB⟩ := hrel
   cases gk with
   | zero => exact absurd HA.out (by simp [tabularyref02_Plus.l0])
   | succ k1 =>
    have H := HA.out
    clear HA
    simp only [tabularyref02_Plus.l0] at H
    by_cases c6 : x10_1 < (l0.length : Int)
    ·rw [if_pos c6] at H
     have c6b0 : decide (x10_1 < (l0.length : Int)) = true := decide_eq_true c6
     clear c6
     by_cases c7 : 0 ≤ x10_1
     ·rw [if_pos c7] at H
      have c7b0 : decide (0 ≤ x10_1) = true := decide_eq_true c7
      clear c7
      by_cases c8 : x10_1 < (l1.length : Int)
      ·rw [if_pos c8] at H
       have c8b0 : decide (x10_1 < (l1.length : Int)) = true := decide_eq_true c8
       clear c8
       replace H := Option.bind_eq_some_iff.mp H
       obtain ⟨t188, A90, H⟩ := H
       replace H : (if x9_1.length < 140737488355328 then (tabularyref02_Plus.l0 k1 l0 l1 a2 (x9_1 ++ [Go.bits .xor .u8 (rd l0 x10_1) t188]) (wrap64 (x10_1 + 1))) else (none)) = some (r1, r2) := H
       have A9 := Aside0.mk A90
       clear A90
       by_cases c10 : x9_1.length < 140737488355328
       ·rw [if_pos c10] at H
        have LMc10 := Aside0.mk c10
        clear c10
        obtain ⟨y189, hy189⟩ : ∃ y_ : List Int, y_ = (x9_1 ++ [Go.bits .xor .u8 (rd l0 x10_1) t188]) := ⟨_, rfl⟩
        replace H : (tabularyref02_Plus.l0 k1 l0 l1 a2 y189 (wrap64 (x10_1 + 1))) = some (r1, r2) := by first | (rw [hy189]; with_reducible exact H) | (have H2_ := (Option.bind_some _ _).symm.trans H; rw [hy189]; with_reducible exact H2_) | (have H2_ := (Option.bind_some _ _).symm.trans H; with_reducible exact H2_) | with_reducible exact H | (rw [hy189]; exact H) | exact H
        have Ny189 := Aside0.mk hy189
        clear hy189
        have H' := Aside0.mk H
        clear H
        try go_wp2
        have n0_ := Aside0.mk (Kd.R_drew HO_9.out)
        have n1_ := Aside0.mk (below_drew1 HB.out)
        clear HO_9
        clear HB
        have HO_9 := n0_
        have HB := n1_
        clear n0_ n1_
        have p186 : 0 ≤ (x10_1 : Int) := of_decide_eq_true (by first | (with_reducible assumption) | assumption)
        have q186 : x10_1 < (l0.length : Int) := of_decide_eq_true (by first | (with_reducible assumption) | assumption)
        obtain ⟨ad186, e186, hx186_0⟩ := Kd.at_int HR0.out x10_1 p186 q186
        have hw186_0 := hx186_0
        cases e186
        replace hx186_0 := (HB.out.cell (World.block_lt_of_cell? w _ hx186_0)).trans hx186_0
        replace p186 := eq_true p186
        replace q186 := eq_true q186
        have p187 : 0 ≤ (x10_1 : Int) := of_decide_eq_true (by first | (with_reducible assumption) | assumption)
        have q187 : x10_1 < (l1.length : Int) := of_decide_eq_true (by first | (with_reducible assumption) | assumption)
        obtain ⟨ad187, e187, hx187_0⟩ := Kd.at_int HR1.out x10_1 p187 q187
        have hw187_0 := hx187_0
        cases e187
        replace hx187_0 := (HB.out.cell (World.block_lt_of_cell? w _ hx187_0)).trans hx187_0
        replace p187 := eq_true p187
        replace q187 := eq_true q187
        refine start_ (n := 15) (S := fun w' => w'.cell? (ad186.add (x10_1).toNat) = some (.int .u8 (rd l0 x10_1)) ∧ w'.cell? (ad187.add (x10_1).toNat) = some (.int .u8 (rd l1 x10_1))) (ds := []) #[false, false, false, false, false, false, false, false, false, false, false, false, false, false, false] (by kernel_rfl) rfl rfl ⟨((HB.out.cell (World.block_lt_of_cell? w _ hw186_0)).trans hw186_0), ((HB.out.cell (World.block_lt_of_cell? w _ hw187_0)).trans hw187_0)⟩ (fun hHeld => ?_); refine with_tabW tabularyref02_Plus.tab8 tabularyref02_Plus.bits8 (fun HT_ HW_ => ?_)
        generalize wr.drew = w11 at HO_9 HB hx186_0 hx187_0 hHeld ⊢
        refine pure_ (i := 0) (N := some 23) (v := ?_) (a' := ?_) #[true, false, false, false, false, false, false, false, false, false, false, false, false, false, false] rfl rfl (any_of HT_.out (by kernel_rfl)) (fun _ _ _ h => h) (Or.inl ⟨by rfl, ?_⟩) ?_ ?_
        rotate_left
        ·intro w'
         go_simp
         (first | (with_reducible rfl) | ((try simp only [*]); (with_reducible rfl)))
        rotate_left
        ·simp only [Act.put, List.setIfInBounds_toArray, List.set_cons_zero, List.set_cons_succ, i64_w, i32_w]
         rfl
        refine pure_ (i := 1) (N := some 24) (v := ?_) (a' := ?_) #[true, true, false, false, false, false, false, false, false, false, false, false, false, false, false] rfl rfl (any_of HT_.out (by kernel_rfl)) (fun _ _ _ h => h) (Or.inl ⟨by rfl, ?_⟩) ?_ ?_
        rotate_left
        ·intro w'
         go_simp
         (first | (with_reducible rfl) | ((try simp only [*]); (with_reducible rfl)))
        rotate_left
        ·simp only [Act.put, List.setIfInBounds_toArray, List.set_cons_zero, List.set_cons_succ, i64_w, i32_w]
         rfl
        refine pure_ (i := 2) (N := some 25) (v := ?_) (a' := ?_) #[true, true, true, false, false, false, false, false, false, false, false, false, false, false, false] rfl rfl (any_of HT_.out (by kernel_rfl)) (fun _ _ _ h => h) (Or.inl ⟨by rfl, ?_⟩) ?_ ?_
        rotate_left
        ·intro w'
         go_simp
         (first | (with_reducible rfl) | ((try simp only [*]); (with_reducible rfl)))
        rotate_left
        ·simp only [Act.put, List.setIfInBounds_toArray, List.set_cons_zero, List.set_cons_succ, i64_w, i32_w]
         rfl
        refine pure_ (i := 3) (N := some 26) (v := ?_) (a' := ?_) #[true, true, true, true, false, false, false, false, false, false, false, false, false, false, false] rfl rfl (any_of HT_.out (by kernel_rfl)) (fun _ _ _ h => h) (Or.inl ⟨by rfl, ?_⟩) ?_ ?_
        rotate_left
        ·intro w'
         go_simp
         (first | (with_reducible rfl) | ((try simp only [*]); (with_reducible rfl)))
        rotate_left
        ·simp only [Act.put, List.setIfInBounds_toArray, List.set_cons_zero, List.set_cons_succ, i64_w, i32_w]
         rfl
        refine pure_ (i := 5) (N := some 28) (v := ?_) (a' := ?_) #[true, true, true, true, false, true, false, false, false, false, false, false, false, false, false] rfl rfl (any_of HT_.out (by kernel_rfl)) (fun _ _ _ h => h) (Or.inl ⟨by rfl, ?_⟩) ?_ ?_
        rotate_left
        ·intro w'
         go_simp
         (first | (with_reducible rfl) | ((try simp only [*]); (with_reducible rfl)))
        rotate_left
        ·simp only [Act.put, List.setIfInBounds_toArray, List.set_cons_zero, List.set_cons_succ, i64_w, i32_w]
         rfl
        refine pure_ (i := 6) (N := some 29) (v := ?_) (a' := ?_) #[true, true, true, true, false, true, true, false, false, false, false, false, false, false, false] rfl rfl (any_of HT_.out (by kernel_rfl)) (fun _ _ _ h => h) (Or.inl ⟨by rfl, ?_⟩) ?_ ?_
        rotate_left
        ·intro w'
         go_simp
         (first | (with_reducible rfl) | ((try simp only [*]); (with_reducible rfl)))
        rotate_left
        ·simp only [Act.put, List.setIfInBounds_toArray, List.set_cons_zero, List.set_cons_succ, i64_w, i32_w]
         rfl
        refine pure_ (i := 7) (N := some 30) (v := ?_) (a' := ?_) #[true, true, true, true, false, true, true, true, false, false, false, false, false, false, false] rfl rfl (any_of HT_.out (by kernel_rfl)) (fun _ _ _ h => h) (Or.inl ⟨by rfl, ?_⟩) ?_ ?_
        rotate_left
        ·intro w'
         go_simp
         (first | (with_reducible rfl) | ((try simp only [*]); (with_reducible rfl)))
        rotate_left
        ·simp only [Act.put, List.setIfInBounds_toArray, List.set_cons_zero, List.set_cons_succ, i64_w, i32_w]
         rfl
        refine pure_ (i := 8) (N := some 31) (v := ?_) (a' := ?_) #[true, true, true, true, false, true, true, true, true, false, false, false, false, false, false] rfl rfl (any_of HT_.out (by kernel_rfl)) (fun _ _ _ h => h) (Or.inl ⟨by rfl, ?_⟩) ?_ ?_
        rotate_left
        ·intro w'
         go_simp
         (first | (with_reducible rfl) | ((try simp only [*]); (with_reducible rfl)))
        rotate_left
        ·simp only [Act.put, List.setIfInBounds_toArray, List.set_cons_zero, List.set_cons_succ, i64_w, i32_w]
         rfl
        refine take_ (i := 4) (N := some 27) (v := ?_) (a' := ?_) #[true, true, true, true, true, true, true, true, true, false, false, false, false, false, false] rfl rfl (take_ofW HT_.out HW_.out (by kernel_rfl)) (fun _ _ _ h => h) (Or.inl ⟨by rfl, ?_⟩) hHeld ?_ ?_
        rotate_left
        ·rintro w' ⟨s0, s1⟩
         go_simp
         (first | (with_reducible rfl) | ((try simp only [*]); (with_reducible rfl)))
        rotate_left
        ·simp only [Act.put, List.setIfInBounds_toArray, List.set_cons_zero, List.set_cons_succ, i64_w, i32_w]
         rfl
        refine take_ (i := 9) (N := some 32) (v := ?_) (a' := ?_) #[true, true, true, true, true, true, true, true, true, true, false, false, false, false, false] rfl rfl (take_ofW HT_.out HW_.out (by kernel_rfl)) (fun _ _ _ h => h) (Or.inl ⟨by rfl, ?_⟩) hHeld ?_ ?_
        rotate_left
        ·rintro w' ⟨s0, s1⟩
         go_simp
         (first | (with_reducible rfl) | ((try simp only [*]); (with_reducible rfl)))
        rotate_left
        ·simp only [Act.put, List.setIfInBounds_toArray, List.set_cons_zero, List.set_cons_succ, i64_w, i32_w]
         rfl
        refine one_ (i := 10) (N := some 33) #[true, true, true, true, true, true, true, true, true, true, true, false, false, false, false] rfl rfl (one_of HT_.out (by kernel_rfl)) (by decide) (fun K hK => ?_)
        refine goes_ Try.func35 (by kernel_rfl) rfl #[.int .u8 a2, .int .u8 (rd l1 x10_1)] (by rfl) rfl rfl (by (try simp only [List.map_toArray, List.map_cons, List.map_nil]); first | done | rfl | (simp only [List.length_drop, List.length_take]; rfl)) ?_
        with_reducible refine (tabularyref01_Mul.calls k1 a2 (rd l1 x10_1) t188 _ A9.out).mono ?_
        rintro e w' ⟨rfl, ⟨nd, rfl⟩⟩
        refine ⟨_, rfl, ?_⟩
        refine hK.out _ _ ⟨((HB.out.cell (World.block_lt_of_cell? w _ hw186_0)).trans hw186_0), ((HB.out.cell (World.block_lt_of_cell? w _ hw187_0)).trans hw187_0)⟩ (fun hHeld => ?_)
        clear hK K
        refine norm_ (a' := ?_) ?_ ?_
        rotate_left
        ·show Act.put _ (some 33) _ = _
         simp only [Act.put, List.setIfInBounds_toArray, List.set_cons_zero, List.set_cons_succ, i64_w, i32_w]
         rfl
        refine pure_ (i := 11) (N := some 34) (v := ?_) (a' := ?_) #[true, true, true, true, true, true, true, true, true, true, true, true, false, false, false] rfl rfl (any_of HT_.out (by kernel_rfl)) (fun _ _ _ h => h) (Or.inl ⟨by rfl, ?_⟩) ?_ ?_
        rotate_left
        ·intro w'
         go_simp
         (first | (with_reducible rfl) | ((try simp only [*]); (with_reducible rfl)))
        rotate_left
        ·simp only [Act.put, List.setIfInBounds_toArray, List.set_cons_zero, List.set_cons_succ, i64_w, i32_w]
         rfl
        refine one_ (i := 12) (N := some 35) #[true, true, true, true, true, true, true, true, true, true, true, true, true, false, false] rfl rfl (one_of HT_.out (by kernel_rfl)) (by decide) (fun K hK => ?_)
        refine value_ (w1 := ?_) (v := ?_) (by rfl) rfl ?_ ?_
        rotate_left 2
        ·go_simp
         constructor
         ·rfl
         ·rfl
        refine hK.out _ _ ⟨(World.cell?_alloc_lt _ _ _ (World.block_lt_of_cell? _ _ (((HB.out.cell (World.block_lt_of_cell? w _ hw186_0)).trans hw186_0)))).trans (((HB.out.cell (World.block_lt_of_cell? w _ hw186_0)).trans hw186_0)), (World.cell?_alloc_lt _ _ _ (World.block_lt_of_cell? _ _ (((HB.out.cell (World.block_lt_of_cell? w _ hw187_0)).trans hw187_0)))).trans (((HB.out.cell (World.block_lt_of_cell? w _ hw187_0)).trans hw187_0))⟩ (fun hHeld => ?_)
        clear hK K
        refine norm_ (a' := ?_) ?_ ?_
        rotate_left
        ·show Act.put _ (some 35) _ = _
         simp only [Act.put, List.setIfInBounds_toArray, List.set_cons_zero, List.set_cons_succ, i64_w, i32_w]
         rfl
        refine one_ (i := 13) (N := some 36) #[true, true, true, true, true, true, true, true, true, true, true, true, true, true, false] rfl rfl (one_of HT_.out (by kernel_rfl)) (by decide) (fun K hK => ?_)
        refine Kd.R_append_step (Kd.int .u8) (w0 := w) w.heap.size (by rfl) (.tmp 23) (.tmp 35) 38 5 (.int .u8 0) 1 rfl Try.underlying38 info5 rfl (by decide) (by omega) u9 x9_1 (Go.bits .xor .u8 (rd l0 x10_1) t188) [.int .u8 (Go.bits .xor .u8 (rd l0 x10_1) t188)] (fun _ => True) (fun _ => False) rfl rfl ?aP (fun _ hk => hk.elim) ?aF ?aO ?aB ?aS ?aL ?_
        (case aP => exact rfl)
        (case aB => exact (by repeat (first | (with_reducible first | exact HB.out | apply below_alloc | apply pw_below_drewN | apply below_drew1) | exact HB.out)))
        (case aF => exact (fun _ _ => trivial))
        (case aO => exact (by (with_reducible repeat (first | apply Kd.R_alloc | apply Kd.R_drewN | apply Kd.R_drew)); exact HO_9.out))
        (case aS => exact (below_size (by repeat (first | (with_reducible first | exact HB.out | apply below_alloc | apply pw_below_drewN | apply below_drew1) | exact HB.out))))
        (case aL => have := LMc10.out; omega)
        intro v190 w12 ho hb hg hat
        rw [← Ny189.out] at ho
        have n0_ := Aside0.mk (hb)
        have n1_ := Aside0.mk (ho)
        clear HB
        clear HO_9
        have HB := n0_
        have HO191 := n1_
        clear n0_ n1_
        clear ho hb hg hat
        refine hK.out _ _ ⟨((HB.out.cell (World.block_lt_of_cell? w _ hw186_0)).trans hw186_0), ((HB.out.cell (World.block_lt_of_cell? w _ hw187_0)).trans hw187_0)⟩ (fun hHeld => ?_)
        clear hK K
        refine norm_ (a' := ?_) ?_ ?_
        rotate_left
        ·show Act.put _ (some 36) _ = _
         simp only [Act.put, List.setIfInBounds_toArray, List.set_cons_zero, List.set_cons_succ, i64_w, i32_w]
         rfl
        refine pure_ (i := 14) (N := some 9) (v := ?_) (a' := ?_) #[true, true, true, true, true, true, true, true, true, true, true, true, true, true, true] rfl rfl (any_of HT_.out (by kernel_rfl)) (fun _ _ _ h => h) (Or.inl ⟨by rfl, ?_⟩) ?_ ?_
        rotate_left
        ·intro w'
         go_simp
         (first | (with_reducible rfl) | ((try simp only [*]); (with_reducible rfl)))
        rotate_left
        ·simp only [Act.put, List.setIfInBounds_toArray, List.set_cons_zero, List.set_cons_succ, i64_w, i32_w]
         rfl
        refine done_ (done_of HT_.out (by kernel_rfl)) ?_
        try go_wp2
        go_roundg k1
        case measure => have := HK1.out; omega
        case rel => exact ⟨(y189), (wrap64 (x10_1 + 1)), (by first | rfl | (simp; done) | (simp [*]; done)), H', ⟨by have := HK1.out; omega⟩, ⟨by (with_reducible repeat (first | apply Kd.R_alloc | apply Kd.R_drewN | apply Kd.R_drew)); exact HO191.out⟩, ⟨by repeat (first | (with_reducible first | exact HB.out | apply below_alloc | apply pw_below_drewN | apply below_drew1) | exact HB.out)⟩⟩
       ·rw [if_neg c10] at H
        exact absurd H (by simp)
      ·rw [if_neg c8] at H
       exact absurd H (by simp)
     ·rw [if_neg c7] at H
      exact absurd H (by simp)
    ·rw [if_neg c6] at H
     have c6b0 : decide (x10_1 < (l0.length : Int)) = false := decide_eq_false c6
     clear c6
     simp only [Option.some.injEq, Prod.mk.injEq] at H
     obtain ⟨rfl, rfl⟩ := H
     go_wp2
     go_ret2
     exact ⟨_, by first | rfl | (simp [errW_none, errW_some] <;> rfl) | (simp [*, errW_none, errW_some] <;> rfl), by (with_reducible repeat (first | apply Kd.R_alloc | apply Kd.R_drewN | apply Kd.R_drew)); exact HO_9.out, by repeat (first | (with_reducible first | exact HB.out | apply below_alloc | apply pw_below_drewN | apply below_drew1) | exact HB.out)⟩
 ·rw [if_neg c5] at H
  have c5b0 : (t185 == 0) = false := beq_eq_false_iff_ne.mpr c5
  have c5b1 : (t185 != 0) = true := bne_iff_ne.mpr c5
  simp only [Option.some.injEq, Prod.mk.injEq] at H
  obtain ⟨rfl, rfl⟩ := H
  go_enter Try.func28, Try.ntmps28
  go_wp2_with (first | ((with_reducible refine gate_callee (f := 41) rfl ?_); refine goesL_ (some 13) rfl rfl Try.func41 (by kernel_rfl) rfl #[.slice A0 l0.length c0, .slice A1 l1.length c1] rfl (by (try simp only [List.map_toArray, List.map_cons, List.map_nil]); first | done | rfl | (simp only [List.length_drop, List.length_take]; rfl)) ?_; (with_reducible refine (tabularyref02_two.calls k _ _ l0 _ _ l1 t185 _ ?side1 ?side2 ?side3 ?side4 A4.out).mono ?_); (case side1 => repeat (first | exact HR0.out | (with_reducible refine Kd.C_alloc ?_ _) | (with_reducible refine Kd.C_drewN ?_ _) | (with_reducible refine Kd.C_drew ?_))); (case side2 => exact HC0.out); (case side3 => repeat (first | exact HR1.out | (with_reducible refine Kd.C_alloc ?_ _) | (with_reducible refine Kd.C_drewN ?_ _) | (with_reducible refine Kd.C_drew ?_))); (case side4 => exact HC1.out); rintro e w' ⟨rfl, ⟨nd, rfl⟩⟩; refine ⟨_, rfl, ?_⟩))
  go_ret2
  exact ⟨_, by first | rfl | (simp [errW_none, errW_some] <;> rfl) | (simp [*, errW_none, errW_some] <;> rfl), by first | exact Kd.R_nil _ _ _ _ _ | exact Kd.N_nil _ _ _ _ _ | exact Kd.V_nil _ _ _ _ _ | exact Kd.Q_nil _ _ _ _ _ | exact Kd.S_nil _ _ _ _ _, by repeat (first | (with_reducible first | exact HB.out | apply below_alloc | apply pw_below_drewN | apply below_drew1) | exact HB.out)⟩

/-! ### tabularyref02_Dot: function 29 -/
def tabularyref02_Dot.l0 : Nat → List Int → List Int → Int → Int → Option (Int × Int)
 | 0, _, _, _, _ => none
 | k + 1, x0, x1, x7, x8 => if x8 < (x0.length : Int) then (if 0 ≤ x8 then (if x8 < (x1.length : Int) then ((tabularyref01_Mul.f k (rd x0 x8) (rd x1 x8)).bind fun t195 => (tabularyref02_Dot.l0 k x0 x1 (Go.bits .xor .u8 x7 t195) (wrap64 (x8 + 1)))) else (none)) else (none)) else (some (x7, 0))
def tabularyref02_Dot.f (k : Nat) (l0 : List Int) (l1 : List Int) : Option (Int × Int) := (tabularyref02_two.f k l0 l1).bind fun t192 => (if t192 = 0 then (tabularyref02_Dot.l0 k l0 l1 0 0) else (some (0, t192)))
set_option maxHeartbeats 8000000 in
set_option maxRecDepth 100000 in
theorem tabularyref02_Dot.calls (k : Nat) (A0 : Option Addr) (c0 : Nat) (l0 : List Int) (A1 : Option Addr) (c1 : Nat) (l1 : List Int) (r1 : Int) (r2 : Int) (w : World) (hr0 : Kd.C (Kd.int .u8) w A0 l0.length l0) (hc0 : l0.length ≤ c0) (hr1 : Kd.C (Kd.int .u8) w A1 l1.length l1) (hc1 : l1.length ≤ c1) (h : tabularyref02_Dot.f k l0 l1 = some (r1, r2)) :
  Calls Try.prog 29 #[.slice A0 l0.length c0, .slice A1 l1.length c1] w fun e w' => e = .returned (.tuple #[.int .u8 r1, .int .i64 r2]) ∧ Drawn0 w w' := by
 have HR0 := Aside0.mk hr0
 have HC0 := Aside0.mk hc0
 clear hr0 hc0
 have HR1 := Aside0.mk hr1
 have HC1 := Aside0.mk hc1
 clear hr1 hc1
 have H : ((tabularyref02_two.f k l0 l1).bind fun t192 => (if t192 = 0 then (tabularyref02_Dot.l0 k l0 l1 0 0) else (some (0, t192)))) = some (r1, r2) := h
 clear h
 replace H := Option.bind_eq_some_iff.mp H
 obtain ⟨t192, A30, H⟩ := H
 replace H : (if t192 = 0 then (tabularyref02_Dot.l0 k l0 l1 0 0) else (some (0, t192))) = some (r1, r2) := H
 have A3 := Aside0.mk A30
 clear A30
 by_cases c4 : t192 = 0
 ·rw [if_pos c4] at H
  have c4b0 : (t192 == 0) = true := beq_iff_eq.mpr c4
  have c4b1 : (t192 != 0) = false := bne_eq_false_iff_eq.mpr c4
  clear c4
  have H' := Aside0.mk H
  clear H
  go_enter Try.func29, Try.ntmps29
  go_wp2_with (first | (go_at_call 41; (with_reducible refine (tabularyref02_two.calls k _ _ l0 _ _ l1 t192 _ ?side1 ?side2 ?side3 ?side4 A3.out).mono ?_); (case side1 => repeat (first | exact HR0.out | (with_reducible refine Kd.C_alloc ?_ _) | (with_reducible refine Kd.C_drewN ?_ _) | (with_reducible refine Kd.C_drew ?_))); (case side2 => exact HC0.out); (case side3 => repeat (first | exact HR1.out | (with_reducible refine Kd.C_alloc ?_ _) | (with_reducible refine Kd.C_drewN ?_ _) | (with_reducible refine Kd.C_drew ?_))); (case side4 => exact HC1.out); rintro e w' ⟨rfl, ⟨nd, rfl⟩⟩; (try first | exact ⟨rfl, _, World.drewN_drewN _ _ _⟩ | exact ⟨rfl, _, Eq.trans (World.drewN_drewN _ _ _) (congrArg (World.drewN _) (Nat.add_assoc _ _ _))⟩)))
  repeat (go_quiet (first | (go_at_call 41; (with_reducible refine (tabularyref02_two.calls k _ _ l0 _ _ l1 t192 _ ?side1 ?side2 ?side3 ?side4 A3.out).mono ?_); (case side1 => repeat (first | exact HR0.out | (with_reducible refine Kd.C_alloc ?_ _) | (with_reducible refine Kd.C_drewN ?_ _) | (with_reducible refine Kd.C_drew ?_))); (case side2 => exact HC0.out); (case side3 => repeat (first | exact HR1.out | (with_reducible refine Kd.C_alloc ?_ _) | (with_reducible refine Kd.C_drewN ?_ _) | (with_reducible refine Kd.C_drew ?_))); (case side4 => exact HC1.out); rintro e w' ⟨rfl, ⟨nd, rfl⟩⟩; (try first | exact ⟨rfl, _, World.drewN_drewN _ _ _⟩ | exact ⟨rfl, _, Eq.trans (World.drewN_drewN _ _ _) (congrArg (World.drewN _) (Nat.add_assoc _ _ _))⟩))); try go_wp2_with (first | (go_at_call 41; (with_reducible refine (tabularyref02_two.calls k _ _ l0 _ _ l1 t192 _ ?side1 ?side2 ?side3 ?side4 A3.out).mono ?_); (case side1 => repeat (first | exact HR0.out | (with_reducible refine Kd.C_alloc ?_ _) | (with_reducible refine Kd.C_drewN ?_ _) | (with_reducible refine Kd.C_drew ?_))); (case side2 => exact HC0.out); (case side3 => repeat (first | exact HR1.out | (with_reducible refine Kd.C_alloc ?_ _) | (with_reducible refine Kd.C_drewN ?_ _) | (with_reducible refine Kd.C_drew ?_))); (case side4 => exact HC1.out); rintro e w' ⟨rfl, ⟨nd, rfl⟩⟩; (try first | exact ⟨rfl, _, World.drewN_drewN _ _ _⟩ | exact ⟨rfl, _, Eq.trans (World.drewN_drewN _ _ _) (congrArg (World.drewN _) (Nat.add_assoc _ _ _))⟩))))
  go_loopg [7, 8] k (fun kq v7 v8 w' => ∃ (x7_1 : Int) (x8_1 : Int), v7 = .int .u8 x7_1 ∧ v8 = .int .i64 x8_1 ∧ Aside0 (tabularyref02_Dot.l0 kq l0 l1 x7_1 x8_1 = some (r1, r2)) ∧ Aside0 (kq ≤ k) ∧ Drawn0 w w')
  case atStart => exact ⟨(0), (0), (by first | rfl | (simp; done) | (simp [*]; done)), (by first | rfl | (simp; done) | (simp [*]; done)), H', ⟨Nat.le_refl _⟩, by repeat (first | exact Drawn0.refl _ | apply Drawn0.step)⟩
  case round =>
   clear H'
   try clear c1
   try clear c2
   try clear p2
   try clear c4
   try clear c4b0
   try clear c4b1
   obtain ⟨x7_1, x8_1, rfl, rfl, HA, HK1, ⟨m1, rfl⟩⟩ := hrel
   cases gk with
   | zero => exact absurd HA.out (by simp [tabularyref02_Dot.l0])
   | succ k1 =>
    have H := HA.out
    clear HA
    simp only [tabularyref02_Dot.l0] at H
    by_cases c5 : x8_1 < (l0.length : Int)
    ·rw [if_pos c5] at H
     have c5b0 : decide (x8_1 < (l0.length : Int)) = true := decide_eq_true c5
     clear c5
     by_cases c6 : 0 ≤ x8_1
     ·rw [if_pos c6] at H
      have c6b0 : decide (0 ≤ x8_1) = true := decide_eq_true c6
      clear c6
      by_cases c7 : x8_1 < (l1.length : Int)
      ·rw [if_pos c7] at H
       have c7b0 : decide (x8_1 < (l1.length : Int)) = true := decide_eq_true c7
       clear c7
       replace H := Option.bind_eq_some_iff.mp H
       obtain ⟨t195, A80, H⟩ := H
       replace H : (tabularyref02_Dot.l0 k1 l0 l1 (Go.bits .xor .u8 x7_1 t195) (wrap64 (x8_1 + 1))) = some (r1, r2) := H
       have A8 := Aside0.mk A80
       clear A80
       have H' := Aside0.mk H
       clear H
       have p193 : 0 ≤ (x8_1 : Int) := of_decide_eq_true (by first | (with_reducible assumption) | assumption)
       have q193 : x8_1 < (l0.length : Int) := of_decide_eq_true (by first | (with_reducible assumption) | assumption)
       obtain ⟨ad193, e193, hx193_0⟩ := Kd.at_int HR0.out x8_1 p193 q193
       cases e193
       replace p193 := eq_true p193
       replace q193 := eq_true q193
       have p194 : 0 ≤ (x8_1 : Int) := of_decide_eq_true (by first | (with_reducible assumption) | assumption)
       have q194 : x8_1 < (l1.length : Int) := of_decide_eq_true (by first | (with_reducible assumption) | assumption)
       obtain ⟨ad194, e194, hx194_0⟩ := Kd.at_int HR1.out x8_1 p194 q194
       cases e194
       replace p194 := eq_true p194
       replace q194 := eq_true q194
       go_wp2_with (first | (go_at_call 35; (with_reducible refine (tabularyref01_Mul.calls k1 (rd l0 x8_1) (rd l1 x8_1) t195 _ A8.out).mono ?_); rintro e w' ⟨rfl, ⟨nd, rfl⟩⟩; (try first | exact ⟨rfl, _, World.drewN_drewN _ _ _⟩ | exact ⟨rfl, _, Eq.trans (World.drewN_drewN _ _ _) (congrArg (World.drewN _) (Nat.add_assoc _ _ _))⟩)))
       repeat (go_quiet (first | (go_at_call 35; (with_reducible refine (tabularyref01_Mul.calls k1 (rd l0 x8_1) (rd l1 x8_1) t195 _ A8.out).mono ?_); rintro e w' ⟨rfl, ⟨nd, rfl⟩⟩; (try first | exact ⟨rfl, _, World.drewN_drewN _ _ _⟩ | exact ⟨rfl, _, Eq.trans (World.drewN_drewN _ _ _) (congrArg (World.drewN _) (Nat.add_assoc _ _ _))⟩))); try go_wp2_with (first | (go_at_call 35; (with_reducible refine (tabularyref01_Mul.calls k1 (rd l0 x8_1) (rd l1 x8_1) t195 _ A8.out).mono ?_); rintro e w' ⟨rfl, ⟨nd, rfl⟩⟩; (try first | exact ⟨rfl, _, World.drewN_drewN _ _ _⟩ | exact ⟨rfl, _, Eq.trans (World.drewN_drewN _ _ _) (congrArg (World.drewN _) (Nat.add_assoc _ _ _))⟩))))
       go_roundg k1
       case measure => have := HK1.out; omega
       case rel => exact ⟨(Go.bits .xor .u8 x7_1 t195), (wrap64 (x8_1 + 1)), (by first | rfl | (simp; done) | (simp [*]; done)), (by first | rfl | (simp; done) | (simp [*]; done)), H', ⟨by have := HK1.out; omega⟩, by repeat (first | exact Drawn0.refl _ | apply Drawn0.step)⟩
      ·rw [if_neg c7] at H
       exact absurd H (by simp)
     ·rw [if_neg c6] at H
      exact absurd H (by simp)
    ·rw [if_neg c5] at H
     have c5b0 : decide (x8_1 < (l0.length : Int)) = false := decide_eq_false c5
     clear c5
     simp only [Option.some.injEq, Prod.mk.injEq] at H
     obtain ⟨rfl, rfl⟩ := H
     go_wp2
     repeat (go_quiet (fail); try go_wp2)
     go_ret2
     exact ⟨by first | rfl | (simp; done) | (simp [*]; done), by repeat (first | exact Drawn0.refl _ | apply Drawn0.step)⟩
 ·rw [if_neg c4] at H
  have c4b0 : (t192 == 0) = false := beq_eq_false_iff_ne.mpr c4
  have c4b1 : (t192 != 0) = true := bne_iff_ne.mpr c4
  simp only [Option.some.injEq, Prod.mk.injEq] at H
  obtain ⟨rfl, rfl⟩ := H
  go_enter Try.func29, Try.ntmps29
  go_wp2_with (first | (go_at_call 41; (with_reducible refine (tabularyref02_two.calls k _ _ l0 _ _ l1 t192 _ ?side1 ?side2 ?side3 ?side4 A3.out).mono ?_); (case side1 => repeat (first | exact HR0.out | (with_reducible refine Kd.C_alloc ?_ _) | (with_reducible refine Kd.C_drewN ?_ _) | (with_reducible refine Kd.C_drew ?_))); (case side2 => exact HC0.out); (case side3 => repeat (first | exact HR1.out | (with_reducible refine Kd.C_alloc ?_ _) | (with_reducible refine Kd.C_drewN ?_ _) | (with_reducible refine Kd.C_drew ?_))); (case side4 => exact HC1.out); rintro e w' ⟨rfl, ⟨nd, rfl⟩⟩; (try first | exact ⟨rfl, _, World.drewN_drewN _ _ _⟩ | exact ⟨rfl, _, Eq.trans (World.drewN_drewN _ _ _) (congrArg (World.drewN _) (Nat.add_assoc _ _ _))⟩)))
  repeat (go_quiet (first | (go_at_call 41; (with_reducible refine (tabularyref02_two.calls k _ _ l0 _ _ l1 t192 _ ?side1 ?side2 ?side3 ?side4 A3.out).mono ?_); (case side1 => repeat (first | exact HR0.out | (with_reducible refine Kd.C_alloc ?_ _) | (with_reducible refine Kd.C_drewN ?_ _) | (with_reducible refine Kd.C_drew ?_))); (case side2 => exact HC0.out); (case side3 => repeat (first | exact HR1.out | (with_reducible refine Kd.C_alloc ?_ _) | (with_reducible refine Kd.C_drewN ?_ _) | (with_reducible refine Kd.C_drew ?_))); (case side4 => exact HC1.out); rintro e w' ⟨rfl, ⟨nd, rfl⟩⟩; (try first | exact ⟨rfl, _, World.drewN_drewN _ _ _⟩ | exact ⟨rfl, _, Eq.trans (World.drewN_drewN _ _ _) (congrArg (World.drewN _) (Nat.add_assoc _ _ _))⟩))); try go_wp2_with (first | (go_at_call 41; (with_reducible refine (tabularyref02_two.calls k _ _ l0 _ _ l1 t192 _ ?side1 ?side2 ?side3 ?side4 A3.out).mono ?_); (case side1 => repeat (first | exact HR0.out | (with_reducible refine Kd.C_alloc ?_ _) | (with_reducible refine Kd.C_drewN ?_ _) | (with_reducible refine Kd.C_drew ?_))); (case side2 => exact HC0.out); (case side3 => repeat (first | exact HR1.out | (with_reducible refine Kd.C_alloc ?_ _) | (with_reducible refine Kd.C_drewN ?_ _) | (with_reducible refine Kd.C_drew ?_))); (case side4 => exact HC1.out); rintro e w' ⟨rfl, ⟨nd, rfl⟩⟩; (try first | exact ⟨rfl, _, World.drewN_drewN _ _ _⟩ | exact ⟨rfl, _, Eq.trans (World.drewN_drewN _ _ _) (congrArg (World.drewN _) (Nat.add_assoc _ _ _))⟩))))
  go_ret2
  exact ⟨by first | rfl | (simp; done) | (simp [*]; done), by repeat (first | exact Drawn0.refl _ | apply Drawn0.step)⟩

-- NOT PRINTED: function 8 (tabularylaw02_MatrixRows)

end Go.Proofs.Ytjkmaobfpgfdnaa.PMatrixRows
end

/- MatrixRows with no program in sight. -/
section
namespace Go.Proofs.Ytjkmaobfpgfdnaa.RowsPure
open Go.Proofs.Ytjkmaobfpgfdnaa Go.RowKit Go.Proofs.YtjkmaobfpgfdnaaW.PrintWords Go.Proofs.YtjkmaobfpgfdnaaW.PrintLast Go.Proofs.YtjkmaobfpgfdnaaW.PrintMore Go.Proofs.Ytjkmaobfpgfdnaa.PMatrixRows Go.Proofs.Ytjkmaobfpgfdnaa.Lin Go.Proofs.Ytjkmaobfpgfdnaa.Lin.G Go.Proofs.Ytjkmaobfpgfdnaa.Byt Go.Proofs.Ytjkmaobfpgfdnaa.Elim Go.Proofs.Ytjkmaobfpgfdnaa.MSteps Go.Proofs.Ytjkmaobfpgfdnaa.Tab Go.Proofs.Ytjkmaobfpgfdnaa.MBad Go.Proofs.Ytjkmaobfpgfdnaa.MMul Go.Proofs.Ytjkmaobfpgfdnaa.MTurned Go.Proofs.Ytjkmaobfpgfdnaa.MInverse Go.Proofs.Ytjkmaobfpgfdnaa.MPlug Go.Proofs.Ytjkmaobfpgfdnaa.MPure
set_option linter.unusedVariables false
set_option linter.unusedSimpArgs false

theorem wf8 {a : Int} (h : (Lit.int .u8 a).wf = true) : 0 ≤ a ∧ a ≤ 255 := by
  simp only [Lit.wf, Bool.and_eq_true, decide_eq_true_eq] at h
  have hmin : IntKind.u8.min = 0 := rfl
  have hmax : IntKind.u8.max = 255 := rfl
  omega

theorem w64 {a : Int} (h : -9223372036854775808 ≤ a ∧ a ≤ 9223372036854775807) : wrap64 a = a := by
  unfold wrap64; omega

theorem bits_xor (k : IntKind) (j : Nat) (hj : j ≤ k.bits) (hk : ∀ n : Int, 0 ≤ n → n < 2 ^ j → k.wrap n = n) (a b : Nat) (ha : a < 2 ^ j) (hb : b < 2 ^ j) :
    Go.bits .xor k a b = ((a ^^^ b : Nat) : Int) := by
  have hp : 2 ^ j ≤ 2 ^ k.bits := Nat.pow_le_pow_right (by decide) hj
  have ha' : a % 2 ^ k.bits = a := Nat.mod_eq_of_lt (Nat.lt_of_lt_of_le ha hp)
  have hb' : b % 2 ^ k.bits = b := Nat.mod_eq_of_lt (Nat.lt_of_lt_of_le hb hp)
  have cast : ∀ n : Nat, n < 2 ^ j → ((n : Nat) : Int) < 2 ^ j := fun n h => by exact_mod_cast h
  simp only [Go.bits, BitVec.ofInt_natCast, BitVec.toNat_xor, BitVec.toNat_ofNat, ha', hb']
  exact hk _ (Int.natCast_nonneg _) (cast _ (Nat.xor_lt_two_pow ha hb))

theorem xor8 (a b : Nat) (ha : a < 256) (hb : b < 256) : Go.bits .xor .u8 (a : Int) (b : Int) = ((a ^^^ b : Nat) : Int) :=
  bits_xor .u8 8 (by decide) wraps_u8 a b ha hb

theorem wraps_i64 (n : Int) (h0 : 0 ≤ n) (h1 : n < 2 ^ 32) : IntKind.i64.wrap n = n := by rw [IntKind.wrap_i64]; omega

theorem xor64 (a b : Nat) (ha : a < 4294967296) (hb : b < 4294967296) : Go.bits .xor .i64 (a : Int) (b : Int) = ((a ^^^ b : Nat) : Int) :=
  bits_xor .i64 32 (by decide) wraps_i64 a b ha hb

theorem bit8 (b i : Nat) (hb : b < 256) (hi : i < 8) : (Go.bits .and .u8 (shr .u8 (b : Int) (i : Int)) 1 = 1) ↔ b.testBit i = true := by
  have e : shr .u8 (b : Int) (i : Int) = ((b / 2 ^ i : Nat) : Int) := by
    unfold shr
    rw [Int.toNat_natCast, Nat.min_eq_left (show i ≤ IntKind.u8.bits by simp [IntKind.bits]; omega)]
    simp
  have h := bits_mask .u8 8 (by decide) wraps_u8 1 (by decide) ((b / 2 ^ i : Nat) : Int) (Int.natCast_nonneg _) (by have := Nat.div_le_self b (2 ^ i); omega)
  have h2 : ((2 : Int) ^ 1 - 1) = 1 := by decide
  rw [h2] at h
  rw [e, h, Nat.testBit_eq_decide_div_mod_eq, decide_eq_true_eq]
  omega

theorem mul_l0 (d : Nat) : ∀ (k b x p i : Nat), d + i = 8 → d < k → b < 256 → x < 256 → p < 256 →
    gf_Mul.l0 k (b : Int) (x : Int) (p : Int) (i : Int) = some ((p ^^^ GfMath.mulFrom d b x i : Nat) : Int) := by
  induction d with
  | zero =>
    intro k b x p i hd hk hb hx hp
    obtain ⟨k, rfl⟩ : ∃ m, k = m + 1 := ⟨k - 1, by omega⟩
    simp only [gf_Mul.l0]
    rw [if_neg (by omega)]
    simp only [GfMath.mulFrom, Nat.xor_zero]
    congr 1; omega
  | succ d ih =>
    intro k b x p i hd hk hb hx hp
    obtain ⟨k, rfl⟩ : ∃ m, k = m + 1 := ⟨k - 1, by omega⟩
    simp only [gf_Mul.l0]
    have e1 : wrap64 ((x : Int) * 2) = ((2 * x : Nat) : Int) := by rw [w64 ⟨by omega, by omega⟩]; omega
    have e2 : wrap64 ((i : Int) + 1) = ((i + 1 : Nat) : Int) := by rw [w64 ⟨by omega, by omega⟩]; omega
    have e3 : Go.bits .xor .i64 ((2 * x : Nat) : Int) 285 = ((2 * x ^^^ 285 : Nat) : Int) := xor64 (2 * x) 285 (by omega) (by omega)
    have e4 : Go.bits .xor .i64 (p : Int) (x : Int) = ((p ^^^ x : Nat) : Int) := xor64 p x (by omega) (by omega)
    rw [if_pos (by omega), if_pos (by omega), e1, e2, e3, e4]
    have hxt : (if ((2 * x : Nat) : Int) > 255 then gf_Mul.l0 k (b : Int) ((2 * x ^^^ 285 : Nat) : Int) = gf_Mul.l0 k (b : Int) ((GfMath.xt x : Nat) : Int) else gf_Mul.l0 k (b : Int) ((2 * x : Nat) : Int) = gf_Mul.l0 k (b : Int) ((GfMath.xt x : Nat) : Int)) := by
      unfold GfMath.xt
      split
      · rw [if_pos (by omega)]
      · rw [if_neg (by omega)]
    have hx' := GfMath.xt_lt hx
    simp only [GfMath.mulFrom]
    by_cases hbit : b.testBit i = true
    · rw [if_pos ((bit8 b i hb (by omega)).2 hbit), if_pos hbit, ← Nat.xor_assoc]
      have := ih k b (GfMath.xt x) (p ^^^ x) (i + 1) (by omega) (by omega) hb hx' (GfMath.xor_lt hp hx)
      split
      · rename_i h; rw [if_pos h] at hxt; rw [hxt, this]
      · rename_i h; rw [if_neg h] at hxt; rw [hxt, this]
    · rw [if_neg (fun h => hbit ((bit8 b i hb (by omega)).1 h)), if_neg hbit, Nat.zero_xor]
      have := ih k b (GfMath.xt x) p (i + 1) (by omega) (by omega) hb hx' hp
      split
      · rename_i h; rw [if_pos h] at hxt; rw [hxt, this]
      · rename_i h; rw [if_neg h] at hxt; rw [hxt, this]

theorem mul_gf (a b : Nat) (ha : a < 256) (hb : b < 256) (k : Nat) (hk : 20 < k) : gf_Mul.f k (a : Int) (b : Int) = some ((GfMath.mul a b : Nat) : Int) := by
  unfold gf_Mul.f
  rw [w64 ⟨by omega, by omega⟩]
  have := mul_l0 8 k b a 0 0 (by omega) (by omega) hb ha (by omega)
  rw [Nat.zero_xor] at this
  exact this

theorem tb_nat (i : Nat) : Gf.tb (i : Int) = ((GfMath.tabN.getD i 0 : Nat) : Int) := by
  unfold Gf.tb Gf.TBL rd
  rw [Int.toNat_natCast, List.getD_eq_getElem?_getD, List.getD_eq_getElem?_getD, List.getElem?_map]
  cases GfMath.tabN[i]? <;> rfl

theorem inv_gf (a : Nat) (ha : a < 256) (h0 : a ≠ 0) : Gf.invF (a : Int) = some (((GfMath.inv a : Nat) : Int), 0) := by
  unfold Gf.invF
  have h1 : Gf.tb (255 + (a : Int)) = ((GfMath.lg a : Nat) : Int) := by
    have e : (255 + (a : Int)) = ((255 + a : Nat) : Int) := by omega
    rw [e, tb_nat]; rfl
  have hl := GfMath.lg_lt ha
  have e : -((GfMath.lg a : Nat) : Int) % 255 = (((255 - GfMath.lg a) % 255 : Nat) : Int) := by omega
  rw [if_pos (by omega), if_neg (by omega), h1, e, tb_nat]
  rfl

theorem inv_gf0 : Gf.invF 0 = some (0, 1) := rfl


theorem rd_row {n : Nat} {f : Nat → G} {i : Nat} (h : i < n) : rd (row n f) (i : Int) = ((f i).v : Int) := row_bn h
theorem row_set {n : Nat} (f : Nat → G) (i : Nat) (x : G) : (row n f).set i (x.v : Int) = row n (fun j => if j = i then x else f j) := by
  refine List.ext_getElem (by simp [row_len]) fun j h1 h2 => ?_
  rw [List.getElem_set]
  simp only [row, List.getElem_map, List.getElem_range]
  by_cases e : i = j
  · rw [if_pos e, if_pos e.symm]
  · rw [if_neg e, if_neg (fun h => e h.symm)]
theorem row_zeros (n : Nat) : List.replicate n (0 : Int) = row n (fun _ => 0) := by
  refine List.ext_getElem (by simp [row_len]) fun j h1 h2 => ?_
  simp only [row, List.getElem_map, List.getElem_range, List.getElem_replicate]
  rfl
theorem tabl_snoc (n m : Nat) (T : Tb) : tabl n m T ++ [row m (T n)] = tabl (n + 1) m T := by
  unfold tabl
  rw [List.range_succ, List.map_append]
  rfl
theorem rdb {X : List (List Int)} (hX : AMB X) {i : Nat} (hi : i < X.length) (t : Nat) : rd (rw_ X i) (t : Int) = ((tb X i t).v : Int) := (gv_v (mb_of hX i hi t)).symm

theorem rmul_eq : tabularyref01_Mul.f = PMatrixInverses.tabularyref01_Mul.f := by kernel_rfl
theorem rmul_g (a b : G) (k : Nat) (hk : 40 < k) : tabularyref01_Mul.f k (a.v : Int) (b.v : Int) = some (((a * b).v : Nat) : Int) := by
  rw [rmul_eq]
  exact GfPure.rmul_gf a.v b.v a.lt b.lt k hk
theorem row_snoc (n : Nat) (f : Nat → G) : row n f ++ [((f n).v : Int)] = row (n + 1) f := by
  unfold row
  rw [List.range_succ, List.map_append]
  rfl
theorem add_l0 (n : Nat) (hn : n ≤ 4611686018427387904) (h : Nat → G) : ∀ (d k i : Nat) (f : Nat → G), d + i = n → d < k → matrix_add.l0 k (row n f) (row n h) (n : Int) (i : Int) = some (row n (fun j => if i ≤ j then f j + h j else f j)) := by
  intro d
  induction d with
  | zero =>
    intro k i f hd hk
    obtain ⟨k, rfl⟩ : ∃ m, k = m + 1 := ⟨k - 1, by omega⟩
    simp only [matrix_add.l0]
    rw [if_neg (by omega)]
    congr 1
    exact row_ext fun j hj => (if_neg (by omega)).symm
  | succ d ih =>
    intro k i f hd hk
    obtain ⟨k, rfl⟩ : ∃ m, k = m + 1 := ⟨k - 1, by omega⟩
    simp only [matrix_add.l0]
    rw [if_pos (by omega), if_pos (by omega), if_pos (by rw [row_len]; omega), if_pos (by rw [row_len]; omega), rd_row (by omega), rd_row (by omega), xor_g, Int.toNat_natCast, row_set, w64 (a := (i : Int) + 1) (by omega), show (i : Int) + 1 = ((i + 1 : Nat) : Int) by omega, ih k (i + 1) _ (by omega) (by omega)]
    congr 1
    refine row_ext fun j hj => ?_
    by_cases e : j = i
    · subst e
      rw [if_neg (by omega), if_pos rfl, if_pos (by omega)]
    · rw [if_neg e]
      by_cases e2 : i + 1 ≤ j
      · rw [if_pos e2, if_pos (by omega)]
      · rw [if_neg e2, if_neg (by omega)]
theorem add_l1 (n : Nat) (hn : n ≤ 4611686018427387904) (c : G) (h : Nat → G) : ∀ (d k i : Nat) (f : Nat → G), d + i = n → d + 30 < k → matrix_add.l1 k (row n f) (c.v : Int) (row n h) (n : Int) (i : Int) = some (row n (fun j => if i ≤ j then f j + c * h j else f j)) := by
  intro d
  induction d with
  | zero =>
    intro k i f hd hk
    obtain ⟨k, rfl⟩ : ∃ m, k = m + 1 := ⟨k - 1, by omega⟩
    simp only [matrix_add.l1]
    rw [if_neg (by omega)]
    congr 1
    exact row_ext fun j hj => (if_neg (by omega)).symm
  | succ d ih =>
    intro k i f hd hk
    obtain ⟨k, rfl⟩ : ∃ m, k = m + 1 := ⟨k - 1, by omega⟩
    simp only [matrix_add.l1]
    have e : Go.bits .xor .u8 ((f i).v : Int) ((GfMath.mul c.v (h i).v : Nat) : Int) = (((f i + c * h i).v : Nat) : Int) := xor_g (f i) (c * h i)
    rw [if_pos (by omega), if_pos (by omega), if_pos (by rw [row_len]; omega), if_pos (by rw [row_len]; omega), rd_row (by omega), rd_row (by omega), mul_gf c.v (h i).v c.lt (h i).lt k (by omega), Option.bind_some, e, Int.toNat_natCast, row_set, w64 (a := (i : Int) + 1) (by omega), show (i : Int) + 1 = ((i + 1 : Nat) : Int) by omega, ih k (i + 1) _ (by omega) (by omega)]
    congr 1
    refine row_ext fun j hj => ?_
    by_cases e : j = i
    · subst e
      rw [if_neg (by omega), if_pos rfl, if_pos (by omega)]
    · rw [if_neg e]
      by_cases e2 : i + 1 ≤ j
      · rw [if_pos e2, if_pos (by omega)]
      · rw [if_neg e2, if_neg (by omega)]
theorem add_row (n : Nat) (hn : n ≤ 131072) (f h : Nat → G) (c : G) (k : Nat) (hk : n + 40 ≤ k) : matrix_add.f k (row n f) (row n h) (c.v : Int) = some (row n (fun j => f j + c * h j)) := by
  unfold matrix_add.f
  by_cases h0 : c = 0
  · subst h0
    rw [if_pos (by rfl)]
    congr 1
    exact row_ext fun j _ => by rw [zero_mul, add_zero]
  · rw [if_neg (by have := ne_v h0; omega)]
    by_cases h1 : c = 1
    · subst h1
      rw [if_pos (by rfl), row_len]
      refine (add_l0 n (by omega) h n k 0 f (by omega) (by omega)).trans ?_
      congr 1
      exact row_ext fun j _ => by rw [if_pos (Nat.zero_le j), one_mul]
    · have hne : ¬ (c.v : Int) = 1 := fun h2 => by
        refine h1 (ext ?_)
        show c.v = 1
        omega
      rw [if_neg hne, row_len]
      refine (add_l1 n (by omega) c h n k 0 f (by omega) (by omega)).trans ?_
      congr 1
theorem plus_row (n : Nat) (hn : n ≤ 131072) (f h : Nat → G) (c : G) (k : Nat) (hk : n + 40 ≤ k) : matrix_Plus.f k (row n f) (row n h) (c.v : Int) = some (row n (fun j => f j + c * h j), 0) := by
  unfold matrix_Plus.f matrix_two.f
  rw [row_len, row_len, if_neg (by unfold mx; split <;> omega), if_pos rfl, Option.bind_some, if_pos rfl]
  unfold slices_Clone_byte_byte.f Clone.cloneF
  rw [if_pos (by rw [row_len]; omega), Option.bind_some, add_row n hn f h c k hk, Option.bind_some]
theorem rplus_l0 (n : Nat) (hn : n ≤ 131072) (f h : Nat → G) (c : G) : ∀ (d k i : Nat), d + i = n → d + 50 < k → tabularyref02_Plus.l0 k (row n f) (row n h) (c.v : Int) (row i (fun j => f j + c * h j)) (i : Int) = some (row n (fun j => f j + c * h j), 0) := by
  intro d
  induction d with
  | zero =>
    intro k i hd hk
    obtain ⟨k, rfl⟩ : ∃ m, k = m + 1 := ⟨k - 1, by omega⟩
    simp only [tabularyref02_Plus.l0]
    rw [if_neg (by rw [row_len]; omega), show i = n by omega]
  | succ d ih =>
    intro k i hd hk
    obtain ⟨k, rfl⟩ : ∃ m, k = m + 1 := ⟨k - 1, by omega⟩
    simp only [tabularyref02_Plus.l0]
    have hs := row_snoc i (fun j => f j + c * h j)
    rw [if_pos (by rw [row_len]; omega), if_pos (by omega), if_pos (by rw [row_len]; omega), rd_row (by omega), rd_row (by omega), rmul_g _ _ _ (by omega), Option.bind_some, if_pos (by rw [row_len]; omega), xor_g, hs, w64 (a := (i : Int) + 1) (by omega), show (i : Int) + 1 = ((i + 1 : Nat) : Int) by omega]
    exact ih k (i + 1) (by omega) (by omega)
theorem rplus_row (n : Nat) (hn : n ≤ 131072) (f h : Nat → G) (c : G) (k : Nat) (hk : n + 60 ≤ k) : tabularyref02_Plus.f k (row n f) (row n h) (c.v : Int) = some (row n (fun j => f j + c * h j), 0) := by
  obtain ⟨m, rfl⟩ : ∃ m, k = m + 1 := ⟨k - 1, by omega⟩
  unfold tabularyref02_Plus.f tabularyref02_two.f
  rw [row_len, row_len, if_neg (by omega), decide_eq_false (by omega)]
  simp only [tabularyref02_two.j0]
  rw [if_neg (fun h => nomatch h), if_pos (by rw [row_len, row_len]), Option.bind_some, if_pos rfl]
  exact rplus_l0 n hn f h c n (m + 1) 0 (by omega) (by omega)
theorem dot_l0 (n : Nat) (hn : n ≤ 4611686018427387904) (f h : Nat → G) : ∀ (d k i : Nat), d + i = n → d + 30 < k → matrix_Dot.l0 k (row n h) (((sm i fun j => f j * h j).v : Nat) : Int) (row n f) (n : Int) (i : Int) = some ((((sm n fun j => f j * h j).v : Nat) : Int), 0) := by
  intro d
  induction d with
  | zero =>
    intro k i hd hk
    obtain ⟨k, rfl⟩ : ∃ m, k = m + 1 := ⟨k - 1, by omega⟩
    simp only [matrix_Dot.l0]
    rw [if_neg (by omega), show i = n by omega]
  | succ d ih =>
    intro k i hd hk
    obtain ⟨k, rfl⟩ : ∃ m, k = m + 1 := ⟨k - 1, by omega⟩
    simp only [matrix_Dot.l0]
    rw [if_pos (by omega), if_pos (by omega), if_pos (by rw [row_len]; omega), if_pos (by rw [row_len]; omega), rd_row (by omega), rd_row (by omega), mul_gf (f i).v (h i).v (f i).lt (h i).lt k (by omega), Option.bind_some, w64 (a := (i : Int) + 1) (by omega), show (i : Int) + 1 = ((i + 1 : Nat) : Int) by omega]
    have e : Go.bits .xor .u8 (((sm i fun j => f j * h j).v : Nat) : Int) ((GfMath.mul (f i).v (h i).v : Nat) : Int) = (((sm (i + 1) fun j => f j * h j).v : Nat) : Int) := xor_g (sm i fun j => f j * h j) (f i * h i)
    rw [e]
    exact ih k (i + 1) (by omega) (by omega)
theorem dot_row (n : Nat) (hn : n ≤ 131072) (f h : Nat → G) (k : Nat) (hk : n + 40 ≤ k) : matrix_Dot.f k (row n f) (row n h) = some ((((sm n fun j => f j * h j).v : Nat) : Int), 0) := by
  unfold matrix_Dot.f matrix_two.f
  rw [row_len, row_len, if_neg (by unfold mx; split <;> omega), if_pos rfl, Option.bind_some, if_pos rfl]
  exact dot_l0 n (by omega) f h n k 0 (by omega) (by omega)
theorem rdot_l0 (n : Nat) (hn : n ≤ 131072) (f h : Nat → G) : ∀ (d k i : Nat), d + i = n → d + 50 < k → tabularyref02_Dot.l0 k (row n f) (row n h) (((sm i fun j => f j * h j).v : Nat) : Int) (i : Int) = some ((((sm n fun j => f j * h j).v : Nat) : Int), 0) := by
  intro d
  induction d with
  | zero =>
    intro k i hd hk
    obtain ⟨k, rfl⟩ : ∃ m, k = m + 1 := ⟨k - 1, by omega⟩
    simp only [tabularyref02_Dot.l0]
    rw [if_neg (by rw [row_len]; omega), show i = n by omega]
  | succ d ih =>
    intro k i hd hk
    obtain ⟨k, rfl⟩ : ∃ m, k = m + 1 := ⟨k - 1, by omega⟩
    simp only [tabularyref02_Dot.l0]
    rw [if_pos (by rw [row_len]; omega), if_pos (by omega), if_pos (by rw [row_len]; omega), rd_row (by omega), rd_row (by omega), rmul_g _ _ _ (by omega), Option.bind_some, w64 (a := (i : Int) + 1) (by omega), show (i : Int) + 1 = ((i + 1 : Nat) : Int) by omega]
    have e : Go.bits .xor .u8 (((sm i fun j => f j * h j).v : Nat) : Int) (((f i * h i).v : Nat) : Int) = (((sm (i + 1) fun j => f j * h j).v : Nat) : Int) := xor_g (sm i fun j => f j * h j) (f i * h i)
    rw [e]
    exact ih k (i + 1) (by omega) (by omega)
theorem rdot_row (n : Nat) (hn : n ≤ 131072) (f h : Nat → G) (k : Nat) (hk : n + 60 ≤ k) : tabularyref02_Dot.f k (row n f) (row n h) = some ((((sm n fun j => f j * h j).v : Nat) : Int), 0) := by
  obtain ⟨m, rfl⟩ : ∃ m, k = m + 1 := ⟨k - 1, by omega⟩
  unfold tabularyref02_Dot.f tabularyref02_two.f
  rw [row_len, row_len, if_neg (by omega), decide_eq_false (by omega)]
  simp only [tabularyref02_two.j0]
  rw [if_neg (fun h => nomatch h), if_pos (by rw [row_len, row_len]), Option.bind_some, if_pos rfl]
  exact rdot_l0 n hn f h n (m + 1) 0 (by omega) (by omega)
/-- What is wrong with two rows. -/
def twoE (l m : List Int) : Int := if 131072 < l.length ∨ 131072 < m.length then 2 else if l.length = m.length then 0 else 6
theorem two_ok (l m : List Int) : matrix_two.f l m = some (twoE l m) := by
  unfold matrix_two.f twoE
  by_cases h : 131072 < l.length ∨ 131072 < m.length
  · rw [if_pos (by unfold mx; split <;> omega), if_pos h]
  · rw [if_neg (by unfold mx; split <;> omega), if_neg h]
    by_cases h2 : l.length = m.length
    · rw [if_pos (by omega), if_pos h2]
    · rw [if_neg (by omega), if_neg h2]
theorem rtwo_ok (l m : List Int) (k : Nat) (hk : 0 < k) : tabularyref02_two.f k l m = some (twoE l m) := by
  obtain ⟨k, rfl⟩ : ∃ q, k = q + 1 := ⟨k - 1, by omega⟩
  unfold tabularyref02_two.f twoE
  by_cases h1 : 131072 < l.length
  · rw [if_pos (by omega), if_pos (.inl h1)]
    simp only [tabularyref02_two.j0]
    rw [if_pos trivial]
  · rw [if_neg (by omega)]
    by_cases h2 : 131072 < m.length
    · rw [decide_eq_true (by omega), if_pos (.inr h2)]
      simp only [tabularyref02_two.j0]
      rw [if_pos trivial]
    · rw [decide_eq_false (by omega), if_neg (by omega)]
      simp only [tabularyref02_two.j0]
      rw [if_neg (fun h => nomatch h)]
      by_cases h3 : l.length = m.length
      · rw [if_pos (by omega), if_pos h3]
      · rw [if_neg (by omega), if_neg h3]
theorem plus_all (l m : List Int) (hl : Bytes l) (hm : Bytes m) (c : G) (k : Nat) (hk : 200000 ≤ k) : ∃ R, R.length ≤ 131072 ∧ matrix_Plus.f k l m (c.v : Int) = some (R, twoE l m) ∧ tabularyref02_Plus.f k l m (c.v : Int) = some (R, twoE l m) := by
  by_cases h0 : twoE l m = 0
  · have hh : l.length ≤ 131072 ∧ l.length = m.length := by
      unfold twoE at h0
      split at h0
      · cases h0
      · split at h0
        · rename_i h1 h2; exact ⟨by omega, h2⟩
        · cases h0
    have el := row_of hl
    have em := row_of hm
    rw [← hh.2] at em
    rw [h0, el, em]
    exact ⟨_, by rw [row_len]; exact hh.1, plus_row _ hh.1 _ _ c k (by omega), rplus_row _ hh.1 _ _ c k (by omega)⟩
  · refine ⟨[], by simp, ?_, ?_⟩
    · unfold matrix_Plus.f
      rw [two_ok, Option.bind_some, if_neg h0]
    · unfold tabularyref02_Plus.f
      rw [rtwo_ok l m k (by omega), Option.bind_some, if_neg h0]
theorem dot_all (l m : List Int) (hl : Bytes l) (hm : Bytes m) (k : Nat) (hk : 200000 ≤ k) : ∃ s, matrix_Dot.f k l m = some (s, twoE l m) ∧ tabularyref02_Dot.f k l m = some (s, twoE l m) := by
  by_cases h0 : twoE l m = 0
  · have hh : l.length ≤ 131072 ∧ l.length = m.length := by
      unfold twoE at h0
      split at h0
      · cases h0
      · split at h0
        · rename_i h1 h2; exact ⟨by omega, h2⟩
        · cases h0
    have el := row_of hl
    have em := row_of hm
    rw [← hh.2] at em
    rw [h0, el, em]
    exact ⟨_, dot_row _ hh.1 _ _ k (by omega), rdot_row _ hh.1 _ _ k (by omega)⟩
  · refine ⟨0, ?_, ?_⟩
    · unfold matrix_Dot.f
      rw [two_ok, Option.bind_some, if_neg h0]
    · unfold tabularyref02_Dot.f
      rw [rtwo_ok l m k (by omega), Option.bind_some, if_neg h0]

theorem same_l (X : List (List Int)) (hl : X.length ≤ 4611686018427387904) : ∀ (d k i : Nat), d + i = X.length → d < k → tabularyref02_Same.l0 k X X (i : Int) = some true := by
  intro d
  induction d with
  | zero =>
    intro k i hd hk
    obtain ⟨k, rfl⟩ : ∃ m, k = m + 1 := ⟨k - 1, by omega⟩
    simp only [tabularyref02_Same.l0]
    rw [if_neg (by omega)]
  | succ d ih =>
    intro k i hd hk
    obtain ⟨k, rfl⟩ : ∃ m, k = m + 1 := ⟨k - 1, by omega⟩
    simp only [tabularyref02_Same.l0]
    rw [if_pos (by omega), if_pos (by omega), if_pos (by omega), if_pos trivial, w64 (a := (i : Int) + 1) (by omega), show (i : Int) + 1 = ((i + 1 : Nat) : Int) by omega]
    exact ih k (i + 1) (by omega) (by omega)
theorem same_self (X : List (List Int)) (hl : X.length ≤ 4611686018427387904) (k : Nat) (hk : X.length < k) : tabularyref02_Same.f k X X = some true := by
  unfold tabularyref02_Same.f
  rw [if_pos rfl]
  exact same_l X hl X.length k 0 (by omega) hk
theorem wakes_ten : tabularylaw02_wakes.f 10 = some true := by decide +kernel
theorem wakes_ok (k : Nat) (hk : 10 ≤ k) : tabularylaw02_wakes.f k = some true := by
  induction k with
  | zero => omega
  | succ k ih =>
    by_cases h : 10 ≤ k
    · exact tabularylaw02_wakes.mono k _ (ih h)
    · have : k = 9 := by omega
      subst this
      exact wakes_ten

end Go.Proofs.Ytjkmaobfpgfdnaa.RowsPure
end

/- The law's own spoilt: it writes over rows of its own; what lies elsewhere stays. -/
section
namespace Go.Proofs.Ytjkmaobfpgfdnaa.MSpoilt
open Go.Proofs.Ytjkmaobfpgfdnaa Go.RowKit Go.Proofs.YtjkmaobfpgfdnaaW.PrintWords Go.Proofs.YtjkmaobfpgfdnaaW.PrintLast Go.Proofs.YtjkmaobfpgfdnaaW.PrintMore Go.Proofs.Ytjkmaobfpgfdnaa.Byt Go.Proofs.Ytjkmaobfpgfdnaa.Lin Go.Proofs.Ytjkmaobfpgfdnaa.Lin.G Go.Proofs.Ytjkmaobfpgfdnaa.Tab Go.Proofs.Ytjkmaobfpgfdnaa.MBad
set_option linter.unusedVariables false
set_option linter.unusedSimpArgs false
/-- n rows, each of bytes in blocks from lo on and below hi, the heads in block gh, which is none of these. -/
def SPC (w : World) (gh n lo hi : Nat) (A : Nat → Option Addr) (l c : Nat → Nat) : Prop :=
  (∀ j, j < n → w.cell? ⟨gh, j, none⟩ = some (.slice (A j) (l j) (c j))) ∧
  (∀ j, j < n → l j ≤ 9223372036854775807 ∧ ∀ i, i < l j → ∃ ad, A j = some ad ∧ ad.block ≠ gh ∧ lo ≤ ad.block ∧ ad.block < hi ∧ (∃ x, w.cell? (ad.add i) = some (.int .u8 x)) ∧ w.frozen? (ad.add i) = false)
/-- Only blocks from lo on and below hi may have changed. -/
structure Btw (lo hi : Nat) (w w' : World) : Prop where
  os : w'.os = w.os
  tape : w'.tape = w.tape
  output : w'.output = w.output
  size : w.heap.size ≤ w'.heap.size
  block : ∀ k, k < w.heap.size → (k < lo ∨ hi ≤ k) → w'.heap[k]? = w.heap[k]?
theorem Btw.refl (lo hi : Nat) (w : World) : Btw lo hi w w := ⟨rfl, rfl, rfl, Nat.le_refl _, fun _ _ _ => rfl⟩
theorem Btw.drew {lo hi : Nat} {w w' : World} (h : Btw lo hi w w') : Btw lo hi w w'.drew := ⟨h.os, h.tape, h.output, h.size, h.block⟩
theorem Btw.setCell {lo hi : Nat} {w w' : World} (h : Btw lo hi w w') {a : Addr} (h1 : lo ≤ a.block) (h2 : a.block < hi) (v : Value) : Btw lo hi w (w'.setCell a v) :=
  ⟨h.os, h.tape, h.output, by simpa using h.size, fun k hk hr => (Below.heap_setCell w' a v k (by omega)).trans (h.block k hk hr)⟩
theorem Btw.below {lo hi B : Nat} {w w' : World} (h : Btw lo hi w w') (hB : B ≤ lo) (hs : B ≤ w.heap.size) : Below B w w' := ⟨h.os, h.tape, h.output, h.size, fun k hk => h.block k (by omega) (.inl (by omega))⟩
theorem SPC.drew {w : World} {gh n lo hi : Nat} {A : Nat → Option Addr} {l c : Nat → Nat} (h : SPC w gh n lo hi A l c) : SPC w.drew gh n lo hi A l c := h
theorem SPC.set {w : World} {gh n lo hi : Nat} {A : Nat → Option Addr} {l c : Nat → Nat} (h : SPC w gh n lo hi A l c) {a : Addr} (ha : a.block ≠ gh) (y : Int) : SPC (w.setCell a (.int .u8 y)) gh n lo hi A l c := by
  refine ⟨fun j hj => ?_, fun j hj => ⟨(h.2 j hj).1, fun i hi => ?_⟩⟩
  · rw [World.cell?_of_block (w := w) (Below.heap_setCell w a _ gh (fun e => ha e.symm))]
    exact h.1 j hj
  · obtain ⟨ad, e, h1, h2, h3, h4, h5⟩ := (h.2 j hj).2 i hi
    exact ⟨ad, e, h1, h2, h3, someInt_setCell h4 a y, by rw [World.frozen?_setCell]; exact h5⟩
def kOf : Value → Int
  | .int _ x => x
  | _ => 0
set_option maxRecDepth 100000 in
set_option maxHeartbeats 16000000 in
theorem spoilt_any (gh n cap lo hi : Nat) (A : Nat → Option Addr) (l c : Nat → Nat) (W : World) (hn : n ≤ 4611686018427387904) (H : SPC W gh n lo hi A l c) :
    Calls Try.prog 16 #[.slice (some ⟨gh, 0, none⟩) n cap] W fun e w' => e = .returned (.tuple #[]) ∧ Btw lo hi W w' := by
  have HS0 := Lib.hid H
  clear H
  go_enter Try.func16, Try.ntmps16
  go_wp2
  go_loopw [2] (fun v2 wr => ∃ j : Nat, j ≤ n ∧ v2 = .int .i64 j ∧ SPC wr gh n lo hi A l c ∧ Btw lo hi W wr) (fun v2 _ => n - (kOf v2).toNat)
  case atStart => exact ⟨0, by omega, rfl, HS0.out, Btw.refl _ _ _⟩
  case round =>
    obtain ⟨j, hj, rfl, hs, hb⟩ := hrel
    have HSj := Lib.hid hs
    have HBj := Lib.hid hb
    clear hs hb
    by_cases hlt : j < n
    · have hlj := (HSj.out.2 j hlt).1
      go_wp2
      obtain ⟨wi, rfl⟩ : ∃ wi : World, wi = wr := ⟨_, rfl⟩
      go_loopw [3] (fun v3 wq => ∃ i : Nat, i ≤ l j ∧ v3 = .int .i64 i ∧ SPC wq gh n lo hi A l c ∧ Btw lo hi W wq) (fun v3 _ => l j - (kOf v3).toNat)
      case atStart => exact ⟨0, by omega, rfl, HSj.out, HBj.out⟩
      case round =>
        obtain ⟨i, hi2, rfl, hs, hb⟩ := hrel
        have HSi := Lib.hid hs
        have HBi := Lib.hid hb
        clear hs hb
        have hx := HSi.out.1 j hlt
        by_cases hlti : i < l j
        · obtain ⟨ad, eA, h1, h2, h3, ⟨x, hx2⟩, hf⟩ := (HSi.out.2 j hlt).2 i hlti
          rw [eA] at hx
          go_wp2
          go_still_tail 14, (by kernel_rfl)
          change wpList _ _ _ _ _ wr.drew
          go_wp2
          go_roundw
          case rel => exact ⟨i + 1, by omega, by go_num, (HSi.out.set (by rw [Byt.add_block]; exact h1) _).drew, (HBi.out.setCell (by rw [Byt.add_block]; exact h2) (by rw [Byt.add_block]; exact h3) _).drew⟩
          case measure => simp [kOf]; omega
        · obtain rfl : i = l j := by omega
          go_wp2
          go_roundw
          case rel => exact ⟨j + 1, by omega, by go_num, HSi.out, HBi.out⟩
          case measure => simp [kOf]; omega
    · go_wp2
      go_end0
      exact ⟨rfl, HBj.out⟩
set_option maxRecDepth 100000 in
set_option maxHeartbeats 16000000 in
theorem spoilt_nil (A : Option Addr) (c : Nat) (W : World) : Calls Try.prog 16 #[.slice A 0 c] W fun e w' => e = .returned (.tuple #[]) ∧ w' = W := by
  go_enter Try.func16, Try.ntmps16
  go_wp2
  go_loopw [2] (fun v2 wr => v2 = .int .i64 0 ∧ wr = W) (fun v2 _ => 0)
  case atStart => exact ⟨rfl, rfl⟩
  case round =>
    obtain ⟨rfl, rfl⟩ := hrel
    go_wp2
    go_end0
    exact ⟨rfl, rfl⟩
theorem spc_of {W : World} {base gh cap hi : Nat} {ok : Nat → Prop} {X : List (List Int)} (hok : ∀ k, ok k → k < hi) (h : KM.R 38 W base ok (.slice (some ⟨gh, 0, none⟩) X.length cap) X) : ∃ A c, SPC W gh X.length base hi A (fun j => (rw_ X j).length) c := by
  have he : ∀ j, j < X.length → ∃ p : Option Addr × Nat, W.cell? ⟨gh, j, none⟩ = some (.slice p.1 (rw_ X j).length p.2) ∧ (rw_ X j).length ≤ 9223372036854775807 ∧ ∀ i, i < (rw_ X j).length → ∃ ad, p.1 = some ad ∧ ad.block ≠ gh ∧ base ≤ ad.block ∧ ad.block < hi ∧ (∃ x, W.cell? (ad.add i) = some (.int .u8 x)) ∧ W.frozen? (ad.add i) = false := fun j hj => by
    obtain ⟨c, _, hM, hc, _⟩ := Kd.R_elem h ([] : List Int) (j : Int) (by omega) (by omega)
    obtain ⟨v, rfl, hr⟩ := hM
    have hr : Kd.R (Kd.int .u8) 5 W base (fun k => ok k ∧ k ≠ gh) v (rw_ X j) := hr
    have hx := hc 0 v rfl
    rw [show (j : Int).toNat * KM.sz + 0 = j by show (j : Int).toNat * 1 + 0 = j; omega] at hx
    obtain ⟨A', c', rfl⟩ := Kd.R_slice hr
    refine ⟨(A', c'), hx, (Kd.R_reads' hr).2.2.2.1, fun i hi => ?_⟩
    obtain ⟨g', cap', e', hb, hl, _⟩ := Kd.R_form hr (by omega)
    cases e'
    have hne := (hr.1 g' rfl).2
    obtain ⟨h1, h2⟩ := Kd.R_celln (0 : Int) hr (i : Int) (by omega) (by omega)
    rw [Int.toNat_natCast] at h1 h2
    refine ⟨_, rfl, hne, hb, hok _ (hr.1 g' rfl).1, ?_, ?_⟩
    · rw [add_plain]; exact ⟨_, h1⟩
    · rw [add_plain]; exact h2
  obtain ⟨f, hf⟩ := Go.Deep.choose_lt he
  exact ⟨fun j => (f j).1, fun j => (f j).2, fun j hj => (hf j hj).1, fun j hj => (hf j hj).2⟩
theorem spoilt_R {W : World} {base hi : Nat} {ok : Nat → Prop} {v : Value} {X : List (List Int)} (hok : ∀ k, ok k → k < hi) (h : KM.R 38 W base ok v X) (hl : X.length ≤ 4611686018427387904) :
    Calls Try.prog 16 #[v] W fun e w' => e = .returned (.tuple #[]) ∧ Btw base hi W w' := by
  by_cases h0 : 0 < X.length
  · obtain ⟨gh, cap, rfl, _, _, _⟩ := Kd.R_form h h0
    obtain ⟨A, c, hs⟩ := spc_of hok h
    exact spoilt_any gh X.length cap base hi A _ c W hl hs
  · obtain ⟨A, c, rfl⟩ := Kd.R_slice h
    rw [show X.length = 0 by omega]
    exact (spoilt_nil A c W).mono fun e w' hh => ⟨hh.1, by rw [hh.2]; exact Btw.refl _ _ _⟩
/-- Rows of one's own, all they lead to lying from lo on and below hi. -/
def OM (w : World) (lo hi : Nat) (v : Value) (X : List (List Int)) : Prop := KM.R 38 w lo (fun k => lo ≤ k ∧ k < hi) v X
theorem om_of {w : World} {lo : Nat} {ok : Nat → Prop} {v : Value} {X : List (List Int)} (h : Kd.S KM 38 w lo ok v X) : OM w lo w.heap.size v X := Kd.R_mono (Kd.S_R (Kd.S_bound h)) fun k hk => ⟨hk.2.1, hk.2.2.1⟩
theorem OM.below {w w' : World} {lo hi : Nat} {v : Value} {X : List (List Int)} (h : OM w lo hi v X) (hb : Below w.heap.size w w') : OM w' lo hi v X := Kd.R_below h hb
theorem OM.btw {w w' : World} {lo hi lo2 hi2 : Nat} {v : Value} {X : List (List Int)} (h : OM w lo hi v X) (hb : Btw lo2 hi2 w w') (ha : hi ≤ lo2 ∨ hi2 ≤ lo) : OM w' lo hi v X := Kd.R_step h (fun k hk hlt => hb.block k hlt (by omega))
theorem OM.reads {w : World} {lo hi : Nat} {A : Option Addr} {n c : Nat} {X : List (List Int)} (h : OM w lo hi (.slice A n c) X) : n = X.length ∧ n ≤ c ∧ KM.C w A X.length X := Kd.R_reads' h
theorem v_btw {w w' : World} {lo lo2 hi2 B : Nat} {v : Value} {X : List (List Int)} (h : Kd.V KM 38 w B (fun k => lo ≤ k) v X) (hb : Btw lo2 hi2 w w') (ha : hi2 ≤ lo) : Kd.V KM 38 w' B (fun k => lo ≤ k) v X := Kd.V_step h (fun k hk hlt => hb.block k hlt (.inr (Nat.le_trans ha hk)))
theorem spoilt_om {W : World} {lo hi : Nat} {v : Value} {X : List (List Int)} (h : OM W lo hi v X) (hl : X.length ≤ 4611686018427387904) : Calls Try.prog 16 #[v] W fun e w' => e = .returned (.tuple #[]) ∧ Btw lo hi W w' := spoilt_R (fun k hk => hk.2) h hl
end Go.Proofs.Ytjkmaobfpgfdnaa.MSpoilt
end

/- MatrixRows walked. -/
section
namespace Go.Proofs.Ytjkmaobfpgfdnaa.WalkMatrixRows
open Go.Proofs.Ytjkmaobfpgfdnaa Go.RowKit Go.Proofs.YtjkmaobfpgfdnaaW.PrintWords Go.Proofs.YtjkmaobfpgfdnaaW.PrintLast Go.Proofs.YtjkmaobfpgfdnaaW.PrintMore Go.Proofs.Ytjkmaobfpgfdnaa.Byt Go.Proofs.Ytjkmaobfpgfdnaa.Lin Go.Proofs.Ytjkmaobfpgfdnaa.Lin.G Go.Proofs.Ytjkmaobfpgfdnaa.Tab Go.Proofs.Ytjkmaobfpgfdnaa.MBad Go.Proofs.Ytjkmaobfpgfdnaa.MSpoilt Go.Proofs.Ytjkmaobfpgfdnaa.RowsPure
set_option linter.unusedVariables false
set_option linter.unusedSimpArgs false
theorem rc_btw {lo hi : Nat} {w w' : World} {A : Option Addr} {l : List Int} (h : RC w A l) (hb : Btw lo hi w w') (ha : ∀ a, A = some a → hi ≤ a.block) : RC w' A l := by
  intro hl
  obtain ⟨a, rfl, hs, hc⟩ := h hl
  refine ⟨a, rfl, Nat.lt_of_lt_of_le hs hb.size, fun j hj => ?_⟩
  rw [World.cell?_of_block (w := w) (by rw [Byt.add_block]; exact hb.block _ hs (.inr (ha a rfl)))]
  exact hc j hj
theorem str_at {A : Option Addr} {n c : Nat} {l : List Int} {w : World} (h : RC w A l) (e : n = l.length) (hm : l.length ≤ 1000000) : (convert 38 9 (.slice A n c)).run Try.prog w = .ok (.string (strOfNums l)) w := by
  subst e
  exact Kd.C_string (P := Try.prog) (c := c) Try.underlying38 Try.underlying5 Try.underlying9 (h.to_C (by omega))
/-- What of a row of one's own is asked by the one that writes over it. -/
theorem own_cells {w : World} {base n c : Nat} {A : Option Addr} {l : List Int} (h : OWN w base (.slice A n c) l) : n = l.length ∧ ∀ i, i < n → ∃ ad, A = some ad ∧ (∃ x, w.cell? (ad.add i) = some (.int .u8 x)) ∧ w.frozen? (ad.add i) = false ∧ ad.block < w.heap.size := by
  have hr := Kd.R_reads' h
  refine ⟨hr.1, fun i hi => ?_⟩
  obtain ⟨g, cap, e, hb, hl, _⟩ := Kd.R_form h (by have := hr.1; omega)
  cases e
  obtain ⟨h1, h2⟩ := Kd.R_celln (0 : Int) h (i : Int) (by omega) (by omega)
  rw [Int.toNat_natCast] at h1 h2
  exact ⟨_, rfl, by rw [add_plain]; exact ⟨_, h1⟩, by rw [add_plain]; exact h2, hl⟩
theorem own_C {w : World} {base c : Nat} {A : Option Addr} {l : List Int} (h : OWN w base (.slice A l.length c) l) : Kd.C (Kd.int .u8) w A l.length l := (Kd.R_reads' h).2.2
def two {α : Type} (x y : α) (j : Nat) : α := if j = 0 then x else y
theorem spc_two {w : World} {b1 b2 n1 n2 c1 c2 lo hi : Nat} {A1 A2 : Option Addr} {l1 l2 : List Int} (h1 : OWN w b1 (.slice A1 n1 c1) l1) (h2 : OWN w b2 (.slice A2 n2 c2) l2) (k1 : ∀ a, A1 = some a → lo ≤ a.block ∧ a.block < hi) (k2 : ∀ a, A2 = some a → lo ≤ a.block ∧ a.block < hi) (m1 : n1 ≤ 1000000) (m2 : n2 ≤ 1000000) :
    SPC (w.alloc (.cells #[.slice A1 n1 c1, .slice A2 n2 c2] 38)) w.heap.size 2 lo hi (two A1 A2) (two n1 n2) (two c1 c2) := by
  have hnew := blk_new w (.cells #[.slice A1 n1 c1, .slice A2 n2 c2] 38)
  have hb := (Below.refl w.heap.size w).alloc (Nat.le_refl _) (.cells #[.slice A1 n1 c1, .slice A2 n2 c2] 38)
  obtain ⟨e1, r1⟩ := own_cells (h1.below hb)
  obtain ⟨e2, r2⟩ := own_cells (h2.below hb)
  obtain ⟨_, s1⟩ := own_cells h1
  obtain ⟨_, s2⟩ := own_cells h2
  refine ⟨fun j hj => ?_, fun j hj => ?_⟩
  · have hj2 : j = 0 ∨ j = 1 := by omega
    rcases hj2 with rfl | rfl <;> exact blk_cell hnew _
  · have hj2 : j = 0 ∨ j = 1 := by omega
    rcases hj2 with rfl | rfl
    · refine ⟨by show n1 ≤ _; omega, fun i hi => ?_⟩
      obtain ⟨ad, e, x, f, _⟩ := r1 i hi
      obtain ⟨ad', e', _, _, hl⟩ := s1 i hi
      rw [e] at e'
      cases e'
      have := k1 ad e
      exact ⟨ad, e, by omega, this.1, this.2, x, f⟩
    · refine ⟨by show n2 ≤ _; omega, fun i hi => ?_⟩
      obtain ⟨ad, e, x, f, _⟩ := r2 i hi
      obtain ⟨ad', e', _, _, hl⟩ := s2 i hi
      rw [e] at e'
      cases e'
      have := k2 ad e
      exact ⟨ad, e, by omega, this.1, this.2, x, f⟩
set_option maxRecDepth 100000 in
set_option maxHeartbeats 16000000 in
theorem walk (A0 A1 : Option Addr) (c0 c1 a b : Nat) (X Y : List Int) (c : G) (W : World) (ha : a = X.length) (hb : b = Y.length) (hX : RC W A0 X) (hc0 : a ≤ c0) (hY : RC W A1 Y) (hc1 : b ≤ c1) (mX : Bytes X) (mY : Bytes Y) (la : a ≤ 4611686018427387904) (lb : b ≤ 4611686018427387904) :
    Calls Try.prog 8 #[.slice A0 a c0, .slice A1 b c1, U c] W fun e w' => e = .returned (.bool true) ∧ Below W.heap.size W w' := by
  obtain ⟨K, hK⟩ : ∃ K, K = 200000 := ⟨_, rfl⟩
  have HX := Lib.hid hX
  have HY := Lib.hid hY
  have HWK := Lib.hid (wakes_ok K (by omega))
  have HLX := Lib.hid ha
  have HLY := Lib.hid hb
  obtain ⟨R, hR, hp, hrp⟩ := plus_all X Y mX mY c K (by omega)
  obtain ⟨s, hd, hrd⟩ := dot_all X Y mX mY K (by omega)
  obtain ⟨E, hE⟩ : ∃ E, E = twoE X Y := ⟨_, rfl⟩
  rw [← hE] at hp hrp hd hrd
  have HP := Lib.hid hp
  have HRP := Lib.hid hrp
  have HD := Lib.hid hd
  have HRD := Lib.hid hrd
  clear hX hY hp hrp hd hrd hE hK ha hb mX mY
  by_cases h1 : (262144 : Int) < a
  · go_enter Try.func8, Try.ntmps8
    go_wp2_with fail
    with_reducible refine (PMatrixRows.tabularylaw02_wakes.calls K true _ HWK.out).mono ?_
    rintro e w2 ⟨rfl, hb2⟩
    have HB2 := Lib.hid hb2
    clear hb2
    go_wp2
    go_ret
    exact ⟨rfl, HB2.out⟩
  · by_cases h2 : (262144 : Int) < b
    · go_enter Try.func8, Try.ntmps8
      go_wp2_with fail
      with_reducible refine (PMatrixRows.tabularylaw02_wakes.calls K true _ HWK.out).mono ?_
      rintro e w2 ⟨rfl, hb2⟩
      have HB2 := Lib.hid hb2
      clear hb2
      go_wp2
      go_ret
      exact ⟨rfl, HB2.out⟩
    · have hla : a ≤ 262144 := by omega
      have hlb : b ≤ 262144 := by omega
      go_enter Try.func8, Try.ntmps8
      go_wp2_with (first
        | ((with_reducible refine gate_dst (N := 26) rfl ?_); refine own_lit (w0 := W) W.heap.size rfl (N := 26) rfl [] ?hrun (Below.refl _ _) (Nat.le_refl _) (by decide) ?_; (case hrun => first | (go_simp; done) | (go_simp; rfl)); intro v2 w2 ho2 hb2 hg2; have HO2 := Lib.hid ho2; have HB2 := Lib.hid hb2; clear ho2 hb2 hg2)
        | ((with_reducible refine gate_builtin (b := .append) (xs := #[.tmp 26, .tmp 27]) rfl ?_); refine own_append (w0 := W) rfl (.tmp 26) (.tmp 27) rfl W.heap.size v2 [] X A0 c0 rfl (by rw [← HLX.out]; rfl) HO2.out (HX.out.below HB2.out) HB2.out HB2.out.size (by have := HLX.out; simp; omega) ?_; intro v3 w3 ho3 hb3 hg3; obtain ⟨A3, c3, rfl, hc3, hr3, hx3⟩ := (show OWN w3 W.heap.size v3 X from ho3).form; have HO3 := Lib.hid (show OWN w3 W.heap.size (.slice A3 X.length c3) X from ho3); have HX3 := Lib.hid hx3; have HB3 := Lib.hid hb3; clear ho3 hb3 hg3 hr3)
        | ((with_reducible refine gate_dst (N := 29) rfl ?_); refine own_lit (w0 := w3) w3.heap.size rfl (N := 29) rfl [] ?hrun (Below.refl _ _) (Nat.le_refl _) (by decide) ?_; (case hrun => first | (go_simp; done) | (go_simp; rfl)); intro v4 w4 ho4 hb4 hg4; have HO4 := Lib.hid ho4; have HB4 := Lib.hid hb4; clear ho4 hb4 hg4)
        | ((with_reducible refine gate_builtin (b := .append) (xs := #[.tmp 29, .tmp 30]) rfl ?_); refine own_append (w0 := w3) rfl (.tmp 29) (.tmp 30) rfl w3.heap.size v4 [] Y A1 c1 rfl (by rw [← HLY.out]; rfl) HO4.out ((HY.out.below HB3.out).below HB4.out) HB4.out HB4.out.size (by have := HLY.out; simp; omega) ?_; intro v5 w5 ho5 hb5 hg5; obtain ⟨A5, c5, rfl, hc5, hr5, hx5⟩ := (show OWN w5 w3.heap.size v5 Y from ho5).form; have HO5 := Lib.hid (show OWN w5 w3.heap.size (.slice A5 Y.length c5) Y from ho5); have HX5 := Lib.hid hx5; have HB5 := Lib.hid hb5; clear ho5 hb5 hg5 hr5))
      have HM5 := Lib.hid (HO3.out.below HB5.out)
      have HB5W := Lib.hid (HB3.out.trans (HB5.out.mono HB3.out.size))
      have HZ3 := Lib.hid (show ∀ a, A3 = some a → W.heap.size ≤ a.block ∧ a.block < w5.heap.size from fun a e => ⟨(HX3.out a e).1, Nat.lt_of_lt_of_le (HX3.out a e).2 HB5.out.size⟩)
      have HZ5 := Lib.hid (show ∀ a, A5 = some a → W.heap.size ≤ a.block ∧ a.block < w5.heap.size from fun a e => ⟨Nat.le_trans HB3.out.size (HX5.out a e).1, (HX5.out a e).2⟩)
      clear HO2 HB2 HO4 HB4 HO3 HX3 HX5
      with_reducible refine (PMatrixRows.matrix_Plus.calls K A3 c3 X A5 c5 Y (c.v : Int) R E _ (own_C HM5.out) hc3 (own_C HO5.out) hc5 HP.out).mono ?_
      rintro e w6 ⟨v6, rfl, ho6, hb6⟩
      obtain ⟨A6, c6, rfl, hc6, hr6, hx6⟩ := (show OWN w6 w5.heap.size v6 R from ho6).form
      have HR6 := Lib.hid hr6
      have HX6 := Lib.hid (show ∀ a, A6 = some a → w5.heap.size ≤ a.block from fun a e => (hx6 a e).1)
      have HM6 := Lib.hid (HM5.out.below hb6)
      have HN6 := Lib.hid (HO5.out.below hb6)
      have HB6 := Lib.hid (HB5W.out.trans (hb6.mono HB5W.out.size))
      have HS6 := Lib.hid hb6.size
      clear ho6 hb6 hr6 hx6 HM5 HO5
      go_wp2_with fail
      with_reducible refine (PMatrixRows.matrix_Dot.calls K A3 c3 X A5 c5 Y s E _ (own_C HM6.out) hc3 (own_C HN6.out) hc5 HD.out).mono ?_
      rintro e w7 ⟨rfl, hb7⟩
      have HR7 := Lib.hid (HR6.out.below hb7)
      have HM7 := Lib.hid (HM6.out.below hb7)
      have HN7 := Lib.hid (HN6.out.below hb7)
      have HB7 := Lib.hid (HB6.out.trans (hb7.mono HB6.out.size))
      have HS7 := Lib.hid (Nat.le_trans HS6.out hb7.size)
      clear hb7 HR6 HM6 HN6
      have v1 := str_at (c := c3) (RC.of_C (own_C HM7.out)) rfl (by have := HLX.out; omega)
      have v2 := str_at (c := c5) (RC.of_C (own_C HN7.out)) rfl (by have := HLY.out; omega)
      have v3 := str_at (c := c0) (HX.out.below HB7.out) HLX.out (by have := HLX.out; omega)
      have v4 := str_at (c := c1) (HY.out.below HB7.out) HLY.out (by have := HLY.out; omega)
      have hsx : ((strOfNums X).toList != (strOfNums X).toList) = false := by simp
      have hsy : ((strOfNums Y).toList != (strOfNums Y).toList) = false := by simp
      go_wp2_with fail
      with_reducible refine (spoilt_any w7.heap.size 2 2 W.heap.size w5.heap.size (two A3 A5) (two X.length Y.length) (two c3 c5) _ (by decide) (spc_two HM7.out HN7.out HZ3.out HZ5.out (by have := HLX.out; omega) (by have := HLY.out; omega))).mono ?_
      rintro e w8 ⟨rfl, hb8⟩
      have hal := (Below.refl w7.heap.size w7).alloc (Nat.le_refl _) (.cells #[.slice A3 X.length c3, .slice A5 Y.length c5] 38)
      have HR8 := Lib.hid (rc_btw (HR7.out.below hal) hb8 HX6.out)
      have HB8 := Lib.hid ((HB7.out.trans (hal.mono HB7.out.size)).trans (hb8.below (Nat.le_refl _) (HB7.out.trans (hal.mono HB7.out.size)).size))
      clear hb8 hal HR7 HM7 HN7 v1 v2 v3 v4
      obtain rfl := HLX.out
      obtain rfl := HLY.out
      go_wp2_with fail
      with_reducible refine (PMatrixRows.tabularyref02_Plus.calls K A0 c0 X A1 c1 Y (c.v : Int) R E _ ((HX.out.below HB8.out).to_C (by omega)) hc0 ((HY.out.below HB8.out).to_C (by omega)) hc1 HRP.out).mono ?_
      rintro e w9 ⟨v9, rfl, ho9, hb9⟩
      obtain ⟨A9, c9, rfl, hc9, hr9, _⟩ := (show OWN w9 w8.heap.size v9 R from ho9).form
      have HQ9 := Lib.hid hr9
      have HR9 := Lib.hid (HR8.out.below hb9)
      have HB9 := Lib.hid (HB8.out.trans (hb9.mono HB8.out.size))
      clear ho9 hb9 hr9 HR8
      go_wp2_with fail
      with_reducible refine (PMatrixRows.tabularyref02_Dot.calls K A0 c0 X A1 c1 Y s E _ ((HX.out.below HB9.out).to_C (by omega)) hc0 ((HY.out.below HB9.out).to_C (by omega)) hc1 HRD.out).mono ?_
      rintro e wA ⟨rfl, hdA⟩
      have u1 := str_at (c := c6) (HR9.out.below hdA.below) rfl (by omega)
      have u2 := str_at (c := c9) (HQ9.out.below hdA.below) rfl (by omega)
      have HBA := Lib.hid (HB9.out.trans (hdA.below.mono HB9.out.size))
      have hsr : ((strOfNums R).toList == (strOfNums R).toList) = true := by simp
      clear hdA
      go_wp2_with fail
      with_reducible refine (PMatrixRows.tabularylaw02_wakes.calls K true _ HWK.out).mono ?_
      rintro e wB ⟨rfl, hbB⟩
      have HBB := Lib.hid (HBA.out.trans (hbB.mono HBA.out.size))
      clear hbB
      go_wp2
      go_ret
      exact ⟨rfl, HBB.out⟩
theorem walk2 (A0 A1 : Option Addr) (c0 c1 : Nat) (X Y : List Int) (z : Int) (W : World) (hX : Kd.C (Kd.int .u8) W A0 X.length X) (hc0 : X.length ≤ c0) (hY : Kd.C (Kd.int .u8) W A1 Y.length Y) (hc1 : Y.length ≤ c1) (mX : ∀ m ∈ X, (Lit.int .u8 m).wf = true) (mY : ∀ m ∈ Y, (Lit.int .u8 m).wf = true) (la : X.length ≤ 4611686018427387904) (lb : Y.length ≤ 4611686018427387904) (hz : (Lit.int .u8 z).wf = true) :
    Calls Try.prog 8 #[.slice A0 X.length c0, .slice A1 Y.length c1, .int .u8 z] W fun e w' => e = .returned (.bool true) ∧ Below W.heap.size W w' := by
  have h := walk A0 A1 c0 c1 X.length Y.length X Y (gv z) W rfl rfl (RC.of_C hX) hc0 (RC.of_C hY) hc1 (bytes_of_mem fun x hx => GfPure.wf8 (mX x hx)) (bytes_of_mem fun x hx => GfPure.wf8 (mY x hx)) la lb
  have e : U (gv z) = .int .u8 z := by
    show Value.int .u8 _ = _
    rw [gv_v (GfPure.wf8 hz)]
  rw [e] at h
  exact h
end Go.Proofs.Ytjkmaobfpgfdnaa.WalkMatrixRows
end

/- What came in, laid open, with how much it is: whole numbers, bools, texts, rows, arrays, in whatever nesting. -/
section
namespace Go.Proofs.Ytjkmaobfpgfdnaa.Opn
open Go Go.RowKit Go.Proofs.YtjkmaobfpgfdnaaW.PrintWords Go.Proofs.YtjkmaobfpgfdnaaW.PrintLast Go.Proofs.YtjkmaobfpgfdnaaW.PrintMore
set_option linter.unusedVariables false

/-- Each reading at the type t that is no more than there may be gives a value of which K and W hold. -/
def Opn (P : Program) {α : Type} (K : World → α → List Value → Prop) (t : TypeId) (W : α → Prop) : Prop :=
  ∀ (H : Type) (enc : TypeId × Value → H) (w : World) (sp : Nat → Bool) (held : Bool) (fuel : Nat) (cs : List Value) (x : DataW H × List MemPlace),
    DataW.trod enc P w 0 sp held fuel t cs = some x → (x.1.weights P t).all (· ≤ reachBytes) = true → ∃ a, K w a cs ∧ W a

theorem Opn.weak {P : Program} {α : Type} {K : World → α → List Value → Prop} {t : TypeId} {W W' : α → Prop} (h : Opn P K t W) (hw : ∀ a, W a → W' a) : Opn P K t W' := fun H enc w sp held fuel cs x h1 h2 => by
  obtain ⟨a, ha, hb⟩ := h H enc w sp held fuel cs x h1 h2
  exact ⟨a, ha, hw a hb⟩
theorem of_int {P : Program} {t : TypeId} {k : IntKind} (ht : P.underlying t = some (.int k)) : Opn P (Kd.int k).K t (fun n => (Lit.int k n).wf = true) := by
  intro H enc w sp held fuel cs x h _
  obtain ⟨n, rfl, _, hw⟩ := DataW.trod_int ht h
  exact ⟨n, rfl, hw⟩
theorem of_bool {P : Program} {t : TypeId} (ht : P.underlying t = some .bool) : Opn P Kd.bool.K t (fun _ => True) := by
  intro H enc w sp held fuel cs x h _
  cases fuel with
  | zero => simp [DataW.trod] at h
  | succ n =>
    unfold DataW.trod at h
    rw [ht] at h
    split at h <;> first | (exact ⟨_, rfl, trivial⟩) | simp_all
theorem of_string {P : Program} {t : TypeId} (ht : P.underlying t = some .string) : Opn P Kd.string.K t (fun s => s.size ≤ 140737488351232) := by
  intro H enc w sp held fuel cs x h hw
  obtain ⟨s, rfl, rfl, _⟩ := DataW.trod_string ht h
  refine ⟨s, rfl, ?_⟩
  simp only [DataW.weights, List.all_cons, List.all_nil, Bool.and_true, decide_eq_true_eq] at hw
  simpa [reachBytes] using hw

theorem cells_at {w : World} {a : Addr} {n : Nat} {cs : List Value} (h : w.cells? 0 a n = some cs) : cs.length = n ∧ ∀ i u, cs[i]? = some u → w.cell? (a.add i) = some u := by
  obtain ⟨_, hl, hc⟩ := World.cells?_some h
  refine ⟨hl, fun i u hu => ?_⟩
  have hi : i < n := by rw [← hl]; exact (List.getElem?_eq_some_iff.1 hu).1
  rw [hc i hi, hu]
/-- One value for each place. -/
theorem choose_row {α : Type} {p : Nat → α → Prop} (n : Nat) (h : ∀ i, i < n → ∃ x, p i x) : ∃ xs : List α, xs.length = n ∧ ∀ i x, xs[i]? = some x → p i x := by
  induction n with
  | zero => exact ⟨[], rfl, fun i x hx => by simp at hx⟩
  | succ n ih =>
    obtain ⟨xs, hl, hp⟩ := ih (fun i hi => h i (by omega))
    obtain ⟨x, hx⟩ := h n (by omega)
    refine ⟨xs ++ [x], by simp [hl], fun i y hy => ?_⟩
    by_cases hi : i < xs.length
    · rw [List.getElem?_append_left hi] at hy
      exact hp i y hy
    · rw [List.getElem?_append_right (by omega)] at hy
      have : i = n := by
        have := (List.getElem?_eq_some_iff.1 hy).1
        simp at this; omega
      subst this
      rw [hl, Nat.sub_self] at hy
      simp at hy
      rw [← hy]; exact hx
theorem weights_all {H : Type} {P : Program} {e : TypeId} : ∀ {ds : List (DataW H)} {d : DataW H}, d ∈ ds → ∀ n ∈ d.weights P e, n ∈ DataW.weightsAll P e ds
  | d0 :: ds, d, hd, n, hn => by
    simp only [DataW.weightsAll, List.mem_append]
    rcases List.mem_cons.1 hd with rfl | hd
    · exact .inl hn
    · exact .inr (weights_all hd n hn)

theorem of_slice {P : Program} {α : Type} {d : Kd α} {t e : TypeId} {W : α → Prop} (ht : P.underlying t = some (.slice e)) (hc : P.cellsOf e = d.sz) {B : Nat} (hB : P.bytesOf e = B) (he : Opn P d.K e W) :
    Opn P (Kd.slice e d).K t (fun l => l.length * B ≤ 140737488351232 ∧ l.length ≤ maxLen ∧ ∀ x ∈ l, W x) := by
  intro H enc w sp held fuel cs x h hw
  rcases DataW.trod_slice ht h with ⟨rfl, _⟩ | ⟨a, len, cap, elems, rest, n, _, rfl, hx, _, hlc, hcm, hlen, hel, _⟩
  · exact ⟨[], ⟨none, 0, rfl, Nat.le_refl _, rfl, Nat.zero_le _, fun h => absurd h (by simp)⟩, by simp, by simp [maxLen], fun x hx => by simp at hx⟩
  · subst hx
    have hall := List.all_eq_true.1 hw
    simp only [DataW.weights, ht] at hall
    have h0 : (elems.length + rest.length) * B ≤ 140737488351232 := by
      have := hall ((elems.length + rest.length) * P.bytesOf e) (by simp)
      rw [hB] at this
      have h2 := of_decide_eq_true this
      simpa [reachBytes] using h2
    have hx : ∀ i, i < len → ∃ y, (∃ c, c.length = d.sz ∧ d.K w y c ∧ ∀ j u, c[j]? = some u → w.cell? (a.add (i * d.sz + j)) = some u) ∧ W y := by
      intro i hi
      have hE := hel i hi
      rw [List.getElem?_eq_getElem (by omega)] at hE
      obtain ⟨c, hcc, hy⟩ := Option.bind_eq_some_iff.mp hE
      have hwt : ((elems[i]'(by omega)).1.weights P e).all (· ≤ reachBytes) = true := List.all_eq_true.2 fun n hn => hall n (by
        refine List.mem_cons_of_mem _ (List.mem_append_left _ (weights_all (d := (elems[i]'(by omega)).1) ?_ n hn))
        exact List.mem_map_of_mem (List.getElem_mem _))
      obtain ⟨y, hy, hw⟩ := he H enc w sp held n c _ hy hwt
      obtain ⟨hl, hcell⟩ := cells_at hcc
      refine ⟨y, ⟨c, by rw [hl, hc], hy, fun j u hu => ?_⟩, hw⟩
      have := hcell j u hu
      rw [Addr.add_add, hc] at this
      exact this
    obtain ⟨xs, hl, hp⟩ := choose_row len hx
    have hmx : maxLen ≤ 9223372036854775807 := by decide
    refine ⟨xs, ⟨some a, cap, by rw [hl], by omega, rfl, by omega, fun _ => ⟨a, rfl, fun j p hj => (hp j p hj).1⟩⟩, ?_, by omega, fun x hx => ?_⟩
    · have : len * B ≤ (elems.length + rest.length) * B := Nat.mul_le_mul_right _ (by omega)
      rw [hl]; omega
    · obtain ⟨i, hi, rfl⟩ := List.mem_iff_getElem.mp hx
      exact (hp i _ (List.getElem?_eq_getElem hi)).2

/-- An array's cells are one behind the other. -/
theorem of_ints_array {P : Program} {n : Nat} {t e : TypeId} {k : IntKind} (ht : P.underlying t = some (.array n e)) (he : P.underlying e = some (.int k)) (hc : P.cellsOf e = 1) (hn : P.cellsOf t = n) :
    Opn P (fun _ (l : List Int) cs => l.length = n ∧ cs = l.map (Value.int k)) t (fun l => ∀ m ∈ l, (Lit.int k m).wf = true) := by
  intro H enc w sp held fuel cs x h _
  obtain ⟨xs, m, _, _, hl, hxl, hel⟩ := DataW.trod_array ht h
  have hx : ∀ i, i < n → ∃ y, cs[i]? = some (.int k y) ∧ (Lit.int k y).wf = true := by
    intro i hi
    have hE := hel i hi
    rw [List.getElem?_eq_getElem (by omega), hc, Nat.mul_one] at hE
    obtain ⟨y, hy, _, hw⟩ := DataW.trod_int he hE
    refine ⟨y, ?_, hw⟩
    have hlt : i < cs.length := by omega
    have h0 := congrArg (fun z => z[0]?) hy
    simp only [List.getElem?_take, List.getElem?_drop, Nat.add_zero, List.getElem?_cons_zero] at h0
    simpa using h0
  obtain ⟨l, hll, hp⟩ := choose_row n hx
  refine ⟨l, ⟨hll, ?_⟩, fun m hm => ?_⟩
  · apply List.ext_getElem?
    intro i
    rw [List.getElem?_map]
    cases hi : l[i]? with
    | none =>
      have : l.length ≤ i := List.getElem?_eq_none_iff.mp hi
      rw [List.getElem?_eq_none (by omega)]; rfl
    | some y => rw [(hp i y hi).1]; rfl
  · obtain ⟨i, hi, rfl⟩ := List.mem_iff_getElem.mp hm
    exact (hp i _ (List.getElem?_eq_getElem hi)).2

/-- A state's fields, each read where it lies. -/
theorem fields {P : Program} {H : Type} {enc : TypeId × Value → H} {w : World} {sp : Nat → Bool} {held : Bool} {fuel : Nat} {t : TypeId} {fs : Array Field} {cs : List Value} {x : DataW H × List MemPlace} (ht : P.underlying t = some (.struct fs))
    (h : DataW.trod enc P w 0 sp held fuel t cs = some x) (hw : (x.1.weights P t).all (· ≤ reachBytes) = true) :
    cs.length = P.cellsOf t ∧ ∀ (i : Nat) (f : Field) {α : Type} (K : World → α → List Value → Prop) (W : α → Prop), fs[i]? = some f → Opn P K f.type W → ∃ a, K w a ((cs.drop f.offset).take (P.cellsOf f.type)) ∧ W a := by
  obtain ⟨xs, n, _, rfl, hl, hxl, hf⟩ := DataW.trod_struct ht h
  refine ⟨hl, fun i f α K W hi ho => ?_⟩
  have hif : i < fs.size := (Array.getElem?_eq_some_iff.1 hi).1
  have hq := hf i f hi
  rw [List.getElem?_eq_getElem (by omega)] at hq
  refine ho H enc w sp held n _ _ hq ?_
  have hall := List.all_eq_true.1 hw
  simp only [DataW.weights, ht] at hall
  refine List.all_eq_true.2 fun m hm => hall m ?_
  refine DataW.weights_mem_each (j := i) (t := f.type) (d := (xs[i]'(by omega)).1) ?_ ?_ m hm
  · simp [hi]
  · simp [List.getElem?_eq_getElem (show i < xs.length by omega)]
theorem split_at (cs : List Value) (o s : Nat) : (cs.drop o).take s ++ cs.drop (o + s) = cs.drop o := by
  have := List.take_append_drop s (cs.drop o)
  rwa [List.drop_drop] at this
theorem split_end (cs : List Value) (o s : Nat) (h : cs.length = o + s) : (cs.drop o).take s = cs.drop o := List.take_of_length_le (by rw [List.length_drop]; omega)
/-- A row's data, each no more than there may be. -/
theorem sized_at {H : Type} {P : Program} {ts : List TypeId} {ds : List (DataW H)} (h : (DataW.weightsEach P ts ds).all (· ≤ reachBytes) = true) (j : Nat) {t : TypeId} {d : DataW H} (ht : ts[j]? = some t) (hd : ds[j]? = some d) : (d.weights P t).all (· ≤ reachBytes) = true :=
  List.all_eq_true.2 fun n hn => List.all_eq_true.1 h n (DataW.weights_mem_each ht hd n hn)
end Go.Proofs.Ytjkmaobfpgfdnaa.Opn
end
