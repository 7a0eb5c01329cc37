/- Texts of this claim, laid together by wip/tools/squash.py: PSealx1, PSealx, RefPure, RefLay. -/
import Derived.Test.YtdmpbfhbjklajaaQB6

-- Written by wip/tools/myprint.py, a program of this session over the print tool: not a printed text of the kit's
section
namespace Go.Proofs.Ytdmpbfhbjklajaa.PSeal
open Go.RowKit Go.Proofs.YtdmpbfhbjklajaaW.PrintWords Go.Proofs.YtdmpbfhbjklajaaW.PrintLast Go.Proofs.YtdmpbfhbjklajaaW.PrintMore
attribute [local go_sem] max2_int min2_int max_two min_two max_three min_three max_four min_four   -- for this text's walks alone
set_option linter.unusedVariables false
set_option linter.unusedSimpArgs false
set_option maxRecDepth 20000

/-! ### tabularyref10_Sum: function 18 -/
def tabularyref10_Sum.l0 : Nat → List Int → Int → Int → Option (Int)
 | 0, _, _, _ => none
 | k + 1, x0, x3, x4 => if x4 < (x0.length : Int) then (if x4 ≥ 148 then (if x4 < 156 then (tabularyref10_Sum.l0 k x0 (wrap64 (x3 + 32)) (wrap64 (x4 + 1))) else (if 0 ≤ x4 then (tabularyref10_Sum.l0 k x0 (wrap64 (x3 + (wrap64 (rd x0 x4)))) (wrap64 (x4 + 1))) else (none))) else (if 0 ≤ x4 then (tabularyref10_Sum.l0 k x0 (wrap64 (x3 + (wrap64 (rd x0 x4)))) (wrap64 (x4 + 1))) else (none))) else (some x3)
def tabularyref10_Sum.f (k : Nat) (l0 : List Int) : Option (Int) := tabularyref10_Sum.l0 k l0 0 0
set_option maxHeartbeats 8000000 in
set_option maxRecDepth 100000 in
theorem tabularyref10_Sum.calls (k : Nat) (A0 : Option Addr) (c0 : Nat) (l0 : List Int) (r : Int) (w : World) (hr0 : Kd.C (Kd.int .u8) w A0 l0.length l0) (hc0 : l0.length ≤ c0) (h : tabularyref10_Sum.f k l0 = some r) :
  Calls Try.prog 18 #[.slice A0 l0.length c0] w fun e w' => e = .returned (.int .i64 r) ∧ Drawn0 w w' := by
 have HR0 := Aside0.mk hr0
 have HC0 := Aside0.mk hc0
 clear hr0 hc0
 have H : (tabularyref10_Sum.l0 k l0 0 0) = some r := h
 clear h
 have H' := Aside0.mk H
 clear H
 go_enter Try.func18, Try.ntmps18
 go_wp2
 go_loopg [3, 4] k (fun kq v3 v4 w' => ∃ (x3_1 : Int) (x4_1 : Int), v3 = .int .i64 x3_1 ∧ v4 = .int .i64 x4_1 ∧ Aside0 (tabularyref10_Sum.l0 kq l0 x3_1 x4_1 = some r) ∧ Aside0 (kq ≤ k) ∧ Drawn0 w w')
 case atStart => exact ⟨(0), (0), (by first | rfl | (simp; done) | (simp [*]; done)), (by first | rfl | (simp; done) | (simp [*]; done)), H', ⟨Nat.le_refl _⟩, by repeat (first | exact Drawn0.refl _ | apply Drawn0.step)⟩
 case round =>
  clear H'
  try clear c1
  obtain ⟨x3_1, x4_1, rfl, rfl, HA, HK1, ⟨m1, rfl⟩⟩ := hrel
  cases gk with
  | zero => exact absurd HA.out (by simp [tabularyref10_Sum.l0])
  | succ k1 =>
   have H := HA.out
   clear HA
   simp only [tabularyref10_Sum.l0] at H
   by_cases c2 : x4_1 < (l0.length : Int)
   ·rw [if_pos c2] at H
    have c2b0 : decide (x4_1 < (l0.length : Int)) = true := decide_eq_true c2
    clear c2
    by_cases c3 : x4_1 ≥ 148
    ·rw [if_pos c3] at H
     have c3b0 : decide (148 ≤ x4_1) = true := decide_eq_true c3
     clear c3
     by_cases c4 : x4_1 < 156
     ·rw [if_pos c4] at H
      have c4b0 : decide (x4_1 < 156) = true := decide_eq_true c4
      clear c4
      have H' := Aside0.mk H
      clear H
      go_wp2
      go_roundg k1
      case measure => have := HK1.out; omega
      case rel => exact ⟨(wrap64 (x3_1 + 32)), (wrap64 (x4_1 + 1)), (by first | rfl | (simp; done) | (simp [*]; done)), (by first | rfl | (simp; done) | (simp [*]; done)), H', ⟨by have := HK1.out; omega⟩, by repeat (first | exact Drawn0.refl _ | apply Drawn0.step)⟩
     ·rw [if_neg c4] at H
      have c4b0 : decide (x4_1 < 156) = false := decide_eq_false c4
      clear c4
      by_cases c5 : 0 ≤ x4_1
      ·rw [if_pos c5] at H
       have c5b0 : decide (0 ≤ x4_1) = true := decide_eq_true c5
       clear c5
       have H' := Aside0.mk H
       clear H
       have p101 : 0 ≤ (x4_1 : Int) := of_decide_eq_true (by first | (with_reducible assumption) | assumption)
       have q101 : x4_1 < (l0.length : Int) := of_decide_eq_true (by first | (with_reducible assumption) | assumption)
       obtain ⟨ad101, e101, hx101_0⟩ := Kd.at_int HR0.out x4_1 p101 q101
       cases e101
       replace p101 := eq_true p101
       replace q101 := eq_true q101
       go_wp2
       go_roundg k1
       case measure => have := HK1.out; omega
       case rel => exact ⟨(wrap64 (x3_1 + (wrap64 (rd l0 x4_1)))), (wrap64 (x4_1 + 1)), (by first | rfl | (simp; done) | (simp [*]; done)), (by first | rfl | (simp; done) | (simp [*]; done)), H', ⟨by have := HK1.out; omega⟩, by repeat (first | exact Drawn0.refl _ | apply Drawn0.step)⟩
      ·rw [if_neg c5] at H
       exact absurd H (by simp)
    ·rw [if_neg c3] at H
     have c3b0 : decide (148 ≤ x4_1) = false := decide_eq_false c3
     clear c3
     by_cases c6 : 0 ≤ x4_1
     ·rw [if_pos c6] at H
      have c6b0 : decide (0 ≤ x4_1) = true := decide_eq_true c6
      clear c6
      have H' := Aside0.mk H
      clear H
      have p102 : 0 ≤ (x4_1 : Int) := of_decide_eq_true (by first | (with_reducible assumption) | assumption)
      have q102 : x4_1 < (l0.length : Int) := of_decide_eq_true (by first | (with_reducible assumption) | assumption)
      obtain ⟨ad102, e102, hx102_0⟩ := Kd.at_int HR0.out x4_1 p102 q102
      cases e102
      replace p102 := eq_true p102
      replace q102 := eq_true q102
      go_wp2
      go_roundg k1
      case measure => have := HK1.out; omega
      case rel => exact ⟨(wrap64 (x3_1 + (wrap64 (rd l0 x4_1)))), (wrap64 (x4_1 + 1)), (by first | rfl | (simp; done) | (simp [*]; done)), (by first | rfl | (simp; done) | (simp [*]; done)), H', ⟨by have := HK1.out; omega⟩, by repeat (first | exact Drawn0.refl _ | apply Drawn0.step)⟩
     ·rw [if_neg c6] at H
      exact absurd H (by simp)
   ·rw [if_neg c2] at H
    have c2b0 : decide (x4_1 < (l0.length : Int)) = false := decide_eq_false c2
    clear c2
    obtain rfl := Option.some.inj H
    go_wp2
    go_ret
    exact ⟨by first | rfl | (simp; done) | (simp [*]; done), by repeat (first | exact Drawn0.refl _ | apply Drawn0.step)⟩

/-! ### tabularyref07_Field: function 51 -/
def tabularyref07_Field.f (a0 : Int) : Option (Bool) := if a0 ≥ 2 then (some (decide (a0 ≤ 12))) else (some false)
set_option maxHeartbeats 8000000 in
set_option maxRecDepth 100000 in
theorem tabularyref07_Field.calls (a0 : Int) (r : Bool) (w : World) (h : tabularyref07_Field.f a0 = some r) :
  Calls Try.prog 51 #[.int .i64 a0] w fun e w' => e = .returned (.bool r) ∧ Drawn0 w w' := by
 have H : (if a0 ≥ 2 then (some (decide (a0 ≤ 12))) else (some false)) = some r := h
 clear h
 by_cases c2 : a0 ≥ 2
 ·rw [if_pos c2] at H
  have c2b0 : decide (2 ≤ a0) = true := decide_eq_true c2
  clear c2
  obtain rfl := Option.some.inj H
  go_enter Try.func51, Try.ntmps51
  go_wp2
  go_ret
  exact ⟨by first | rfl | (simp; done) | (simp [*]; done), by repeat (first | exact Drawn0.refl _ | apply Drawn0.step)⟩
 ·rw [if_neg c2] at H
  have c2b0 : decide (2 ≤ a0) = false := decide_eq_false c2
  clear c2
  obtain rfl := Option.some.inj H
  go_enter Try.func51, Try.ntmps51
  go_wp2
  go_ret
  exact ⟨by first | rfl | (simp; done) | (simp [*]; done), by repeat (first | exact Drawn0.refl _ | apply Drawn0.step)⟩

/-! ### tabularyref07_Most: function 52 -/
def tabularyref07_Most.l0 : Nat → Int → Int → Int → Option (Int)
 | 0, _, _, _ => none
 | k + 1, x0, x3, x4 => if x4 < x0 then (tabularyref07_Most.l0 k x0 (wrap64 (8 * x3)) (wrap64 (x4 + 1))) else (some (wrap64 (x3 - 1)))
def tabularyref07_Most.f (k : Nat) (a0 : Int) : Option (Int) := (tabularyref07_Field.f a0).bind fun t103 => (if t103 = true then (tabularyref07_Most.l0 k a0 1 1) else (some (-1)))
theorem tabularyref07_Most.mono_l : ∀ k, (∀ y0 y1 y2, LeO (tabularyref07_Most.l0 k y0 y1 y2) (tabularyref07_Most.l0 (k + 1) y0 y1 y2))
 | 0 => fun _ _ _ r h => by simp [tabularyref07_Most.l0] at h
 | k + 1 => by
  have ih0 := tabularyref07_Most.mono_l k
  ·intro y0 y1 y2
   unfold tabularyref07_Most.l0
   repeat' first
   | (with_reducible exact ih0 _ _ _)
   | (with_reducible exact LeO.refl _)
   | (with_reducible exact LeO.none _)
   | (with_reducible refine LeO.ite ?_ ?_)
   | (with_reducible refine LeO.bind ?_ (fun _ => ?_))
   | exact ih0 _ _ _
   | exact LeO.none _
   | refine LeO.ite ?_ ?_
   | refine LeO.bind ?_ (fun _ => ?_)
theorem tabularyref07_Most.mono : ∀ a0 k, LeO (tabularyref07_Most.f k a0) (tabularyref07_Most.f (k + 1) a0) := by
 intro a0 k
 have ih0 := tabularyref07_Most.mono_l k
 unfold tabularyref07_Most.f
 repeat' first
   | (with_reducible exact ih0 _ _ _)
   | (with_reducible exact LeO.refl _)
   | (with_reducible exact LeO.none _)
   | (with_reducible refine LeO.ite ?_ ?_)
   | (with_reducible refine LeO.bind ?_ (fun _ => ?_))
   | exact ih0 _ _ _
   | exact LeO.none _
   | refine LeO.ite ?_ ?_
   | refine LeO.bind ?_ (fun _ => ?_)
set_option maxHeartbeats 8000000 in
set_option maxRecDepth 100000 in
theorem tabularyref07_Most.calls (k : Nat) (a0 : Int) (r : Int) (w : World) (h : tabularyref07_Most.f k a0 = some r) :
  Calls Try.prog 52 #[.int .i64 a0] w fun e w' => e = .returned (.int .i64 r) ∧ Drawn0 w w' := by
 have H : ((tabularyref07_Field.f a0).bind fun t103 => (if t103 = true then (tabularyref07_Most.l0 k a0 1 1) else (some (-1)))) = some r := h
 clear h
 replace H := Option.bind_eq_some_iff.mp H
 obtain ⟨t103, A20, H⟩ := H
 replace H : (if t103 = true then (tabularyref07_Most.l0 k a0 1 1) else (some (-1))) = some r := H
 have A2 := Aside0.mk A20
 clear A20
 by_cases c3 : t103 = true
 ·subst c3
  have H1 : (tabularyref07_Most.l0 k a0 1 1) = some r := by rw [if_pos rfl] at H; exact H
  clear H
  have H := H1
  clear H1
  have H' := Aside0.mk H
  clear H
  go_enter Try.func52, Try.ntmps52
  go_wp2_with (first | ((with_reducible refine gate_callee (f := 51) rfl ?_); refine goesL_ (some 6) rfl rfl Try.func51 (by kernel_rfl) rfl #[.int .i64 a0] rfl (by (try simp only [List.map_toArray, List.map_cons, List.map_nil]); first | done | rfl | (simp only [List.length_drop, List.length_take]; rfl)) ?_; (with_reducible refine (tabularyref07_Field.calls a0 true _ A2.out).mono ?_); rintro e w' ⟨rfl, ⟨nd, rfl⟩⟩; refine ⟨_, rfl, ?_⟩))
  go_loopg [3, 4] k (fun kq v3 v4 w' => ∃ (x3_1 : Int) (x4_1 : Int), v3 = .int .i64 x3_1 ∧ v4 = .int .i64 x4_1 ∧ Aside0 (tabularyref07_Most.l0 kq a0 x3_1 x4_1 = some r) ∧ Aside0 (kq ≤ k) ∧ Drawn0 w w')
  case atStart => exact ⟨(1), (1), (by first | rfl | (simp; done) | (simp [*]; done)), (by first | rfl | (simp; done) | (simp [*]; done)), H', ⟨Nat.le_refl _⟩, by repeat (first | exact Drawn0.refl _ | apply Drawn0.step)⟩
  case round =>
   clear H'
   try clear p2
   try clear c3
   obtain ⟨x3_1, x4_1, rfl, rfl, HA, HK1, ⟨m1, rfl⟩⟩ := hrel
   cases gk with
   | zero => exact absurd HA.out (by simp [tabularyref07_Most.l0])
   | succ k1 =>
    have H := HA.out
    clear HA
    simp only [tabularyref07_Most.l0] at H
    by_cases c4 : x4_1 < a0
    ·rw [if_pos c4] at H
     have c4b0 : decide (x4_1 < a0) = true := decide_eq_true c4
     clear c4
     have H' := Aside0.mk H
     clear H
     go_wp2
     go_roundg k1
     case measure => have := HK1.out; omega
     case rel => exact ⟨(wrap64 (8 * x3_1)), (wrap64 (x4_1 + 1)), (by first | rfl | (simp; done) | (simp [*]; done)), (by first | rfl | (simp; done) | (simp [*]; done)), H', ⟨by have := HK1.out; omega⟩, by repeat (first | exact Drawn0.refl _ | apply Drawn0.step)⟩
    ·rw [if_neg c4] at H
     have c4b0 : decide (x4_1 < a0) = false := decide_eq_false c4
     clear c4
     obtain rfl := Option.some.inj H
     go_wp2
     go_ret
     exact ⟨by first | rfl | (simp; done) | (simp [*]; done), by repeat (first | exact Drawn0.refl _ | apply Drawn0.step)⟩
 ·replace c3 := Bool.eq_false_iff.mpr c3
  subst c3
  have H1 : (some (-1)) = some r := by rw [if_neg (show ¬ (false = true) by decide)] at H; exact H
  clear H
  have H := H1
  clear H1
  obtain rfl := Option.some.inj H
  go_enter Try.func52, Try.ntmps52
  go_wp2_with (first | ((with_reducible refine gate_callee (f := 51) rfl ?_); refine goesL_ (some 6) rfl rfl Try.func51 (by kernel_rfl) rfl #[.int .i64 a0] rfl (by (try simp only [List.map_toArray, List.map_cons, List.map_nil]); first | done | rfl | (simp only [List.length_drop, List.length_take]; rfl)) ?_; (with_reducible refine (tabularyref07_Field.calls a0 false _ A2.out).mono ?_); rintro e w' ⟨rfl, ⟨nd, rfl⟩⟩; refine ⟨_, rfl, ?_⟩))
  go_ret
  exact ⟨by first | rfl | (simp; done) | (simp [*]; done), by repeat (first | exact Drawn0.refl _ | apply Drawn0.step)⟩

/-! ### tabularyref07_plain: function 53 -/
def tabularyref07_plain.l0 : Nat → Int → Int → List Int → Int → Int → Option (List Int)
 | 0, _, _, _, _, _ => none
 | k + 1, x0, x1, x5, x6, x7 => if x7 < x1 then (if x6 = 0 then (none) else (if x5.length < 140737488355328 then ((some (x5 ++ [(wrap64 (48 + (Int.tmod (wrap64 (Int.tdiv x0 x6)) 8))) % 256] : List Int)).bind fun y105 => (if (wrap64 (Int.tdiv x6 8)) = 0 then (tabularyref07_plain.l0 k x0 x1 y105 1 (wrap64 (x7 + 1))) else (tabularyref07_plain.l0 k x0 x1 y105 (wrap64 (Int.tdiv x6 8)) (wrap64 (x7 + 1))))) else (none))) else (if x5.length < 140737488355328 then (some (x5 ++ [0])) else (none))
def tabularyref07_plain.f (k : Nat) (a0 : Int) (a1 : Int) : Option (List Int) := (tabularyref07_Most.f k a1).bind fun t104 => (tabularyref07_plain.l0 k a0 a1 ([] : List Int) (wrap64 (Int.tdiv (wrap64 (t104 + 1)) 8)) 1)
set_option maxHeartbeats 8000000 in
set_option maxRecDepth 100000 in
theorem tabularyref07_plain.calls (k : Nat) (a0 : Int) (a1 : Int) (r : List Int) (w : World) (h : tabularyref07_plain.f k a0 a1 = some r) :
  Calls Try.prog 53 #[.int .i64 a0, .int .i64 a1] w fun e w' => ∃ v0_ : Value, e = .returned (v0_) ∧ Kd.R (Kd.int .u8) 5 w' w.heap.size (fun _ => True) v0_ r ∧ Below w.heap.size w w' := by
 have HB := Aside0.mk (Below.refl w.heap.size w)
 have H : ((tabularyref07_Most.f k a1).bind fun t104 => (tabularyref07_plain.l0 k a0 a1 ([] : List Int) (wrap64 (Int.tdiv (wrap64 (t104 + 1)) 8)) 1)) = some r := h
 clear h
 replace H := Option.bind_eq_some_iff.mp H
 obtain ⟨t104, A30, H⟩ := H
 replace H : (tabularyref07_plain.l0 k a0 a1 ([] : List Int) (wrap64 (Int.tdiv (wrap64 (t104 + 1)) 8)) 1) = some r := H
 have A3 := Aside0.mk A30
 clear A30
 have H' := Aside0.mk H
 clear H
 go_enter Try.func53, Try.ntmps53
 go_wp2_with (first | ((with_reducible refine gate_callee (f := 52) rfl ?_); refine goesL_ (some 9) rfl rfl Try.func52 (by kernel_rfl) rfl #[.int .i64 a1] rfl (by (try simp only [List.map_toArray, List.map_cons, List.map_nil]); first | done | rfl | (simp only [List.length_drop, List.length_take]; rfl)) ?_; (with_reducible refine (tabularyref07_Most.calls k a1 t104 _ A3.out).mono ?_); rintro e w' ⟨rfl, ⟨nd, rfl⟩⟩; refine ⟨_, rfl, ?_⟩))
 go_loopg [5, 6, 7] k (fun kq v5 v6 v7 w' => ∃ (x5_1 : List Int) (x6_1 : Int) (x7_1 : Int), v6 = .int .i64 x6_1 ∧ v7 = .int .i64 x7_1 ∧ Aside0 (tabularyref07_plain.l0 kq a0 a1 x5_1 x6_1 x7_1 = some r) ∧ Aside0 (kq ≤ k) ∧ Aside0 (Kd.R (Kd.int .u8) 5 w' w.heap.size (fun _ => True) v5 x5_1) ∧ Aside0 (Below w.heap.size w w'))
 case atStart => exact ⟨(([] : List Int)), (wrap64 (Int.tdiv (wrap64 (t104 + 1)) 8)), (1), (by first | rfl | (simp; done) | (simp [*]; done)), (by first | rfl | (simp; done) | (simp [*]; done)), H', ⟨Nat.le_refl _⟩, ⟨by first | exact Kd.R_nil _ _ _ _ _ | exact Kd.N_nil _ _ _ _ _ | exact Kd.V_nil _ _ _ _ _ | exact Kd.Q_nil _ _ _ _ _ | exact Kd.S_nil _ _ _ _ _⟩, ⟨by repeat (first | (with_reducible first | exact HB.out | apply below_alloc | apply pw_below_drewN | apply below_drew1) | exact HB.out)⟩⟩
 case round =>
  clear H'
  try clear p2
  obtain ⟨x5_1, x6_1, x7_1, rfl, rfl, HA, HK1, HO_5, HB⟩ := hrel
  cases gk with
  | zero => exact absurd HA.out (by simp [tabularyref07_plain.l0])
  | succ k1 =>
   have H := HA.out
   clear HA
   simp only [tabularyref07_plain.l0] at H
   by_cases c4 : x7_1 < a1
   ·rw [if_pos c4] at H
    have c4b0 : decide (x7_1 < a1) = true := decide_eq_true c4
    clear c4
    by_cases c5 : x6_1 = 0
    ·rw [if_pos c5] at H
     exact absurd H (by simp)
    ·rw [if_neg c5] at H
     have c5b0 : (x6_1 == 0) = false := beq_eq_false_iff_ne.mpr c5
     have c5b1 : (x6_1 != 0) = true := bne_iff_ne.mpr c5
     by_cases c6 : x5_1.length < 140737488355328
     ·rw [if_pos c6] at H
      have LMc6 := Aside0.mk c6
      clear c6
      obtain ⟨y105, hy105⟩ : ∃ y_ : List Int, y_ = (x5_1 ++ [(wrap64 (48 + (Int.tmod (wrap64 (Int.tdiv a0 x6_1)) 8))) % 256]) := ⟨_, rfl⟩
      replace H : (if (wrap64 (Int.tdiv x6_1 8)) = 0 then (tabularyref07_plain.l0 k1 a0 a1 y105 1 (wrap64 (x7_1 + 1))) else (tabularyref07_plain.l0 k1 a0 a1 y105 (wrap64 (Int.tdiv x6_1 8)) (wrap64 (x7_1 + 1)))) = some r := by first | (rw [hy105]; with_reducible exact H) | (have H2_ := (Option.bind_some _ _).symm.trans H; rw [hy105]; with_reducible exact H2_) | (have H2_ := (Option.bind_some _ _).symm.trans H; with_reducible exact H2_) | with_reducible exact H | (rw [hy105]; exact H) | exact H
      have Ny105 := Aside0.mk hy105
      clear hy105
      by_cases c7 : (wrap64 (Int.tdiv x6_1 8)) = 0
      ·rw [if_pos c7] at H
       have c7b0 : ((wrap64 (Int.tdiv x6_1 8)) == 0) = true := beq_iff_eq.mpr c7
       have c7b1 : ((wrap64 (Int.tdiv x6_1 8)) != 0) = false := bne_eq_false_iff_eq.mpr c7
       clear c7
       have H' := Aside0.mk H
       clear H
       go_wp2_with (first | ((with_reducible refine gate_builtin (b := .append) (xs := #[.tmp 17, .tmp 24]) rfl ?_); at_builtin; refine Kd.R_append (Kd.int .u8) (w0 := w) w.heap.size rfl (.tmp 17) (.tmp 24) 22 5 (.int .u8 0) 1 rfl Try.underlying22 info5 rfl (by decide) (by omega) u5 x5_1 ((wrap64 (48 + (Int.tmod (wrap64 (Int.tdiv a0 x6_1)) 8))) % 256) [.int .u8 ((wrap64 (48 + (Int.tmod (wrap64 (Int.tdiv a0 x6_1)) 8))) % 256)] (fun _ => True) (fun _ => False) rfl rfl ?aP (fun _ hk => hk.elim) ?aF ?aO ?aB ?aS ?aL ?_; (case aP => exact rfl); (case aB => exact (by repeat (first | (with_reducible first | exact HB.out | apply below_alloc | apply pw_below_drewN | apply below_drew1) | exact HB.out))); (case aF => exact (fun _ _ => trivial)); (case aO => exact (by (with_reducible repeat (first | apply Kd.R_alloc | apply Kd.R_drewN | apply Kd.R_drew)); exact HO_5.out)); (case aS => exact (below_size (by repeat (first | (with_reducible first | exact HB.out | apply below_alloc | apply pw_below_drewN | apply below_drew1) | exact HB.out)))); (case aL => have := LMc6.out; omega); intro v106 w8 ho hb hg hat; rw [← Ny105.out] at ho; have n0_ := Aside0.mk (hb); have n1_ := Aside0.mk (ho); clear HB; clear HO_5; have HB := n0_; have HO107 := n1_; clear n0_ n1_; clear ho hb hg hat))
       go_roundg k1
       case measure => have := HK1.out; omega
       case rel => exact ⟨(y105), (1), (wrap64 (x7_1 + 1)), (by first | rfl | (simp; done) | (simp [*]; done)), (by first | rfl | (simp; done) | (simp [*]; done)), H', ⟨by have := HK1.out; omega⟩, ⟨by (with_reducible repeat (first | apply Kd.R_alloc | apply Kd.R_drewN | apply Kd.R_drew)); exact HO107.out⟩, ⟨by repeat (first | (with_reducible first | exact HB.out | apply below_alloc | apply pw_below_drewN | apply below_drew1) | exact HB.out)⟩⟩
      ·rw [if_neg c7] at H
       have c7b0 : ((wrap64 (Int.tdiv x6_1 8)) == 0) = false := beq_eq_false_iff_ne.mpr c7
       have c7b1 : ((wrap64 (Int.tdiv x6_1 8)) != 0) = true := bne_iff_ne.mpr c7
       have H' := Aside0.mk H
       clear H
       go_wp2_with (first | ((with_reducible refine gate_builtin (b := .append) (xs := #[.tmp 17, .tmp 24]) rfl ?_); at_builtin; refine Kd.R_append (Kd.int .u8) (w0 := w) w.heap.size rfl (.tmp 17) (.tmp 24) 22 5 (.int .u8 0) 1 rfl Try.underlying22 info5 rfl (by decide) (by omega) u5 x5_1 ((wrap64 (48 + (Int.tmod (wrap64 (Int.tdiv a0 x6_1)) 8))) % 256) [.int .u8 ((wrap64 (48 + (Int.tmod (wrap64 (Int.tdiv a0 x6_1)) 8))) % 256)] (fun _ => True) (fun _ => False) rfl rfl ?aP (fun _ hk => hk.elim) ?aF ?aO ?aB ?aS ?aL ?_; (case aP => exact rfl); (case aB => exact (by repeat (first | (with_reducible first | exact HB.out | apply below_alloc | apply pw_below_drewN | apply below_drew1) | exact HB.out))); (case aF => exact (fun _ _ => trivial)); (case aO => exact (by (with_reducible repeat (first | apply Kd.R_alloc | apply Kd.R_drewN | apply Kd.R_drew)); exact HO_5.out)); (case aS => exact (below_size (by repeat (first | (with_reducible first | exact HB.out | apply below_alloc | apply pw_below_drewN | apply below_drew1) | exact HB.out)))); (case aL => have := LMc6.out; omega); intro v106 w9 ho hb hg hat; rw [← Ny105.out] at ho; have n0_ := Aside0.mk (hb); have n1_ := Aside0.mk (ho); clear HB; clear HO_5; have HB := n0_; have HO107 := n1_; clear n0_ n1_; clear ho hb hg hat))
       go_roundg k1
       case measure => have := HK1.out; omega
       case rel => exact ⟨(y105), (wrap64 (Int.tdiv x6_1 8)), (wrap64 (x7_1 + 1)), (by first | rfl | (simp; done) | (simp [*]; done)), (by first | rfl | (simp; done) | (simp [*]; done)), H', ⟨by have := HK1.out; omega⟩, ⟨by (with_reducible repeat (first | apply Kd.R_alloc | apply Kd.R_drewN | apply Kd.R_drew)); exact HO107.out⟩, ⟨by repeat (first | (with_reducible first | exact HB.out | apply below_alloc | apply pw_below_drewN | apply below_drew1) | exact HB.out)⟩⟩
     ·rw [if_neg c6] at H
      exact absurd H (by simp)
   ·rw [if_neg c4] at H
    have c4b0 : decide (x7_1 < a1) = false := decide_eq_false c4
    clear c4
    by_cases c10 : x5_1.length < 140737488355328
    ·rw [if_pos c10] at H
     have LMc10 := Aside0.mk c10
     clear c10
     obtain ⟨y108, hy108⟩ : ∃ y_ : List Int, y_ = (x5_1 ++ [0]) := ⟨_, rfl⟩
     replace H : (some y108) = some r := by first | (rw [hy108]; with_reducible exact H) | (have H2_ := (Option.bind_some _ _).symm.trans H; rw [hy108]; with_reducible exact H2_) | (have H2_ := (Option.bind_some _ _).symm.trans H; with_reducible exact H2_) | with_reducible exact H | (rw [hy108]; exact H) | exact H
     have Ny108 := Aside0.mk hy108
     clear hy108
     obtain rfl := Option.some.inj H
     go_wp2_with (first | ((with_reducible refine gate_builtin (b := .append) (xs := #[.tmp 30, .tmp 31]) rfl ?_); at_builtin; refine Kd.R_append (Kd.int .u8) (w0 := w) w.heap.size rfl (.tmp 30) (.tmp 31) 22 5 (.int .u8 0) 1 rfl Try.underlying22 info5 rfl (by decide) (by omega) u5 x5_1 0 [.int .u8 0] (fun _ => True) (fun _ => False) rfl rfl ?aP (fun _ hk => hk.elim) ?aF ?aO ?aB ?aS ?aL ?_; (case aP => exact rfl); (case aB => exact (by repeat (first | (with_reducible first | exact HB.out | apply below_alloc | apply pw_below_drewN | apply below_drew1) | exact HB.out))); (case aF => exact (fun _ _ => trivial)); (case aO => exact (by (with_reducible repeat (first | apply Kd.R_alloc | apply Kd.R_drewN | apply Kd.R_drew)); exact HO_5.out)); (case aS => exact (below_size (by repeat (first | (with_reducible first | exact HB.out | apply below_alloc | apply pw_below_drewN | apply below_drew1) | exact HB.out)))); (case aL => have := LMc10.out; omega); intro v109 w11 ho hb hg hat; rw [← Ny108.out] at ho; have n0_ := Aside0.mk (hb); have n1_ := Aside0.mk (ho); clear HB; clear HO_5; have HB := n0_; have HO110 := n1_; clear n0_ n1_; clear ho hb hg hat))
     go_ret
     exact ⟨_, by first | rfl | (simp [errW_none, errW_some] <;> rfl) | (simp [*, errW_none, errW_some] <;> rfl), by (with_reducible repeat (first | apply Kd.R_alloc | apply Kd.R_drewN | apply Kd.R_drew)); exact HO110.out, by repeat (first | (with_reducible first | exact HB.out | apply below_alloc | apply pw_below_drewN | apply below_drew1) | exact HB.out)⟩
    ·rw [if_neg c10] at H
     exact absurd H (by simp)

/-! ### tabularyref07_Put: function 43 -/
mutual
def tabularyref07_Put.j0 : Nat → Int → Int → Bool → Option (List Int × Int)
 | 0, _, _, _ => none
 | k + 1, x0, x1, x17 => if x17 = true then (some (([] : List Int), 1)) else ((tabularyref07_Most.f k x1).bind fun t112 => (if x0 ≤ t112 then ((tabularyref07_plain.f k x0 x1).bind fun t113 => (some (t113, 0))) else (tabularyref07_Put.l0 k x0 x1 ([] : List Int) 1)))
def tabularyref07_Put.l0 : Nat → Int → Int → List Int → Int → Option (List Int × Int)
 | 0, _, _, _, _ => none
 | k + 1, x0, x1, x7, x8 => if x8 < x1 then (if x7.length < 140737488355328 then (tabularyref07_Put.l0 k (wrap64 (Int.tdiv x0 256)) x1 (x7 ++ [(Int.tmod x0 256) % 256]) (wrap64 (x8 + 1))) else (none)) else (if x0 > 0 then (some (([] : List Int), 2)) else (tabularyref07_Put.l1 k x7 (([128] : List Int)) (wrap64 ((x7.length : Int) - 1))))
def tabularyref07_Put.l1 : Nat → List Int → List Int → Int → Option (List Int × Int)
 | 0, _, _, _ => none
 | k + 1, x7, x9, x10 => if x10 ≥ 0 then (if 0 ≤ x10 then (if x10 < (x7.length : Int) then (if x9.length < 140737488355328 then (tabularyref07_Put.l1 k x7 (x9 ++ [rd x7 x10]) (wrap64 (x10 - 1))) else (none)) else (none)) else (none)) else (some (x9, 0))
end
def tabularyref07_Put.f (k : Nat) (a0 : Int) (a1 : Int) : Option (List Int × Int) := (tabularyref07_Field.f a1).bind fun t111 => (if t111 = true then (tabularyref07_Put.j0 k a0 a1 (decide (a0 < 0))) else (tabularyref07_Put.j0 k a0 a1 true))
set_option maxHeartbeats 8000000 in
set_option maxRecDepth 100000 in
theorem tabularyref07_Put.calls (k : Nat) (a0 : Int) (a1 : Int) (r1 : List Int) (r2 : Int) (w : World) (h : tabularyref07_Put.f k a0 a1 = some (r1, r2)) :
  Calls Try.prog 43 #[.int .i64 a0, .int .i64 a1] w fun e w' => ∃ v0_ : Value, e = .returned (.tuple #[v0_, .int .i64 r2]) ∧ Kd.R (Kd.int .u8) 5 w' w.heap.size (fun _ => True) v0_ r1 ∧ Below w.heap.size w w' := by
 have HB := Aside0.mk (Below.refl w.heap.size w)
 have H : ((tabularyref07_Field.f a1).bind fun t111 => (if t111 = true then (tabularyref07_Put.j0 k a0 a1 (decide (a0 < 0))) else (tabularyref07_Put.j0 k a0 a1 true))) = some (r1, r2) := h
 clear h
 have HC3 := Aside0.mk H
 clear H
 go_enter Try.func43, Try.ntmps43
 go_upto_region 1 with (fail)
 go_cut [17] (fun v17 wc => ∃ (kq : Nat) (x17_2 : Bool), v17 = .bool x17_2 ∧ Aside0 (tabularyref07_Put.j0 kq a0 a1 x17_2 = some (r1, r2)) ∧ Aside0 (kq ≤ k) ∧ Aside0 (Below w.heap.size w wc))
 case first =>
  have H := HC3.out
  clear HC3
  replace H := Option.bind_eq_some_iff.mp H
  obtain ⟨t111, A40, H⟩ := H
  replace H : (if t111 = true then (tabularyref07_Put.j0 k a0 a1 (decide (a0 < 0))) else (tabularyref07_Put.j0 k a0 a1 true)) = some (r1, r2) := H
  have A4 := Aside0.mk A40
  clear A40
  by_cases c5 : t111 = true
  ·subst c5
   have H1 : (tabularyref07_Put.j0 k a0 a1 (decide (a0 < 0))) = some (r1, r2) := by rw [if_pos rfl] at H; exact H
   clear H
   have H := H1
   clear H1
   have H' := Aside0.mk H
   clear H
   go_wp2_with (first | ((with_reducible refine gate_callee (f := 51) rfl ?_); refine goesL_ (some 12) rfl rfl Try.func51 (by kernel_rfl) rfl #[.int .i64 a1] rfl (by (try simp only [List.map_toArray, List.map_cons, List.map_nil]); first | done | rfl | (simp only [List.length_drop, List.length_take]; rfl)) ?_; (with_reducible refine (tabularyref07_Field.calls a1 true _ A4.out).mono ?_); rintro e w' ⟨rfl, ⟨nd, rfl⟩⟩; refine ⟨_, rfl, ?_⟩))
   go_meet
   case rel => exact ⟨_, (decide (a0 < 0)), (by first | rfl | (simp; done) | (simp [*]; done)), H', ⟨by first | omega | exact Nat.le_refl _⟩, ⟨by repeat (first | (with_reducible first | exact HB.out | apply below_alloc | apply pw_below_drewN | apply below_drew1) | exact HB.out)⟩⟩
  ·replace c5 := Bool.eq_false_iff.mpr c5
   subst c5
   have H1 : (tabularyref07_Put.j0 k a0 a1 true) = some (r1, r2) := by rw [if_neg (show ¬ (false = true) by decide)] at H; exact H
   clear H
   have H := H1
   clear H1
   have H' := Aside0.mk H
   clear H
   go_wp2_with (first | ((with_reducible refine gate_callee (f := 51) rfl ?_); refine goesL_ (some 12) rfl rfl Try.func51 (by kernel_rfl) rfl #[.int .i64 a1] rfl (by (try simp only [List.map_toArray, List.map_cons, List.map_nil]); first | done | rfl | (simp only [List.length_drop, List.length_take]; rfl)) ?_; (with_reducible refine (tabularyref07_Field.calls a1 false _ A4.out).mono ?_); rintro e w' ⟨rfl, ⟨nd, rfl⟩⟩; refine ⟨_, rfl, ?_⟩))
   go_meet
   case rel => exact ⟨_, (true), (by first | rfl | (simp; done) | (simp [*]; done)), H', ⟨by first | omega | exact Nat.le_refl _⟩, ⟨by repeat (first | (with_reducible first | exact HB.out | apply below_alloc | apply pw_below_drewN | apply below_drew1) | exact HB.out)⟩⟩
 case rest =>
  clear HC3
  try clear p2
  try clear c4
  try clear c5
  obtain ⟨kq, x17_2, rfl, HA, HJ2, HB⟩ := hcut
  cases kq with
  | zero => exact absurd HA.out (by simp [tabularyref07_Put.j0])
  | succ kj2 =>
   have H := HA.out
   clear HA
   simp only [tabularyref07_Put.j0] at H
   by_cases c6 : x17_2 = true
   ·subst c6
    have H1 : (some (([] : List Int), 1)) = some (r1, r2) := by rw [if_pos rfl] at H; exact H
    clear H
    have H := H1
    clear H1
    simp only [Option.some.injEq, Prod.mk.injEq] at H
    obtain ⟨rfl, rfl⟩ := H
    go_wp2
    go_ret2
    exact ⟨_, by first | rfl | (simp [errW_none, errW_some] <;> rfl) | (simp [*, errW_none, errW_some] <;> rfl), by first | exact Kd.R_nil _ _ _ _ _ | exact Kd.N_nil _ _ _ _ _ | exact Kd.V_nil _ _ _ _ _ | exact Kd.Q_nil _ _ _ _ _ | exact Kd.S_nil _ _ _ _ _, by repeat (first | (with_reducible first | exact HB.out | apply below_alloc | apply pw_below_drewN | apply below_drew1) | exact HB.out)⟩
   ·replace c6 := Bool.eq_false_iff.mpr c6
    subst c6
    have H1 : ((tabularyref07_Most.f kj2 a1).bind fun t112 => (if a0 ≤ t112 then ((tabularyref07_plain.f kj2 a0 a1).bind fun t113 => (some (t113, 0))) else (tabularyref07_Put.l0 kj2 a0 a1 ([] : List Int) 1))) = some (r1, r2) := by rw [if_neg (show ¬ (false = true) by decide)] at H; exact H
    clear H
    have H := H1
    clear H1
    replace H := Option.bind_eq_some_iff.mp H
    obtain ⟨t112, A70, H⟩ := H
    replace H : (if a0 ≤ t112 then ((tabularyref07_plain.f kj2 a0 a1).bind fun t113 => (some (t113, 0))) else (tabularyref07_Put.l0 kj2 a0 a1 ([] : List Int) 1)) = some (r1, r2) := H
    have A7 := Aside0.mk A70
    clear A70
    by_cases c8 : a0 ≤ t112
    ·rw [if_pos c8] at H
     have c8b0 : decide (a0 ≤ t112) = true := decide_eq_true c8
     clear c8
     replace H := Option.bind_eq_some_iff.mp H
     obtain ⟨t113, A90, H⟩ := H
     replace H : (some (t113, 0)) = some (r1, r2) := H
     have A9 := Aside0.mk A90
     clear A90
     simp only [Option.some.injEq, Prod.mk.injEq] at H
     obtain ⟨rfl, rfl⟩ := H
     go_wp2_with (first | ((with_reducible refine gate_callee (f := 52) rfl ?_); refine goesL_ (some 20) rfl rfl Try.func52 (by kernel_rfl) rfl #[.int .i64 a1] rfl (by (try simp only [List.map_toArray, List.map_cons, List.map_nil]); first | done | rfl | (simp only [List.length_drop, List.length_take]; rfl)) ?_; (with_reducible refine (tabularyref07_Most.calls kj2 a1 t112 _ A7.out).mono ?_); rintro e w' ⟨rfl, ⟨nd, rfl⟩⟩; refine ⟨_, rfl, ?_⟩) | ((with_reducible refine gate_callee (f := 53) rfl ?_); refine goesL_ (some 24) rfl rfl Try.func53 (by kernel_rfl) rfl #[.int .i64 a0, .int .i64 a1] rfl (by (try simp only [List.map_toArray, List.map_cons, List.map_nil]); first | done | rfl | (simp only [List.length_drop, List.length_take]; rfl)) ?_; (with_reducible refine (tabularyref07_plain.calls kj2 a0 a1 t113 _ A9.out).mono ?_); rintro e w10 ⟨v114, rfl, ho0, hb⟩; refine ⟨_, rfl, ?_⟩; have n0_ := Aside0.mk (Kd.R_lower ho0 (below_size (by repeat (first | (with_reducible first | exact HB.out | apply below_alloc | apply pw_below_drewN | apply below_drew1) | exact HB.out)))); have n1_ := Aside0.mk (below_step (by repeat (first | (with_reducible first | exact HB.out | apply below_alloc | apply pw_below_drewN | apply below_drew1) | exact HB.out)) hb); clear HB; have HO115 := n0_; have HB := n1_; clear n0_ n1_; (try clear hb); (try clear hb2); (try clear hk); (try clear hi); (try clear ho0)))
     go_ret2
     exact ⟨_, by first | rfl | (simp [errW_none, errW_some] <;> rfl) | (simp [*, errW_none, errW_some] <;> rfl), by (with_reducible repeat (first | apply Kd.R_alloc | apply Kd.R_drewN | apply Kd.R_drew)); exact HO115.out, by repeat (first | (with_reducible first | exact HB.out | apply below_alloc | apply pw_below_drewN | apply below_drew1) | exact HB.out)⟩
    ·rw [if_neg c8] at H
     have c8b0 : decide (a0 ≤ t112) = false := decide_eq_false c8
     clear c8
     have H' := Aside0.mk H
     clear H
     go_wp2_with (first | ((with_reducible refine gate_callee (f := 52) rfl ?_); refine goesL_ (some 20) rfl rfl Try.func52 (by kernel_rfl) rfl #[.int .i64 a1] rfl (by (try simp only [List.map_toArray, List.map_cons, List.map_nil]); first | done | rfl | (simp only [List.length_drop, List.length_take]; rfl)) ?_; (with_reducible refine (tabularyref07_Most.calls kj2 a1 t112 _ A7.out).mono ?_); rintro e w' ⟨rfl, ⟨nd, rfl⟩⟩; refine ⟨_, rfl, ?_⟩))
     go_loopg [0, 7, 8] kj2 (fun kq v0 v7 v8 w' => ∃ (x0_2 : Int) (x7_2 : List Int) (x8_2 : Int), v0 = .int .i64 x0_2 ∧ v8 = .int .i64 x8_2 ∧ Aside0 (tabularyref07_Put.l0 kq x0_2 a1 x7_2 x8_2 = some (r1, r2)) ∧ Aside0 (kq ≤ kj2) ∧ Aside0 (Kd.R (Kd.int .u8) 5 w' w.heap.size (fun _ => True) v7 x7_2) ∧ Aside0 (Below w.heap.size w w'))
     case atStart => exact ⟨(a0), (([] : List Int)), (1), (by first | rfl | (simp; done) | (simp [*]; done)), (by first | rfl | (simp; done) | (simp [*]; done)), H', ⟨Nat.le_refl _⟩, ⟨by first | exact Kd.R_nil _ _ _ _ _ | exact Kd.N_nil _ _ _ _ _ | exact Kd.V_nil _ _ _ _ _ | exact Kd.Q_nil _ _ _ _ _ | exact Kd.S_nil _ _ _ _ _⟩, ⟨by repeat (first | (with_reducible first | exact HB.out | apply below_alloc | apply pw_below_drewN | apply below_drew1) | exact HB.out)⟩⟩
     case round =>
      clear H'
      try clear p2
      try clear c4
      try clear c5
      try clear c6
      try clear c8
      try clear c8b0
      try clear p2
      obtain ⟨x0_2, x7_2, x8_2, rfl, rfl, HA, HK2, HO_7, HB⟩ := hrel
      cases gk with
      | zero => exact absurd HA.out (by simp [tabularyref07_Put.l0])
      | succ k2 =>
       have H := HA.out
       clear HA
       simp only [tabularyref07_Put.l0] at H
       by_cases c11 : x8_2 < a1
       ·rw [if_pos c11] at H
        have c11b0 : decide (x8_2 < a1) = true := decide_eq_true c11
        clear c11
        by_cases c12 : x7_2.length < 140737488355328
        ·rw [if_pos c12] at H
         have LMc12 := Aside0.mk c12
         clear c12
         obtain ⟨y116, hy116⟩ : ∃ y_ : List Int, y_ = (x7_2 ++ [(Int.tmod x0_2 256) % 256]) := ⟨_, rfl⟩
         replace H : (tabularyref07_Put.l0 k2 (wrap64 (Int.tdiv x0_2 256)) a1 y116 (wrap64 (x8_2 + 1))) = some (r1, r2) := by first | (rw [hy116]; with_reducible exact H) | (have H2_ := (Option.bind_some _ _).symm.trans H; rw [hy116]; with_reducible exact H2_) | (have H2_ := (Option.bind_some _ _).symm.trans H; with_reducible exact H2_) | with_reducible exact H | (rw [hy116]; exact H) | exact H
         have Ny116 := Aside0.mk hy116
         clear hy116
         have H' := Aside0.mk H
         clear H
         go_wp2_with (first | ((with_reducible refine gate_builtin (b := .append) (xs := #[.tmp 31, .tmp 35]) rfl ?_); at_builtin; refine Kd.R_append (Kd.int .u8) (w0 := w) w.heap.size rfl (.tmp 31) (.tmp 35) 22 5 (.int .u8 0) 1 rfl Try.underlying22 info5 rfl (by decide) (by omega) u7 x7_2 ((Int.tmod x0_2 256) % 256) [.int .u8 ((Int.tmod x0_2 256) % 256)] (fun _ => True) (fun _ => False) rfl rfl ?aP (fun _ hk => hk.elim) ?aF ?aO ?aB ?aS ?aL ?_; (case aP => exact rfl); (case aB => exact (by repeat (first | (with_reducible first | exact HB.out | apply below_alloc | apply pw_below_drewN | apply below_drew1) | exact HB.out))); (case aF => exact (fun _ _ => trivial)); (case aO => exact (by (with_reducible repeat (first | apply Kd.R_alloc | apply Kd.R_drewN | apply Kd.R_drew)); exact HO_7.out)); (case aS => exact (below_size (by repeat (first | (with_reducible first | exact HB.out | apply below_alloc | apply pw_below_drewN | apply below_drew1) | exact HB.out)))); (case aL => have := LMc12.out; omega); intro v117 w13 ho hb hg hat; rw [← Ny116.out] at ho; have n0_ := Aside0.mk (hb); have n1_ := Aside0.mk (ho); clear HB; clear HO_7; have HB := n0_; have HO118 := n1_; clear n0_ n1_; clear ho hb hg hat))
         go_roundg k2
         case measure => have := HJ2.out; have := HK2.out; omega
         case rel => exact ⟨(wrap64 (Int.tdiv x0_2 256)), (y116), (wrap64 (x8_2 + 1)), (by first | rfl | (simp; done) | (simp [*]; done)), (by first | rfl | (simp; done) | (simp [*]; done)), H', ⟨by have := HJ2.out; have := HK2.out; omega⟩, ⟨by (with_reducible repeat (first | apply Kd.R_alloc | apply Kd.R_drewN | apply Kd.R_drew)); exact HO118.out⟩, ⟨by repeat (first | (with_reducible first | exact HB.out | apply below_alloc | apply pw_below_drewN | apply below_drew1) | exact HB.out)⟩⟩
        ·rw [if_neg c12] at H
         exact absurd H (by simp)
       ·rw [if_neg c11] at H
        have c11b0 : decide (x8_2 < a1) = false := decide_eq_false c11
        clear c11
        by_cases c14 : x0_2 > 0
        ·rw [if_pos c14] at H
         have c14b0 : decide (0 < x0_2) = true := decide_eq_true c14
         clear c14
         simp only [Option.some.injEq, Prod.mk.injEq] at H
         obtain ⟨rfl, rfl⟩ := H
         go_wp2
         go_ret2
         exact ⟨_, by first | rfl | (simp [errW_none, errW_some] <;> rfl) | (simp [*, errW_none, errW_some] <;> rfl), by first | exact Kd.R_nil _ _ _ _ _ | exact Kd.N_nil _ _ _ _ _ | exact Kd.V_nil _ _ _ _ _ | exact Kd.Q_nil _ _ _ _ _ | exact Kd.S_nil _ _ _ _ _, by repeat (first | (with_reducible first | exact HB.out | apply below_alloc | apply pw_below_drewN | apply below_drew1) | exact HB.out)⟩
        ·rw [if_neg c14] at H
         have c14b0 : decide (0 < x0_2) = false := decide_eq_false c14
         clear c14
         obtain ⟨y119, hy119⟩ : ∃ y_ : List Int, y_ = (([128] : List Int)) := ⟨_, rfl⟩
         replace H : (tabularyref07_Put.l1 k2 x7_2 y119 (wrap64 ((x7_2.length : Int) - 1))) = some (r1, r2) := by first | (rw [hy119]; with_reducible exact H) | (have H2_ := (Option.bind_some _ _).symm.trans H; rw [hy119]; with_reducible exact H2_) | (have H2_ := (Option.bind_some _ _).symm.trans H; with_reducible exact H2_) | with_reducible exact H | (rw [hy119]; exact H) | exact H
         have Ny119 := Aside0.mk hy119
         clear hy119
         have H' := Aside0.mk H
         clear H
         go_wp2_with (first | ((with_reducible refine gate_dst (N := 41) rfl ?_); refine Kd.R_lit (Kd.int .u8) _ 5 ?hg (N := 41) ?hd (xs := ([128] : List Int)) (inner := [.int .u8 128]) (ok := fun _ => True) (okp := fun _ => True) ?hr ?hp (fun _ hk => hk) trivial (Below.refl _ _) (Nat.le_refl _) (by simp) ?_; (case hd => rfl); (case hg => rfl); (case hr => first | (go_simp; done) | (go_simp; rfl)); (case hp => exact (Reps.one (show Kd.M (Kd.int .u8) _ _ _ 128 [.int .u8 128] from rfl) (Reps.none _ _))); intro v120 w15 ho16 hb hg_ hnew_; clear hg_ hnew_; (first | rw [← Ny119.out] at ho16 | (simp only [Int.reduceToNat] at ho16; rw [← Ny119.out] at ho16)); have n0_ := Aside0.mk (Kd.R_elder' (by (with_reducible repeat (first | apply Kd.R_alloc | apply Kd.R_drewN | apply Kd.R_drew)); exact HO_7.out) (Kd.R_base ho16) hb); have n1_ := Aside0.mk (Kd.R_lower (Kd.R_new' ho16 (Kd.R_lt (by (with_reducible repeat (first | apply Kd.R_alloc | apply Kd.R_drewN | apply Kd.R_drew)); exact HO_7.out))) (below_size (by repeat (first | (with_reducible first | exact HB.out | apply below_alloc | apply pw_below_drewN | apply below_drew1) | exact HB.out)))); have n2_ := Aside0.mk (below_step (by repeat (first | (with_reducible first | exact HB.out | apply below_alloc | apply pw_below_drewN | apply below_drew1) | exact HB.out)) hb); clear HO_7; clear HB; have HO_7 := n0_; have HO121 := n1_; have HB := n2_; clear n0_ n1_ n2_; clear hb ho16; obtain ⟨Ao17, co17, eo17⟩ := Kd.R_slice HO_7.out; subst eo17))
         go_loopg [9, 10] k2 (fun kq v9 v10 w' => ∃ (x9_3 : List Int) (x10_3 : Int), v10 = .int .i64 x10_3 ∧ Aside0 (tabularyref07_Put.l1 kq x7_2 x9_3 x10_3 = some (r1, r2)) ∧ Aside0 (kq ≤ k2) ∧ Aside0 (Kd.R (Kd.int .u8) 5 w' w.heap.size (fun k_ => some k_ ≠ (v9 : Value).ownBlock) (.slice Ao17 x7_2.length co17) x7_2) ∧ Aside0 (Kd.R (Kd.int .u8) 5 w' w.heap.size (fun k_ => some k_ ≠ ((.slice Ao17 x7_2.length co17) : Value).ownBlock) v9 x9_3) ∧ Aside0 (Below w.heap.size w w'))
         case atStart => exact ⟨(y119), (wrap64 ((x7_2.length : Int) - 1)), (by first | rfl | (simp; done) | (simp [*]; done)), H', ⟨Nat.le_refl _⟩, ⟨by (with_reducible repeat (first | apply Kd.R_alloc | apply Kd.R_drewN | apply Kd.R_drew)); exact Kd.R_mono HO_7.out (fun _ hk => hk.2)⟩, ⟨by (with_reducible repeat (first | apply Kd.R_alloc | apply Kd.R_drewN | apply Kd.R_drew)); exact Kd.R_mono HO121.out (fun _ hk => hk.2)⟩, ⟨by repeat (first | (with_reducible first | exact HB.out | apply below_alloc | apply pw_below_drewN | apply below_drew1) | exact HB.out)⟩⟩
         case round =>
          clear H'
          try clear c1
          try clear p2
          try clear c4
          try clear c5
          try clear c6
          try clear p6
          try clear c8
          try clear c8b0
          try clear c11
          try clear c11b0
          try clear c12
          try clear c14
          try clear c14b0
          try clear p2
          obtain ⟨x9_3, x10_3, rfl, HA, HK3, HO_7, HO_9, HB⟩ := hrel
          cases gk with
          | zero => exact absurd HA.out (by simp [tabularyref07_Put.l1])
          | succ k3 =>
           have H := HA.out
           clear HA
           simp only [tabularyref07_Put.l1] at H
           by_cases c18 : x10_3 ≥ 0
           ·rw [if_pos c18] at H
            have c18b0 : decide (0 ≤ x10_3) = true := decide_eq_true c18
            clear c18
            by_cases c19 : 0 ≤ x10_3
            ·rw [if_pos c19] at H
             have c19b0 : decide (0 ≤ x10_3) = true := decide_eq_true c19
             clear c19
             by_cases c20 : x10_3 < (x7_2.length : Int)
             ·rw [if_pos c20] at H
              have c20b0 : decide (x10_3 < (x7_2.length : Int)) = true := decide_eq_true c20
              clear c20
              by_cases c21 : x9_3.length < 140737488355328
              ·rw [if_pos c21] at H
               have LMc21 := Aside0.mk c21
               clear c21
               obtain ⟨y123, hy123⟩ : ∃ y_ : List Int, y_ = (x9_3 ++ [rd x7_2 x10_3]) := ⟨_, rfl⟩
               replace H : (tabularyref07_Put.l1 k3 x7_2 y123 (wrap64 (x10_3 - 1))) = some (r1, r2) := by first | (rw [hy123]; with_reducible exact H) | (have H2_ := (Option.bind_some _ _).symm.trans H; rw [hy123]; with_reducible exact H2_) | (have H2_ := (Option.bind_some _ _).symm.trans H; with_reducible exact H2_) | with_reducible exact H | (rw [hy123]; exact H) | exact H
               have Ny123 := Aside0.mk hy123
               clear hy123
               have H' := Aside0.mk H
               clear H
               have p122 : 0 ≤ (x10_3 : Int) := of_decide_eq_true (by first | (with_reducible assumption) | assumption)
               have q122 : x10_3 < (x7_2.length : Int) := of_decide_eq_true (by first | (with_reducible assumption) | assumption)
               obtain ⟨ad122, e122, hx122_0⟩ := Kd.at_int (Kd.R_reads' HO_7.out).2.2 x10_3 p122 q122
               cases e122
               replace p122 := eq_true p122
               replace q122 := eq_true q122
               go_wp2_with (first | ((with_reducible refine gate_builtin (b := .append) (xs := #[.tmp 49, .tmp 54]) rfl ?_); at_builtin; refine Kd.R_append (Kd.int .u8) (w0 := w) w.heap.size rfl (.tmp 49) (.tmp 54) 22 5 (.int .u8 0) 1 rfl Try.underlying22 info5 rfl (by decide) (by omega) u9 x9_3 (rd x7_2 x10_3) [.int .u8 (rd x7_2 x10_3)] (fun k_ => some k_ ≠ (.slice (some ad122) x7_2.length co17 : Value).ownBlock) (fun _ => False) rfl rfl ?aP (fun _ hk => hk.elim) ?aF ?aO ?aB ?aS ?aL ?_; (case aP => exact rfl); (case aB => exact (by repeat (first | (with_reducible first | exact HB.out | apply below_alloc | apply pw_below_drewN | apply below_drew1) | exact HB.out))); (case aF => exact (fun k_ hk => Kd.fresh' (Kd.R_lt (by (with_reducible repeat (first | apply Kd.R_alloc | apply Kd.R_drewN | apply Kd.R_drew)); exact HO_7.out)) k_ hk)); (case aO => exact (by (with_reducible repeat (first | apply Kd.R_alloc | apply Kd.R_drewN | apply Kd.R_drew)); exact HO_9.out)); (case aS => exact (below_size (by repeat (first | (with_reducible first | exact HB.out | apply below_alloc | apply pw_below_drewN | apply below_drew1) | exact HB.out)))); (case aL => have := LMc21.out; omega); intro v124 w22 ho hb hg hat; rw [← Ny123.out] at ho; have n0_ := Aside0.mk (Kd.R_after (ok := (fun _ => True)) (by (with_reducible repeat (first | apply Kd.R_alloc | apply Kd.R_drewN | apply Kd.R_drew)); exact Kd.R_mono HO_7.out (fun _ hk => ⟨trivial, hk⟩)) hg hat); have n1_ := Aside0.mk (hb); have n2_ := Aside0.mk (ho); clear HO_7; clear HB; clear HO_9; have HO_7 := n0_; have HB := n1_; have HO125 := n2_; clear n0_ n1_ n2_; clear ho hb hg hat))
               go_roundg k3
               case measure => have := HJ2.out; have := HK2.out; have := HK3.out; omega
               case rel => exact ⟨(y123), (wrap64 (x10_3 - 1)), (by first | rfl | (simp; done) | (simp [*]; done)), H', ⟨by have := HJ2.out; have := HK2.out; have := HK3.out; omega⟩, ⟨by (with_reducible repeat (first | apply Kd.R_alloc | apply Kd.R_drewN | apply Kd.R_drew)); exact Kd.R_mono HO_7.out (fun _ hk => hk.2)⟩, ⟨by (with_reducible repeat (first | apply Kd.R_alloc | apply Kd.R_drewN | apply Kd.R_drew)); exact HO125.out⟩, ⟨by repeat (first | (with_reducible first | exact HB.out | apply below_alloc | apply pw_below_drewN | apply below_drew1) | exact HB.out)⟩⟩
              ·rw [if_neg c21] at H
               exact absurd H (by simp)
             ·rw [if_neg c20] at H
              exact absurd H (by simp)
            ·rw [if_neg c19] at H
             exact absurd H (by simp)
           ·rw [if_neg c18] at H
            have c18b0 : decide (0 ≤ x10_3) = false := decide_eq_false c18
            clear c18
            simp only [Option.some.injEq, Prod.mk.injEq] at H
            obtain ⟨rfl, rfl⟩ := H
            go_wp2
            go_ret2
            exact ⟨_, by first | rfl | (simp [errW_none, errW_some] <;> rfl) | (simp [*, errW_none, errW_some] <;> rfl), by (with_reducible repeat (first | apply Kd.R_alloc | apply Kd.R_drewN | apply Kd.R_drew)); exact Kd.R_mono HO_9.out (fun _ hk => trivial), by repeat (first | (with_reducible first | exact HB.out | apply below_alloc | apply pw_below_drewN | apply below_drew1) | exact HB.out)⟩

/-! ### tabularyref10_number: function 33 -/
def tabularyref10_number.f (k : Nat) (l0 : List Int) (a1 : Int) (a2 : Int) : Option (List Int) := (tabularyref07_Put.f k a1 a2).bind fun bt126 => (if l0.length + bt126.1.length < 140737488355328 then (some (l0 ++ bt126.1)) else (none))
set_option maxHeartbeats 8000000 in
set_option maxRecDepth 100000 in
theorem tabularyref10_number.calls (k : Nat) (P0_ : Nat → Prop) (u9000_ : Value) (l0 : List Int) (a1 : Int) (a2 : Int) (r : List Int) (w0 w : World) (hB : Below w0.heap.size w0 w) (ho0 : Kd.R (Kd.int .u8) 5 w w0.heap.size P0_ u9000_ l0) (h : tabularyref10_number.f k l0 a1 a2 = some r) :
  Calls Try.prog 33 #[u9000_, .int .i64 a1, .int .i64 a2] w fun e w' => ∃ v0_ : Value, e = .returned (v0_) ∧ Kd.R (Kd.int .u8) 5 w' w0.heap.size (fun k_ => (P0_ k_ ∨ w.heap.size ≤ k_)) v0_ r ∧ Below w0.heap.size w0 w' ∧ Kept w w' (fun k_ => P0_ k_) := by
 have HO0 := Aside0.mk (show Kd.R (Kd.int .u8) 5 w w0.heap.size (fun k_ => (P0_ k_ ∨ w.heap.size ≤ k_)) u9000_ l0 from Kd.R_mono ho0 (fun k_ hk => (.inl hk)))
 have HK := Aside0.mk (Kept.refl w (fun k_ => P0_ k_))
 have HW0 := Aside0.mk hB.size
 have HB := Aside0.mk hB
 clear hB
 have H : ((tabularyref07_Put.f k a1 a2).bind fun bt126 => (if l0.length + bt126.1.length < 140737488355328 then (some (l0 ++ bt126.1)) else (none))) = some r := h
 clear h
 replace H := Option.bind_eq_some_iff.mp H
 obtain ⟨⟨t126, t127⟩, A40, H⟩ := H
 replace H : (if l0.length + t126.length < 140737488355328 then (some (l0 ++ t126)) else (none)) = some r := H
 have A4 := Aside0.mk A40
 clear A40
 by_cases c5 : l0.length + t126.length < 140737488355328
 ·rw [if_pos c5] at H
  have LMc5 := Aside0.mk c5
  clear c5
  obtain ⟨y130, hy130⟩ : ∃ y_ : List Int, y_ = (l0 ++ t126) := ⟨_, rfl⟩
  replace H : (some y130) = some r := by first | (rw [hy130]; with_reducible exact H) | (have H2_ := (Option.bind_some _ _).symm.trans H; rw [hy130]; with_reducible exact H2_) | (have H2_ := (Option.bind_some _ _).symm.trans H; with_reducible exact H2_) | with_reducible exact H | (rw [hy130]; exact H) | exact H
  have Ny130 := Aside0.mk hy130
  clear hy130
  obtain rfl := Option.some.inj H
  go_enter Try.func33, Try.ntmps33
  go_wp2_with (first | ((with_reducible refine gate_callee (f := 43) rfl ?_); refine goesL_ (some 12) rfl rfl Try.func43 (by kernel_rfl) rfl #[.int .i64 a1, .int .i64 a2] rfl (by (try simp only [List.map_toArray, List.map_cons, List.map_nil]); first | done | rfl | (simp only [List.length_drop, List.length_take]; rfl)) ?_; (with_reducible refine (tabularyref07_Put.calls k a1 a2 t126 t127 _ A4.out).mono ?_); rintro e w6 ⟨v128, rfl, ho0, hb⟩; refine ⟨_, rfl, ?_⟩; have n0_ := Aside0.mk (Kd.R_elder' (by (with_reducible repeat (first | apply Kd.R_alloc | apply Kd.R_drewN | apply Kd.R_drew)); exact HO0.out) (Kd.R_base ho0) hb); have n1_ := Aside0.mk (Kd.R_lower (Kd.R_new' (Kd.R_newM (M := fun k_ => (P0_ k_ ∨ w.heap.size ≤ k_)) ho0 (by first | exact HK.out.1 | exact (show Kept w _ (fun k_ => P0_ k_) from by repeat (first | (with_reducible first | exact HK.out | apply Kept.alloc | apply Kept.drewN | apply Kept.drew) | exact HK.out)).1) (fun k_ h_ => .inr h_)) (Kd.R_lt (by (with_reducible repeat (first | apply Kd.R_alloc | apply Kd.R_drewN | apply Kd.R_drew)); exact HO0.out))) (below_size (by repeat (first | (with_reducible first | exact HB.out | apply below_alloc | apply pw_below_drewN | apply below_drew1) | exact HB.out)))); have n2_ := Aside0.mk (Kept.below (S := (fun k_ => P0_ k_)) (by repeat (first | (with_reducible first | exact HK.out | apply Kept.alloc | apply Kept.drewN | apply Kept.drew) | exact HK.out)) hb); have n3_ := Aside0.mk (below_step (by repeat (first | (with_reducible first | exact HB.out | apply below_alloc | apply pw_below_drewN | apply below_drew1) | exact HB.out)) hb); clear HO0; clear HK; clear HB; have HO0 := n0_; have HO129 := n1_; have HK := n2_; have HB := n3_; clear n0_ n1_ n2_ n3_; (try clear hb); (try clear hb2); (try clear hk); (try clear hi); (try clear ho0); obtain ⟨Ao8, co8, eo8⟩ := Kd.R_slice HO129.out; subst eo8) | ((with_reducible refine gate_builtin (b := .append) (xs := #[.tmp 15, .tmp 16]) rfl ?_); at_builtin; refine Kd.R_append_rows (Kd.int .u8) (w0 := w0) w0.heap.size rfl (.tmp 15) (.tmp 16) 22 5 (.int .u8 0) 1 rfl Try.underlying22 info5 rfl (by decide) (by omega) u9000_ l0 t126 _ _ _ (fun k_ => (P0_ k_ ∨ w.heap.size ≤ k_) ∧ some k_ ≠ (.slice Ao8 t126.length co8 : Value).ownBlock) (fun _ => False) rfl rfl ?aO ?aR (fun _ _ h => h) (fun _ h => h.elim) ?aF ?aB ?aS ?aL ?_; (case aR => repeat (first | exact (Kd.R_reads' HO129.out).2.2 | (with_reducible refine Kd.C_alloc ?_ _) | (with_reducible refine Kd.C_drewN ?_ _) | (with_reducible refine Kd.C_drew ?_))); (case aB => exact (by repeat (first | (with_reducible first | exact HB.out | apply below_alloc | apply pw_below_drewN | apply below_drew1) | exact HB.out))); (case aF => exact (fun k_ hk => ⟨(.inr (Nat.le_trans (by first | exact HK.out.1 | exact (show Kept w _ (fun k_ => P0_ k_) from by repeat (first | (with_reducible first | exact HK.out | apply Kept.alloc | apply Kept.drewN | apply Kept.drew) | exact HK.out)).1) hk)), Kd.fresh' (Kd.R_lt (by (with_reducible repeat (first | apply Kd.R_alloc | apply Kd.R_drewN | apply Kd.R_drew)); exact HO129.out)) k_ hk⟩)); (case aO => exact (by (with_reducible repeat (first | apply Kd.R_alloc | apply Kd.R_drewN | apply Kd.R_drew)); exact HO0.out)); (case aS => exact (below_size (by repeat (first | (with_reducible first | exact HB.out | apply below_alloc | apply pw_below_drewN | apply below_drew1) | exact HB.out)))); (case aL => have := LMc5.out; omega); intro v131 w7 ho hb hg hat; rw [← Ny130.out] at ho; have n0_ := Aside0.mk (Kd.R_after (ok := (fun k_ => (P0_ k_ ∨ w.heap.size ≤ k_))) (by (with_reducible repeat (first | apply Kd.R_alloc | apply Kd.R_drewN | apply Kd.R_drew)); exact Kd.R_mono HO129.out (fun _ hk => ⟨hk.1.1, hk.2⟩)) hg hat); have n1_ := Aside0.mk (hb); have n2_ := Aside0.mk (Kept.of_grown (S := (fun k_ => P0_ k_)) hg (by repeat (first | (with_reducible first | exact HK.out | apply Kept.alloc | apply Kept.drewN | apply Kept.drew) | exact HK.out)) (fun k_ e_ => (HO0.out.1 k_ e_).1)); have n3_ := Aside0.mk (ho); clear HO129; clear HB; clear HK; clear HO0; have HO129 := n0_; have HB := n1_; have HK := n2_; have HO132 := n3_; clear n0_ n1_ n2_ n3_; clear ho hb hg hat))
  go_ret
  exact ⟨_, by first | rfl | (simp [errW_none, errW_some] <;> rfl) | (simp [*, errW_none, errW_some] <;> rfl), by (with_reducible repeat (first | apply Kd.R_alloc | apply Kd.R_drewN | apply Kd.R_drew)); exact Kd.R_mono HO132.out (fun _ hk => hk.1), by repeat (first | (with_reducible first | exact HB.out | apply below_alloc | apply pw_below_drewN | apply below_drew1) | exact HB.out), by repeat (first | (with_reducible first | exact HK.out | apply Kept.alloc | apply Kept.drewN | apply Kept.drew) | exact HK.out)⟩
 ·rw [if_neg c5] at H
  exact absurd H (by simp)

/-! ### tabularyref10_Seal: function 20 -/
def tabularyref10_Seal.f (k : Nat) (l0 : List Int) : Option (List Int) := if 148 ≤ (l0.length : Int) then (if ([] : List Int).length + (l0.take 148).length < 140737488355328 then ((tabularyref10_Sum.f k l0).bind fun t137 => ((tabularyref10_number.f k (([] : List Int) ++ (l0.take 148)) t137 7).bind fun t138 => (if t138.length < 140737488355328 then ((some (t138 ++ [32] : List Int)).bind fun y141 => (if 156 ≤ (l0.length : Int) then (if y141.length + (l0.drop 156).length < 140737488355328 then (some (y141 ++ (l0.drop 156))) else (none)) else (none))) else (none)))) else (none)) else (none)
set_option maxHeartbeats 8000000 in
set_option maxRecDepth 100000 in
theorem tabularyref10_Seal.calls (k : Nat) (A0 : Option Addr) (c0 : Nat) (l0 : List Int) (r : List Int) (w : World) (hr0 : Kd.C (Kd.int .u8) w A0 l0.length l0) (hc0 : l0.length ≤ c0) (h : tabularyref10_Seal.f k l0 = some r) :
  Calls Try.prog 20 #[.slice A0 l0.length c0] w fun e w' => ∃ v0_ : Value, e = .returned (v0_) ∧ Kd.R (Kd.int .u8) 5 w' w.heap.size (fun _ => True) v0_ r ∧ Below w.heap.size w w' := by
 have HR0 := Aside0.mk hr0
 have HC0 := Aside0.mk hc0
 clear hr0 hc0
 have HB := Aside0.mk (Below.refl w.heap.size w)
 have H : (if 148 ≤ (l0.length : Int) then (if ([] : List Int).length + (l0.take 148).length < 140737488355328 then ((tabularyref10_Sum.f k l0).bind fun t137 => ((tabularyref10_number.f k (([] : List Int) ++ (l0.take 148)) t137 7).bind fun t138 => (if t138.length < 140737488355328 then ((some (t138 ++ [32] : List Int)).bind fun y141 => (if 156 ≤ (l0.length : Int) then (if y141.length + (l0.drop 156).length < 140737488355328 then (some (y141 ++ (l0.drop 156))) else (none)) else (none))) else (none)))) else (none)) else (none)) = some r := h
 clear h
 by_cases c2 : 148 ≤ (l0.length : Int)
 ·rw [if_pos c2] at H
  have c2b0 := eq_true c2
  have c2b1 : decide (148 ≤ (l0.length : Int)) = true := decide_eq_true c2
  clear c2
  by_cases c3 : ([] : List Int).length + (l0.take 148).length < 140737488355328
  ·rw [if_pos c3] at H
   have LMc3 := Aside0.mk c3
   clear c3
   obtain ⟨y134, hy134⟩ : ∃ y_ : List Int, y_ = (([] : List Int) ++ (l0.take 148)) := ⟨_, rfl⟩
   replace H : ((tabularyref10_Sum.f k l0).bind fun t137 => ((tabularyref10_number.f k y134 t137 7).bind fun t138 => (if t138.length < 140737488355328 then ((some (t138 ++ [32] : List Int)).bind fun y141 => (if 156 ≤ (l0.length : Int) then (if y141.length + (l0.drop 156).length < 140737488355328 then (some (y141 ++ (l0.drop 156))) else (none)) else (none))) else (none)))) = some r := by first | (rw [hy134]; with_reducible exact H) | (have H2_ := (Option.bind_some _ _).symm.trans H; rw [hy134]; with_reducible exact H2_) | (have H2_ := (Option.bind_some _ _).symm.trans H; with_reducible exact H2_) | with_reducible exact H | (rw [hy134]; exact H) | exact H
   have Ny134 := Aside0.mk hy134
   clear hy134
   replace H := Option.bind_eq_some_iff.mp H
   obtain ⟨t137, A40, H⟩ := H
   replace H : ((tabularyref10_number.f k y134 t137 7).bind fun t138 => (if t138.length < 140737488355328 then ((some (t138 ++ [32] : List Int)).bind fun y141 => (if 156 ≤ (l0.length : Int) then (if y141.length + (l0.drop 156).length < 140737488355328 then (some (y141 ++ (l0.drop 156))) else (none)) else (none))) else (none))) = some r := H
   have A4 := Aside0.mk A40
   clear A40
   replace H := Option.bind_eq_some_iff.mp H
   obtain ⟨t138, A50, H⟩ := H
   replace H : (if t138.length < 140737488355328 then ((some (t138 ++ [32] : List Int)).bind fun y141 => (if 156 ≤ (l0.length : Int) then (if y141.length + (l0.drop 156).length < 140737488355328 then (some (y141 ++ (l0.drop 156))) else (none)) else (none))) else (none)) = some r := H
   have A5 := Aside0.mk A50
   clear A50
   by_cases c6 : t138.length < 140737488355328
   ·rw [if_pos c6] at H
    have LMc6 := Aside0.mk c6
    clear c6
    obtain ⟨y141, hy141⟩ : ∃ y_ : List Int, y_ = (t138 ++ [32]) := ⟨_, rfl⟩
    replace H : (if 156 ≤ (l0.length : Int) then (if y141.length + (l0.drop 156).length < 140737488355328 then (some (y141 ++ (l0.drop 156))) else (none)) else (none)) = some r := by first | (rw [hy141]; with_reducible exact H) | (have H2_ := (Option.bind_some _ _).symm.trans H; rw [hy141]; with_reducible exact H2_) | (have H2_ := (Option.bind_some _ _).symm.trans H; with_reducible exact H2_) | with_reducible exact H | (rw [hy141]; exact H) | exact H
    have Ny141 := Aside0.mk hy141
    clear hy141
    by_cases c7 : 156 ≤ (l0.length : Int)
    ·rw [if_pos c7] at H
     have c7b0 := eq_true c7
     have c7b1 : decide (156 ≤ (l0.length : Int)) = true := decide_eq_true c7
     clear c7
     by_cases c8 : y141.length + (l0.drop 156).length < 140737488355328
     ·rw [if_pos c8] at H
      have LMc8 := Aside0.mk c8
      clear c8
      obtain ⟨y145, hy145⟩ : ∃ y_ : List Int, y_ = (y141 ++ (l0.drop 156)) := ⟨_, rfl⟩
      replace H : (some y145) = some r := by first | (rw [hy145]; with_reducible exact H) | (have H2_ := (Option.bind_some _ _).symm.trans H; rw [hy145]; with_reducible exact H2_) | (have H2_ := (Option.bind_some _ _).symm.trans H; with_reducible exact H2_) | with_reducible exact H | (rw [hy145]; exact H) | exact H
      have Ny145 := Aside0.mk hy145
      clear hy145
      obtain rfl := Option.some.inj H
      obtain ⟨i09, hi09, _, hsz9, _⟩ := info_parts info5
      (try have hmn9 : min 148 l0.length = 148 := by (have h_ : (148 : Int) ≤ (l0.length : Int) := of_decide_eq_true (by first | (with_reducible assumption) | assumption)); omega)
      obtain ⟨hcut9, hA9, hC9⟩ := print_take_of (P := Try.prog) (Value.int .u8) 0 22 5 .i64 Try.underlying22 hi09 hsz9 A0 c0 l0 148 (by omega) (of_decide_eq_true (by first | (with_reducible assumption) | assumption)) HC0.out
      have HR133 := Aside0.mk (Kd.C_of_reads (h1 := fun _ => rfl) (hA9 _ (Kd.reads_of_C HR0.out)))
      have HC133 := Aside0.mk hC9
      clear hA9 hC9 hi09 hsz9
      go_enter Try.func20, Try.ntmps20
      go_wp2_with (first | ((with_reducible refine gate_builtin (b := .append) (xs := #[.tmp 4, .tmp 6]) rfl ?_); at_builtin; refine Kd.R_append_rows (Kd.int .u8) (w0 := w) w.heap.size rfl (.tmp 4) (.tmp 6) 22 5 (.int .u8 0) 1 rfl Try.underlying22 info5 rfl (by decide) (by omega) (.slice none 0 0) ([] : List Int) (l0.take 148) _ _ _ (fun _ => True) (fun _ => False) rfl rfl ?aO ?aR (fun _ _ h => h) (fun _ h => h.elim) ?aF ?aB ?aS ?aL ?_; (case aR => first | ((refine Eq.mp (congrArg (fun z_ => Kd.C _ _ _ z_ _) (show (l0.take 148).length = 148 from (by rw [List.length_take]; have h_ : (148 : Int) ≤ (l0.length : Int) := of_decide_eq_true (by first | (with_reducible assumption) | assumption); omega))) ?_); (repeat (first | exact HR133.out | (with_reducible refine Kd.C_alloc ?_ _) | (with_reducible refine Kd.C_drewN ?_ _) | (with_reducible refine Kd.C_drew ?_))); done) | (rw [← show (l0.take 148).length = 148 from (by rw [List.length_take]; have h_ : (148 : Int) ≤ (l0.length : Int) := of_decide_eq_true (by first | (with_reducible assumption) | assumption); omega)]; repeat (first | exact HR133.out | (with_reducible refine Kd.C_alloc ?_ _) | (with_reducible refine Kd.C_drewN ?_ _) | (with_reducible refine Kd.C_drew ?_)); done) | (repeat (first | exact HR133.out | (with_reducible refine Kd.C_alloc ?_ _) | (with_reducible refine Kd.C_drewN ?_ _) | (with_reducible refine Kd.C_drew ?_)))); (case aB => exact (by repeat (first | (with_reducible first | exact HB.out | apply below_alloc | apply pw_below_drewN | apply below_drew1) | exact HB.out))); (case aF => exact (fun _ _ => trivial)); (case aO => exact ((Kd.R_nil _ _ _ _ (fun _ => True)))); (case aS => exact (below_size (by repeat (first | (with_reducible first | exact HB.out | apply below_alloc | apply pw_below_drewN | apply below_drew1) | exact HB.out)))); (case aL => have := LMc3.out; have hlx_ := (show (l0.take 148).length = 148 from (by rw [List.length_take]; have h_ : (148 : Int) ≤ (l0.length : Int) := of_decide_eq_true (by first | (with_reducible assumption) | assumption); omega)); omega); intro v135 w10 ho hb hg hat; rw [← Ny134.out] at ho; have n0_ := Aside0.mk (hb); have n1_ := Aside0.mk (ho); clear HB; have HB := n0_; have HO136 := n1_; clear n0_ n1_; clear ho hb hg hat) | ((with_reducible refine gate_callee (f := 18) rfl ?_); refine goesL_ (some 10) rfl rfl Try.func18 (by kernel_rfl) rfl #[.slice A0 l0.length c0] rfl (by (try simp only [List.map_toArray, List.map_cons, List.map_nil]); first | done | rfl | (simp only [List.length_drop, List.length_take]; rfl)) ?_; (with_reducible refine (tabularyref10_Sum.calls k _ _ l0 t137 _ ?side1 ?side2 A4.out).mono ?_); (case side1 => repeat (first | exact (Kd.C_below HR0.out HB.out) | (with_reducible refine Kd.C_alloc ?_ _) | (with_reducible refine Kd.C_drewN ?_ _) | (with_reducible refine Kd.C_drew ?_))); (case side2 => exact HC0.out); rintro e w' ⟨rfl, ⟨nd, rfl⟩⟩; refine ⟨_, rfl, ?_⟩; obtain ⟨Ao11, co11, eo11⟩ := Kd.R_slice HO136.out; subst eo11) | ((with_reducible refine gate_callee (f := 33) rfl ?_); refine goesL_ (some 11) rfl rfl Try.func33 (by kernel_rfl) rfl #[.slice Ao11 y134.length co11, .int .i64 t137, .int .i64 7] rfl (by (try simp only [List.map_toArray, List.map_cons, List.map_nil]); first | done | rfl | (simp only [List.length_drop, List.length_take]; rfl)) ?_; (with_reducible refine (tabularyref10_number.calls k (fun k_ => some k_ = (.slice Ao11 y134.length co11 : Value).ownBlock) (.slice Ao11 y134.length co11) y134 t137 7 t138 w _ ?side1 ?side2 A5.out).mono ?_); (case side1 => repeat (first | (with_reducible first | exact HB.out | apply below_alloc | apply pw_below_drewN | apply below_drew1) | exact HB.out)); (case side2 => exact Kd.R_tight rfl HO136.out); rintro e w12 ⟨v139, rfl, ho0, hb, hkp⟩; refine ⟨_, rfl, ?_⟩; have n0_ := Aside0.mk (Kd.R_mono (ok' := fun k_ => True) ho0 (fun k_ hk_ => trivial)); have n1_ := Aside0.mk (hb); clear HB; clear HO136; have HO140 := n0_; have HB := n1_; clear n0_ n1_; (try clear hb); (try clear hkp); (try clear ho0)) | ((with_reducible refine gate_builtin (b := .append) (xs := #[.tmp 12, .tmp 13]) rfl ?_); at_builtin; refine Kd.R_append (Kd.int .u8) (w0 := w) w.heap.size rfl (.tmp 12) (.tmp 13) 22 5 (.int .u8 0) 1 rfl Try.underlying22 info5 rfl (by decide) (by omega) v139 t138 32 [.int .u8 32] (fun _ => True) (fun _ => False) rfl rfl ?aP (fun _ hk => hk.elim) ?aF ?aO ?aB ?aS ?aL ?_; (case aP => exact rfl); (case aB => exact (by repeat (first | (with_reducible first | exact HB.out | apply below_alloc | apply pw_below_drewN | apply below_drew1) | exact HB.out))); (case aF => exact (fun _ _ => trivial)); (case aO => exact (by (with_reducible repeat (first | apply Kd.R_alloc | apply Kd.R_drewN | apply Kd.R_drew)); exact HO140.out)); (case aS => exact (below_size (by repeat (first | (with_reducible first | exact HB.out | apply below_alloc | apply pw_below_drewN | apply below_drew1) | exact HB.out)))); (case aL => have := LMc6.out; omega); intro v142 w13 ho hb hg hat; rw [← Ny141.out] at ho; have n0_ := Aside0.mk (hb); have n1_ := Aside0.mk (ho); clear HB; clear HO140; have HB := n0_; have HO143 := n1_; clear n0_ n1_; clear ho hb hg hat; obtain ⟨i014, hi014, _, hsz14, _⟩ := info_parts info5; obtain ⟨A14, hcut14, hA14, hC14⟩ := print_drop_of (P := Try.prog) (Value.int .u8) 0 22 5 .i64 Try.underlying22 hi014 hsz14 A0 c0 l0 156 (by omega) (of_decide_eq_true (by first | (with_reducible assumption) | assumption)) HC0.out; have HR144 := Aside0.mk (Kd.C_of_reads (h1 := fun _ => rfl) (hA14 _ (Kd.reads_of_C HR0.out))); have HC144 := Aside0.mk hC14; clear hA14 hC14 hi014 hsz14) | ((with_reducible refine gate_builtin (b := .append) (xs := #[.tmp 15, .tmp 17]) rfl ?_); at_builtin; refine Kd.R_append_rows (Kd.int .u8) (w0 := w) w.heap.size rfl (.tmp 15) (.tmp 17) 22 5 (.int .u8 0) 1 rfl Try.underlying22 info5 rfl (by decide) (by omega) v142 y141 (l0.drop 156) _ _ _ (fun _ => True) (fun _ => False) rfl rfl ?aO ?aR (fun _ _ h => h) (fun _ h => h.elim) ?aF ?aB ?aS ?aL ?_; (case aR => first | ((refine Eq.mp (congrArg (fun z_ => Kd.C _ _ _ z_ _) (show (l0.drop 156).length = (l0.length - 156) from List.length_drop)) ?_); (repeat (first | exact (Kd.C_below HR144.out HB.out) | (with_reducible refine Kd.C_alloc ?_ _) | (with_reducible refine Kd.C_drewN ?_ _) | (with_reducible refine Kd.C_drew ?_))); done) | (rw [← show (l0.drop 156).length = (l0.length - 156) from List.length_drop]; repeat (first | exact (Kd.C_below HR144.out HB.out) | (with_reducible refine Kd.C_alloc ?_ _) | (with_reducible refine Kd.C_drewN ?_ _) | (with_reducible refine Kd.C_drew ?_)); done) | (repeat (first | exact (Kd.C_below HR144.out HB.out) | (with_reducible refine Kd.C_alloc ?_ _) | (with_reducible refine Kd.C_drewN ?_ _) | (with_reducible refine Kd.C_drew ?_)))); (case aB => exact (by repeat (first | (with_reducible first | exact HB.out | apply below_alloc | apply pw_below_drewN | apply below_drew1) | exact HB.out))); (case aF => exact (fun _ _ => trivial)); (case aO => exact (by (with_reducible repeat (first | apply Kd.R_alloc | apply Kd.R_drewN | apply Kd.R_drew)); exact HO143.out)); (case aS => exact (below_size (by repeat (first | (with_reducible first | exact HB.out | apply below_alloc | apply pw_below_drewN | apply below_drew1) | exact HB.out)))); (case aL => have := LMc8.out; have hlx_ := (show (l0.drop 156).length = (l0.length - 156) from List.length_drop); omega); intro v146 w15 ho hb hg hat; rw [← Ny145.out] at ho; have n0_ := Aside0.mk (hb); have n1_ := Aside0.mk (ho); clear HB; clear HO143; have HB := n0_; have HO147 := n1_; clear n0_ n1_; clear ho hb hg hat))
      go_ret
      exact ⟨_, by first | rfl | (simp [errW_none, errW_some] <;> rfl) | (simp [*, errW_none, errW_some] <;> rfl), by (with_reducible repeat (first | apply Kd.R_alloc | apply Kd.R_drewN | apply Kd.R_drew)); exact HO147.out, by repeat (first | (with_reducible first | exact HB.out | apply below_alloc | apply pw_below_drewN | apply below_drew1) | exact HB.out)⟩
     ·rw [if_neg c8] at H
      exact absurd H (by simp)
    ·rw [if_neg c7] at H
     exact absurd H (by simp)
   ·rw [if_neg c6] at H
    exact absurd H (by simp)
  ·rw [if_neg c3] at H
   exact absurd H (by simp)
 ·rw [if_neg c2] at H
  exact absurd H (by simp)

end Go.Proofs.Ytdmpbfhbjklajaa.PSeal
end

-- Written by wip/tools/myprint.py, a program of this session over the print tool: not a printed text of the kit's
section
namespace Go.Proofs.Ytdmpbfhbjklajaa.PSeal
open Go.RowKit Go.Proofs.YtdmpbfhbjklajaaW.PrintWords Go.Proofs.YtdmpbfhbjklajaaW.PrintLast Go.Proofs.YtdmpbfhbjklajaaW.PrintMore
attribute [local go_sem] max2_int min2_int max_two min_two max_three min_three max_four min_four   -- for this text's walks alone
set_option linter.unusedVariables false
set_option linter.unusedSimpArgs false
set_option maxRecDepth 20000

end Go.Proofs.Ytdmpbfhbjklajaa.PSeal
end

/- The document's Put in plain words. -/
section
namespace Go.Proofs.Ytdmpbfhbjklajaa.RefPure
open Go.Proofs.Ytdmpbfhbjklajaa Go.RowKit Go.Proofs.YtdmpbfhbjklajaaW.PrintWords Go.Proofs.YtdmpbfhbjklajaaW.PrintLast Go.Proofs.YtdmpbfhbjklajaaW.PrintMore Go.Proofs.Ytdmpbfhbjklajaa.PSeal Go.Proofs.Ytdmpbfhbjklajaa.OctPure
set_option linter.unusedVariables false
set_option linter.unusedSimpArgs false

theorem field_ref (w : Int) : tabularyref07_Field.f w = some (decide (2 ≤ w ∧ w ≤ 12)) := by
  unfold tabularyref07_Field.f
  by_cases h : w ≥ 2
  · rw [if_pos h]; congr 1; simp [h]
  · rw [if_neg h]; congr 1; simp; omega

theorem most_ref (w : Int) (k : Nat) (hk : 20 < k) : tabularyref07_Most.f k w = some (if 2 ≤ w ∧ w ≤ 12 then 8 ^ (w - 1).toNat - 1 else -1) := by
  refine at_rounds (tabularyref07_Most.mono w) (k := 20) (by omega) ?_
  by_cases h : 2 ≤ w ∧ w ≤ 12
  · have : w = 2 ∨ w = 3 ∨ w = 4 ∨ w = 5 ∨ w = 6 ∨ w = 7 ∨ w = 8 ∨ w = 9 ∨ w = 10 ∨ w = 11 ∨ w = 12 := by omega
    rcases this with rfl | rfl | rfl | rfl | rfl | rfl | rfl | rfl | rfl | rfl | rfl <;> decide +kernel
  · unfold tabularyref07_Most.f
    rw [field_ref, if_neg h]
    simp only [Option.bind_some]
    rw [if_neg (by simpa using h)]

/-- c octal digits of x, by places. -/
def digr : Nat → Int → List Int
  | 0, _ => []
  | c + 1, x => (48 + x / 8 ^ c % 8) :: digr c x

theorem digr_step (c : Nat) : ∀ x, digr (c + 1) x = digr c (x / 8) ++ [48 + x % 8] := by
  induction c with
  | zero => intro x; simp [digr]
  | succ c ih =>
    intro x
    rw [digr, ih x, digr]
    have e : x / 8 ^ (c + 1) = x / 8 / 8 ^ c := by
      rw [Int.pow_succ, Int.mul_comm, Int.ediv_ediv_of_nonneg (by decide)]
    rw [e]
    rfl

theorem digr_eq (c : Nat) : ∀ x, digr c x = digs c x := by
  induction c with
  | zero => intro x; rfl
  | succ c ih => intro x; rw [digr_step, ih, digs]

theorem pow8 (c : Nat) (h : c ≤ 12) : (8 : Int) ^ c ≤ 68719476736 ∧ (1 : Int) ≤ 8 ^ c := by
  have : c = 0 ∨ c = 1 ∨ c = 2 ∨ c = 3 ∨ c = 4 ∨ c = 5 ∨ c = 6 ∨ c = 7 ∨ c = 8 ∨ c = 9 ∨ c = 10 ∨ c = 11 ∨ c = 12 := by omega
  rcases this with rfl | rfl | rfl | rfl | rfl | rfl | rfl | rfl | rfl | rfl | rfl | rfl | rfl <;> decide

theorem plain_step (k : Nat) (n w : Int) (l : List Int) (p i : Int) (hl : l.length ≤ 100) (hw : w ≤ 1000) (h0 : 0 ≤ n) (h1 : n ≤ 9223372036854775807)
    (hp : 1 ≤ p ∧ p ≤ 68719476736) (hi : 1 ≤ i) (hiw : i < w) : tabularyref07_plain.l0 (k + 1) n w l p i =
      if p / 8 = 0 then tabularyref07_plain.l0 k n w (l ++ [48 + n / p % 8]) 1 (i + 1) else tabularyref07_plain.l0 k n w (l ++ [48 + n / p % 8]) (p / 8) (i + 1) := by
  have hq0 : 0 ≤ n / p := Int.ediv_nonneg h0 (by omega)
  have hq1 : n / p ≤ n := Int.ediv_le_self _ h0
  generalize hq : n / p = q at *
  have t1 : wrap64 (Int.tdiv n p) = q := by rw [Int.tdiv_eq_ediv_of_nonneg h0, hq, w64 ⟨by omega, by omega⟩]
  have t2 : wrap64 (Int.tdiv p 8) = p / 8 := by rw [Int.tdiv_eq_ediv_of_nonneg (by omega), w64 ⟨by omega, by omega⟩]
  have t3 : wrap64 (i + 1) = i + 1 := w64 ⟨by omega, by omega⟩
  have t4 : wrap64 (48 + q % 8) = 48 + q % 8 := w64 ⟨by omega, by omega⟩
  have t5 : (48 + q % 8) % 256 = 48 + q % 8 := by omega
  simp only [tabularyref07_plain.l0]
  rw [if_pos hiw, if_neg (show ¬ p = 0 by omega), if_pos (show l.length < 140737488355328 by omega)]
  simp only [Option.bind_some]
  rw [t1, t2, t3, Int.tmod_eq_emod_of_nonneg hq0, t4, t5]

theorem plain_l0 (c : Nat) : ∀ (k : Nat) (n w : Int) (l : List Int) (u i : Int), c < k → c ≤ 12 → l.length + c ≤ 100 → w ≤ 1000 → 0 ≤ n → n ≤ 9223372036854775807 →
    w - i = c → (1 ≤ i) → (c = 0 ∨ u = 8 ^ (c - 1)) → tabularyref07_plain.l0 k n w l u i = some (l ++ digr c n ++ [0]) := by
  induction c with
  | zero =>
    intro k n w l u i hk hc hl hw h0 h1 hi hi1 hu
    obtain ⟨k, rfl⟩ : ∃ m, k = m + 1 := ⟨k - 1, by omega⟩
    simp only [tabularyref07_plain.l0]
    rw [if_neg (show ¬ i < w by omega), if_pos (show l.length < 140737488355328 by omega)]
    simp [digr]
  | succ c ih =>
    intro k n w l u i hk hc hl hw h0 h1 hi hi1 hu
    obtain ⟨k, rfl⟩ : ∃ m, k = m + 1 := ⟨k - 1, by omega⟩
    have hu' : u = 8 ^ c := by rcases hu with h | h; omega; simpa using h
    subst hu'
    have hp := pow8 c (by omega)
    rw [plain_step k n w l _ i (by omega) hw h0 h1 ⟨hp.2, hp.1⟩ hi1 (by omega)]
    have hlen : (l ++ [48 + n / 8 ^ c % 8]).length = l.length + 1 := by simp
    have hd : l ++ [48 + n / 8 ^ c % 8] ++ digr c n ++ [0] = l ++ digr (c + 1) n ++ [0] := by simp [digr]
    generalize l ++ [48 + n / 8 ^ c % 8] = l' at *
    rw [← hd]
    clear hd
    cases c with
    | zero =>
      rw [if_pos (by decide)]
      exact ih k n w l' _ _ (by omega) (by omega) (by omega) hw h0 h1 (by omega) (by omega) (.inl rfl)
    | succ b =>
      have hb := pow8 b (by omega)
      have e3 : (8 : Int) ^ (b + 1) / 8 = 8 ^ b := by rw [Int.pow_succ]; exact Int.mul_ediv_cancel _ (by decide)
      rw [e3, if_neg (by omega)]
      exact ih k n w l' _ _ (by omega) (by omega) (by omega) hw h0 h1 (by omega) (by omega) (.inr rfl)

/-- c bytes of x, the lowest first. -/
def lows : Nat → Int → List Int
  | 0, _ => []
  | c + 1, x => x % 256 :: lows c (x / 256)

theorem lows_length (c : Nat) : ∀ x, (lows c x).length = c := by
  induction c with
  | zero => intro x; rfl
  | succ c ih => intro x; simp [lows, ih]

theorem lows_rev (c : Nat) : ∀ x, (lows c x).reverse = byts c x := by
  induction c with
  | zero => intro x; rfl
  | succ c ih => intro x; simp [lows, byts, ih]

theorem rput_l1 (c : Nat) : ∀ (k : Nat) (s l : List Int), c < k → c ≤ s.length → s.length ≤ 1000 → l.length + c ≤ 1000 →
    tabularyref07_Put.l1 k s l ((c : Int) - 1) = some (l ++ (s.take c).reverse, 0) := by
  induction c with
  | zero =>
    intro k s l hk hs hs1 hl
    obtain ⟨k, rfl⟩ : ∃ m, k = m + 1 := ⟨k - 1, by omega⟩
    simp only [tabularyref07_Put.l1]
    rw [if_neg (by omega)]
    simp
  | succ c ih =>
    intro k s l hk hs hs1 hl
    obtain ⟨k, rfl⟩ : ∃ m, k = m + 1 := ⟨k - 1, by omega⟩
    simp only [tabularyref07_Put.l1]
    have e : ((c + 1 : Nat) : Int) - 1 = (c : Int) := by omega
    have hr : rd s (c : Int) = s[c]'(by omega) := by unfold rd; simp [List.getD_eq_getElem?_getD, List.getElem?_eq_getElem (show c < s.length by omega)]
    have t1 : wrap64 ((c : Int) - 1) = c - 1 := w64 ⟨by omega, by omega⟩
    rw [e, if_pos (by omega), if_pos (by omega), if_pos (by omega), if_pos (by omega), t1, ih k _ _ (by omega) (by omega) hs1 (by simp; omega), hr, List.take_succ_eq_append_getElem (show c < s.length by omega), List.reverse_append]
    simp

theorem rput_l0 (c : Nat) : ∀ (k : Nat) (x w : Int) (l : List Int) (i : Int), c + 20 < k → l.length + c ≤ 12 → w ≤ 1000 → 0 ≤ x → x ≤ 9223372036854775807 → w - i = c → 1 ≤ i →
    tabularyref07_Put.l0 k x w l i = if left c x = 0 then some (128 :: (l ++ lows c x).reverse, 0) else some ([], 2) := by
  induction c with
  | zero =>
    intro k x w l i hk hl hw h0 h1 hi hi1
    obtain ⟨k, rfl⟩ : ∃ m, k = m + 1 := ⟨k - 1, by omega⟩
    simp only [tabularyref07_Put.l0]
    rw [if_neg (by omega)]
    have hleft : left 0 x = x := rfl
    rw [hleft, lows]
    by_cases hx : x = 0
    · rw [if_neg (show ¬ x > 0 by omega), if_pos hx, w64 ⟨by omega, by omega⟩, rput_l1 l.length k l _ (by omega) (by omega) (by omega) (by simp; omega)]
      simp
    · rw [if_pos (by omega), if_neg hx]
  | succ c ih =>
    intro k x w l i hk hl hw h0 h1 hi hi1
    obtain ⟨k, rfl⟩ : ∃ m, k = m + 1 := ⟨k - 1, by omega⟩
    simp only [tabularyref07_Put.l0]
    have t1 : wrap64 (x / 256) = x / 256 := w64 (by omega)
    have t3 : wrap64 (i + 1) = i + 1 := w64 (by omega)
    rw [if_pos (by omega), if_pos (by omega), Int.tdiv_eq_ediv_of_nonneg h0, Int.tmod_eq_emod_of_nonneg h0, t1, t3,
      ih k _ w _ _ (by omega) (by simp; omega) hw (by omega) (by omega) (by omega) (by omega)]
    have e : x % 256 % 256 = x % 256 := by omega
    rw [e]
    simp [left, lows]

theorem rput (n w : Int) (hn : -9223372036854775808 ≤ n ∧ n ≤ 9223372036854775807) (k : Nat) (hk : 60 < k) : tabularyref07_Put.f k n w = some (putS n w) := by
  obtain ⟨k, rfl⟩ : ∃ m, k = m + 1 := ⟨k - 1, by omega⟩
  unfold tabularyref07_Put.f putS
  rw [field_ref]
  simp only [Option.bind_some]
  by_cases hw : 2 ≤ w ∧ w ≤ 12
  · rw [if_pos (by simpa using hw)]
    simp only [tabularyref07_Put.j0]
    by_cases h0 : 0 ≤ n
    · rw [if_neg (by simp; omega), if_pos ⟨hw.1, hw.2, h0⟩, most_ref w k (by omega), if_pos hw]
      simp only [Option.bind_some]
      obtain ⟨m, hm⟩ : ∃ m : Nat, w = m + 1 := ⟨(w - 1).toNat, by omega⟩
      have hm1 : (w - 1).toNat = m := by omega
      rw [hm1]
      by_cases h2 : n ≤ 8 ^ m - 1
      · rw [if_pos h2, if_pos h2]
        unfold tabularyref07_plain.f
        rw [most_ref w k (by omega), if_pos hw, hm1]
        simp only [Option.bind_some]
        have hp := pow8 m (by omega)
        obtain ⟨b, rfl⟩ : ∃ b, m = b + 1 := ⟨m - 1, by omega⟩
        have hb := pow8 b (by omega)
        have e3 : wrap64 (Int.tdiv (wrap64 ((8 : Int) ^ (b + 1) - 1 + 1)) 8) = 8 ^ b := by
          have e : (8 : Int) ^ (b + 1) - 1 + 1 = 8 ^ b * 8 := by rw [Int.pow_succ]; omega
          have t1 : wrap64 ((8 : Int) ^ b * 8) = 8 ^ b * 8 := w64 ⟨by omega, by omega⟩
          rw [e, t1, Int.tdiv_eq_ediv_of_nonneg (by omega), Int.mul_ediv_cancel _ (by decide), w64 ⟨by omega, by omega⟩]
        rw [e3, plain_l0 (b + 1) k n w [] _ _ (by omega) (by omega) (by simp; omega) (by omega) h0 hn.2 (by omega) (by omega) (.inr (by simp)), digr_eq]
        simp
      · rw [if_neg h2, if_neg h2, rput_l0 m k n w [] 1 (by omega) (by simp; omega) (by omega) h0 hn.2 (by omega) (by omega)]
        simp [lows_rev]
        split <;> rfl
    · rw [if_pos (by simp; omega), if_neg (by omega)]
  · rw [if_neg (by simpa using hw), if_neg (by omega)]
    simp only [tabularyref07_Put.j0, if_true]

end Go.Proofs.Ytdmpbfhbjklajaa.RefPure
end

/- The document's own bytes of a head: texts and numbers behind one another, sealed. -/
section
namespace Go.Proofs.Ytdmpbfhbjklajaa.RefLay
open Go.Proofs.Ytdmpbfhbjklajaa Go.RowKit Go.Proofs.YtdmpbfhbjklajaaW.PrintWords Go.Proofs.YtdmpbfhbjklajaaW.PrintLast Go.Proofs.YtdmpbfhbjklajaaW.PrintMore Go.Proofs.Ytdmpbfhbjklajaa.Byt Go.Proofs.Ytdmpbfhbjklajaa.OctPure Go.Proofs.Ytdmpbfhbjklajaa.Head
set_option linter.unusedVariables false
set_option linter.unusedSimpArgs false

theorem own_append_str {ops : Array Oper} {rs : List Oper} {o : Oper} {a : Act} {w0 w : World} {Q : Exit → Act → World → Prop} (hgd : o.guard = none) (s x : Operand)
    (ho : o.op = .call { callee := .builtin .append, args := #[s, x], argTypes := #[TB, 9] }) (base : Nat) (v : Value) (l : List Int) (y : ByteArray) (hs : a.eval s = v) (hx : a.eval x = .string y)
    (HO : OWN w base v l) (HB : Below base w0 w) (hbase : base ≤ w.heap.size) (hl : l.length + y.size ≤ 100000000)
    (h : ∀ v1 w1, OWN w1 base v1 (l ++ bytesOf y) → Below base w0 w1 → w.heap.size ≤ w1.heap.size → wpList Try.prog ops Q rs (a.put o.dst v1) w1) : wpList Try.prog ops Q (o :: rs) a w := by
  refine print_append_str (w0 := w0) base hgd s x TB 9 5 ho Try.underlying22 Try.underlying9 info5 v l y hs hx (Kd.own_of_R HO) HB hbase (by omega) ?_
  intro v1 w1 h1 h2 h3
  exact h v1 w1 (Kd.R_of_own (h1 := fun _ => rfl) (ok := fun _ => True) h1 (fun _ _ => trivial)) h2 h3.size

/-- A text in its place, noughts behind it. -/
def tx (s : ByteArray) (wd : Nat) : List Int := bytesOf s ++ List.replicate (wd - s.size) 0
set_option maxRecDepth 100000 in
set_option maxHeartbeats 4000000 in
theorem text_gen (base : Nat) (w0 : World) (v : Value) (l R : List Int) (s : ByteArray) (wi : Int) (wd : Nat) (hwi : wi = (wd : Int)) (W : World) (hR : R = l ++ tx s wd) (hs : s.size ≤ wd) (hwd : wd ≤ 1000) (hll : l.length ≤ 100000)
    (ho : OWN W base v l) (hb : Below base w0 W) (hbase : base ≤ W.heap.size) :
    Calls Try.prog 46 #[v, .string s, .int .i64 wi] W fun e w' => ∃ v', e = .returned v' ∧ OWN w' base v' R ∧ Below base w0 w' ∧ W.heap.size ≤ w'.heap.size := by
  subst hwi
  have HO := Lib.hid ho
  have HB := Lib.hid hb
  have HR := Lib.hid (show R = l ++ (bytesOf s ++ List.replicate (wd - s.size) 0) from hR)
  clear ho hb hR
  go_enter Try.func46, Try.ntmps46
  go_wp2_with ((with_reducible refine gate_builtin (b := .append) (xs := #[.tmp 8, .tmp 9]) rfl ?_); refine own_append_str (w0 := w0) rfl (.tmp 8) (.tmp 9) rfl base v l s rfl rfl HO.out HB.out hbase (by omega) ?_; intro v1 w1 ho1 hb1 hz1; have HO1 := Lib.hid ho1; have HB1 := Lib.hid hb1; clear ho1 hb1)
  go_loopw [0, 7] (fun v0 v7 wr => ∃ (k : Nat), s.size + k ≤ wd ∧ v7 = .int .i64 ((s.size + k : Nat) : Int) ∧ OWN wr base v0 (l ++ (bytesOf s ++ List.replicate k 0)) ∧ Below base w0 wr ∧ W.heap.size ≤ wr.heap.size) (fun _ v7 _ => wd - (intOf v7).toNat)
  case atStart => exact ⟨0, by omega, rfl, by simpa using HO1.out, HB1.out, hz1⟩
  case round =>
    obtain ⟨k, hk, rfl, ho, hb, hz⟩ := hrel
    have HOk := Lib.hid ho
    have HBk := Lib.hid hb
    obtain ⟨i, hi⟩ : ∃ i : Nat, i = s.size + k := ⟨_, rfl⟩
    rw [← hi]
    have HI := Lib.hid hi
    clear ho hb hi
    by_cases hlt : i < wd
    · go_wp2_with ((with_reducible refine gate_builtin (b := .append) (xs := #[.tmp 18, .tmp 19]) rfl ?_); refine own_append (w0 := w0) rfl (.tmp 18) (.tmp 19) rfl base u0 _ [0] _ _ rfl rfl (HOk.out.alloc _) (bytes_new wr 5 [0] (0, 0)) (HBk.out.alloc (Nat.le_trans hbase hz) _) (by simp; omega) (by rw [List.length_append, List.length_append, bytesOf_length, List.length_replicate]; simp; have := HI.out; omega) ?_; intro v8 w8 ho8 hb8 hg8; have HO8 := Lib.hid ho8; have HB8 := Lib.hid hb8; have HZ8 := Lib.hid (show W.heap.size ≤ w8.heap.size by have := hg8.size; simp at this; omega); clear ho8 hb8 hg8)
      go_roundw
      case rel =>
        refine ⟨k + 1, by have := HI.out; omega, by rw [HI.out]; go_num, ?_, HB8.out, HZ8.out⟩
        have := HO8.out
        rwa [List.append_assoc, List.append_assoc, ← List.replicate_succ'] at this
      case measure => simp [intOf]; have := HI.out; omega
    · have HE := Lib.hid (show k = wd - s.size by have := HI.out; omega)
      go_wp2
      go_ret
      refine ⟨_, rfl, ?_, HBk.out, hz⟩
      rw [HR.out, ← HE.out]
      exact HOk.out

theorem rput_any (n w : Int) (hn : -9223372036854775808 ≤ n ∧ n ≤ 9223372036854775807) (W : World) :
    Calls Try.prog 43 #[.int .i64 n, .int .i64 w] W fun e w' => ∃ A c, e = .returned (.tuple #[.slice A (putS n w).1.length c, .int .i64 (putS n w).2]) ∧ RC w' A (putS n w).1 ∧ Below W.heap.size W w' := by
  refine (PSeal.tabularyref07_Put.calls 61 n w _ _ W (RefPure.rput n w hn 61 (by decide))).mono ?_
  rintro e w' ⟨v, rfl, ho, hb⟩
  obtain ⟨A, c, rfl⟩ := Kd.R_slice ho
  exact ⟨A, c, rfl, RC.of_C (Kd.R_reads' ho).2.2, hb⟩
set_option maxRecDepth 100000 in
set_option maxHeartbeats 4000000 in
theorem number_gen (base : Nat) (w0 : World) (v : Value) (l R m : List Int) (n wi : Int) (W : World) (hm : m = (putS n wi).1) (hR : R = l ++ m) (hn : -9223372036854775808 ≤ n ∧ n ≤ 9223372036854775807) (hll : l.length ≤ 100000)
    (ho : OWN W base v l) (hb : Below base w0 W) (hbase : base ≤ W.heap.size) :
    Calls Try.prog 33 #[v, .int .i64 n, .int .i64 wi] W fun e w' => ∃ v', e = .returned v' ∧ OWN w' base v' R ∧ Below base w0 w' ∧ W.heap.size ≤ w'.heap.size := by
  have HO := Lib.hid ho
  have HB := Lib.hid hb
  have HR := Lib.hid hR
  have HM := Lib.hid hm
  have HML := Lib.hid (show m.length ≤ 13 by rw [hm]; exact putS_len n wi)
  clear ho hb hR hm
  go_enter Try.func33, Try.ntmps33
  go_wp2_with (first
    | (go_at_call 43; (with_reducible refine (rput_any n wi hn _).mono ?_); rw [← HM.out]; rintro e w1 ⟨A, c, rfl, hr, hb1⟩; have HRC := Lib.hid hr; have HO1 := Lib.hid (HO.out.below hb1); have HZ1 := Lib.hid hb1.size; have HB1 := Lib.hid (below_then HB.out hbase hb1); clear hr hb1)
    | ((with_reducible refine gate_builtin (b := .append) (xs := #[.tmp 15, .tmp 16]) rfl ?_); refine own_append (w0 := w0) rfl (.tmp 15) (.tmp 16) rfl base v l m _ _ rfl rfl HO1.out HRC.out HB1.out (Nat.le_trans hbase HZ1.out) (by have := HML.out; omega) ?_; intro v8 w8 ho8 hb8 hg8; have HO8 := Lib.hid ho8; have HB8 := Lib.hid hb8; have HZ8 := Lib.hid (Nat.le_trans HZ1.out hg8.size); clear ho8 hb8 hg8))
  go_ret
  refine ⟨_, rfl, ?_, HB8.out, HZ8.out⟩
  rw [HR.out]
  exact HO8.out

def USTAR : ByteArray := ⟨#[117, 115, 116, 97, 114, 0, 48, 48]⟩
/-- A head's bytes ahead of the seal, one behind the other. -/
def rbodyS (n p : ByteArray) (m s t y : Int) (k : ByteArray) : List Int :=
  ((((((((((((((([] ++ tx n 100) ++ (putS m 8).1) ++ (putS 0 8).1) ++ (putS 0 8).1) ++ (putS s 12).1) ++ (putS t 12).1) ++ tx ⟨#[]⟩ 8) ++ [y]) ++ tx k 100) ++ tx USTAR 8) ++ tx ⟨#[]⟩ 64) ++ (putS 0 8).1) ++ (putS 0 8).1) ++ tx p 155) ++ tx ⟨#[]⟩ 12)
theorem tx_len {s : ByteArray} {wd : Nat} (h : s.size ≤ wd) : (tx s wd).length = wd := by
  unfold tx
  rw [List.length_append, bytesOf_length, List.length_replicate]; omega
set_option maxRecDepth 100000 in
set_option maxHeartbeats 16000000 in
theorem lay_gen (n p : ByteArray) (m s t y : Int) (k : ByteArray) (B R : List Int) (K : Nat) (W : World) (hBd : B = rbodyS n p m s t y k) (hR : PSeal.tabularyref10_Seal.f K B = some R) (hn : n.size ≤ 100) (hp : p.size ≤ 155) (hk : k.size ≤ 100)
    (hm : -9223372036854775808 ≤ m ∧ m ≤ 9223372036854775807) (hs : -9223372036854775808 ≤ s ∧ s ≤ 9223372036854775807) (ht : -9223372036854775808 ≤ t ∧ t ≤ 9223372036854775807) :
    Calls Try.prog 37 #[.agg #[.string n, .string p, .int .i64 m, .int .i64 s, .int .i64 t, .int .u8 y, .string k]] W fun e w' => ∃ v, e = .returned v ∧ OWN w' W.heap.size v R ∧ Below W.heap.size W w' := by
  obtain ⟨l1, el1⟩ : ∃ l, l = [] ++ tx n 100 := ⟨_, rfl⟩
  obtain ⟨l2, el2⟩ : ∃ l, l = l1 ++ (putS m 8).1 := ⟨_, rfl⟩
  obtain ⟨l3, el3⟩ : ∃ l, l = l2 ++ (putS 0 8).1 := ⟨_, rfl⟩
  obtain ⟨l4, el4⟩ : ∃ l, l = l3 ++ (putS 0 8).1 := ⟨_, rfl⟩
  obtain ⟨l5, el5⟩ : ∃ l, l = l4 ++ (putS s 12).1 := ⟨_, rfl⟩
  obtain ⟨l6, el6⟩ : ∃ l, l = l5 ++ (putS t 12).1 := ⟨_, rfl⟩
  obtain ⟨l7, el7⟩ : ∃ l, l = l6 ++ tx ⟨#[]⟩ 8 := ⟨_, rfl⟩
  obtain ⟨l8, el8⟩ : ∃ l, l = l7 ++ [y] := ⟨_, rfl⟩
  obtain ⟨l9, el9⟩ : ∃ l, l = l8 ++ tx k 100 := ⟨_, rfl⟩
  obtain ⟨l10, el10⟩ : ∃ l, l = l9 ++ tx ⟨#[117, 115, 116, 97, 114, 0, 48, 48]⟩ 8 := ⟨_, rfl⟩
  obtain ⟨l11, el11⟩ : ∃ l, l = l10 ++ tx ⟨#[]⟩ 64 := ⟨_, rfl⟩
  obtain ⟨l12, el12⟩ : ∃ l, l = l11 ++ (putS 0 8).1 := ⟨_, rfl⟩
  obtain ⟨l13, el13⟩ : ∃ l, l = l12 ++ (putS 0 8).1 := ⟨_, rfl⟩
  obtain ⟨l14, el14⟩ : ∃ l, l = l13 ++ tx p 155 := ⟨_, rfl⟩
  obtain ⟨l15, el15⟩ : ∃ l, l = l14 ++ tx ⟨#[]⟩ 12 := ⟨_, rfl⟩
  have q0 : ([] : List Int).length ≤ 0 := Nat.le_refl _
  have q1 : l1.length ≤ 100 := by rw [el1, List.length_append]; have := tx_len (s := n) (wd := 100) hn; omega
  have q2 : l2.length ≤ 113 := by rw [el2, List.length_append]; have := putS_len m 8; omega
  have q3 : l3.length ≤ 126 := by rw [el3, List.length_append]; have := putS_len 0 8; omega
  have q4 : l4.length ≤ 139 := by rw [el4, List.length_append]; have := putS_len 0 8; omega
  have q5 : l5.length ≤ 152 := by rw [el5, List.length_append]; have := putS_len s 12; omega
  have q6 : l6.length ≤ 165 := by rw [el6, List.length_append]; have := putS_len t 12; omega
  have q7 : l7.length ≤ 173 := by rw [el7, List.length_append]; have := tx_len (s := ⟨#[]⟩) (wd := 8) (by decide); omega
  have q8 : l8.length ≤ 174 := by rw [el8, List.length_append]; simp only [List.length_cons, List.length_nil]; omega
  have q9 : l9.length ≤ 274 := by rw [el9, List.length_append]; have := tx_len (s := k) (wd := 100) hk; omega
  have q10 : l10.length ≤ 282 := by rw [el10, List.length_append]; have := tx_len (s := ⟨#[117, 115, 116, 97, 114, 0, 48, 48]⟩) (wd := 8) (by decide); omega
  have q11 : l11.length ≤ 346 := by rw [el11, List.length_append]; have := tx_len (s := ⟨#[]⟩) (wd := 64) (by decide); omega
  have q12 : l12.length ≤ 359 := by rw [el12, List.length_append]; have := putS_len 0 8; omega
  have q13 : l13.length ≤ 372 := by rw [el13, List.length_append]; have := putS_len 0 8; omega
  have q14 : l14.length ≤ 527 := by rw [el14, List.length_append]; have := tx_len (s := p) (wd := 155) hp; omega
  have q15 : l15.length ≤ 539 := by rw [el15, List.length_append]; have := tx_len (s := ⟨#[]⟩) (wd := 12) (by decide); omega
  have hl15 : l15 = B := by rw [hBd, el15, el14, el13, el12, el11, el10, el9, el8, el7, el6, el5, el4, el3, el2, el1]; rfl
  have Q1 := Lib.hid q1
  have E1 := Lib.hid el1
  have Q2 := Lib.hid q2
  have E2 := Lib.hid el2
  have Q3 := Lib.hid q3
  have E3 := Lib.hid el3
  have Q4 := Lib.hid q4
  have E4 := Lib.hid el4
  have Q5 := Lib.hid q5
  have E5 := Lib.hid el5
  have Q6 := Lib.hid q6
  have E6 := Lib.hid el6
  have Q7 := Lib.hid q7
  have E7 := Lib.hid el7
  have Q8 := Lib.hid q8
  have E8 := Lib.hid el8
  have Q9 := Lib.hid q9
  have E9 := Lib.hid el9
  have Q10 := Lib.hid q10
  have E10 := Lib.hid el10
  have Q11 := Lib.hid q11
  have E11 := Lib.hid el11
  have Q12 := Lib.hid q12
  have E12 := Lib.hid el12
  have Q13 := Lib.hid q13
  have E13 := Lib.hid el13
  have Q14 := Lib.hid q14
  have E14 := Lib.hid el14
  have Q15 := Lib.hid q15
  have E15 := Lib.hid el15
  have HR := Lib.hid hR
  have HL15 := Lib.hid hl15
  clear hR hBd hl15 q0 q1 q2 q3 q4 q5 q6 q7 q8 q9 q10 q11 q12 q13 q14 q15 el1 el2 el3 el4 el5 el6 el7 el8 el9 el10 el11 el12 el13 el14 el15
  obtain ⟨w0, hw0⟩ : ∃ w0 : World, w0 = W.alloc (.cells #[.string n, .string p, .int .i64 m, .int .i64 s, .int .i64 t, .int .u8 y, .string k] TH) := ⟨_, rfl⟩
  have HBX := Lib.hid (show w0.heap[W.heap.size]? = some (.cells #[.string n, .string p, .int .i64 m, .int .i64 s, .int .i64 t, .int .u8 y, .string k] TH (0, 0)) by rw [hw0]; exact blk_new _ _)
  have HS0 := Lib.hid (show w0.heap.size = W.heap.size + 1 by rw [hw0]; simp)
  have HW0 := Lib.hid (show Below W.heap.size W w0 by rw [hw0]; exact (Below.refl _ _).alloc (Nat.le_refl _) _)
  have HWW := Lib.hid hw0
  have HCE := Lib.hid (show ∀ w', Below w0.heap.size w0 w' → ∀ j v, (#[.string n, .string p, .int .i64 m, .int .i64 s, .int .i64 t, .int .u8 y, .string k] : Array Value)[j]? = some v → w'.cell? ⟨W.heap.size, j, none⟩ = some v from fun w' hb j v hv => by
    rw [blk_cell (blk_below HBX.out hb), hv])
  clear hw0
  go_enter Try.func37, Try.ntmps37
  have hb0 : Below w0.heap.size w0 w0 := Below.refl _ _
  have HB0 := Lib.hid hb0
  have x0 := HCE.out w0 hb0 0 _ rfl
  have x0' := x0
  rw [HWW.out] at x0'
  clear hb0 x0
  have tk0 : True := trivial
  go_wp2_with (first
    | (go_at_call 46; have _tk := tk0; go_loud (rw [← HWW.out]; (with_reducible refine (text_gen w0.heap.size w0 (.slice none 0 0) [] l1 n 100 100 rfl _ E1.out hn (by decide) (by decide) (OWN.none _ _) HB0.out (Nat.le_refl _)).mono ?_)); rintro e w1 ⟨v1, rfl, ho, hb, hz⟩; have HO1 := Lib.hid ho; have HB1 := Lib.hid hb; have HZ1 := Lib.hid (Nat.le_trans (Nat.le_refl _) hz); have tk1 : True := trivial; clear x0'; have x2 := HCE.out w1 HB1.out 2 _ rfl; clear tk0 _tk ho hb hz)
    | (go_at_call 33; have _tk := tk1; (with_reducible refine (number_gen w0.heap.size w0 (v1) l1 l2 _ m 8 _ rfl E2.out hm (by have := Q1.out; omega) HO1.out HB1.out HZ1.out).mono ?_); rintro e w2 ⟨v2, rfl, ho, hb, hz⟩; have HO2 := Lib.hid ho; have HB2 := Lib.hid hb; have HZ2 := Lib.hid (Nat.le_trans HZ1.out hz); have tk2 : True := trivial; clear x2; clear tk1 _tk ho hb hz)
    | (go_at_call 33; have _tk := tk2; (with_reducible refine (number_gen w0.heap.size w0 (v2) l2 l3 _ 0 8 _ rfl E3.out (by decide) (by have := Q2.out; omega) HO2.out HB2.out HZ2.out).mono ?_); rintro e w3 ⟨v3, rfl, ho, hb, hz⟩; have HO3 := Lib.hid ho; have HB3 := Lib.hid hb; have HZ3 := Lib.hid (Nat.le_trans HZ2.out hz); have tk3 : True := trivial; clear tk2 _tk ho hb hz)
    | (go_at_call 33; have _tk := tk3; (with_reducible refine (number_gen w0.heap.size w0 (v3) l3 l4 _ 0 8 _ rfl E4.out (by decide) (by have := Q3.out; omega) HO3.out HB3.out HZ3.out).mono ?_); rintro e w4 ⟨v4, rfl, ho, hb, hz⟩; have HO4 := Lib.hid ho; have HB4 := Lib.hid hb; have HZ4 := Lib.hid (Nat.le_trans HZ3.out hz); have tk4 : True := trivial; have x3 := HCE.out w4 HB4.out 3 _ rfl; clear tk3 _tk ho hb hz)
    | (go_at_call 33; have _tk := tk4; (with_reducible refine (number_gen w0.heap.size w0 (v4) l4 l5 _ s 12 _ rfl E5.out hs (by have := Q4.out; omega) HO4.out HB4.out HZ4.out).mono ?_); rintro e w5 ⟨v5, rfl, ho, hb, hz⟩; have HO5 := Lib.hid ho; have HB5 := Lib.hid hb; have HZ5 := Lib.hid (Nat.le_trans HZ4.out hz); have tk5 : True := trivial; clear x3; have x4 := HCE.out w5 HB5.out 4 _ rfl; clear tk4 _tk ho hb hz)
    | (go_at_call 33; have _tk := tk5; (with_reducible refine (number_gen w0.heap.size w0 (v5) l5 l6 _ t 12 _ rfl E6.out ht (by have := Q5.out; omega) HO5.out HB5.out HZ5.out).mono ?_); rintro e w6 ⟨v6, rfl, ho, hb, hz⟩; have HO6 := Lib.hid ho; have HB6 := Lib.hid hb; have HZ6 := Lib.hid (Nat.le_trans HZ5.out hz); have tk6 : True := trivial; clear x4; clear tk5 _tk ho hb hz)
    | (go_at_call 46; have _tk := tk6; (with_reducible refine (text_gen w0.heap.size w0 (v6) l6 l7 ⟨#[]⟩ 8 8 rfl _ E7.out (by decide) (by decide) (by have := Q6.out; omega) (HO6.out) HB6.out HZ6.out).mono ?_); rintro e w7 ⟨v7, rfl, ho, hb, hz⟩; have HO7 := Lib.hid ho; have HB7 := Lib.hid hb; have HZ7 := Lib.hid (Nat.le_trans HZ6.out hz); have tk7 : True := trivial; have x5 := HCE.out w7 HB7.out 5 _ rfl; clear tk6 _tk ho hb hz)
    | ((with_reducible refine gate_builtin (b := .append) (xs := #[.tmp 25, .tmp 28]) rfl ?_); have _tk := tk7; refine own_append (w0 := w0) rfl (.tmp 25) (.tmp 28) rfl w0.heap.size v7 l7 [y] _ _ rfl rfl (HO7.out.alloc _) (bytes_new w7 5 [y] (0, 0)) (HB7.out.alloc HZ7.out _) (by have := HZ7.out; simp; omega) (by have := Q7.out; simp; omega) ?_; rw [← E8.out]; intro v8 w8 ho hb hg; have hz : w7.heap.size ≤ w8.heap.size := (by have := hg.size; simp at this; omega); clear hg; have HO8 := Lib.hid ho; have HB8 := Lib.hid hb; have HZ8 := Lib.hid (Nat.le_trans HZ7.out hz); have tk8 : True := trivial; clear x5; have x6 := HCE.out w8 HB8.out 6 _ rfl; clear tk7 _tk ho hb hz)
    | (go_at_call 46; have _tk := tk8; (with_reducible refine (text_gen w0.heap.size w0 (v8) l8 l9 k 100 100 rfl _ E9.out hk (by decide) (by have := Q8.out; omega) (HO8.out) HB8.out HZ8.out).mono ?_); rintro e w9 ⟨v9, rfl, ho, hb, hz⟩; have HO9 := Lib.hid ho; have HB9 := Lib.hid hb; have HZ9 := Lib.hid (Nat.le_trans HZ8.out hz); have tk9 : True := trivial; clear x6; clear tk8 _tk ho hb hz)
    | (go_at_call 46; have _tk := tk9; (with_reducible refine (text_gen w0.heap.size w0 (v9) l9 l10 ⟨#[117, 115, 116, 97, 114, 0, 48, 48]⟩ 8 8 rfl _ E10.out (by decide) (by decide) (by have := Q9.out; omega) (HO9.out) HB9.out HZ9.out).mono ?_); rintro e w10 ⟨v10, rfl, ho, hb, hz⟩; have HO10 := Lib.hid ho; have HB10 := Lib.hid hb; have HZ10 := Lib.hid (Nat.le_trans HZ9.out hz); have tk10 : True := trivial; clear tk9 _tk ho hb hz)
    | (go_at_call 46; have _tk := tk10; (with_reducible refine (text_gen w0.heap.size w0 (v10) l10 l11 ⟨#[]⟩ 64 64 rfl _ E11.out (by decide) (by decide) (by have := Q10.out; omega) (HO10.out) HB10.out HZ10.out).mono ?_); rintro e w11 ⟨v11, rfl, ho, hb, hz⟩; have HO11 := Lib.hid ho; have HB11 := Lib.hid hb; have HZ11 := Lib.hid (Nat.le_trans HZ10.out hz); have tk11 : True := trivial; clear tk10 _tk ho hb hz)
    | (go_at_call 33; have _tk := tk11; (with_reducible refine (number_gen w0.heap.size w0 (v11) l11 l12 _ 0 8 _ rfl E12.out (by decide) (by have := Q11.out; omega) HO11.out HB11.out HZ11.out).mono ?_); rintro e w12 ⟨v12, rfl, ho, hb, hz⟩; have HO12 := Lib.hid ho; have HB12 := Lib.hid hb; have HZ12 := Lib.hid (Nat.le_trans HZ11.out hz); have tk12 : True := trivial; clear tk11 _tk ho hb hz)
    | (go_at_call 33; have _tk := tk12; (with_reducible refine (number_gen w0.heap.size w0 (v12) l12 l13 _ 0 8 _ rfl E13.out (by decide) (by have := Q12.out; omega) HO12.out HB12.out HZ12.out).mono ?_); rintro e w13 ⟨v13, rfl, ho, hb, hz⟩; have HO13 := Lib.hid ho; have HB13 := Lib.hid hb; have HZ13 := Lib.hid (Nat.le_trans HZ12.out hz); have tk13 : True := trivial; have x1 := HCE.out w13 HB13.out 1 _ rfl; clear tk12 _tk ho hb hz)
    | (go_at_call 46; have _tk := tk13; (with_reducible refine (text_gen w0.heap.size w0 (v13) l13 l14 p 155 155 rfl _ E14.out hp (by decide) (by have := Q13.out; omega) (HO13.out) HB13.out HZ13.out).mono ?_); rintro e w14 ⟨v14, rfl, ho, hb, hz⟩; have HO14 := Lib.hid ho; have HB14 := Lib.hid hb; have HZ14 := Lib.hid (Nat.le_trans HZ13.out hz); have tk14 : True := trivial; clear x1; clear tk13 _tk ho hb hz)
    | (go_at_call 46; have _tk := tk14; (with_reducible refine (text_gen w0.heap.size w0 (v14) l14 l15 ⟨#[]⟩ 12 12 rfl _ E15.out (by decide) (by decide) (by have := Q14.out; omega) (HO14.out) HB14.out HZ14.out).mono ?_); rintro e w15 ⟨v15, rfl, ho, hb, hz⟩; have HO15 := Lib.hid ho; have HB15 := Lib.hid hb; have HZ15 := Lib.hid (Nat.le_trans HZ14.out hz); have tk15 : True := trivial; clear tk14 _tk ho hb hz)
    | (go_at_call 20; have _tk := tk15; obtain ⟨A, c, hv, hc, hr, _⟩ := HO15.out.form; subst hv; rw [HL15.out] at hr hc ⊢; have HRC := Lib.hid hr; clear hr; (with_reducible refine (PSeal.tabularyref10_Seal.calls K A c B R _ (HRC.out.to_C (by have := Q15.out; rw [HL15.out] at this; omega)) hc HR.out).mono ?_); rintro e w16 ⟨v16, rfl, ho, hb⟩; have HO16 := Lib.hid ho; have HB16 := Lib.hid hb; clear tk15 _tk ho hb))
  go_ret
  refine ⟨_, rfl, ?_, ?_⟩
  · refine Kd.R_lower HO16.out ?_
    have h1 := HS0.out
    have h2 := HZ15.out
    omega
  · have h1 : W.heap.size ≤ w0.heap.size := by rw [HS0.out]; omega
    have hb15 : Below W.heap.size W w15 := below_then HW0.out h1 HB15.out
    exact below_then hb15 (Nat.le_trans h1 HZ15.out) HB16.out

def rlayF (n p : ByteArray) (m s t y : Int) (k : ByteArray) : Option (List Int) :=
  if n.size ≤ 100 ∧ p.size ≤ 155 ∧ k.size ≤ 100 ∧ (-9223372036854775808 ≤ m ∧ m ≤ 9223372036854775807) ∧ (-9223372036854775808 ≤ s ∧ s ≤ 9223372036854775807) ∧ (-9223372036854775808 ≤ t ∧ t ≤ 9223372036854775807) then PSeal.tabularyref10_Seal.f 1000 (rbodyS n p m s t y k) else none
theorem rlay_calls (n p : ByteArray) (m s t y : Int) (k : ByteArray) (r : List Int) (w : World) (h : rlayF n p m s t y k = some r) :
    Calls Try.prog 37 #[.agg #[.string n, .string p, .int .i64 m, .int .i64 s, .int .i64 t, .int .u8 y, .string k]] w fun e w' => ∃ v0_ : Value, e = .returned (v0_) ∧ Kd.R (Kd.int .u8) 5 w' w.heap.size (fun _ => True) v0_ r ∧ Below w.heap.size w w' := by
  unfold rlayF at h
  split at h
  · rename_i hc
    exact lay_gen n p m s t y k _ r 1000 w rfl h hc.1 hc.2.1 hc.2.2.1 hc.2.2.2.1 hc.2.2.2.2.1 hc.2.2.2.2.2
  · cases h
end Go.Proofs.Ytdmpbfhbjklajaa.RefLay
end
