/- Texts of this claim, laid together by wip/tools/squash.py: PMatrixChainsx2, PMatrixChainsx, ChainsPure, Opn. -/
import Derived.Test.YtjkmaobfpgfdnaaQMatrixChains2
import Derived.Test.YtjkmaobfpgfdnaaWMore
import Derived.Test.YtjkmaobfpgfdnaaWArr
import Derived.ChangeArms
import Derived.DataElems
import Derived.DataReads
import Derived.OpenShut
import Derived.SizedLaws

-- Written by wip/tools/myprint.py, a program of this session over the print tool: not a printed text of the kit's
section
namespace Go.Proofs.Ytjkmaobfpgfdnaa.PMatrixChains
open Go.RowKit Go.Proofs.YtjkmaobfpgfdnaaW.PrintWords Go.Proofs.YtjkmaobfpgfdnaaW.PrintLast Go.Proofs.YtjkmaobfpgfdnaaW.PrintMore
attribute [local go_sem] max2_int min2_int max_two min_two max_three min_three max_four min_four   -- for this text's walks alone
set_option linter.unusedVariables false
set_option linter.unusedSimpArgs false
set_option maxRecDepth 20000

/-! ### tabularylaw02_MatrixChains: function 3 -/
mutual
def tabularylaw02_MatrixChains.j0 : Nat → List (List Int) → List (List Int) → List (List Int) → Bool → Option (Bool)
 | 0, _, _, _, _ => none
 | k + 1, x0, x1, x2, x28 => if x28 = true then ((tabularylaw02_wakes.f k).bind fun t170 => (some t170)) else ((matrix_Mul.f x0 x1).bind fun bt171 => ((matrix_Mul.f x1 x2).bind fun bt175 => (if bt171.2 = 0 then (tabularylaw02_MatrixChains.j1 k x0 x1 x2 bt171.1 bt175.1 (bt175.2 != 0)) else (tabularylaw02_MatrixChains.j1 k x0 x1 x2 bt171.1 bt175.1 true))))
def tabularylaw02_MatrixChains.j1 : Nat → List (List Int) → List (List Int) → List (List Int) → List (List Int) → List (List Int) → Bool → Option (Bool)
 | 0, _, _, _, _, _, _ => none
 | k + 1, x0, x1, x2, x7, x9, x47 => if x47 = true then ((tabularylaw02_wakes.f k).bind fun t179 => (some t179)) else ((matrix_Mul.f x7 x2).bind fun bt180 => ((matrix_Mul.f x0 x9).bind fun bt184 => (if (x0.length : Int) = 0 then (tabularylaw02_MatrixChains.j2 k bt180.1 bt180.2 bt184.1 bt184.2 true) else (tabularylaw02_MatrixChains.j2 k bt180.1 bt180.2 bt184.1 bt184.2 ((x1.length : Int) == 0)))))
def tabularylaw02_MatrixChains.j2 : Nat → List (List Int) → Int → List (List Int) → Int → Bool → Option (Bool)
 | 0, _, _, _, _, _ => none
 | k + 1, x11, x12, x13, x14, x68 => if x68 = true then (if x12 = x14 then ((tabularylaw02_wakes.f k).bind fun t188 => (some t188)) else (some false)) else (if x12 = 0 then (if x14 = 0 then ((tabularyref02_Same.f k x11 x13).bind fun t189 => (if t189 = true then ((tabularylaw02_wakes.f k).bind fun t190 => (some t190)) else (some false))) else (some false)) else (some false))
end
def tabularylaw02_MatrixChains.f (k : Nat) (l0 : List (List Int)) (l1 : List (List Int)) (l2 : List (List Int)) : Option (Bool) := (tabularyref02_Columns.f l0).bind fun t167 => (if (wrap64 ((l0.length : Int) * t167)) > 512 then (tabularylaw02_MatrixChains.j0 k l0 l1 l2 true) else ((tabularylaw02_great.f k l1).bind fun t168 => (if t168 = true then (tabularylaw02_MatrixChains.j0 k l0 l1 l2 true) else ((tabularylaw02_great.f k l2).bind fun t169 => (tabularylaw02_MatrixChains.j0 k l0 l1 l2 t169)))))
set_option maxHeartbeats 8000000 in
set_option maxRecDepth 100000 in
theorem tabularylaw02_MatrixChains.calls (k : Nat) (A0 : Option Addr) (c0 : Nat) (l0 : List (List Int)) (A1 : Option Addr) (c1 : Nat) (l1 : List (List Int)) (A2 : Option Addr) (c2 : Nat) (l2 : List (List Int)) (r : Bool) (w : World) (hr0 : Kd.C (Kd.slice 5 (Kd.int .u8)) w A0 l0.length l0) (hc0 : l0.length ≤ c0) (hr1 : Kd.C (Kd.slice 5 (Kd.int .u8)) w A1 l1.length l1) (hc1 : l1.length ≤ c1) (hr2 : Kd.C (Kd.slice 5 (Kd.int .u8)) w A2 l2.length l2) (hc2 : l2.length ≤ c2) (h : tabularylaw02_MatrixChains.f k l0 l1 l2 = some r) :
  Calls Try.prog 3 #[.slice A0 l0.length c0, .slice A1 l1.length c1, .slice A2 l2.length c2] w fun e w' => e = .returned (.bool r) ∧ Below w.heap.size w w' := by
 have HR0 := Aside0.mk hr0
 have HC0 := Aside0.mk hc0
 clear hr0 hc0
 have HR1 := Aside0.mk hr1
 have HC1 := Aside0.mk hc1
 clear hr1 hc1
 have HR2 := Aside0.mk hr2
 have HC2 := Aside0.mk hc2
 clear hr2 hc2
 have HB := Aside0.mk (Below.refl w.heap.size w)
 have H : ((tabularyref02_Columns.f l0).bind fun t167 => (if (wrap64 ((l0.length : Int) * t167)) > 512 then (tabularylaw02_MatrixChains.j0 k l0 l1 l2 true) else ((tabularylaw02_great.f k l1).bind fun t168 => (if t168 = true then (tabularylaw02_MatrixChains.j0 k l0 l1 l2 true) else ((tabularylaw02_great.f k l2).bind fun t169 => (tabularylaw02_MatrixChains.j0 k l0 l1 l2 t169)))))) = some r := h
 clear h
 have HC4 := Aside0.mk H
 clear H
 go_enter Try.func3, Try.ntmps3
 go_upto_region 1 with (fail)
 go_cut [28] (fun v28 wc => ∃ (kq : Nat) (x28_3 : Bool), v28 = .bool x28_3 ∧ Aside0 (tabularylaw02_MatrixChains.j0 kq l0 l1 l2 x28_3 = some r) ∧ Aside0 (kq ≤ k) ∧ Aside0 (Below w.heap.size w wc))
 case first =>
  have H := HC4.out
  clear HC4
  replace H := Option.bind_eq_some_iff.mp H
  obtain ⟨t167, A50, H⟩ := H
  replace H : (if (wrap64 ((l0.length : Int) * t167)) > 512 then (tabularylaw02_MatrixChains.j0 k l0 l1 l2 true) else ((tabularylaw02_great.f k l1).bind fun t168 => (if t168 = true then (tabularylaw02_MatrixChains.j0 k l0 l1 l2 true) else ((tabularylaw02_great.f k l2).bind fun t169 => (tabularylaw02_MatrixChains.j0 k l0 l1 l2 t169))))) = some r := H
  have A5 := Aside0.mk A50
  clear A50
  by_cases c6 : (wrap64 ((l0.length : Int) * t167)) > 512
  ·rw [if_pos c6] at H
   have c6b0 : decide (512 < (wrap64 ((l0.length : Int) * t167))) = true := decide_eq_true c6
   clear c6
   (first | rw [c6b0] | (simp only [i64_w, i32_w]; rw [c6b0]) | skip)
   have H' := Aside0.mk H
   clear H
   go_wp2_with (first | ((with_reducible refine gate_callee (f := 10) rfl ?_); refine goesL_ (some 18) rfl rfl Try.func10 (by kernel_rfl) rfl #[.slice A0 l0.length c0] rfl (by (try simp only [List.map_toArray, List.map_cons, List.map_nil]); first | done | rfl | (simp only [List.length_drop, List.length_take]; rfl)) ?_; (with_reducible refine (tabularyref02_Columns.calls _ _ l0 t167 _ ?side1 ?side2 A5.out).mono ?_); (case side1 => repeat (first | exact (Kd.C_below HR0.out HB.out) | (with_reducible refine Kd.C_alloc ?_ _) | (with_reducible refine Kd.C_drewN ?_ _) | (with_reducible refine Kd.C_drew ?_))); (case side2 => exact HC0.out); rintro e w' ⟨rfl, ⟨nd, rfl⟩⟩; refine ⟨_, rfl, ?_⟩))
   go_meet
   case rel => exact ⟨_, (true), (by first | rfl | (simp; done) | (simp [*]; done)), H', ⟨by first | omega | exact Nat.le_refl _⟩, ⟨by repeat (first | (with_reducible first | exact HB.out | apply below_alloc | apply pw_below_drewN | apply below_drew1) | exact HB.out)⟩⟩
  ·rw [if_neg c6] at H
   have c6b0 : decide (512 < (wrap64 ((l0.length : Int) * t167))) = false := decide_eq_false c6
   clear c6
   (first | rw [c6b0] | (simp only [i64_w, i32_w]; rw [c6b0]) | skip)
   replace H := Option.bind_eq_some_iff.mp H
   obtain ⟨t168, A70, H⟩ := H
   replace H : (if t168 = true then (tabularylaw02_MatrixChains.j0 k l0 l1 l2 true) else ((tabularylaw02_great.f k l2).bind fun t169 => (tabularylaw02_MatrixChains.j0 k l0 l1 l2 t169))) = some r := H
   have A7 := Aside0.mk A70
   clear A70
   by_cases c8 : t168 = true
   ·subst c8
    have H1 : (tabularylaw02_MatrixChains.j0 k l0 l1 l2 true) = some r := by rw [if_pos rfl] at H; exact H
    clear H
    have H := H1
    clear H1
    have H' := Aside0.mk H
    clear H
    go_wp2_with (first | ((with_reducible refine gate_callee (f := 10) rfl ?_); refine goesL_ (some 18) rfl rfl Try.func10 (by kernel_rfl) rfl #[.slice A0 l0.length c0] rfl (by (try simp only [List.map_toArray, List.map_cons, List.map_nil]); first | done | rfl | (simp only [List.length_drop, List.length_take]; rfl)) ?_; (with_reducible refine (tabularyref02_Columns.calls _ _ l0 t167 _ ?side1 ?side2 A5.out).mono ?_); (case side1 => repeat (first | exact (Kd.C_below HR0.out HB.out) | (with_reducible refine Kd.C_alloc ?_ _) | (with_reducible refine Kd.C_drewN ?_ _) | (with_reducible refine Kd.C_drew ?_))); (case side2 => exact HC0.out); rintro e w' ⟨rfl, ⟨nd, rfl⟩⟩; refine ⟨_, rfl, ?_⟩) | (go_at_call 11; (with_reducible refine (tabularylaw02_great.calls k _ _ l1 true _ ?side1 ?side2 A7.out).mono ?_); (case side1 => repeat (first | exact (Kd.C_below HR1.out (by repeat (first | (with_reducible first | exact HB.out | apply below_alloc | apply pw_below_drewN | apply below_drew1) | exact HB.out))) | (with_reducible refine Kd.C_alloc ?_ _) | (with_reducible refine Kd.C_drewN ?_ _) | (with_reducible refine Kd.C_drew ?_))); (case side2 => exact HC1.out); rintro e w' ⟨rfl, ⟨nd, rfl⟩⟩))
    go_meet
    case rel => exact ⟨_, (true), (by first | rfl | (simp; done) | (simp [*]; done)), H', ⟨by first | omega | exact Nat.le_refl _⟩, ⟨by repeat (first | (with_reducible first | exact HB.out | apply below_alloc | apply pw_below_drewN | apply below_drew1) | exact HB.out)⟩⟩
   ·replace c8 := Bool.eq_false_iff.mpr c8
    subst c8
    have H1 : ((tabularylaw02_great.f k l2).bind fun t169 => (tabularylaw02_MatrixChains.j0 k l0 l1 l2 t169)) = some r := by rw [if_neg (show ¬ (false = true) by decide)] at H; exact H
    clear H
    have H := H1
    clear H1
    replace H := Option.bind_eq_some_iff.mp H
    obtain ⟨t169, A90, H⟩ := H
    replace H : (tabularylaw02_MatrixChains.j0 k l0 l1 l2 t169) = some r := H
    have A9 := Aside0.mk A90
    clear A90
    have H' := Aside0.mk H
    clear H
    go_wp2_with (first | ((with_reducible refine gate_callee (f := 10) rfl ?_); refine goesL_ (some 18) rfl rfl Try.func10 (by kernel_rfl) rfl #[.slice A0 l0.length c0] rfl (by (try simp only [List.map_toArray, List.map_cons, List.map_nil]); first | done | rfl | (simp only [List.length_drop, List.length_take]; rfl)) ?_; (with_reducible refine (tabularyref02_Columns.calls _ _ l0 t167 _ ?side1 ?side2 A5.out).mono ?_); (case side1 => repeat (first | exact (Kd.C_below HR0.out HB.out) | (with_reducible refine Kd.C_alloc ?_ _) | (with_reducible refine Kd.C_drewN ?_ _) | (with_reducible refine Kd.C_drew ?_))); (case side2 => exact HC0.out); rintro e w' ⟨rfl, ⟨nd, rfl⟩⟩; refine ⟨_, rfl, ?_⟩) | (go_at_call 11; (with_reducible refine (tabularylaw02_great.calls k _ _ l1 false _ ?side1 ?side2 A7.out).mono ?_); (case side1 => repeat (first | exact (Kd.C_below HR1.out (by repeat (first | (with_reducible first | exact HB.out | apply below_alloc | apply pw_below_drewN | apply below_drew1) | exact HB.out))) | (with_reducible refine Kd.C_alloc ?_ _) | (with_reducible refine Kd.C_drewN ?_ _) | (with_reducible refine Kd.C_drew ?_))); (case side2 => exact HC1.out); rintro e w' ⟨rfl, ⟨nd, rfl⟩⟩) | (go_at_call 11; (with_reducible refine (tabularylaw02_great.calls k _ _ l2 t169 _ ?side1 ?side2 A9.out).mono ?_); (case side1 => repeat (first | exact (Kd.C_below HR2.out (by repeat (first | (with_reducible first | exact HB.out | apply below_alloc | apply pw_below_drewN | apply below_drew1) | exact HB.out))) | (with_reducible refine Kd.C_alloc ?_ _) | (with_reducible refine Kd.C_drewN ?_ _) | (with_reducible refine Kd.C_drew ?_))); (case side2 => exact HC2.out); rintro e w' ⟨rfl, ⟨nd, rfl⟩⟩))
    go_meet
    case rel => exact ⟨_, (t169), (by first | rfl | (simp; done) | (simp [*]; done)), H', ⟨by first | omega | exact Nat.le_refl _⟩, ⟨by repeat (first | (with_reducible first | exact HB.out | apply below_alloc | apply pw_below_drewN | apply below_drew1) | exact HB.out)⟩⟩
 case rest =>
  clear HC4
  try clear c1
  try clear c2
  try clear p2
  try clear c3
  try clear c6
  try clear c6b0
  try clear p6
  try clear c8
  obtain ⟨kq, x28_3, rfl, HA, HJ3, HB⟩ := hcut
  cases kq with
  | zero => exact absurd HA.out (by simp [tabularylaw02_MatrixChains.j0])
  | succ kj3 =>
   have H := HA.out
   clear HA
   simp only [tabularylaw02_MatrixChains.j0] at H
   by_cases c10 : x28_3 = true
   ·subst c10
    have H1 : ((tabularylaw02_wakes.f kj3).bind fun t170 => (some t170)) = some r := by rw [if_pos rfl] at H; exact H
    clear H
    have H := H1
    clear H1
    replace H := Option.bind_eq_some_iff.mp H
    obtain ⟨t170, A110, H⟩ := H
    replace H : (some t170) = some r := H
    have A11 := Aside0.mk A110
    clear A110
    obtain rfl := Option.some.inj H
    go_wp2_with (first | ((with_reducible refine gate_callee (f := 12) rfl ?_); refine goesL_ (some 29) rfl rfl Try.func12 (by kernel_rfl) rfl #[] rfl (by (try simp only [List.map_toArray, List.map_cons, List.map_nil]); first | done | rfl | (simp only [List.length_drop, List.length_take]; rfl)) ?_; (with_reducible refine (tabularylaw02_wakes.calls kj3  t170 _ A11.out).mono ?_); rintro e w12 ⟨rfl, hb⟩; refine ⟨_, rfl, ?_⟩; have n0_ := Aside0.mk (below_step (by repeat (first | (with_reducible first | exact HB.out | apply below_alloc | apply pw_below_drewN | apply below_drew1) | exact HB.out)) hb); clear HB; have HB := n0_; clear n0_; (try clear hb); (try clear hb2); (try clear hk); (try clear hi)))
    go_ret
    exact ⟨by first | rfl | (simp [errW_none, errW_some] <;> rfl) | (simp [*, errW_none, errW_some] <;> rfl), by repeat (first | (with_reducible first | exact HB.out | apply below_alloc | apply pw_below_drewN | apply below_drew1) | exact HB.out)⟩
   ·replace c10 := Bool.eq_false_iff.mpr c10
    subst c10
    have H1 : ((matrix_Mul.f l0 l1).bind fun bt171 => ((matrix_Mul.f l1 l2).bind fun bt175 => (if bt171.2 = 0 then (tabularylaw02_MatrixChains.j1 kj3 l0 l1 l2 bt171.1 bt175.1 (bt175.2 != 0)) else (tabularylaw02_MatrixChains.j1 kj3 l0 l1 l2 bt171.1 bt175.1 true)))) = some r := by rw [if_neg (show ¬ (false = true) by decide)] at H; exact H
    clear H
    have H := H1
    clear H1
    replace H := Option.bind_eq_some_iff.mp H
    obtain ⟨⟨t171, t174⟩, A130, H⟩ := H
    replace H : ((matrix_Mul.f l1 l2).bind fun bt175 => (if t174 = 0 then (tabularylaw02_MatrixChains.j1 kj3 l0 l1 l2 t171 bt175.1 (bt175.2 != 0)) else (tabularylaw02_MatrixChains.j1 kj3 l0 l1 l2 t171 bt175.1 true))) = some r := H
    have A13 := Aside0.mk A130
    clear A130
    replace H := Option.bind_eq_some_iff.mp H
    obtain ⟨⟨t175, t178⟩, A140, H⟩ := H
    replace H : (if t174 = 0 then (tabularylaw02_MatrixChains.j1 kj3 l0 l1 l2 t171 t175 (t178 != 0)) else (tabularylaw02_MatrixChains.j1 kj3 l0 l1 l2 t171 t175 true)) = some r := H
    have A14 := Aside0.mk A140
    clear A140
    have HC15 := Aside0.mk H
    clear H
    go_upto_region 5 with (first | ((with_reducible refine gate_callee (f := 13) rfl ?_); refine goesL_ (some 33) rfl rfl Try.func13 (by kernel_rfl) rfl #[.slice A0 l0.length c0, .slice A1 l1.length c1] rfl (by (try simp only [List.map_toArray, List.map_cons, List.map_nil]); first | done | rfl | (simp only [List.length_drop, List.length_take]; rfl)) ?_; (with_reducible refine (matrix_Mul.calls _ _ l0 _ _ l1 t171 t174 _ ?side1 ?side2 ?side3 ?side4 A13.out).mono ?_); (case side1 => repeat (first | exact (Kd.C_below HR0.out HB.out) | (with_reducible refine Kd.C_alloc ?_ _) | (with_reducible refine Kd.C_drewN ?_ _) | (with_reducible refine Kd.C_drew ?_))); (case side2 => exact HC0.out); (case side3 => repeat (first | exact (Kd.C_below HR1.out HB.out) | (with_reducible refine Kd.C_alloc ?_ _) | (with_reducible refine Kd.C_drewN ?_ _) | (with_reducible refine Kd.C_drew ?_))); (case side4 => exact HC1.out); rintro e w16 ⟨v172, rfl, ho0, hb⟩; refine ⟨_, rfl, ?_⟩; have n0_ := Aside0.mk (Kd.V_lower (Kd.V_mono (ok' := fun k_ => True) ho0 (fun k_ hk_ => trivial)) (below_size (by repeat (first | (with_reducible first | exact HB.out | apply below_alloc | apply pw_below_drewN | apply below_drew1) | exact HB.out)))); have n1_ := Aside0.mk (below_step (by repeat (first | (with_reducible first | exact HB.out | apply below_alloc | apply pw_below_drewN | apply below_drew1) | exact HB.out)) hb); clear HB; have HO173 := n0_; have HB := n1_; clear n0_ n1_; (try clear hb); (try clear hb2); (try clear hk); (try clear hi); (try clear ho0)) | ((with_reducible refine gate_callee (f := 13) rfl ?_); refine goesL_ (some 39) rfl rfl Try.func13 (by kernel_rfl) rfl #[.slice A1 l1.length c1, .slice A2 l2.length c2] rfl (by (try simp only [List.map_toArray, List.map_cons, List.map_nil]); first | done | rfl | (simp only [List.length_drop, List.length_take]; rfl)) ?_; (with_reducible refine (matrix_Mul.calls _ _ l1 _ _ l2 t175 t178 _ ?side1 ?side2 ?side3 ?side4 A14.out).mono ?_); (case side1 => repeat (first | exact (Kd.C_below HR1.out HB.out) | (with_reducible refine Kd.C_alloc ?_ _) | (with_reducible refine Kd.C_drewN ?_ _) | (with_reducible refine Kd.C_drew ?_))); (case side2 => exact HC1.out); (case side3 => repeat (first | exact (Kd.C_below HR2.out HB.out) | (with_reducible refine Kd.C_alloc ?_ _) | (with_reducible refine Kd.C_drewN ?_ _) | (with_reducible refine Kd.C_drew ?_))); (case side4 => exact HC2.out); rintro e w17 ⟨v176, rfl, ho0, hb⟩; refine ⟨_, rfl, ?_⟩; have n0_ := Aside0.mk (Kd.V_below (by (with_reducible repeat (first | apply Kd.V_alloc | apply Kd.V_drewN | apply Kd.V_drew)); exact HO173.out) hb); have n1_ := Aside0.mk (Kd.V_lower (Kd.V_mono (ok' := fun k_ => True) ho0 (fun k_ hk_ => trivial)) (below_size (by repeat (first | (with_reducible first | exact HB.out | apply below_alloc | apply pw_below_drewN | apply below_drew1) | exact HB.out)))); have n2_ := Aside0.mk (below_step (by repeat (first | (with_reducible first | exact HB.out | apply below_alloc | apply pw_below_drewN | apply below_drew1) | exact HB.out)) hb); clear HO173; clear HB; have HO173 := n0_; have HO177 := n1_; have HB := n2_; clear n0_ n1_ n2_; (try clear hb); (try clear hb2); (try clear hk); (try clear hi); (try clear ho0)))
    (try simp only [Act.put, List.setIfInBounds_toArray, List.set_cons_zero, List.set_cons_succ])
    go_cut [47] (fun v47 wc => ∃ (kq : Nat) (x47_14 : Bool), v47 = .bool x47_14 ∧ Aside0 (tabularylaw02_MatrixChains.j1 kq l0 l1 l2 t171 t175 x47_14 = some r) ∧ Aside0 (kq ≤ kj3) ∧ Aside0 (Kd.V (Kd.slice 5 (Kd.int .u8)) 38 wc w.heap.size (fun _ => True) v172 t171) ∧ Aside0 (Kd.V (Kd.slice 5 (Kd.int .u8)) 38 wc w.heap.size (fun _ => True) v176 t175) ∧ Aside0 (Below w.heap.size w wc))
    case first =>
     have H := HC15.out
     clear HC15
     by_cases c18 : t174 = 0
     ·rw [if_pos c18] at H
      have c18b0 : (t174 == 0) = true := beq_iff_eq.mpr c18
      have c18b1 : (t174 != 0) = false := bne_eq_false_iff_eq.mpr c18
      clear c18
      (first | rw [c18b0] | (simp only [i64_w, i32_w]; rw [c18b0]) | skip)
      have H' := Aside0.mk H
      clear H
      go_wp2
      go_meet
      case rel => exact ⟨_, ((t178 != 0)), (by first | rfl | (simp; done) | (simp [*]; done)), H', ⟨by have := HJ3.out; first | omega | exact Nat.le_refl _⟩, ⟨by (with_reducible repeat (first | apply Kd.V_alloc | apply Kd.V_drewN | apply Kd.V_drew)); exact HO173.out⟩, ⟨by (with_reducible repeat (first | apply Kd.V_alloc | apply Kd.V_drewN | apply Kd.V_drew)); exact HO177.out⟩, ⟨by repeat (first | (with_reducible first | exact HB.out | apply below_alloc | apply pw_below_drewN | apply below_drew1) | exact HB.out)⟩⟩
     ·rw [if_neg c18] at H
      have c18b0 : (t174 == 0) = false := beq_eq_false_iff_ne.mpr c18
      have c18b1 : (t174 != 0) = true := bne_iff_ne.mpr c18
      (first | rw [c18b0] | (simp only [i64_w, i32_w]; rw [c18b0]) | skip)
      have H' := Aside0.mk H
      clear H
      go_wp2
      go_meet
      case rel => exact ⟨_, (true), (by first | rfl | (simp; done) | (simp [*]; done)), H', ⟨by have := HJ3.out; first | omega | exact Nat.le_refl _⟩, ⟨by (with_reducible repeat (first | apply Kd.V_alloc | apply Kd.V_drewN | apply Kd.V_drew)); exact HO173.out⟩, ⟨by (with_reducible repeat (first | apply Kd.V_alloc | apply Kd.V_drewN | apply Kd.V_drew)); exact HO177.out⟩, ⟨by repeat (first | (with_reducible first | exact HB.out | apply below_alloc | apply pw_below_drewN | apply below_drew1) | exact HB.out)⟩⟩
    case rest =>
     clear HC15
     try clear c1
     try clear c2
     try clear p2
     try clear c3
     try clear c6
     try clear c6b0
     try clear p6
     try clear c8
     try clear c10
     try clear c12
     try clear c13
     try clear c18
     try clear c18b0
     try clear c18b1
     try clear p2
     try clear p6
     obtain ⟨kq, x47_14, rfl, HA, HJ14, HO_7, HO_9, HB⟩ := hcut
     cases kq with
     | zero => exact absurd HA.out (by simp [tabularylaw02_MatrixChains.j1])
     | succ kj14 =>
      have H := HA.out
      clear HA
      simp only [tabularylaw02_MatrixChains.j1] at H
      by_cases c19 : x47_14 = true
      ·subst c19
       have H1 : ((tabularylaw02_wakes.f kj14).bind fun t179 => (some t179)) = some r := by rw [if_pos rfl] at H; exact H
       clear H
       have H := H1
       clear H1
       replace H := Option.bind_eq_some_iff.mp H
       obtain ⟨t179, A200, H⟩ := H
       replace H : (some t179) = some r := H
       have A20 := Aside0.mk A200
       clear A200
       obtain rfl := Option.some.inj H
       go_wp2_with (first | ((with_reducible refine gate_callee (f := 12) rfl ?_); refine goesL_ (some 48) rfl rfl Try.func12 (by kernel_rfl) rfl #[] rfl (by (try simp only [List.map_toArray, List.map_cons, List.map_nil]); first | done | rfl | (simp only [List.length_drop, List.length_take]; rfl)) ?_; (with_reducible refine (tabularylaw02_wakes.calls kj14  t179 _ A20.out).mono ?_); rintro e w21 ⟨rfl, hb⟩; refine ⟨_, rfl, ?_⟩; have n0_ := Aside0.mk (Kd.V_below (by (with_reducible repeat (first | apply Kd.V_alloc | apply Kd.V_drewN | apply Kd.V_drew)); exact HO_7.out) hb); have n1_ := Aside0.mk (Kd.V_below (by (with_reducible repeat (first | apply Kd.V_alloc | apply Kd.V_drewN | apply Kd.V_drew)); exact HO_9.out) hb); have n2_ := Aside0.mk (below_step (by repeat (first | (with_reducible first | exact HB.out | apply below_alloc | apply pw_below_drewN | apply below_drew1) | exact HB.out)) hb); clear HO_7; clear HO_9; clear HB; have HO_7 := n0_; have HO_9 := n1_; have HB := n2_; clear n0_ n1_ n2_; (try clear hb); (try clear hb2); (try clear hk); (try clear hi)))
       go_ret
       exact ⟨by first | rfl | (simp [errW_none, errW_some] <;> rfl) | (simp [*, errW_none, errW_some] <;> rfl), by repeat (first | (with_reducible first | exact HB.out | apply below_alloc | apply pw_below_drewN | apply below_drew1) | exact HB.out)⟩
      ·replace c19 := Bool.eq_false_iff.mpr c19
       subst c19
       have H1 : ((matrix_Mul.f t171 l2).bind fun bt180 => ((matrix_Mul.f l0 t175).bind fun bt184 => (if (l0.length : Int) = 0 then (tabularylaw02_MatrixChains.j2 kj14 bt180.1 bt180.2 bt184.1 bt184.2 true) else (tabularylaw02_MatrixChains.j2 kj14 bt180.1 bt180.2 bt184.1 bt184.2 ((l1.length : Int) == 0))))) = some r := by rw [if_neg (show ¬ (false = true) by decide)] at H; exact H
       clear H
       have H := H1
       clear H1
       replace H := Option.bind_eq_some_iff.mp H
       obtain ⟨⟨t180, t183⟩, A220, H⟩ := H
       replace H : ((matrix_Mul.f l0 t175).bind fun bt184 => (if (l0.length : Int) = 0 then (tabularylaw02_MatrixChains.j2 kj14 t180 t183 bt184.1 bt184.2 true) else (tabularylaw02_MatrixChains.j2 kj14 t180 t183 bt184.1 bt184.2 ((l1.length : Int) == 0)))) = some r := H
       have A22 := Aside0.mk A220
       clear A220
       replace H := Option.bind_eq_some_iff.mp H
       obtain ⟨⟨t184, t187⟩, A230, H⟩ := H
       replace H : (if (l0.length : Int) = 0 then (tabularylaw02_MatrixChains.j2 kj14 t180 t183 t184 t187 true) else (tabularylaw02_MatrixChains.j2 kj14 t180 t183 t184 t187 ((l1.length : Int) == 0))) = some r := H
       have A23 := Aside0.mk A230
       clear A230
       have HC24 := Aside0.mk H
       clear H
       obtain ⟨Ao25, co25, eo25⟩ := Kd.V_slice HO_7.out
       subst eo25
       go_upto_region 9 with (first | ((with_reducible refine gate_callee (f := 13) rfl ?_); refine goesL_ (some 52) rfl rfl Try.func13 (by kernel_rfl) rfl #[.slice Ao25 t171.length co25, .slice A2 l2.length c2] rfl (by (try simp only [List.map_toArray, List.map_cons, List.map_nil]); first | done | rfl | (simp only [List.length_drop, List.length_take]; rfl)) ?_; (with_reducible refine (matrix_Mul.calls _ _ t171 _ _ l2 t180 t183 _ ?side1 ?side2 ?side3 ?side4 A22.out).mono ?_); (case side1 => repeat (first | exact (Kd.V_reads' HO_7.out).2.2 | (with_reducible refine Kd.C_alloc ?_ _) | (with_reducible refine Kd.C_drewN ?_ _) | (with_reducible refine Kd.C_drew ?_))); (case side2 => exact (Kd.V_reads' HO_7.out).2.1); (case side3 => repeat (first | exact (Kd.C_below HR2.out HB.out) | (with_reducible refine Kd.C_alloc ?_ _) | (with_reducible refine Kd.C_drewN ?_ _) | (with_reducible refine Kd.C_drew ?_))); (case side4 => exact HC2.out); rintro e w26 ⟨v181, rfl, ho0, hb⟩; refine ⟨_, rfl, ?_⟩; have n0_ := Aside0.mk (Kd.V_below (by (with_reducible repeat (first | apply Kd.V_alloc | apply Kd.V_drewN | apply Kd.V_drew)); exact HO_7.out) hb); have n1_ := Aside0.mk (Kd.V_below (by (with_reducible repeat (first | apply Kd.V_alloc | apply Kd.V_drewN | apply Kd.V_drew)); exact HO_9.out) hb); have n2_ := Aside0.mk (Kd.V_lower (Kd.V_mono (ok' := fun k_ => True) ho0 (fun k_ hk_ => trivial)) (below_size (by repeat (first | (with_reducible first | exact HB.out | apply below_alloc | apply pw_below_drewN | apply below_drew1) | exact HB.out)))); have n3_ := Aside0.mk (below_step (by repeat (first | (with_reducible first | exact HB.out | apply below_alloc | apply pw_below_drewN | apply below_drew1) | exact HB.out)) hb); clear HO_7; clear HO_9; clear HB; have HO_7 := n0_; have HO_9 := n1_; have HO182 := n2_; have HB := n3_; clear n0_ n1_ n2_ n3_; (try clear hb); (try clear hb2); (try clear hk); (try clear hi); (try clear ho0); obtain ⟨Ao27, co27, eo27⟩ := Kd.V_slice HO_9.out; subst eo27) | ((with_reducible refine gate_callee (f := 13) rfl ?_); refine goesL_ (some 58) rfl rfl Try.func13 (by kernel_rfl) rfl #[.slice A0 l0.length c0, .slice Ao27 t175.length co27] rfl (by (try simp only [List.map_toArray, List.map_cons, List.map_nil]); first | done | rfl | (simp only [List.length_drop, List.length_take]; rfl)) ?_; (with_reducible refine (matrix_Mul.calls _ _ l0 _ _ t175 t184 t187 _ ?side1 ?side2 ?side3 ?side4 A23.out).mono ?_); (case side1 => repeat (first | exact (Kd.C_below HR0.out HB.out) | (with_reducible refine Kd.C_alloc ?_ _) | (with_reducible refine Kd.C_drewN ?_ _) | (with_reducible refine Kd.C_drew ?_))); (case side2 => exact HC0.out); (case side3 => repeat (first | exact (Kd.V_reads' HO_9.out).2.2 | (with_reducible refine Kd.C_alloc ?_ _) | (with_reducible refine Kd.C_drewN ?_ _) | (with_reducible refine Kd.C_drew ?_))); (case side4 => exact (Kd.V_reads' HO_9.out).2.1); rintro e w28 ⟨v185, rfl, ho0, hb⟩; refine ⟨_, rfl, ?_⟩; have n0_ := Aside0.mk (Kd.V_below (by (with_reducible repeat (first | apply Kd.V_alloc | apply Kd.V_drewN | apply Kd.V_drew)); exact HO_7.out) hb); have n1_ := Aside0.mk (Kd.V_below (by (with_reducible repeat (first | apply Kd.V_alloc | apply Kd.V_drewN | apply Kd.V_drew)); exact HO_9.out) hb); have n2_ := Aside0.mk (Kd.V_below (by (with_reducible repeat (first | apply Kd.V_alloc | apply Kd.V_drewN | apply Kd.V_drew)); exact HO182.out) hb); have n3_ := Aside0.mk (Kd.V_lower (Kd.V_mono (ok' := fun k_ => True) ho0 (fun k_ hk_ => trivial)) (below_size (by repeat (first | (with_reducible first | exact HB.out | apply below_alloc | apply pw_below_drewN | apply below_drew1) | exact HB.out)))); have n4_ := Aside0.mk (below_step (by repeat (first | (with_reducible first | exact HB.out | apply below_alloc | apply pw_below_drewN | apply below_drew1) | exact HB.out)) hb); clear HO_7; clear HO_9; clear HO182; clear HB; have HO_7 := n0_; have HO_9 := n1_; have HO182 := n2_; have HO186 := n3_; have HB := n4_; clear n0_ n1_ n2_ n3_ n4_; (try clear hb); (try clear hb2); (try clear hk); (try clear hi); (try clear ho0)))
       (try simp only [Act.put, List.setIfInBounds_toArray, List.set_cons_zero, List.set_cons_succ])
       go_cut [68] (fun v68 wc => ∃ (kq : Nat) (x68_23 : Bool), v68 = .bool x68_23 ∧ Aside0 (tabularylaw02_MatrixChains.j2 kq t180 t183 t184 t187 x68_23 = some r) ∧ Aside0 (kq ≤ kj14) ∧ Aside0 (Kd.V (Kd.slice 5 (Kd.int .u8)) 38 wc w.heap.size (fun _ => True) v181 t180) ∧ Aside0 (Kd.V (Kd.slice 5 (Kd.int .u8)) 38 wc w.heap.size (fun _ => True) v185 t184) ∧ Aside0 (Below w.heap.size w wc))
       case first =>
        have H := HC24.out
        clear HC24
        by_cases c29 : (l0.length : Int) = 0
        ·rw [if_pos c29] at H
         have c29b0 : ((l0.length : Int) == 0) = true := beq_iff_eq.mpr c29
         have c29b1 : ((l0.length : Int) != 0) = false := bne_eq_false_iff_eq.mpr c29
         clear c29
         (first | rw [c29b0] | (simp only [i64_w, i32_w]; rw [c29b0]) | skip)
         have H' := Aside0.mk H
         clear H
         go_wp2
         go_meet
         case rel => exact ⟨_, (true), (by first | rfl | (simp; done) | (simp [*]; done)), H', ⟨by have := HJ3.out; have := HJ14.out; first | omega | exact Nat.le_refl _⟩, ⟨by (with_reducible repeat (first | apply Kd.V_alloc | apply Kd.V_drewN | apply Kd.V_drew)); exact HO182.out⟩, ⟨by (with_reducible repeat (first | apply Kd.V_alloc | apply Kd.V_drewN | apply Kd.V_drew)); exact HO186.out⟩, ⟨by repeat (first | (with_reducible first | exact HB.out | apply below_alloc | apply pw_below_drewN | apply below_drew1) | exact HB.out)⟩⟩
        ·rw [if_neg c29] at H
         have c29b0 : ((l0.length : Int) == 0) = false := beq_eq_false_iff_ne.mpr c29
         have c29b1 : ((l0.length : Int) != 0) = true := bne_iff_ne.mpr c29
         have c29b2 : ¬ (l0 = []) := fun h_ => c29 (by rw [h_]; rfl)
         (first | rw [c29b0] | (simp only [i64_w, i32_w]; rw [c29b0]) | skip)
         have H' := Aside0.mk H
         clear H
         go_wp2
         go_meet
         case rel => exact ⟨_, (((l1.length : Int) == 0)), (by first | rfl | (simp; done) | (simp [*]; done)), H', ⟨by have := HJ3.out; have := HJ14.out; first | omega | exact Nat.le_refl _⟩, ⟨by (with_reducible repeat (first | apply Kd.V_alloc | apply Kd.V_drewN | apply Kd.V_drew)); exact HO182.out⟩, ⟨by (with_reducible repeat (first | apply Kd.V_alloc | apply Kd.V_drewN | apply Kd.V_drew)); exact HO186.out⟩, ⟨by repeat (first | (with_reducible first | exact HB.out | apply below_alloc | apply pw_below_drewN | apply below_drew1) | exact HB.out)⟩⟩
       case rest =>
        clear HC24
        try clear c1
        try clear c2
        try clear p2
        try clear c3
        try clear c6
        try clear c6b0
        try clear p6
        try clear c8
        try clear c10
        try clear c12
        try clear c13
        try clear c18
        try clear c18b0
        try clear c18b1
        try clear c19
        try clear c29
        try clear c29b0
        try clear c29b1
        try clear c29b2
        try clear p2
        try clear p6
        obtain ⟨kq, x68_23, rfl, HA, HJ23, HO_11, HO_13, HB⟩ := hcut
        cases kq with
        | zero => exact absurd HA.out (by simp [tabularylaw02_MatrixChains.j2])
        | succ kj23 =>
         have H := HA.out
         clear HA
         simp only [tabularylaw02_MatrixChains.j2] at H
         by_cases c30 : x68_23 = true
         ·subst c30
          have H1 : (if t183 = t187 then ((tabularylaw02_wakes.f kj23).bind fun t188 => (some t188)) else (some false)) = some r := by rw [if_pos rfl] at H; exact H
          clear H
          have H := H1
          clear H1
          by_cases c31 : t183 = t187
          ·rw [if_pos c31] at H
           have c31b0 : (t183 == t187) = true := beq_iff_eq.mpr c31
           have c31b1 : (t183 != t187) = false := bne_eq_false_iff_eq.mpr c31
           clear c31
           replace H := Option.bind_eq_some_iff.mp H
           obtain ⟨t188, A320, H⟩ := H
           replace H : (some t188) = some r := H
           have A32 := Aside0.mk A320
           clear A320
           obtain rfl := Option.some.inj H
           go_wp2_with (first | (go_at_call 12; (with_reducible refine (tabularylaw02_wakes.calls kj23  t188 _ A32.out).mono ?_); rintro e w33 ⟨rfl, hb⟩; have n0_ := Aside0.mk (Kd.V_below (by (with_reducible repeat (first | apply Kd.V_alloc | apply Kd.V_drewN | apply Kd.V_drew)); exact HO_11.out) hb); have n1_ := Aside0.mk (Kd.V_below (by (with_reducible repeat (first | apply Kd.V_alloc | apply Kd.V_drewN | apply Kd.V_drew)); exact HO_13.out) hb); have n2_ := Aside0.mk (below_step (by repeat (first | (with_reducible first | exact HB.out | apply below_alloc | apply pw_below_drewN | apply below_drew1) | exact HB.out)) hb); clear HO_11; clear HO_13; clear HB; have HO_11 := n0_; have HO_13 := n1_; have HB := n2_; clear n0_ n1_ n2_; (try clear hb); (try clear hb2); (try clear hk); (try clear hi)))
           go_ret
           exact ⟨by first | rfl | (simp [errW_none, errW_some] <;> rfl) | (simp [*, errW_none, errW_some] <;> rfl), by repeat (first | (with_reducible first | exact HB.out | apply below_alloc | apply pw_below_drewN | apply below_drew1) | exact HB.out)⟩
          ·rw [if_neg c31] at H
           have c31b0 : (t183 == t187) = false := beq_eq_false_iff_ne.mpr c31
           have c31b1 : (t183 != t187) = true := bne_iff_ne.mpr c31
           obtain rfl := Option.some.inj H
           go_wp2
           go_ret
           exact ⟨by first | rfl | (simp [errW_none, errW_some] <;> rfl) | (simp [*, errW_none, errW_some] <;> rfl), by repeat (first | (with_reducible first | exact HB.out | apply below_alloc | apply pw_below_drewN | apply below_drew1) | exact HB.out)⟩
         ·replace c30 := Bool.eq_false_iff.mpr c30
          subst c30
          have H1 : (if t183 = 0 then (if t187 = 0 then ((tabularyref02_Same.f kj23 t180 t184).bind fun t189 => (if t189 = true then ((tabularylaw02_wakes.f kj23).bind fun t190 => (some t190)) else (some false))) else (some false)) else (some false)) = some r := by rw [if_neg (show ¬ (false = true) by decide)] at H; exact H
          clear H
          have H := H1
          clear H1
          by_cases c34 : t183 = 0
          ·rw [if_pos c34] at H
           have c34b0 : (t183 == 0) = true := beq_iff_eq.mpr c34
           have c34b1 : (t183 != 0) = false := bne_eq_false_iff_eq.mpr c34
           clear c34
           by_cases c35 : t187 = 0
           ·rw [if_pos c35] at H
            have c35b0 : (t187 == 0) = true := beq_iff_eq.mpr c35
            have c35b1 : (t187 != 0) = false := bne_eq_false_iff_eq.mpr c35
            clear c35
            replace H := Option.bind_eq_some_iff.mp H
            obtain ⟨t189, A360, H⟩ := H
            replace H : (if t189 = true then ((tabularylaw02_wakes.f kj23).bind fun t190 => (some t190)) else (some false)) = some r := H
            have A36 := Aside0.mk A360
            clear A360
            by_cases c37 : t189 = true
            ·subst c37
             have H1 : ((tabularylaw02_wakes.f kj23).bind fun t190 => (some t190)) = some r := by rw [if_pos rfl] at H; exact H
             clear H
             have H := H1
             clear H1
             replace H := Option.bind_eq_some_iff.mp H
             obtain ⟨t190, A380, H⟩ := H
             replace H : (some t190) = some r := H
             have A38 := Aside0.mk A380
             clear A380
             obtain rfl := Option.some.inj H
             obtain ⟨Ao39, co39, eo39⟩ := Kd.V_slice HO_11.out
             subst eo39
             obtain ⟨Ao40, co40, eo40⟩ := Kd.V_slice HO_13.out
             subst eo40
             go_wp2_with (first | (go_at_call 14; (with_reducible refine (tabularyref02_Same.calls kj23 _ _ t180 _ _ t184 true _ ?side1 ?side2 ?side3 ?side4 A36.out).mono ?_); (case side1 => repeat (first | exact (Kd.V_reads' HO_11.out).2.2 | (with_reducible refine Kd.C_alloc ?_ _) | (with_reducible refine Kd.C_drewN ?_ _) | (with_reducible refine Kd.C_drew ?_))); (case side2 => exact (Kd.V_reads' HO_11.out).2.1); (case side3 => repeat (first | exact (Kd.V_reads' HO_13.out).2.2 | (with_reducible refine Kd.C_alloc ?_ _) | (with_reducible refine Kd.C_drewN ?_ _) | (with_reducible refine Kd.C_drew ?_))); (case side4 => exact (Kd.V_reads' HO_13.out).2.1); rintro e w' ⟨rfl, ⟨nd, rfl⟩⟩) | (go_at_call 12; (with_reducible refine (tabularylaw02_wakes.calls kj23  t190 _ A38.out).mono ?_); rintro e w41 ⟨rfl, hb⟩; have n0_ := Aside0.mk (Kd.V_below (by (with_reducible repeat (first | apply Kd.V_alloc | apply Kd.V_drewN | apply Kd.V_drew)); exact HO_11.out) hb); have n1_ := Aside0.mk (Kd.V_below (by (with_reducible repeat (first | apply Kd.V_alloc | apply Kd.V_drewN | apply Kd.V_drew)); exact HO_13.out) hb); have n2_ := Aside0.mk (below_step (by repeat (first | (with_reducible first | exact HB.out | apply below_alloc | apply pw_below_drewN | apply below_drew1) | exact HB.out)) hb); clear HO_11; clear HO_13; clear HB; have HO_11 := n0_; have HO_13 := n1_; have HB := n2_; clear n0_ n1_ n2_; (try clear hb); (try clear hb2); (try clear hk); (try clear hi)))
             go_ret
             exact ⟨by first | rfl | (simp [errW_none, errW_some] <;> rfl) | (simp [*, errW_none, errW_some] <;> rfl), by repeat (first | (with_reducible first | exact HB.out | apply below_alloc | apply pw_below_drewN | apply below_drew1) | exact HB.out)⟩
            ·replace c37 := Bool.eq_false_iff.mpr c37
             subst c37
             have H1 : (some false) = some r := by rw [if_neg (show ¬ (false = true) by decide)] at H; exact H
             clear H
             have H := H1
             clear H1
             obtain rfl := Option.some.inj H
             obtain ⟨Ao42, co42, eo42⟩ := Kd.V_slice HO_11.out
             subst eo42
             obtain ⟨Ao43, co43, eo43⟩ := Kd.V_slice HO_13.out
             subst eo43
             go_wp2_with (first | (go_at_call 14; (with_reducible refine (tabularyref02_Same.calls kj23 _ _ t180 _ _ t184 false _ ?side1 ?side2 ?side3 ?side4 A36.out).mono ?_); (case side1 => repeat (first | exact (Kd.V_reads' HO_11.out).2.2 | (with_reducible refine Kd.C_alloc ?_ _) | (with_reducible refine Kd.C_drewN ?_ _) | (with_reducible refine Kd.C_drew ?_))); (case side2 => exact (Kd.V_reads' HO_11.out).2.1); (case side3 => repeat (first | exact (Kd.V_reads' HO_13.out).2.2 | (with_reducible refine Kd.C_alloc ?_ _) | (with_reducible refine Kd.C_drewN ?_ _) | (with_reducible refine Kd.C_drew ?_))); (case side4 => exact (Kd.V_reads' HO_13.out).2.1); rintro e w' ⟨rfl, ⟨nd, rfl⟩⟩))
             go_ret
             exact ⟨by first | rfl | (simp [errW_none, errW_some] <;> rfl) | (simp [*, errW_none, errW_some] <;> rfl), by repeat (first | (with_reducible first | exact HB.out | apply below_alloc | apply pw_below_drewN | apply below_drew1) | exact HB.out)⟩
           ·rw [if_neg c35] at H
            have c35b0 : (t187 == 0) = false := beq_eq_false_iff_ne.mpr c35
            have c35b1 : (t187 != 0) = true := bne_iff_ne.mpr c35
            obtain rfl := Option.some.inj H
            go_wp2
            go_ret
            exact ⟨by first | rfl | (simp [errW_none, errW_some] <;> rfl) | (simp [*, errW_none, errW_some] <;> rfl), by repeat (first | (with_reducible first | exact HB.out | apply below_alloc | apply pw_below_drewN | apply below_drew1) | exact HB.out)⟩
          ·rw [if_neg c34] at H
           have c34b0 : (t183 == 0) = false := beq_eq_false_iff_ne.mpr c34
           have c34b1 : (t183 != 0) = true := bne_iff_ne.mpr c34
           obtain rfl := Option.some.inj H
           go_wp2
           go_ret
           exact ⟨by first | rfl | (simp [errW_none, errW_some] <;> rfl) | (simp [*, errW_none, errW_some] <;> rfl), by repeat (first | (with_reducible first | exact HB.out | apply below_alloc | apply pw_below_drewN | apply below_drew1) | exact HB.out)⟩

end Go.Proofs.Ytjkmaobfpgfdnaa.PMatrixChains
end

-- Written by wip/tools/myprint.py, a program of this session over the print tool: not a printed text of the kit's
section
namespace Go.Proofs.Ytjkmaobfpgfdnaa.PMatrixChains
open Go.RowKit Go.Proofs.YtjkmaobfpgfdnaaW.PrintWords Go.Proofs.YtjkmaobfpgfdnaaW.PrintLast Go.Proofs.YtjkmaobfpgfdnaaW.PrintMore
attribute [local go_sem] max2_int min2_int max_two min_two max_three min_three max_four min_four   -- for this text's walks alone
set_option linter.unusedVariables false
set_option linter.unusedSimpArgs false
set_option maxRecDepth 20000

end Go.Proofs.Ytjkmaobfpgfdnaa.PMatrixChains
end

/- MatrixChains with no program in sight. -/
section
namespace Go.Proofs.Ytjkmaobfpgfdnaa.ChainsPure
open Go.Proofs.Ytjkmaobfpgfdnaa Go.RowKit Go.Proofs.YtjkmaobfpgfdnaaW.PrintWords Go.Proofs.YtjkmaobfpgfdnaaW.PrintLast Go.Proofs.YtjkmaobfpgfdnaaW.PrintMore Go.Proofs.Ytjkmaobfpgfdnaa.PMatrixChains Go.Proofs.Ytjkmaobfpgfdnaa.Elim Go.Proofs.Ytjkmaobfpgfdnaa.MSteps Go.Proofs.Ytjkmaobfpgfdnaa.Tab Go.Proofs.Ytjkmaobfpgfdnaa.MBad Go.Proofs.Ytjkmaobfpgfdnaa.MMul Go.Proofs.Ytjkmaobfpgfdnaa.MTurned Go.Proofs.Ytjkmaobfpgfdnaa.MInverse Go.Proofs.Ytjkmaobfpgfdnaa.MPlug Go.Proofs.Ytjkmaobfpgfdnaa.MPure
set_option linter.unusedVariables false
set_option linter.unusedSimpArgs false

theorem w64 {a : Int} (h : -9223372036854775808 ≤ a ∧ a ≤ 9223372036854775807) : wrap64 a = a := by
  unfold wrap64; omega
theorem same_l (X : List (List Int)) (hl : X.length ≤ 4611686018427387904) : ∀ (d k i : Nat), d + i = X.length → d < k → tabularyref02_Same.l0 k X X (i : Int) = some true := by
  intro d
  induction d with
  | zero =>
    intro k i hd hk
    obtain ⟨k, rfl⟩ : ∃ m, k = m + 1 := ⟨k - 1, by omega⟩
    simp only [tabularyref02_Same.l0]
    rw [if_neg (by omega)]
  | succ d ih =>
    intro k i hd hk
    obtain ⟨k, rfl⟩ : ∃ m, k = m + 1 := ⟨k - 1, by omega⟩
    simp only [tabularyref02_Same.l0]
    rw [if_pos (by omega), if_pos (by omega), if_pos (by omega), if_pos trivial, w64 (a := (i : Int) + 1) (by omega), show (i : Int) + 1 = ((i + 1 : Nat) : Int) by omega]
    exact ih k (i + 1) (by omega) (by omega)
theorem same_self (X : List (List Int)) (hl : X.length ≤ 4611686018427387904) (k : Nat) (hk : X.length < k) : tabularyref02_Same.f k X X = some true := by
  unfold tabularyref02_Same.f
  rw [if_pos rfl]
  exact same_l X hl X.length k 0 (by omega) hk
theorem wakes_ten : tabularylaw02_wakes.f 10 = some true := by decide +kernel
theorem wakes_ok (k : Nat) (hk : 10 ≤ k) : tabularylaw02_wakes.f k = some true := by
  induction k with
  | zero => omega
  | succ k ih =>
    by_cases h : 10 ≤ k
    · exact tabularylaw02_wakes.mono k _ (ih h)
    · have : k = 9 := by omega
      subst this
      exact wakes_ten

theorem great_l (X : List (List Int)) (hl : X.length ≤ 4611686018427387904) : ∀ (d k i : Nat) (a : Int), d + i = X.length → d < k → ∃ b, tabularylaw02_great.l0 k X a (i : Int) = some b := by
  intro d
  induction d with
  | zero =>
    intro k i a hd hk
    obtain ⟨k, rfl⟩ : ∃ m, k = m + 1 := ⟨k - 1, by omega⟩
    simp only [tabularylaw02_great.l0]
    rw [if_neg (by omega)]
    exact ⟨_, rfl⟩
  | succ d ih =>
    intro k i a hd hk
    obtain ⟨k, rfl⟩ : ∃ m, k = m + 1 := ⟨k - 1, by omega⟩
    simp only [tabularylaw02_great.l0]
    rw [if_pos (by omega)]
    by_cases ha : a ≤ 4096
    · rw [if_pos ha, if_pos (by omega), w64 (a := (i : Int) + 1) (by omega), show (i : Int) + 1 = ((i + 1 : Nat) : Int) by omega]
      exact ih k (i + 1) _ (by omega) (by omega)
    · rw [if_neg ha]
      exact ⟨_, rfl⟩
theorem great_ok (X : List (List Int)) (hl : X.length ≤ 4611686018427387904) (k : Nat) (hk : X.length < k) : ∃ b, tabularylaw02_great.f k X = some b := great_l X hl X.length k 0 0 (by omega) hk

theorem columns_ok (X : List (List Int)) : tabularyref02_Columns.f X = some ((colS X : Nat) : Int) := by
  unfold tabularyref02_Columns.f colS
  by_cases h : X.length = 0
  · rw [if_pos (by omega), if_pos h]; rfl
  · rw [if_neg (by omega), if_neg h, if_pos (by omega)]; rfl

theorem j0_true (k : Nat) (hk : 11 ≤ k) (A B C : List (List Int)) : tabularylaw02_MatrixChains.j0 k A B C true = some true := by
  obtain ⟨k, rfl⟩ : ∃ m, k = m + 1 := ⟨k - 1, by omega⟩
  simp only [tabularylaw02_MatrixChains.j0]
  rw [if_pos trivial, wakes_ok k (by omega)]
  rfl
theorem j1_true (k : Nat) (hk : 11 ≤ k) (A B C D E : List (List Int)) : tabularylaw02_MatrixChains.j1 k A B C D E true = some true := by
  obtain ⟨k, rfl⟩ : ∃ m, k = m + 1 := ⟨k - 1, by omega⟩
  simp only [tabularylaw02_MatrixChains.j1]
  rw [if_pos trivial, wakes_ok k (by omega)]
  rfl
theorem mul_some {X Y : List (List Int)} (hX : AMB X) (hY : AMB Y) : ∃ R, AMB R ∧ mulF X Y = some (R, mulE X Y) := by
  by_cases h : mulE X Y = 0
  · exact ⟨_, amb_tabl _ _ _, by rw [mul_one' hX hY h, h]⟩
  · exact ⟨[], (fun r hr => nomatch hr), mul_two hX hY h⟩
theorem chains_j0 (k : Nat) (A B C : List (List Int)) (hA : AMB A) (hB : AMB B) (hC : AMB C) (hl : A.length + 100 ≤ k) (hm : A.length ≤ 4611686018427387904) : tabularylaw02_MatrixChains.j0 k A B C false = some true := by
  obtain ⟨k, rfl⟩ : ∃ m, k = m + 1 + 1 + 1 := ⟨k - 3, by omega⟩
  simp only [tabularylaw02_MatrixChains.j0]
  rw [if_neg (by decide)]
  unfold matrix_Mul.f
  by_cases h1 : mulE A B = 0
  · rw [mul_one' hA hB h1]
    simp only [Option.bind_some]
    by_cases h2 : mulE B C = 0
    · rw [mul_one' hB hC h2]
      simp only [Option.bind_some]
      rw [if_pos trivial]
      obtain ⟨c1, c2, c3⟩ := chains hA hB hC h1 h2
      simp only [tabularylaw02_MatrixChains.j1]
      rw [if_neg (by decide)]
      unfold matrix_Mul.f
      rw [mul_one' (amb_tabl _ _ _) hC c1, mul_one' hA (amb_tabl _ _ _) c2]
      simp only [Option.bind_some]
      have hw := wakes_ok k (by omega)
      by_cases a0 : A.length = 0
      · rw [if_pos (by omega)]
        simp only [tabularylaw02_MatrixChains.j2]
        rw [if_pos trivial, if_pos trivial, hw]
        rfl
      · rw [if_neg (by omega)]
        by_cases b0 : B.length = 0
        · rw [show (((B.length : Nat) : Int) == 0) = true by rw [b0]; rfl]
          simp only [tabularylaw02_MatrixChains.j2]
          rw [if_pos trivial, if_pos trivial, hw]
          rfl
        · rw [show (((B.length : Nat) : Int) == 0) = false from beq_eq_false_iff_ne.2 (by omega), c3 b0 a0]
          simp only [tabularylaw02_MatrixChains.j2]
          rw [if_neg (by decide), if_pos trivial, if_pos trivial, same_self _ (by rw [tabl_len]; exact hm) _ (by rw [tabl_len]; omega)]
          simp only [Option.bind_some, if_true]
          rw [hw]
          rfl
    · rw [mul_two hB hC h2]
      simp only [Option.bind_some]
      rw [if_pos trivial, show (mulE B C != 0) = true by simpa using h2]
      exact j1_true _ (by omega) _ _ _ _ _
  · obtain ⟨R, _, hR⟩ := mul_some hB hC
    rw [mul_two hA hB h1, hR]
    simp only [Option.bind_some]
    rw [if_neg h1]
    exact j1_true _ (by omega) _ _ _ _ _
theorem chains_pure (A B C : List (List Int)) (hA : AMB A) (hB : AMB B) (hC : AMB C) (la : A.length ≤ 4611686018427387904) (lb : B.length ≤ 4611686018427387904) (lc : C.length ≤ 4611686018427387904) : ∃ k, tabularylaw02_MatrixChains.f k A B C = some true := by
  obtain ⟨K, hK⟩ : ∃ K, K = A.length + B.length + C.length + 100 := ⟨_, rfl⟩
  refine ⟨K, ?_⟩
  obtain ⟨b, hb⟩ := great_ok B lb K (by omega)
  obtain ⟨c, hc⟩ := great_ok C lc K (by omega)
  have hcol := columns_ok A
  generalize ((colS A : Nat) : Int) = q at hcol
  have hj := j0_true K (by omega) A B C
  have hf := chains_j0 K A B C hA hB hC (by omega) la
  clear hK
  unfold tabularylaw02_MatrixChains.f
  rw [hcol, Option.bind_some]
  by_cases hq : wrap64 ((A.length : Int) * q) > 512
  · rw [if_pos hq]
    exact hj
  · rw [if_neg hq, hb, Option.bind_some]
    cases b with
    | true =>
      rw [if_pos rfl]
      exact hj
    | false =>
      rw [if_neg (fun h => nomatch h), hc, Option.bind_some]
      cases c with
      | true => exact hj
      | false => exact hf
theorem amb_of {X : List (List Int)} (h : ∀ x ∈ X, ∀ m ∈ x, (Lit.int .u8 m).wf = true) : AMB X := fun r hr x hx => GfPure.wf8 (h r hr x hx)
theorem walk (A0 : Option Addr) (c0 : Nat) (X : List (List Int)) (A1 : Option Addr) (c1 : Nat) (Y : List (List Int)) (A2 : Option Addr) (c2 : Nat) (Z : List (List Int)) (w : World)
    (hr0 : Kd.C (Kd.slice 5 (Kd.int .u8)) w A0 X.length X) (hc0 : X.length ≤ c0) (hA : ∀ x ∈ X, ∀ m ∈ x, (Lit.int .u8 m).wf = true) (la : X.length ≤ 4611686018427387904)
    (hr1 : Kd.C (Kd.slice 5 (Kd.int .u8)) w A1 Y.length Y) (hc1 : Y.length ≤ c1) (hB : ∀ x ∈ Y, ∀ m ∈ x, (Lit.int .u8 m).wf = true) (lb : Y.length ≤ 4611686018427387904)
    (hr2 : Kd.C (Kd.slice 5 (Kd.int .u8)) w A2 Z.length Z) (hc2 : Z.length ≤ c2) (hC : ∀ x ∈ Z, ∀ m ∈ x, (Lit.int .u8 m).wf = true) (lc : Z.length ≤ 4611686018427387904) :
    Calls Try.prog 3 #[.slice A0 X.length c0, .slice A1 Y.length c1, .slice A2 Z.length c2] w fun e w' => e = .returned (.bool true) ∧ Below w.heap.size w w' := by
  obtain ⟨k, hk⟩ := chains_pure X Y Z (amb_of hA) (amb_of hB) (amb_of hC) la lb lc
  exact PMatrixChains.tabularylaw02_MatrixChains.calls k A0 c0 X A1 c1 Y A2 c2 Z true w hr0 hc0 hr1 hc1 hr2 hc2 hk

end Go.Proofs.Ytjkmaobfpgfdnaa.ChainsPure
end

/- What came in, laid open, with how much it is: whole numbers, bools, texts, rows, arrays, in whatever nesting. -/
section
namespace Go.Proofs.Ytjkmaobfpgfdnaa.Opn
open Go Go.RowKit Go.Proofs.YtjkmaobfpgfdnaaW.PrintWords Go.Proofs.YtjkmaobfpgfdnaaW.PrintLast Go.Proofs.YtjkmaobfpgfdnaaW.PrintMore
set_option linter.unusedVariables false

/-- Each reading at the type t that is no more than there may be gives a value of which K and W hold. -/
def Opn (P : Program) {α : Type} (K : World → α → List Value → Prop) (t : TypeId) (W : α → Prop) : Prop :=
  ∀ (H : Type) (enc : TypeId × Value → H) (w : World) (sp : Nat → Bool) (held : Bool) (fuel : Nat) (cs : List Value) (x : DataW H × List MemPlace),
    DataW.trod enc P w 0 sp held fuel t cs = some x → (x.1.weights P t).all (· ≤ reachBytes) = true → ∃ a, K w a cs ∧ W a

theorem Opn.weak {P : Program} {α : Type} {K : World → α → List Value → Prop} {t : TypeId} {W W' : α → Prop} (h : Opn P K t W) (hw : ∀ a, W a → W' a) : Opn P K t W' := fun H enc w sp held fuel cs x h1 h2 => by
  obtain ⟨a, ha, hb⟩ := h H enc w sp held fuel cs x h1 h2
  exact ⟨a, ha, hw a hb⟩
theorem of_int {P : Program} {t : TypeId} {k : IntKind} (ht : P.underlying t = some (.int k)) : Opn P (Kd.int k).K t (fun n => (Lit.int k n).wf = true) := by
  intro H enc w sp held fuel cs x h _
  obtain ⟨n, rfl, _, hw⟩ := DataW.trod_int ht h
  exact ⟨n, rfl, hw⟩
theorem of_bool {P : Program} {t : TypeId} (ht : P.underlying t = some .bool) : Opn P Kd.bool.K t (fun _ => True) := by
  intro H enc w sp held fuel cs x h _
  cases fuel with
  | zero => simp [DataW.trod] at h
  | succ n =>
    unfold DataW.trod at h
    rw [ht] at h
    split at h <;> first | (exact ⟨_, rfl, trivial⟩) | simp_all
theorem of_string {P : Program} {t : TypeId} (ht : P.underlying t = some .string) : Opn P Kd.string.K t (fun s => s.size ≤ 140737488351232) := by
  intro H enc w sp held fuel cs x h hw
  obtain ⟨s, rfl, rfl, _⟩ := DataW.trod_string ht h
  refine ⟨s, rfl, ?_⟩
  simp only [DataW.weights, List.all_cons, List.all_nil, Bool.and_true, decide_eq_true_eq] at hw
  simpa [reachBytes] using hw

theorem cells_at {w : World} {a : Addr} {n : Nat} {cs : List Value} (h : w.cells? 0 a n = some cs) : cs.length = n ∧ ∀ i u, cs[i]? = some u → w.cell? (a.add i) = some u := by
  obtain ⟨_, hl, hc⟩ := World.cells?_some h
  refine ⟨hl, fun i u hu => ?_⟩
  have hi : i < n := by rw [← hl]; exact (List.getElem?_eq_some_iff.1 hu).1
  rw [hc i hi, hu]
/-- One value for each place. -/
theorem choose_row {α : Type} {p : Nat → α → Prop} (n : Nat) (h : ∀ i, i < n → ∃ x, p i x) : ∃ xs : List α, xs.length = n ∧ ∀ i x, xs[i]? = some x → p i x := by
  induction n with
  | zero => exact ⟨[], rfl, fun i x hx => by simp at hx⟩
  | succ n ih =>
    obtain ⟨xs, hl, hp⟩ := ih (fun i hi => h i (by omega))
    obtain ⟨x, hx⟩ := h n (by omega)
    refine ⟨xs ++ [x], by simp [hl], fun i y hy => ?_⟩
    by_cases hi : i < xs.length
    · rw [List.getElem?_append_left hi] at hy
      exact hp i y hy
    · rw [List.getElem?_append_right (by omega)] at hy
      have : i = n := by
        have := (List.getElem?_eq_some_iff.1 hy).1
        simp at this; omega
      subst this
      rw [hl, Nat.sub_self] at hy
      simp at hy
      rw [← hy]; exact hx
theorem weights_all {H : Type} {P : Program} {e : TypeId} : ∀ {ds : List (DataW H)} {d : DataW H}, d ∈ ds → ∀ n ∈ d.weights P e, n ∈ DataW.weightsAll P e ds
  | d0 :: ds, d, hd, n, hn => by
    simp only [DataW.weightsAll, List.mem_append]
    rcases List.mem_cons.1 hd with rfl | hd
    · exact .inl hn
    · exact .inr (weights_all hd n hn)

theorem of_slice {P : Program} {α : Type} {d : Kd α} {t e : TypeId} {W : α → Prop} (ht : P.underlying t = some (.slice e)) (hc : P.cellsOf e = d.sz) {B : Nat} (hB : P.bytesOf e = B) (he : Opn P d.K e W) :
    Opn P (Kd.slice e d).K t (fun l => l.length * B ≤ 140737488351232 ∧ l.length ≤ maxLen ∧ ∀ x ∈ l, W x) := by
  intro H enc w sp held fuel cs x h hw
  rcases DataW.trod_slice ht h with ⟨rfl, _⟩ | ⟨a, len, cap, elems, rest, n, _, rfl, hx, _, hlc, hcm, hlen, hel, _⟩
  · exact ⟨[], ⟨none, 0, rfl, Nat.le_refl _, rfl, Nat.zero_le _, fun h => absurd h (by simp)⟩, by simp, by simp [maxLen], fun x hx => by simp at hx⟩
  · subst hx
    have hall := List.all_eq_true.1 hw
    simp only [DataW.weights, ht] at hall
    have h0 : (elems.length + rest.length) * B ≤ 140737488351232 := by
      have := hall ((elems.length + rest.length) * P.bytesOf e) (by simp)
      rw [hB] at this
      have h2 := of_decide_eq_true this
      simpa [reachBytes] using h2
    have hx : ∀ i, i < len → ∃ y, (∃ c, c.length = d.sz ∧ d.K w y c ∧ ∀ j u, c[j]? = some u → w.cell? (a.add (i * d.sz + j)) = some u) ∧ W y := by
      intro i hi
      have hE := hel i hi
      rw [List.getElem?_eq_getElem (by omega)] at hE
      obtain ⟨c, hcc, hy⟩ := Option.bind_eq_some_iff.mp hE
      have hwt : ((elems[i]'(by omega)).1.weights P e).all (· ≤ reachBytes) = true := List.all_eq_true.2 fun n hn => hall n (by
        refine List.mem_cons_of_mem _ (List.mem_append_left _ (weights_all (d := (elems[i]'(by omega)).1) ?_ n hn))
        exact List.mem_map_of_mem (List.getElem_mem _))
      obtain ⟨y, hy, hw⟩ := he H enc w sp held n c _ hy hwt
      obtain ⟨hl, hcell⟩ := cells_at hcc
      refine ⟨y, ⟨c, by rw [hl, hc], hy, fun j u hu => ?_⟩, hw⟩
      have := hcell j u hu
      rw [Addr.add_add, hc] at this
      exact this
    obtain ⟨xs, hl, hp⟩ := choose_row len hx
    have hmx : maxLen ≤ 9223372036854775807 := by decide
    refine ⟨xs, ⟨some a, cap, by rw [hl], by omega, rfl, by omega, fun _ => ⟨a, rfl, fun j p hj => (hp j p hj).1⟩⟩, ?_, by omega, fun x hx => ?_⟩
    · have : len * B ≤ (elems.length + rest.length) * B := Nat.mul_le_mul_right _ (by omega)
      rw [hl]; omega
    · obtain ⟨i, hi, rfl⟩ := List.mem_iff_getElem.mp hx
      exact (hp i _ (List.getElem?_eq_getElem hi)).2

/-- An array's cells are one behind the other. -/
theorem of_ints_array {P : Program} {n : Nat} {t e : TypeId} {k : IntKind} (ht : P.underlying t = some (.array n e)) (he : P.underlying e = some (.int k)) (hc : P.cellsOf e = 1) (hn : P.cellsOf t = n) :
    Opn P (fun _ (l : List Int) cs => l.length = n ∧ cs = l.map (Value.int k)) t (fun l => ∀ m ∈ l, (Lit.int k m).wf = true) := by
  intro H enc w sp held fuel cs x h _
  obtain ⟨xs, m, _, _, hl, hxl, hel⟩ := DataW.trod_array ht h
  have hx : ∀ i, i < n → ∃ y, cs[i]? = some (.int k y) ∧ (Lit.int k y).wf = true := by
    intro i hi
    have hE := hel i hi
    rw [List.getElem?_eq_getElem (by omega), hc, Nat.mul_one] at hE
    obtain ⟨y, hy, _, hw⟩ := DataW.trod_int he hE
    refine ⟨y, ?_, hw⟩
    have hlt : i < cs.length := by omega
    have h0 := congrArg (fun z => z[0]?) hy
    simp only [List.getElem?_take, List.getElem?_drop, Nat.add_zero, List.getElem?_cons_zero] at h0
    simpa using h0
  obtain ⟨l, hll, hp⟩ := choose_row n hx
  refine ⟨l, ⟨hll, ?_⟩, fun m hm => ?_⟩
  · apply List.ext_getElem?
    intro i
    rw [List.getElem?_map]
    cases hi : l[i]? with
    | none =>
      have : l.length ≤ i := List.getElem?_eq_none_iff.mp hi
      rw [List.getElem?_eq_none (by omega)]; rfl
    | some y => rw [(hp i y hi).1]; rfl
  · obtain ⟨i, hi, rfl⟩ := List.mem_iff_getElem.mp hm
    exact (hp i _ (List.getElem?_eq_getElem hi)).2

/-- A state's fields, each read where it lies. -/
theorem fields {P : Program} {H : Type} {enc : TypeId × Value → H} {w : World} {sp : Nat → Bool} {held : Bool} {fuel : Nat} {t : TypeId} {fs : Array Field} {cs : List Value} {x : DataW H × List MemPlace} (ht : P.underlying t = some (.struct fs))
    (h : DataW.trod enc P w 0 sp held fuel t cs = some x) (hw : (x.1.weights P t).all (· ≤ reachBytes) = true) :
    cs.length = P.cellsOf t ∧ ∀ (i : Nat) (f : Field) {α : Type} (K : World → α → List Value → Prop) (W : α → Prop), fs[i]? = some f → Opn P K f.type W → ∃ a, K w a ((cs.drop f.offset).take (P.cellsOf f.type)) ∧ W a := by
  obtain ⟨xs, n, _, rfl, hl, hxl, hf⟩ := DataW.trod_struct ht h
  refine ⟨hl, fun i f α K W hi ho => ?_⟩
  have hif : i < fs.size := (Array.getElem?_eq_some_iff.1 hi).1
  have hq := hf i f hi
  rw [List.getElem?_eq_getElem (by omega)] at hq
  refine ho H enc w sp held n _ _ hq ?_
  have hall := List.all_eq_true.1 hw
  simp only [DataW.weights, ht] at hall
  refine List.all_eq_true.2 fun m hm => hall m ?_
  refine DataW.weights_mem_each (j := i) (t := f.type) (d := (xs[i]'(by omega)).1) ?_ ?_ m hm
  · simp [hi]
  · simp [List.getElem?_eq_getElem (show i < xs.length by omega)]
theorem split_at (cs : List Value) (o s : Nat) : (cs.drop o).take s ++ cs.drop (o + s) = cs.drop o := by
  have := List.take_append_drop s (cs.drop o)
  rwa [List.drop_drop] at this
theorem split_end (cs : List Value) (o s : Nat) (h : cs.length = o + s) : (cs.drop o).take s = cs.drop o := List.take_of_length_le (by rw [List.length_drop]; omega)
/-- A row's data, each no more than there may be. -/
theorem sized_at {H : Type} {P : Program} {ts : List TypeId} {ds : List (DataW H)} (h : (DataW.weightsEach P ts ds).all (· ≤ reachBytes) = true) (j : Nat) {t : TypeId} {d : DataW H} (ht : ts[j]? = some t) (hd : ds[j]? = some d) : (d.weights P t).all (· ≤ reachBytes) = true :=
  List.all_eq_true.2 fun n hn => List.all_eq_true.1 h n (DataW.weights_mem_each ht hd n hn)
end Go.Proofs.Ytjkmaobfpgfdnaa.Opn
end
