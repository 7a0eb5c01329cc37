/- Texts of this claim, laid together by wip/tools/squash.py: PMatrixProductsx4, PMatrixProductsx, ProductsPure, MSpoilt, WalkMatrixProducts, Opn. -/
import Derived.Test.YtjkmaobfpgfdnaaQMatrixProducts3
import Derived.HandedShaped
import Derived.StillTailTactics
import Derived.Deep.Slices
import Derived.Test.YtjkmaobfpgfdnaaWMore
import Derived.Test.YtjkmaobfpgfdnaaWArr
import Derived.ChangeArms
import Derived.DataElems
import Derived.DataReads
import Derived.OpenShut
import Derived.SizedLaws

-- Written by wip/tools/myprint.py, a program of this session over the print tool: not a printed text of the kit's
section
namespace Go.Proofs.Ytjkmaobfpgfdnaa.PMatrixProducts
open Go.RowKit Go.Proofs.YtjkmaobfpgfdnaaW.PrintWords Go.Proofs.YtjkmaobfpgfdnaaW.PrintLast Go.Proofs.YtjkmaobfpgfdnaaW.PrintMore
attribute [local go_sem] max2_int min2_int max_two min_two max_three min_three max_four min_four   -- for this text's walks alone
set_option linter.unusedVariables false
set_option linter.unusedSimpArgs false
set_option maxRecDepth 20000

/-! ### matrix_One: function 18 (proved by hand: MPlug.one_calls) -/
def matrix_One.f (a0 : Int) : Option ((List (List Int)) × Int) := Go.Proofs.Ytjkmaobfpgfdnaa.MPlug.oneF a0
theorem matrix_One.calls (a0 : Int) (r1 : List (List Int)) (r2 : Int) (w : World) (h : matrix_One.f a0 = some (r1, r2)) :
  Calls Try.prog 18 #[.int .i64 a0] w fun e w' => ∃ v0_ : Value, e = .returned (.tuple #[v0_, .int .i64 r2]) ∧ Kd.V (Kd.slice 5 (Kd.int .u8)) 38 w' w.heap.size (fun k_ => (w.heap.size ≤ k_)) v0_ r1 ∧ Below w.heap.size w w' :=
 Go.Proofs.Ytjkmaobfpgfdnaa.MPlug.one_calls a0 r1 r2 w  h

/-! ### tabularyref02_One: function 19 -/
def tabularyref02_One.l0 : Nat → Int → List (List Int) → Int → Option ((List (List Int)) × Int)
 | 0, _, _, _ => none
 | k + 1, x0, x4, x5 => if x5 < x0 then (if 0 ≤ x0 then (if (x0 : Int).toNat ≤ 281474976710656 then ((some (List.replicate (x0 : Int).toNat 0 : List Int)).bind fun y201 => (if 0 ≤ x5 then (if x5 < (y201.length : Int) then (if x4.length < 5864062014805 then (tabularyref02_One.l0 k x0 (x4 ++ [(y201.set (x5 : Int).toNat 1)]) (wrap64 (x5 + 1))) else (none)) else (none)) else (none))) else (none)) else (none)) else (some (x4, 0))
def tabularyref02_One.f (k : Nat) (a0 : Int) : Option ((List (List Int)) × Int) := if a0 < 0 then (some (([] : List (List Int)), 1)) else (if a0 > 32 then (some (([] : List (List Int)), 2)) else (tabularyref02_One.l0 k a0 ([] : List (List Int)) 0))
set_option maxHeartbeats 8000000 in
set_option maxRecDepth 100000 in
theorem tabularyref02_One.calls (k : Nat) (a0 : Int) (r1 : List (List Int)) (r2 : Int) (w : World) (h : tabularyref02_One.f k a0 = some (r1, r2)) :
  Calls Try.prog 19 #[.int .i64 a0] w fun e w' => ∃ v0_ : Value, e = .returned (.tuple #[v0_, .int .i64 r2]) ∧ Kd.S (Kd.slice 5 (Kd.int .u8)) 38 w' w.heap.size (fun _ => True) v0_ r1 ∧ Below w.heap.size w w' := by
 have HB := Aside0.mk (Below.refl w.heap.size w)
 have H : (if a0 < 0 then (some (([] : List (List Int)), 1)) else (if a0 > 32 then (some (([] : List (List Int)), 2)) else (tabularyref02_One.l0 k a0 ([] : List (List Int)) 0))) = some (r1, r2) := h
 clear h
 by_cases c2 : a0 < 0
 ·rw [if_pos c2] at H
  have c2b0 : decide (a0 < 0) = true := decide_eq_true c2
  clear c2
  simp only [Option.some.injEq, Prod.mk.injEq] at H
  obtain ⟨rfl, rfl⟩ := H
  go_enter Try.func19, Try.ntmps19
  go_wp2
  go_ret2
  exact ⟨_, by first | rfl | (simp [errW_none, errW_some] <;> rfl) | (simp [*, errW_none, errW_some] <;> rfl), by first | exact Kd.S_nil _ _ _ _ _ | exact Kd.N_nil _ _ _ _ _ | exact Kd.V_nil _ _ _ _ _ | exact Kd.Q_nil _ _ _ _ _ | exact Kd.R_nil _ _ _ _ _, by repeat (first | (with_reducible first | exact HB.out | apply below_alloc | apply pw_below_drewN | apply below_drew1) | exact HB.out)⟩
 ·rw [if_neg c2] at H
  have c2b0 : decide (a0 < 0) = false := decide_eq_false c2
  clear c2
  by_cases c3 : a0 > 32
  ·rw [if_pos c3] at H
   have c3b0 : decide (32 < a0) = true := decide_eq_true c3
   clear c3
   simp only [Option.some.injEq, Prod.mk.injEq] at H
   obtain ⟨rfl, rfl⟩ := H
   go_enter Try.func19, Try.ntmps19
   go_wp2
   go_ret2
   exact ⟨_, by first | rfl | (simp [errW_none, errW_some] <;> rfl) | (simp [*, errW_none, errW_some] <;> rfl), by first | exact Kd.S_nil _ _ _ _ _ | exact Kd.N_nil _ _ _ _ _ | exact Kd.V_nil _ _ _ _ _ | exact Kd.Q_nil _ _ _ _ _ | exact Kd.R_nil _ _ _ _ _, by repeat (first | (with_reducible first | exact HB.out | apply below_alloc | apply pw_below_drewN | apply below_drew1) | exact HB.out)⟩
  ·rw [if_neg c3] at H
   have c3b0 : decide (32 < a0) = false := decide_eq_false c3
   clear c3
   have H' := Aside0.mk H
   clear H
   go_enter Try.func19, Try.ntmps19
   go_wp2
   go_loopg [4, 5] k (fun kq v4 v5 w' => ∃ (x4_1 : List (List Int)) (x5_1 : Int), v5 = .int .i64 x5_1 ∧ Aside0 (tabularyref02_One.l0 kq a0 x4_1 x5_1 = some (r1, r2)) ∧ Aside0 (kq ≤ k) ∧ Aside0 (Kd.S (Kd.slice 5 (Kd.int .u8)) 38 w' w.heap.size (fun _ => True) v4 x4_1) ∧ Aside0 (Below w.heap.size w w'))
   case atStart => exact ⟨(([] : List (List Int))), (0), (by first | rfl | (simp; done) | (simp [*]; done)), H', ⟨Nat.le_refl _⟩, ⟨by first | exact Kd.S_nil _ _ _ _ _ | exact Kd.N_nil _ _ _ _ _ | exact Kd.V_nil _ _ _ _ _ | exact Kd.Q_nil _ _ _ _ _ | exact Kd.R_nil _ _ _ _ _⟩, ⟨by repeat (first | (with_reducible first | exact HB.out | apply below_alloc | apply pw_below_drewN | apply below_drew1) | exact HB.out)⟩⟩
   case round =>
    clear H'
    try clear c1
    try clear c2
    try clear c2b0
    try clear p2
    try clear c3
    try clear c3b0
    obtain ⟨x4_1, x5_1, rfl, HA, HK1, HO_4, HB⟩ := hrel
    cases gk with
    | zero => exact absurd HA.out (by simp [tabularyref02_One.l0])
    | succ k1 =>
     have H := HA.out
     clear HA
     simp only [tabularyref02_One.l0] at H
     by_cases c4 : x5_1 < a0
     ·rw [if_pos c4] at H
      have c4b0 : decide (x5_1 < a0) = true := decide_eq_true c4
      clear c4
      by_cases c5 : 0 ≤ a0
      ·rw [if_pos c5] at H
       have c5b0 := eq_true c5
       have c5b1 : decide (0 ≤ a0) = true := decide_eq_true c5
       clear c5
       by_cases c6 : (a0 : Int).toNat ≤ 281474976710656
       ·rw [if_pos c6] at H
        have c6b0 := eq_true c6
        have c6b1 : decide ((a0 : Int).toNat ≤ 281474976710656) = true := decide_eq_true c6
        clear c6
        obtain ⟨y201, hy201⟩ : ∃ y_ : List Int, y_ = (List.replicate (a0 : Int).toNat 0) := ⟨_, rfl⟩
        replace H : (if 0 ≤ x5_1 then (if x5_1 < (y201.length : Int) then (if x4_1.length < 5864062014805 then (tabularyref02_One.l0 k1 a0 (x4_1 ++ [(y201.set (x5_1 : Int).toNat 1)]) (wrap64 (x5_1 + 1))) else (none)) else (none)) else (none)) = some (r1, r2) := by first | (rw [hy201]; with_reducible exact H) | (have H2_ := (Option.bind_some _ _).symm.trans H; rw [hy201]; with_reducible exact H2_) | (have H2_ := (Option.bind_some _ _).symm.trans H; with_reducible exact H2_) | with_reducible exact H | (rw [hy201]; exact H) | exact H
        have Ny201 := Aside0.mk hy201
        clear hy201
        by_cases c7 : 0 ≤ x5_1
        ·rw [if_pos c7] at H
         have c7b0 : decide (0 ≤ x5_1) = true := decide_eq_true c7
         clear c7
         by_cases c8 : x5_1 < (y201.length : Int)
         ·rw [if_pos c8] at H
          have c8b0 : decide (x5_1 < (y201.length : Int)) = true := decide_eq_true c8
          clear c8
          obtain ⟨y204, hy204⟩ : ∃ y_ : List Int, y_ = (y201.set (x5_1 : Int).toNat 1) := ⟨_, rfl⟩
          replace H : (if x4_1.length < 5864062014805 then (tabularyref02_One.l0 k1 a0 (x4_1 ++ [y204]) (wrap64 (x5_1 + 1))) else (none)) = some (r1, r2) := by first | (rw [hy204]; with_reducible exact H) | (have H2_ := (Option.bind_some _ _).symm.trans H; rw [hy204]; with_reducible exact H2_) | (have H2_ := (Option.bind_some _ _).symm.trans H; with_reducible exact H2_) | with_reducible exact H | (rw [hy204]; exact H) | exact H
          have Ny204 := Aside0.mk hy204
          clear hy204
          by_cases c10 : x4_1.length < 5864062014805
          ·rw [if_pos c10] at H
           have LMc10 := Aside0.mk c10
           clear c10
           obtain ⟨y205, hy205⟩ : ∃ y_ : List (List Int), y_ = (x4_1 ++ [y204]) := ⟨_, rfl⟩
           replace H : (tabularyref02_One.l0 k1 a0 y205 (wrap64 (x5_1 + 1))) = some (r1, r2) := by first | (rw [hy205]; with_reducible exact H) | (have H2_ := (Option.bind_some _ _).symm.trans H; rw [hy205]; with_reducible exact H2_) | (have H2_ := (Option.bind_some _ _).symm.trans H; with_reducible exact H2_) | with_reducible exact H | (rw [hy205]; exact H) | exact H
           have Ny205 := Aside0.mk hy205
           clear hy205
           have H' := Aside0.mk H
           clear H
           go_wp2_with (first | ((with_reducible refine gate_dst (N := 17) rfl ?_); refine Kd.R_make (Kd.int .u8) _ 5 rfl (N := 17) rfl 38 _ _ rfl a0 rfl rfl Try.underlying38 (.int .u8 0) 1 info5 rfl (by decide) (by omega) 0 (ok := fun _ => True) (okp := fun _ => True) rfl (fun _ hk => hk) trivial (of_decide_eq_true (by first | (with_reducible assumption) | assumption)) (Nat.le_trans (Nat.mul_le_mul_right _ (of_decide_eq_true (by first | (with_reducible assumption) | assumption) : a0.toNat ≤ 281474976710656)) (by omega)) (Below.refl _ _) (Nat.le_refl _) ?_; intro v202 w11 ho12 hb hg_ hnew_; clear hg_ hnew_; (first | rw [← Ny201.out] at ho12 | (simp only [Int.reduceToNat] at ho12; rw [← Ny201.out] at ho12)); have n0_ := Aside0.mk (Kd.S_elder' (by (with_reducible repeat (first | apply Kd.S_alloc | apply Kd.S_drewN | apply Kd.S_drew)); exact HO_4.out) (Kd.R_base ho12) hb); have n1_ := Aside0.mk (Kd.R_lower ho12 (below_size (by repeat (first | (with_reducible first | exact HB.out | apply below_alloc | apply pw_below_drewN | apply below_drew1) | exact HB.out)))); have n2_ := Aside0.mk (below_step (by repeat (first | (with_reducible first | exact HB.out | apply below_alloc | apply pw_below_drewN | apply below_drew1) | exact HB.out)) hb); clear HO_4; clear HB; have HO_4 := n0_; have HO203 := n1_; have HB := n2_; clear n0_ n1_ n2_; clear hb ho12; have p9 : 0 ≤ (x5_1 : Int) := of_decide_eq_true (by first | (with_reducible assumption) | assumption); have q9 : (x5_1 : Int) < ((y201.length : Int) : Int) := of_decide_eq_true (by first | (with_reducible assumption) | assumption); obtain ⟨go9, co9, eo9, gb9, gl9, cl9, HG9⟩ := Kd.R_form HO203.out (by omega); (first | cases eo9 | (injection eo9 with ea_ en_ ec_; (first | subst ea_ | (injection ea_ with ea_; subst ea_)); subst ec_; clear en_)); have GB9 := Aside0.mk gb9; have GG9 := Aside0.mk HG9; clear gb9 gl9 HG9; obtain ⟨hx9_0, hf9_0⟩ := Kd.R_celln 0 HO203.out (x5_1 : Int) p9 q9; replace p9 := eq_true p9; replace q9 := eq_true q9; obtain ⟨hy13_, hz13_⟩ := Kd.R_celln 0 HO203.out (x5_1 : Int) (of_decide_eq_true (by first | (with_reducible assumption) | assumption)) (of_decide_eq_true (by first | (with_reducible assumption) | assumption)); have HP13 := Kd.R_putg HO203.out (x5_1 : Int) 1) | ((with_reducible refine gate_store (t := 5) (p := 20) rfl ?_); refine store_event (t := 5) (p := 20) (v := ?vo_w14) (w1 := (w11.setCell ⟨go9, (x5_1 : Int).toNat, none⟩ (.int .u8 1))) ?hg ?ho ?hn ?hr ?_; (case ho => rfl); (case hg => rfl); (case hn => rfl); (case hr => first | (go_simp; done) | (go_simp; rfl)); intro w14 hw; have hg : w11.grownBy w14 (some go9) := (by rw [hw]; exact HP13.2); have hp_ : Kd.R (Kd.int .u8) 5 w14 w.heap.size (fun _ => True) (.slice (some ⟨go9, 0, none⟩) y201.length co9) y204 := (by rw [hw, Ny204.out]; exact HP13.1); clear HP13; have n0_ := Aside0.mk (Kd.S_after (v := (.slice (some ⟨go9, 0, none⟩) y201.length co9)) (v1 := (.slice (some ⟨go9, 0, none⟩) y201.length co9)) (ok := (fun _ => True)) (by (with_reducible repeat (first | apply Kd.S_alloc | apply Kd.S_drewN | apply Kd.S_drew)); exact HO_4.out) hg (.inl rfl)); have n1_ := Aside0.mk (hp_); have n2_ := Aside0.mk ((by rw [hw]; exact below_set (HB.out) GB9.out : Below w.heap.size w w14)); clear HO_4; clear HO203; clear HB; have HO_4 := n0_; have HO203 := n1_; have HB := n2_; clear n0_ n1_ n2_; clear hg hw hp_) | ((with_reducible refine gate_builtin (b := .append) (xs := #[.tmp 21, .tmp 23]) rfl ?_); at_builtin; refine Kd.S_append (Kd.slice 5 (Kd.int .u8)) (w0 := w) w.heap.size rfl (.tmp 21) (.tmp 23) 22 38 (.slice none 0 0) 24 rfl Try.underlying22 info38 rfl (by decide) (by omega) u4 x4_1 y204 [.slice (some ⟨go9, 0, none⟩) y201.length co9] (fun _ => True) (fun k_ => some k_ = (.slice (some ⟨go9, 0, none⟩) y201.length co9 : Value).ownBlock) rfl rfl ?aP (fun k_ hk_ => ((Kd.R_mono (ok' := fun k_ => ((fun _ => True)) k_ ∧ some k_ ≠ (u4 : Value).ownBlock) (Kd.R_apart' (HO203.out) (Kd.S_typed HO_4.out) (by decide)) (fun k_ hk => ⟨trivial, hk.2⟩))).1 k_ hk_.symm) ?aF ?aO ?aB ?aS ?aL ?_; (case aP => exact Kd.M_row (Kd.R_mono (Kd.R_tight rfl (Kd.R_mono (ok' := fun k_ => ((fun _ => True)) k_ ∧ some k_ ≠ (u4 : Value).ownBlock) (Kd.R_apart' (HO203.out) (Kd.S_typed HO_4.out) (by decide)) (fun k_ hk => ⟨trivial, hk.2⟩))) (fun _ h_ => h_))); (case aB => exact (by repeat (first | (with_reducible first | exact HB.out | apply below_alloc | apply pw_below_drewN | apply below_drew1) | exact HB.out))); (case aF => exact (fun _ _ => trivial)); (case aO => exact (by (with_reducible repeat (first | apply Kd.S_alloc | apply Kd.S_drewN | apply Kd.S_drew)); exact Kd.S_mono HO_4.out (fun k_ hk => ⟨trivial, fun e_ => hk.2 e_⟩))); (case aS => exact (below_size (by repeat (first | (with_reducible first | exact HB.out | apply below_alloc | apply pw_below_drewN | apply below_drew1) | exact HB.out)))); (case aL => have := LMc10.out; omega); intro v206 w15 ho hb hg hat; rw [← Ny205.out] at ho; have n0_ := Aside0.mk (hb); have n1_ := Aside0.mk (ho); clear HB; clear HO_4; clear HO203; have HB := n0_; have HO207 := n1_; clear n0_ n1_; clear ho hb hg hat))
           go_roundg k1
           case measure => have := HK1.out; omega
           case rel => exact ⟨(y205), (wrap64 (x5_1 + 1)), (by first | rfl | (simp; done) | (simp [*]; done)), H', ⟨by have := HK1.out; omega⟩, ⟨by (with_reducible repeat (first | apply Kd.S_alloc | apply Kd.S_drewN | apply Kd.S_drew)); exact HO207.out⟩, ⟨by repeat (first | (with_reducible first | exact HB.out | apply below_alloc | apply pw_below_drewN | apply below_drew1) | exact HB.out)⟩⟩
          ·rw [if_neg c10] at H
           exact absurd H (by simp)
         ·rw [if_neg c8] at H
          exact absurd H (by simp)
        ·rw [if_neg c7] at H
         exact absurd H (by simp)
       ·rw [if_neg c6] at H
        exact absurd H (by simp)
      ·rw [if_neg c5] at H
       exact absurd H (by simp)
     ·rw [if_neg c4] at H
      have c4b0 : decide (x5_1 < a0) = false := decide_eq_false c4
      clear c4
      simp only [Option.some.injEq, Prod.mk.injEq] at H
      obtain ⟨rfl, rfl⟩ := H
      go_wp2
      go_ret2
      exact ⟨_, by first | rfl | (simp [errW_none, errW_some] <;> rfl) | (simp [*, errW_none, errW_some] <;> rfl), by (with_reducible repeat (first | apply Kd.S_alloc | apply Kd.S_drewN | apply Kd.S_drew)); exact HO_4.out, by repeat (first | (with_reducible first | exact HB.out | apply below_alloc | apply pw_below_drewN | apply below_drew1) | exact HB.out)⟩

-- NOT PRINTED: function 4 (tabularylaw02_MatrixProducts)

end Go.Proofs.Ytjkmaobfpgfdnaa.PMatrixProducts
end

-- Written by wip/tools/myprint.py, a program of this session over the print tool: not a printed text of the kit's
section
namespace Go.Proofs.Ytjkmaobfpgfdnaa.PMatrixProducts
open Go.RowKit Go.Proofs.YtjkmaobfpgfdnaaW.PrintWords Go.Proofs.YtjkmaobfpgfdnaaW.PrintLast Go.Proofs.YtjkmaobfpgfdnaaW.PrintMore
attribute [local go_sem] max2_int min2_int max_two min_two max_three min_three max_four min_four   -- for this text's walks alone
set_option linter.unusedVariables false
set_option linter.unusedSimpArgs false
set_option maxRecDepth 20000

end Go.Proofs.Ytjkmaobfpgfdnaa.PMatrixProducts
end

/- MatrixProducts with no program in sight. -/
section
namespace Go.Proofs.Ytjkmaobfpgfdnaa.ProductsPure
open Go.Proofs.Ytjkmaobfpgfdnaa Go.RowKit Go.Proofs.YtjkmaobfpgfdnaaW.PrintWords Go.Proofs.YtjkmaobfpgfdnaaW.PrintLast Go.Proofs.YtjkmaobfpgfdnaaW.PrintMore Go.Proofs.Ytjkmaobfpgfdnaa.PMatrixProducts Go.Proofs.Ytjkmaobfpgfdnaa.Lin Go.Proofs.Ytjkmaobfpgfdnaa.Lin.G Go.Proofs.Ytjkmaobfpgfdnaa.Byt Go.Proofs.Ytjkmaobfpgfdnaa.Elim Go.Proofs.Ytjkmaobfpgfdnaa.MSteps Go.Proofs.Ytjkmaobfpgfdnaa.Tab Go.Proofs.Ytjkmaobfpgfdnaa.MBad Go.Proofs.Ytjkmaobfpgfdnaa.MMul Go.Proofs.Ytjkmaobfpgfdnaa.MTurned Go.Proofs.Ytjkmaobfpgfdnaa.MInverse Go.Proofs.Ytjkmaobfpgfdnaa.MPlug Go.Proofs.Ytjkmaobfpgfdnaa.MPure
set_option linter.unusedVariables false
set_option linter.unusedSimpArgs false

theorem w64 {a : Int} (h : -9223372036854775808 ≤ a ∧ a ≤ 9223372036854775807) : wrap64 a = a := by
  unfold wrap64; omega

theorem rdl (X : List (List Int)) (i : Nat) : rd_L1 X (i : Int) = rw_ X i := rfl
theorem rdl0 (X : List (List Int)) : rd_L1 X 0 = rw_ X 0 := rfl
theorem badl1_ok (X : List (List Int)) (hl : X.length ≤ 4611686018427387904) (h : ∀ i, i < X.length → (rw_ X i).length = (rw_ X 0).length) : ∀ (d k i : Nat), d + i = X.length → d < k → tabularyref02_Bad.l1 k X (i : Int) = some 0 := by
  intro d
  induction d with
  | zero =>
    intro k i hd hk
    obtain ⟨k, rfl⟩ : ∃ m, k = m + 1 := ⟨k - 1, by omega⟩
    simp only [tabularyref02_Bad.l1]
    rw [if_neg (by omega)]
  | succ d ih =>
    intro k i hd hk
    obtain ⟨k, rfl⟩ : ∃ m, k = m + 1 := ⟨k - 1, by omega⟩
    simp only [tabularyref02_Bad.l1]
    rw [if_pos (by omega), if_pos (by omega), if_pos (by omega), rdl, rdl0, if_pos (by rw [h i (by omega)]), w64 (a := (i : Int) + 1) (by omega), show (i : Int) + 1 = ((i + 1 : Nat) : Int) by omega]
    exact ih k (i + 1) (by omega) (by omega)
theorem badl1_no (X : List (List Int)) (hl : X.length ≤ 4611686018427387904) : ∀ (d k i : Nat), d + i = X.length → d < k → (∃ q, i ≤ q ∧ q < X.length ∧ (rw_ X q).length ≠ (rw_ X 0).length) → tabularyref02_Bad.l1 k X (i : Int) = some 6 := by
  intro d
  induction d with
  | zero =>
    intro k i hd hk ⟨q, h1, h2, _⟩
    omega
  | succ d ih =>
    intro k i hd hk ⟨q, h1, h2, h3⟩
    obtain ⟨k, rfl⟩ : ∃ m, k = m + 1 := ⟨k - 1, by omega⟩
    simp only [tabularyref02_Bad.l1]
    rw [if_pos (by omega), if_pos (by omega), if_pos (by omega), rdl, rdl0]
    by_cases e : (rw_ X i).length = (rw_ X 0).length
    · rw [if_pos (by rw [e]), w64 (a := (i : Int) + 1) (by omega), show (i : Int) + 1 = ((i + 1 : Nat) : Int) by omega]
      refine ih k (i + 1) (by omega) (by omega) ⟨q, ?_, h2, h3⟩
      by_cases hq : q = i
      · rw [hq] at h3; exact absurd e h3
      · omega
    · rw [if_neg (by omega)]
theorem badl0_ok (X : List (List Int)) (hl : X.length ≤ 4611686018427387904) (h : ∀ i, i < X.length → (rw_ X i).length ≤ 131072) : ∀ (d k i : Nat), d + i = X.length → tabularyref02_Bad.l0 (k + d + 1) X (i : Int) = tabularyref02_Bad.l1 k X 0 := by
  intro d
  induction d with
  | zero =>
    intro k i hd
    simp only [tabularyref02_Bad.l0]
    rw [if_neg (by omega)]
  | succ d ih =>
    intro k i hd
    rw [show k + (d + 1) + 1 = (k + d + 1) + 1 by omega]
    simp only [tabularyref02_Bad.l0]
    rw [if_pos (by omega), if_pos (by omega), rdl, if_neg (by have := h i (by omega); omega), w64 (a := (i : Int) + 1) (by omega), show (i : Int) + 1 = ((i + 1 : Nat) : Int) by omega]
    exact ih k (i + 1) (by omega)
theorem badl0_no (X : List (List Int)) (hl : X.length ≤ 4611686018427387904) : ∀ (d k i : Nat), d + i = X.length → d < k → (∃ q, i ≤ q ∧ q < X.length ∧ 131072 < (rw_ X q).length) → tabularyref02_Bad.l0 k X (i : Int) = some 2 := by
  intro d
  induction d with
  | zero =>
    intro k i hd hk ⟨q, h1, h2, _⟩
    omega
  | succ d ih =>
    intro k i hd hk ⟨q, h1, h2, h3⟩
    obtain ⟨k, rfl⟩ : ∃ m, k = m + 1 := ⟨k - 1, by omega⟩
    simp only [tabularyref02_Bad.l0]
    rw [if_pos (by omega), if_pos (by omega), rdl]
    by_cases e : ((rw_ X i).length : Int) > 131072
    · rw [if_pos e]
    · rw [if_neg e, w64 (a := (i : Int) + 1) (by omega), show (i : Int) + 1 = ((i + 1 : Nat) : Int) by omega]
      refine ih k (i + 1) (by omega) (by omega) ⟨q, ?_, h2, h3⟩
      by_cases hq : q = i
      · rw [hq] at h3; omega
      · omega
theorem rbad_ok (X : List (List Int)) (hl : X.length ≤ 4611686018427387904) (k : Nat) (hk : 100 ≤ k) : tabularyref02_Bad.f k X = some (badS X) := by
  unfold tabularyref02_Bad.f badS
  by_cases h1 : 32 < X.length
  · rw [if_pos (by omega), if_pos h1]
  · rw [if_neg (by omega), if_neg h1]
    by_cases h2 : (List.range X.length).any (fun i => decide (131072 < (rw_ X i).length)) = true
    · rw [if_pos h2]
      obtain ⟨q, hq, hd⟩ := List.any_eq_true.1 h2
      exact badl0_no X hl X.length k 0 (by omega) (by omega) ⟨q, Nat.zero_le _, List.mem_range.1 hq, of_decide_eq_true hd⟩
    · rw [if_neg h2]
      have h2' := List.any_eq_false.1 (Bool.eq_false_iff.2 h2)
      obtain ⟨K, rfl⟩ : ∃ K, k = K + X.length + 1 := ⟨k - X.length - 1, by omega⟩
      rw [show (0 : Int) = ((0 : Nat) : Int) from rfl, badl0_ok X hl (fun i hi => by have := h2' i (List.mem_range.2 hi); simpa using this) X.length K 0 (by omega)]
      by_cases h3 : (List.range X.length).any (fun i => decide ((rw_ X i).length ≠ (rw_ X 0).length)) = true
      · rw [if_pos h3]
        obtain ⟨q, hq, hd⟩ := List.any_eq_true.1 h3
        exact badl1_no X hl X.length K 0 (by omega) (by omega) ⟨q, Nat.zero_le _, List.mem_range.1 hq, of_decide_eq_true hd⟩
      · rw [if_neg h3]
        have h3' := List.any_eq_false.1 (Bool.eq_false_iff.2 h3)
        exact badl1_ok X hl (fun i hi => by have := h3' i (List.mem_range.2 hi); simpa using this) X.length K 0 (by omega) (by omega)

theorem rd_row {n : Nat} {f : Nat → G} {i : Nat} (h : i < n) : rd (row n f) (i : Int) = ((f i).v : Int) := row_bn h
theorem row_set {n : Nat} (f : Nat → G) (i : Nat) (x : G) : (row n f).set i (x.v : Int) = row n (fun j => if j = i then x else f j) := by
  refine List.ext_getElem (by simp [row_len]) fun j h1 h2 => ?_
  rw [List.getElem_set]
  simp only [row, List.getElem_map, List.getElem_range]
  by_cases e : i = j
  · rw [if_pos e, if_pos e.symm]
  · rw [if_neg e, if_neg (fun h => e h.symm)]
theorem row_zeros (n : Nat) : List.replicate n (0 : Int) = row n (fun _ => 0) := by
  refine List.ext_getElem (by simp [row_len]) fun j h1 h2 => ?_
  simp only [row, List.getElem_map, List.getElem_range, List.getElem_replicate]
  rfl
theorem tabl_snoc (n m : Nat) (T : Tb) : tabl n m T ++ [row m (T n)] = tabl (n + 1) m T := by
  unfold tabl
  rw [List.range_succ, List.map_append]
  rfl
theorem rdb {X : List (List Int)} (hX : AMB X) {i : Nat} (hi : i < X.length) (t : Nat) : rd (rw_ X i) (t : Int) = ((tb X i t).v : Int) := (gv_v (mb_of hX i hi t)).symm

theorem columns_ok (X : List (List Int)) : tabularyref02_Columns.f X = some ((colS X : Nat) : Int) := by
  unfold tabularyref02_Columns.f colS
  by_cases h : X.length = 0
  · rw [if_pos (by omega), if_pos h]; rfl
  · rw [if_neg (by omega), if_neg h, if_pos (by omega)]; rfl

theorem rmul_eq : tabularyref01_Mul.f = PMatrixInverses.tabularyref01_Mul.f := by kernel_rfl
theorem rmul_g (a b : G) (k : Nat) (hk : 40 < k) : tabularyref01_Mul.f k (a.v : Int) (b.v : Int) = some (((a * b).v : Nat) : Int) := by
  rw [rmul_eq]
  exact GfPure.rmul_gf a.v b.v a.lt b.lt k hk
section
variable {X Y : List (List Int)} (hX : AMB X) (hY : AMB Y) (bX : badS X = 0) (bY : badS Y = 0) (hc : colS X = Y.length)
theorem rm_l2 (hX : AMB X) (hY : AMB Y) (bX : badS X = 0) (bY : badS Y = 0) (hc : colS X = Y.length) (acc : List (List Int)) (i j : Nat) (hi : i < X.length) (hj : j < colS Y) : ∀ (d k t : Nat) (f : Nat → G), d + t = Y.length → f j = sm t (fun s => tb X i s * tb Y s j) → 50 ≤ k →
    tabularyref02_Mul.l2 (k + d + 1) X Y acc (i : Int) (row (colS Y) f) (j : Int) (t : Int) = tabularyref02_Mul.l1 k X Y acc (i : Int) (row (colS Y) (fun c => if c = j then mm Y.length (tb X) (tb Y) i j else f c)) ((j + 1 : Nat) : Int) := by
  obtain ⟨nX, rX, kX⟩ := bad_ok bX
  obtain ⟨nY, rY, kY⟩ := bad_ok bY
  intro d
  induction d with
  | zero =>
    intro k t f hd hf hk
    simp only [tabularyref02_Mul.l2]
    rw [if_neg (by omega), w64 (a := (j : Int) + 1) (by omega), show (j : Int) + 1 = ((j + 1 : Nat) : Int) by omega]
    congr 1
    refine row_ext fun c hc2 => ?_
    by_cases e : c = j
    · rw [if_pos e, e, hf, show t = Y.length by omega]; rfl
    · rw [if_neg e]
  | succ d ih =>
    intro k t f hd hf hk
    obtain ⟨K, hK⟩ : ∃ K, K = k + d + 1 := ⟨_, rfl⟩
    rw [show k + (d + 1) + 1 = K + 1 by omega]
    simp only [tabularyref02_Mul.l2]
    rw [if_pos (by omega), if_pos (by omega), if_pos (by rw [row_len]; omega), if_pos (by omega), if_pos (by omega), if_pos (by omega), rdl, if_pos (by rw [rX i hi]; omega), rdl, if_pos (by rw [rY t (by omega)]; omega), rdb hX hi, rdb hY (by omega), rmul_g _ _ _ (by omega), Option.bind_some, rd_row hj, xor_g, Int.toNat_natCast, row_set, w64 (a := (t : Int) + 1) (by omega), show (t : Int) + 1 = ((t + 1 : Nat) : Int) by omega, hK, ih k (t + 1) _ (by omega) (by rw [if_pos rfl, hf]; rfl) hk]
    congr 1
    refine row_ext fun c hc2 => ?_
    by_cases e : c = j
    · rw [if_pos e, if_pos e]
    · rw [if_neg e, if_neg e, if_neg e]
theorem rm_l1 (hX : AMB X) (hY : AMB Y) (bX : badS X = 0) (bY : badS Y = 0) (hc : colS X = Y.length) (acc : List (List Int)) (hacc : acc.length ≤ 32) (i : Nat) (hi : i < X.length) : ∀ (d k j : Nat), d + j = colS Y → 50 ≤ k →
    tabularyref02_Mul.l1 (k + d * (Y.length + 2) + 1) X Y acc (i : Int) (row (colS Y) (fun c => if c < j then mm Y.length (tb X) (tb Y) i c else 0)) (j : Int) = tabularyref02_Mul.l0 k X Y (acc ++ [row (colS Y) (mm Y.length (tb X) (tb Y) i)]) ((i + 1 : Nat) : Int) := by
  obtain ⟨nX, rX, kX⟩ := bad_ok bX
  obtain ⟨nY, rY, kY⟩ := bad_ok bY
  intro d
  induction d with
  | zero =>
    intro k j hd hk
    rw [Nat.zero_mul, Nat.add_zero]
    simp only [tabularyref02_Mul.l1]
    rw [if_neg (by rw [row_len]; omega), if_pos (by omega), w64 (a := (i : Int) + 1) (by omega), show (i : Int) + 1 = ((i + 1 : Nat) : Int) by omega]
    congr 3
    exact row_ext fun c hc2 => if_pos (by omega)
  | succ d ih =>
    intro k j hd hk
    obtain ⟨K, hK⟩ : ∃ K, K = (k + d * (Y.length + 2) + 1) + Y.length + 1 := ⟨_, rfl⟩
    rw [show k + (d + 1) * (Y.length + 2) + 1 = K + 1 by rw [Nat.succ_mul]; omega]
    simp only [tabularyref02_Mul.l1]
    rw [if_pos (by rw [row_len]; omega), hK]
    have := rm_l2 hX hY bX bY hc acc i j hi (by omega) Y.length (k + d * (Y.length + 2) + 1) 0 (fun c => if c < j then mm Y.length (tb X) (tb Y) i c else 0) (by omega) (by rw [if_neg (by omega)]; rfl) (by omega)
    rw [show ((0 : Nat) : Int) = 0 from rfl] at this
    rw [this, ← ih k (j + 1) (by omega) hk]
    congr 1
    refine row_ext fun c hc2 => ?_
    by_cases e : c = j
    · rw [if_pos e, if_pos (by omega), e]
    · rw [if_neg e]
      by_cases e2 : c < j
      · rw [if_pos e2, if_pos (by omega)]
      · rw [if_neg e2, if_neg (by omega)]
theorem rm_l0 (hX : AMB X) (hY : AMB Y) (bX : badS X = 0) (bY : badS Y = 0) (hc : colS X = Y.length) : ∀ (d k i : Nat), d + i = X.length → 50 ≤ k →
    tabularyref02_Mul.l0 (k + d * (colS Y * (Y.length + 2) + 2) + 1) X Y (tabl i (colS Y) (mm Y.length (tb X) (tb Y))) (i : Int) = some (tabl X.length (colS Y) (mm Y.length (tb X) (tb Y)), 0) := by
  obtain ⟨nX, rX, kX⟩ := bad_ok bX
  obtain ⟨nY, rY, kY⟩ := bad_ok bY
  intro d
  induction d with
  | zero =>
    intro k i hd hk
    rw [Nat.zero_mul, Nat.add_zero]
    simp only [tabularyref02_Mul.l0]
    rw [if_neg (by omega), show i = X.length by omega]
  | succ d ih =>
    intro k i hd hk
    obtain ⟨q, hq⟩ : ∃ q, q = colS Y * (Y.length + 2) := ⟨_, rfl⟩
    have ih2 := ih k (i + 1) (by omega) hk
    rw [← hq] at ih2 ⊢
    obtain ⟨K, hK⟩ : ∃ K, K = (k + d * (q + 2) + 1) + q + 1 := ⟨_, rfl⟩
    rw [show k + (d + 1) * (q + 2) + 1 = K + 1 by rw [Nat.succ_mul]; omega]
    simp only [tabularyref02_Mul.l0]
    rw [hK, if_pos (by omega), columns_ok, Option.bind_some, if_pos (by omega), Int.toNat_natCast, if_pos (by omega), row_zeros, hq]
    have := rm_l1 hX hY bX bY hc (tabl i (colS Y) (mm Y.length (tb X) (tb Y))) (by rw [tabl_len]; omega) i (by omega) (colS Y) (k + d * (q + 2) + 1) 0 (by omega) (by omega)
    rw [show ((0 : Nat) : Int) = 0 from rfl, show (fun c => if c < 0 then mm Y.length (tb X) (tb Y) i c else (0 : G)) = (fun _ => 0) from funext fun c => if_neg (by omega), hq] at this
    rw [this, tabl_snoc, ← hq]
    exact ih2
end
theorem rmat_ok (X Y : List (List Int)) (hX : AMB X) (hY : AMB Y) (lX : X.length ≤ 4611686018427387904) (lY : Y.length ≤ 4611686018427387904) (k : Nat) (hk : 200000000 ≤ k) : tabularyref02_Mul.f k X Y = mulF X Y := by
  unfold tabularyref02_Mul.f
  obtain ⟨k, rfl⟩ : ∃ m, k = m + 1 + 1 + 1 := ⟨k - 3, by omega⟩
  rw [rbad_ok X lX _ (by omega), Option.bind_some]
  by_cases b1 : badS X = 0
  · rw [if_pos b1, rbad_ok Y lY _ (by omega), Option.bind_some]
    by_cases b2 : badS Y = 0
    · simp only [tabularyref02_Mul.j0]
      rw [if_pos b2, columns_ok, Option.bind_some]
      by_cases hc : colS X = Y.length
      · rw [show (((colS X : Nat) : Int) != (Y.length : Int)) = false from bne_eq_false_iff_eq.2 (by omega)]
        simp only [tabularyref02_Mul.j1]
        rw [if_neg (fun h => nomatch h)]
        simp only [tabularyref02_Mul.j2]
        rw [if_pos b2, mul_one' hX hY (mulE_of b1 b2 hc)]
        obtain ⟨nX, rX, kX⟩ := bad_ok b1
        obtain ⟨nY, rY, kY⟩ := bad_ok b2
        have hb : X.length * (colS Y * (Y.length + 2) + 2) ≤ 32 * (131072 * 34 + 2) := Nat.mul_le_mul nX (Nat.add_le_add_right (Nat.mul_le_mul kY (by omega)) 2)
        obtain ⟨K, hK⟩ : ∃ K, k = K + X.length * (colS Y * (Y.length + 2) + 2) + 1 := ⟨k - X.length * (colS Y * (Y.length + 2) + 2) - 1, by omega⟩
        have := rm_l0 hX hY b1 b2 hc X.length K 0 (by omega) (by omega)
        rw [hK]
        exact this
      · rw [show (((colS X : Nat) : Int) != (Y.length : Int)) = true from bne_iff_ne.2 (by omega)]
        simp only [tabularyref02_Mul.j1]
        rw [if_pos trivial]
        simp only [tabularyref02_Mul.j2]
        have he : mulE X Y = 6 := by unfold mulE; rw [if_pos b1, if_pos b2, if_neg hc]
        rw [if_neg (by decide), mul_two hX hY (by rw [he]; decide), he]
    · simp only [tabularyref02_Mul.j0]
      rw [if_neg b2]
      simp only [tabularyref02_Mul.j1]
      rw [if_neg (fun h => nomatch h)]
      simp only [tabularyref02_Mul.j2]
      have he : mulE X Y = badS Y := by unfold mulE; rw [if_pos b1, if_neg b2]
      rw [if_neg b2, mul_two hX hY (by rw [he]; exact b2), he]
  · rw [if_neg b1]
    simp only [tabularyref02_Mul.j0]
    rw [if_neg b1]
    simp only [tabularyref02_Mul.j1]
    rw [if_neg (fun h => nomatch h)]
    simp only [tabularyref02_Mul.j2]
    have he : mulE X Y = badS X := by unfold mulE; rw [if_neg b1]
    rw [if_neg b1, mul_two hX hY (by rw [he]; exact b1), he]

theorem same_l (X : List (List Int)) (hl : X.length ≤ 4611686018427387904) : ∀ (d k i : Nat), d + i = X.length → d < k → tabularyref02_Same.l0 k X X (i : Int) = some true := by
  intro d
  induction d with
  | zero =>
    intro k i hd hk
    obtain ⟨k, rfl⟩ : ∃ m, k = m + 1 := ⟨k - 1, by omega⟩
    simp only [tabularyref02_Same.l0]
    rw [if_neg (by omega)]
  | succ d ih =>
    intro k i hd hk
    obtain ⟨k, rfl⟩ : ∃ m, k = m + 1 := ⟨k - 1, by omega⟩
    simp only [tabularyref02_Same.l0]
    rw [if_pos (by omega), if_pos (by omega), if_pos (by omega), if_pos trivial, w64 (a := (i : Int) + 1) (by omega), show (i : Int) + 1 = ((i + 1 : Nat) : Int) by omega]
    exact ih k (i + 1) (by omega) (by omega)
theorem same_self (X : List (List Int)) (hl : X.length ≤ 4611686018427387904) (k : Nat) (hk : X.length < k) : tabularyref02_Same.f k X X = some true := by
  unfold tabularyref02_Same.f
  rw [if_pos rfl]
  exact same_l X hl X.length k 0 (by omega) hk
theorem wakes_ten : tabularylaw02_wakes.f 10 = some true := by decide +kernel
theorem wakes_ok (k : Nat) (hk : 10 ≤ k) : tabularylaw02_wakes.f k = some true := by
  induction k with
  | zero => omega
  | succ k ih =>
    by_cases h : 10 ≤ k
    · exact tabularylaw02_wakes.mono k _ (ih h)
    · have : k = 9 := by omega
      subst this
      exact wakes_ten

theorem great_l (X : List (List Int)) (hl : X.length ≤ 4611686018427387904) : ∀ (d k i : Nat) (a : Int), d + i = X.length → d < k → ∃ b, tabularylaw02_great.l0 k X a (i : Int) = some b := by
  intro d
  induction d with
  | zero =>
    intro k i a hd hk
    obtain ⟨k, rfl⟩ : ∃ m, k = m + 1 := ⟨k - 1, by omega⟩
    simp only [tabularylaw02_great.l0]
    rw [if_neg (by omega)]
    exact ⟨_, rfl⟩
  | succ d ih =>
    intro k i a hd hk
    obtain ⟨k, rfl⟩ : ∃ m, k = m + 1 := ⟨k - 1, by omega⟩
    simp only [tabularylaw02_great.l0]
    rw [if_pos (by omega)]
    by_cases ha : a ≤ 4096
    · rw [if_pos ha, if_pos (by omega), w64 (a := (i : Int) + 1) (by omega), show (i : Int) + 1 = ((i + 1 : Nat) : Int) by omega]
      exact ih k (i + 1) _ (by omega) (by omega)
    · rw [if_neg ha]
      exact ⟨_, rfl⟩
theorem great_ok (X : List (List Int)) (hl : X.length ≤ 4611686018427387904) (k : Nat) (hk : X.length < k) : ∃ b, tabularylaw02_great.f k X = some b := great_l X hl X.length k 0 0 (by omega) hk

theorem take_snoc (X : List (List Int)) {i : Nat} (hi : i < X.length) : X.take i ++ [rw_ X i] = X.take (i + 1) := by
  rw [List.take_add_one, List.getElem?_eq_getElem hi]
  unfold rw_
  rw [List.getD_eq_getElem?_getD, List.getElem?_eq_getElem hi]
  rfl
theorem copied_l (X : List (List Int)) (hl : X.length ≤ 5864062014804) (hr : ∀ i, i < X.length → (rw_ X i).length ≤ 140737488351232) : ∀ (d k i : Nat), d + i = X.length → d < k → tabularyref02_Copied.l0 k X (X.take i) (i : Int) = some X := by
  intro d
  induction d with
  | zero =>
    intro k i hd hk
    obtain ⟨k, rfl⟩ : ∃ m, k = m + 1 := ⟨k - 1, by omega⟩
    simp only [tabularyref02_Copied.l0]
    rw [if_neg (by omega), List.take_of_length_le (by omega)]
  | succ d ih =>
    intro k i hd hk
    obtain ⟨k, rfl⟩ : ∃ m, k = m + 1 := ⟨k - 1, by omega⟩
    simp only [tabularyref02_Copied.l0]
    have h1 := hr i (by omega)
    have h2 : (X.take i).length ≤ i := by rw [List.length_take]; omega
    rw [if_pos (by omega), Option.bind_some, if_pos (by omega), rdl, if_pos (by simp only [List.length_nil]; omega), if_pos (by omega), List.nil_append, take_snoc X (by omega), w64 (a := (i : Int) + 1) (by omega), show (i : Int) + 1 = ((i + 1 : Nat) : Int) by omega]
    exact ih k (i + 1) (by omega) (by omega)
theorem copied_ok (X : List (List Int)) (hl : X.length ≤ 5864062014804) (hr : ∀ i, i < X.length → (rw_ X i).length ≤ 140737488351232) (k : Nat) (hk : X.length < k) : tabularyref02_Copied.f k X = some X := copied_l X hl hr X.length k 0 (by omega) hk

theorem rone_l (n : Nat) (hn : n ≤ 32) : ∀ (d k i : Nat), d + i = n → d < k → tabularyref02_One.l0 k (n : Int) (tabl i n I) (i : Int) = some (tabl n n I, 0) := by
  intro d
  induction d with
  | zero =>
    intro k i hd hk
    obtain ⟨k, rfl⟩ : ∃ m, k = m + 1 := ⟨k - 1, by omega⟩
    simp only [tabularyref02_One.l0]
    rw [if_neg (by omega), show i = n by omega]
  | succ d ih =>
    intro k i hd hk
    obtain ⟨k, rfl⟩ : ∃ m, k = m + 1 := ⟨k - 1, by omega⟩
    simp only [tabularyref02_One.l0]
    have e : (List.replicate n (0 : Int)).set i 1 = row n (I i) := by
      rw [row_zeros, show (1 : Int) = (((1 : G).v : Nat) : Int) from rfl, row_set]
      refine row_ext fun j hj => ?_
      by_cases h : j = i
      · rw [if_pos h, h, I_same]
      · rw [if_neg h, I_diff (fun h2 => h h2.symm)]
    rw [if_pos (by omega), if_pos (by omega), if_pos (by rw [Int.toNat_natCast]; omega), Option.bind_some, if_pos (by omega), if_pos (by rw [List.length_replicate, Int.toNat_natCast]; omega), if_pos (by rw [tabl_len]; omega), Int.toNat_natCast, Int.toNat_natCast, e, tabl_snoc, w64 (a := (i : Int) + 1) (by omega), show (i : Int) + 1 = ((i + 1 : Nat) : Int) by omega]
    exact ih k (i + 1) (by omega) (by omega)
theorem rone_ok (n : Int) (k : Nat) (hk : 40 ≤ k) : tabularyref02_One.f k n = oneF n := by
  unfold tabularyref02_One.f oneF
  by_cases h1 : n < 0
  · rw [if_pos h1, if_pos h1]
  · rw [if_neg h1, if_neg h1]
    by_cases h2 : 32 < n
    · rw [if_pos h2, if_pos h2]
    · rw [if_neg h2, if_neg h2]
      obtain ⟨m, rfl⟩ : ∃ m : Nat, n = m := ⟨n.toNat, by omega⟩
      rw [Int.toNat_natCast]
      exact rone_l m (by omega) m k 0 (by omega) (by omega)
theorem one_some (n : Int) : ∃ R e, oneF n = some (R, e) ∧ R.length ≤ 32 := by
  unfold oneF
  split
  · exact ⟨_, _, rfl, by simp⟩
  · split
    · exact ⟨_, _, rfl, by simp⟩
    · exact ⟨_, _, rfl, by rw [tabl_len]; omega⟩
theorem mul_some {X Y : List (List Int)} (hX : AMB X) (hY : AMB Y) : ∃ R, R.length ≤ 32 ∧ mulF X Y = some (R, mulE X Y) := by
  by_cases h : mulE X Y = 0
  · exact ⟨tabl X.length (colS Y) (mm Y.length (tb X) (tb Y)), by rw [tabl_len]; exact (bad_ok (mulE_zero h).1).1, by rw [mul_one' hX hY h, h]⟩
  · exact ⟨[], by simp, mul_two hX hY h⟩

end Go.Proofs.Ytjkmaobfpgfdnaa.ProductsPure
end

/- The law's own spoilt: it writes over rows of its own; what lies elsewhere stays. -/
section
namespace Go.Proofs.Ytjkmaobfpgfdnaa.MSpoilt
open Go.Proofs.Ytjkmaobfpgfdnaa Go.RowKit Go.Proofs.YtjkmaobfpgfdnaaW.PrintWords Go.Proofs.YtjkmaobfpgfdnaaW.PrintLast Go.Proofs.YtjkmaobfpgfdnaaW.PrintMore Go.Proofs.Ytjkmaobfpgfdnaa.Byt Go.Proofs.Ytjkmaobfpgfdnaa.Lin Go.Proofs.Ytjkmaobfpgfdnaa.Lin.G Go.Proofs.Ytjkmaobfpgfdnaa.Tab Go.Proofs.Ytjkmaobfpgfdnaa.MBad
set_option linter.unusedVariables false
set_option linter.unusedSimpArgs false
/-- n rows, each of bytes in blocks from lo on and below hi, the heads in block gh, which is none of these. -/
def SPC (w : World) (gh n lo hi : Nat) (A : Nat → Option Addr) (l c : Nat → Nat) : Prop :=
  (∀ j, j < n → w.cell? ⟨gh, j, none⟩ = some (.slice (A j) (l j) (c j))) ∧
  (∀ j, j < n → l j ≤ 9223372036854775807 ∧ ∀ i, i < l j → ∃ ad, A j = some ad ∧ ad.block ≠ gh ∧ lo ≤ ad.block ∧ ad.block < hi ∧ (∃ x, w.cell? (ad.add i) = some (.int .u8 x)) ∧ w.frozen? (ad.add i) = false)
/-- Only blocks from lo on and below hi may have changed. -/
structure Btw (lo hi : Nat) (w w' : World) : Prop where
  os : w'.os = w.os
  tape : w'.tape = w.tape
  output : w'.output = w.output
  size : w.heap.size ≤ w'.heap.size
  block : ∀ k, k < w.heap.size → (k < lo ∨ hi ≤ k) → w'.heap[k]? = w.heap[k]?
theorem Btw.refl (lo hi : Nat) (w : World) : Btw lo hi w w := ⟨rfl, rfl, rfl, Nat.le_refl _, fun _ _ _ => rfl⟩
theorem Btw.drew {lo hi : Nat} {w w' : World} (h : Btw lo hi w w') : Btw lo hi w w'.drew := ⟨h.os, h.tape, h.output, h.size, h.block⟩
theorem Btw.setCell {lo hi : Nat} {w w' : World} (h : Btw lo hi w w') {a : Addr} (h1 : lo ≤ a.block) (h2 : a.block < hi) (v : Value) : Btw lo hi w (w'.setCell a v) :=
  ⟨h.os, h.tape, h.output, by simpa using h.size, fun k hk hr => (Below.heap_setCell w' a v k (by omega)).trans (h.block k hk hr)⟩
theorem Btw.below {lo hi B : Nat} {w w' : World} (h : Btw lo hi w w') (hB : B ≤ lo) (hs : B ≤ w.heap.size) : Below B w w' := ⟨h.os, h.tape, h.output, h.size, fun k hk => h.block k (by omega) (.inl (by omega))⟩
theorem SPC.drew {w : World} {gh n lo hi : Nat} {A : Nat → Option Addr} {l c : Nat → Nat} (h : SPC w gh n lo hi A l c) : SPC w.drew gh n lo hi A l c := h
theorem SPC.set {w : World} {gh n lo hi : Nat} {A : Nat → Option Addr} {l c : Nat → Nat} (h : SPC w gh n lo hi A l c) {a : Addr} (ha : a.block ≠ gh) (y : Int) : SPC (w.setCell a (.int .u8 y)) gh n lo hi A l c := by
  refine ⟨fun j hj => ?_, fun j hj => ⟨(h.2 j hj).1, fun i hi => ?_⟩⟩
  · rw [World.cell?_of_block (w := w) (Below.heap_setCell w a _ gh (fun e => ha e.symm))]
    exact h.1 j hj
  · obtain ⟨ad, e, h1, h2, h3, h4, h5⟩ := (h.2 j hj).2 i hi
    exact ⟨ad, e, h1, h2, h3, someInt_setCell h4 a y, by rw [World.frozen?_setCell]; exact h5⟩
def kOf : Value → Int
  | .int _ x => x
  | _ => 0
set_option maxRecDepth 100000 in
set_option maxHeartbeats 16000000 in
theorem spoilt_any (gh n cap lo hi : Nat) (A : Nat → Option Addr) (l c : Nat → Nat) (W : World) (hn : n ≤ 4611686018427387904) (H : SPC W gh n lo hi A l c) :
    Calls Try.prog 16 #[.slice (some ⟨gh, 0, none⟩) n cap] W fun e w' => e = .returned (.tuple #[]) ∧ Btw lo hi W w' := by
  have HS0 := Lib.hid H
  clear H
  go_enter Try.func16, Try.ntmps16
  go_wp2
  go_loopw [2] (fun v2 wr => ∃ j : Nat, j ≤ n ∧ v2 = .int .i64 j ∧ SPC wr gh n lo hi A l c ∧ Btw lo hi W wr) (fun v2 _ => n - (kOf v2).toNat)
  case atStart => exact ⟨0, by omega, rfl, HS0.out, Btw.refl _ _ _⟩
  case round =>
    obtain ⟨j, hj, rfl, hs, hb⟩ := hrel
    have HSj := Lib.hid hs
    have HBj := Lib.hid hb
    clear hs hb
    by_cases hlt : j < n
    · have hlj := (HSj.out.2 j hlt).1
      go_wp2
      obtain ⟨wi, rfl⟩ : ∃ wi : World, wi = wr := ⟨_, rfl⟩
      go_loopw [3] (fun v3 wq => ∃ i : Nat, i ≤ l j ∧ v3 = .int .i64 i ∧ SPC wq gh n lo hi A l c ∧ Btw lo hi W wq) (fun v3 _ => l j - (kOf v3).toNat)
      case atStart => exact ⟨0, by omega, rfl, HSj.out, HBj.out⟩
      case round =>
        obtain ⟨i, hi2, rfl, hs, hb⟩ := hrel
        have HSi := Lib.hid hs
        have HBi := Lib.hid hb
        clear hs hb
        have hx := HSi.out.1 j hlt
        by_cases hlti : i < l j
        · obtain ⟨ad, eA, h1, h2, h3, ⟨x, hx2⟩, hf⟩ := (HSi.out.2 j hlt).2 i hlti
          rw [eA] at hx
          go_wp2
          go_still_tail 14, (by kernel_rfl)
          change wpList _ _ _ _ _ wr.drew
          go_wp2
          go_roundw
          case rel => exact ⟨i + 1, by omega, by go_num, (HSi.out.set (by rw [Byt.add_block]; exact h1) _).drew, (HBi.out.setCell (by rw [Byt.add_block]; exact h2) (by rw [Byt.add_block]; exact h3) _).drew⟩
          case measure => simp [kOf]; omega
        · obtain rfl : i = l j := by omega
          go_wp2
          go_roundw
          case rel => exact ⟨j + 1, by omega, by go_num, HSi.out, HBi.out⟩
          case measure => simp [kOf]; omega
    · go_wp2
      go_end0
      exact ⟨rfl, HBj.out⟩
set_option maxRecDepth 100000 in
set_option maxHeartbeats 16000000 in
theorem spoilt_nil (A : Option Addr) (c : Nat) (W : World) : Calls Try.prog 16 #[.slice A 0 c] W fun e w' => e = .returned (.tuple #[]) ∧ w' = W := by
  go_enter Try.func16, Try.ntmps16
  go_wp2
  go_loopw [2] (fun v2 wr => v2 = .int .i64 0 ∧ wr = W) (fun v2 _ => 0)
  case atStart => exact ⟨rfl, rfl⟩
  case round =>
    obtain ⟨rfl, rfl⟩ := hrel
    go_wp2
    go_end0
    exact ⟨rfl, rfl⟩
theorem spc_of {W : World} {base gh cap hi : Nat} {ok : Nat → Prop} {X : List (List Int)} (hok : ∀ k, ok k → k < hi) (h : KM.R 38 W base ok (.slice (some ⟨gh, 0, none⟩) X.length cap) X) : ∃ A c, SPC W gh X.length base hi A (fun j => (rw_ X j).length) c := by
  have he : ∀ j, j < X.length → ∃ p : Option Addr × Nat, W.cell? ⟨gh, j, none⟩ = some (.slice p.1 (rw_ X j).length p.2) ∧ (rw_ X j).length ≤ 9223372036854775807 ∧ ∀ i, i < (rw_ X j).length → ∃ ad, p.1 = some ad ∧ ad.block ≠ gh ∧ base ≤ ad.block ∧ ad.block < hi ∧ (∃ x, W.cell? (ad.add i) = some (.int .u8 x)) ∧ W.frozen? (ad.add i) = false := fun j hj => by
    obtain ⟨c, _, hM, hc, _⟩ := Kd.R_elem h ([] : List Int) (j : Int) (by omega) (by omega)
    obtain ⟨v, rfl, hr⟩ := hM
    have hr : Kd.R (Kd.int .u8) 5 W base (fun k => ok k ∧ k ≠ gh) v (rw_ X j) := hr
    have hx := hc 0 v rfl
    rw [show (j : Int).toNat * KM.sz + 0 = j by show (j : Int).toNat * 1 + 0 = j; omega] at hx
    obtain ⟨A', c', rfl⟩ := Kd.R_slice hr
    refine ⟨(A', c'), hx, (Kd.R_reads' hr).2.2.2.1, fun i hi => ?_⟩
    obtain ⟨g', cap', e', hb, hl, _⟩ := Kd.R_form hr (by omega)
    cases e'
    have hne := (hr.1 g' rfl).2
    obtain ⟨h1, h2⟩ := Kd.R_celln (0 : Int) hr (i : Int) (by omega) (by omega)
    rw [Int.toNat_natCast] at h1 h2
    refine ⟨_, rfl, hne, hb, hok _ (hr.1 g' rfl).1, ?_, ?_⟩
    · rw [add_plain]; exact ⟨_, h1⟩
    · rw [add_plain]; exact h2
  obtain ⟨f, hf⟩ := Go.Deep.choose_lt he
  exact ⟨fun j => (f j).1, fun j => (f j).2, fun j hj => (hf j hj).1, fun j hj => (hf j hj).2⟩
theorem spoilt_R {W : World} {base hi : Nat} {ok : Nat → Prop} {v : Value} {X : List (List Int)} (hok : ∀ k, ok k → k < hi) (h : KM.R 38 W base ok v X) (hl : X.length ≤ 4611686018427387904) :
    Calls Try.prog 16 #[v] W fun e w' => e = .returned (.tuple #[]) ∧ Btw base hi W w' := by
  by_cases h0 : 0 < X.length
  · obtain ⟨gh, cap, rfl, _, _, _⟩ := Kd.R_form h h0
    obtain ⟨A, c, hs⟩ := spc_of hok h
    exact spoilt_any gh X.length cap base hi A _ c W hl hs
  · obtain ⟨A, c, rfl⟩ := Kd.R_slice h
    rw [show X.length = 0 by omega]
    exact (spoilt_nil A c W).mono fun e w' hh => ⟨hh.1, by rw [hh.2]; exact Btw.refl _ _ _⟩
/-- Rows of one's own, all they lead to lying from lo on and below hi. -/
def OM (w : World) (lo hi : Nat) (v : Value) (X : List (List Int)) : Prop := KM.R 38 w lo (fun k => lo ≤ k ∧ k < hi) v X
theorem om_of {w : World} {lo : Nat} {ok : Nat → Prop} {v : Value} {X : List (List Int)} (h : Kd.S KM 38 w lo ok v X) : OM w lo w.heap.size v X := Kd.R_mono (Kd.S_R (Kd.S_bound h)) fun k hk => ⟨hk.2.1, hk.2.2.1⟩
theorem OM.below {w w' : World} {lo hi : Nat} {v : Value} {X : List (List Int)} (h : OM w lo hi v X) (hb : Below w.heap.size w w') : OM w' lo hi v X := Kd.R_below h hb
theorem OM.btw {w w' : World} {lo hi lo2 hi2 : Nat} {v : Value} {X : List (List Int)} (h : OM w lo hi v X) (hb : Btw lo2 hi2 w w') (ha : hi ≤ lo2 ∨ hi2 ≤ lo) : OM w' lo hi v X := Kd.R_step h (fun k hk hlt => hb.block k hlt (by omega))
theorem OM.reads {w : World} {lo hi : Nat} {A : Option Addr} {n c : Nat} {X : List (List Int)} (h : OM w lo hi (.slice A n c) X) : n = X.length ∧ n ≤ c ∧ KM.C w A X.length X := Kd.R_reads' h
theorem v_btw {w w' : World} {lo lo2 hi2 B : Nat} {v : Value} {X : List (List Int)} (h : Kd.V KM 38 w B (fun k => lo ≤ k) v X) (hb : Btw lo2 hi2 w w') (ha : hi2 ≤ lo) : Kd.V KM 38 w' B (fun k => lo ≤ k) v X := Kd.V_step h (fun k hk hlt => hb.block k hlt (.inr (Nat.le_trans ha hk)))
theorem spoilt_om {W : World} {lo hi : Nat} {v : Value} {X : List (List Int)} (h : OM W lo hi v X) (hl : X.length ≤ 4611686018427387904) : Calls Try.prog 16 #[v] W fun e w' => e = .returned (.tuple #[]) ∧ Btw lo hi W w' := spoilt_R (fun k hk => hk.2) h hl
end Go.Proofs.Ytjkmaobfpgfdnaa.MSpoilt
end

/- MatrixProducts walked. -/
section
namespace Go.Proofs.Ytjkmaobfpgfdnaa.WalkMatrixProducts
open Go.Proofs.Ytjkmaobfpgfdnaa Go.RowKit Go.Proofs.YtjkmaobfpgfdnaaW.PrintWords Go.Proofs.YtjkmaobfpgfdnaaW.PrintLast Go.Proofs.YtjkmaobfpgfdnaaW.PrintMore Go.Proofs.Ytjkmaobfpgfdnaa.Lin Go.Proofs.Ytjkmaobfpgfdnaa.Lin.G Go.Proofs.Ytjkmaobfpgfdnaa.Tab Go.Proofs.Ytjkmaobfpgfdnaa.MBad Go.Proofs.Ytjkmaobfpgfdnaa.MMul Go.Proofs.Ytjkmaobfpgfdnaa.MPlug Go.Proofs.Ytjkmaobfpgfdnaa.MSpoilt Go.Proofs.Ytjkmaobfpgfdnaa.ProductsPure
set_option linter.unusedVariables false
set_option linter.unusedSimpArgs false
theorem rows_len {X : List (List Int)} (h : ∀ r ∈ X, r.length * 1 ≤ 140737488351232) : ∀ i, i < X.length → (rw_ X i).length ≤ 140737488351232 := fun i hi => by
  have := h (rw_ X i) (by
    unfold rw_
    rw [List.getD_eq_getElem?_getD, List.getElem?_eq_getElem hi]
    exact List.getElem_mem hi)
  omega
set_option maxRecDepth 100000 in
set_option maxHeartbeats 16000000 in
theorem walk (A0 A1 : Option Addr) (c0 c1 a b : Nat) (X Y : List (List Int)) (n : Int) (W : World) (ha : X.length = a) (hb : Y.length = b) (hX : KM.C W A0 a X) (hc0 : a ≤ c0) (hY : KM.C W A1 b Y) (hc1 : b ≤ c1)
    (mX : AMB X) (mY : AMB Y) (la : a ≤ 5864062014804) (lb : b ≤ 5864062014804) (rX : ∀ i, i < X.length → (rw_ X i).length ≤ 140737488351232) (rY : ∀ i, i < Y.length → (rw_ Y i).length ≤ 140737488351232) :
    Calls Try.prog 4 #[.slice A0 a c0, .slice A1 b c1, .int .i64 n] W fun e w' => e = .returned (.bool true) ∧ Below W.heap.size W w' := by
  obtain ⟨K, hK⟩ : ∃ K, K = a + b + 200000000 := ⟨_, rfl⟩
  have HX := Lib.hid hX
  have HY := Lib.hid hY
  obtain ⟨gX, hgX⟩ := great_ok X (by omega) K (by omega)
  obtain ⟨gY, hgY⟩ := great_ok Y (by omega) K (by omega)
  have HGX := Lib.hid hgX
  have HGY := Lib.hid hgY
  have HWK := Lib.hid (wakes_ok K (by omega))
  have HCX := Lib.hid (copied_ok X (by omega) rX K (by omega))
  have HCY := Lib.hid (copied_ok Y (by omega) rY K (by omega))
  obtain ⟨R, hR, hmul⟩ := mul_some mX mY
  have HMU := Lib.hid (show PMatrixProducts.matrix_Mul.f X Y = some (R, mulE X Y) from hmul)
  have HRM := Lib.hid ((rmat_ok X Y mX mY (by omega) (by omega) K (by omega)).trans hmul)
  obtain ⟨O, eO, hone, hO⟩ := one_some n
  have HON := Lib.hid (show PMatrixProducts.matrix_One.f n = some (O, eO) from hone)
  have HRO := Lib.hid ((rone_ok n K (by omega)).trans hone)
  have HSX := Lib.hid (same_self X (by omega) K (by omega))
  have HSY := Lib.hid (same_self Y (by omega) K (by omega))
  have HSR := Lib.hid (same_self R (by omega) K (by omega))
  have HSO := Lib.hid (same_self O (by omega) K (by omega))
  obtain ⟨E, hE⟩ : ∃ E, E = mulE X Y := ⟨_, rfl⟩
  rw [← hE] at HMU HRM
  subst ha hb
  have HLX := Lib.hid la
  have HLY := Lib.hid lb
  clear hX hY hgX hgY hmul hone hE hK rX rY la lb
  cases gX with
  | true =>
    go_enter Try.func4, Try.ntmps4
    go_wp2_with fail
    with_reducible refine (PMatrixProducts.tabularylaw02_great.calls K A0 c0 X true _ HX.out hc0 HGX.out).mono ?_
    rintro e w1 ⟨rfl, hd1⟩
    have HB1 := Lib.hid hd1.below
    clear hd1
    go_wp2_with fail
    with_reducible refine (PMatrixProducts.tabularylaw02_wakes.calls K true _ HWK.out).mono ?_
    rintro e w2 ⟨rfl, hb2⟩
    have HB2 := Lib.hid (HB1.out.trans (hb2.mono HB1.out.size))
    clear hb2
    go_wp2
    go_ret
    exact ⟨rfl, HB2.out⟩
  | false =>
  cases gY with
  | true =>
    go_enter Try.func4, Try.ntmps4
    go_wp2_with fail
    with_reducible refine (PMatrixProducts.tabularylaw02_great.calls K A0 c0 X false _ HX.out hc0 HGX.out).mono ?_
    rintro e w1 ⟨rfl, hd1⟩
    have HB1 := Lib.hid hd1.below
    clear hd1
    go_wp2_with fail
    with_reducible refine (PMatrixProducts.tabularylaw02_great.calls K A1 c1 Y true _ (Kd.C_below HY.out HB1.out) hc1 HGY.out).mono ?_
    rintro e w2 ⟨rfl, hd2⟩
    have HB2 := Lib.hid (HB1.out.trans (hd2.below.mono HB1.out.size))
    clear hd2
    go_wp2_with fail
    with_reducible refine (PMatrixProducts.tabularylaw02_wakes.calls K true _ HWK.out).mono ?_
    rintro e w3 ⟨rfl, hb3⟩
    have HB3 := Lib.hid (HB2.out.trans (hb3.mono HB2.out.size))
    clear hb3
    go_wp2
    go_ret
    exact ⟨rfl, HB3.out⟩
  | false =>
    go_enter Try.func4, Try.ntmps4
    go_wp2_with fail
    with_reducible refine (PMatrixProducts.tabularylaw02_great.calls K A0 c0 X false _ HX.out hc0 HGX.out).mono ?_
    rintro e w1 ⟨rfl, hd1⟩
    have HB1 := Lib.hid hd1.below
    clear hd1
    go_wp2_with fail
    with_reducible refine (PMatrixProducts.tabularylaw02_great.calls K A1 c1 Y false _ (Kd.C_below HY.out HB1.out) hc1 HGY.out).mono ?_
    rintro e w2 ⟨rfl, hd2⟩
    have HB2 := Lib.hid (HB1.out.trans (hd2.below.mono HB1.out.size))
    clear hd2
    go_wp2_with fail
    with_reducible refine (PMatrixProducts.tabularyref02_Copied.calls K A0 c0 X X _ (Kd.C_below HX.out HB2.out) hc0 HCX.out).mono ?_
    rintro e w3 ⟨v3, rfl, hs3, hb3⟩
    obtain ⟨A3, c3, rfl⟩ := Kd.S_slice hs3
    have HM3 := Lib.hid (om_of hs3)
    have HB3 := Lib.hid (HB2.out.trans (hb3.mono HB2.out.size))
    have HL3 := Lib.hid hb3.size
    clear hs3 hb3
    go_wp2_with fail
    with_reducible refine (PMatrixProducts.tabularyref02_Copied.calls K A1 c1 Y Y _ (Kd.C_below HY.out HB3.out) hc1 HCY.out).mono ?_
    rintro e w4 ⟨v4, rfl, hs4, hb4⟩
    obtain ⟨A4, c4, rfl⟩ := Kd.S_slice hs4
    have HN4 := Lib.hid (om_of hs4)
    have HM4 := Lib.hid (HM3.out.below hb4)
    have HB4 := Lib.hid (HB3.out.trans (hb4.mono HB3.out.size))
    have HL4 := Lib.hid hb4.size
    clear hs4 hb4
    go_wp2_with fail
    with_reducible refine (PMatrixProducts.matrix_Mul.calls A3 c3 X A4 c4 Y R E _ HM4.out.reads.2.2 HM4.out.reads.2.1 HN4.out.reads.2.2 HN4.out.reads.2.1 HMU.out).mono ?_
    rintro e w5 ⟨v5, rfl, hv5, hb5⟩
    obtain ⟨A5, c5, rfl⟩ := Kd.V_slice hv5
    have HV5 := Lib.hid hv5
    have HM5 := Lib.hid (HM4.out.below hb5)
    have HN5 := Lib.hid (HN4.out.below hb5)
    have HB5 := Lib.hid (HB4.out.trans (hb5.mono HB4.out.size))
    clear hv5 hb5
    go_wp2_with fail
    with_reducible refine (PMatrixProducts.tabularyref02_Same.calls K A3 c3 X A0 c0 X true _ HM5.out.reads.2.2 HM5.out.reads.2.1 (Kd.C_below HX.out HB5.out) hc0 HSX.out).mono ?_
    rintro e w6 ⟨rfl, hd6⟩
    have HV6 := Lib.hid (Kd.V_below HV5.out hd6.below)
    have HM6 := Lib.hid (HM5.out.below hd6.below)
    have HN6 := Lib.hid (HN5.out.below hd6.below)
    have HB6 := Lib.hid (HB5.out.trans (hd6.below.mono HB5.out.size))
    clear hd6
    go_wp2_with fail
    with_reducible refine (PMatrixProducts.tabularyref02_Same.calls K A4 c4 Y A1 c1 Y true _ HN6.out.reads.2.2 HN6.out.reads.2.1 (Kd.C_below HY.out HB6.out) hc1 HSY.out).mono ?_
    rintro e w7 ⟨rfl, hd7⟩
    have HV7 := Lib.hid (Kd.V_below HV6.out hd7.below)
    have HM7 := Lib.hid (HM6.out.below hd7.below)
    have HN7 := Lib.hid (HN6.out.below hd7.below)
    have HB7 := Lib.hid (HB6.out.trans (hd7.below.mono HB6.out.size))
    clear hd7
    go_wp2_with fail
    with_reducible refine (spoilt_om HM7.out (by have := HLX.out; omega)).mono ?_
    rintro e w8 ⟨rfl, hb8⟩
    have HV8 := Lib.hid (v_btw HV7.out hb8 HL4.out)
    have HN8 := Lib.hid (HN7.out.btw hb8 (.inr (Nat.le_refl _)))
    have HB8 := Lib.hid (HB7.out.trans (hb8.below HB2.out.size HB7.out.size))
    clear hb8
    go_wp2_with fail
    with_reducible refine (spoilt_om HN8.out (by have := HLY.out; omega)).mono ?_
    rintro e w9 ⟨rfl, hb9⟩
    have HV9 := Lib.hid (v_btw HV8.out hb9 (Nat.le_refl _))
    have HB9 := Lib.hid (HB8.out.trans (hb9.below HB3.out.size HB8.out.size))
    clear hb9
    go_wp2_with fail
    with_reducible refine (PMatrixProducts.tabularyref02_Mul.calls K A0 c0 X A1 c1 Y R E _ (Kd.C_below HX.out HB9.out) hc0 (Kd.C_below HY.out HB9.out) hc1 HRM.out).mono ?_
    rintro e wA ⟨vA, rfl, hsA, hbA⟩
    obtain ⟨AA, cA, rfl⟩ := Kd.S_slice hsA
    have HSA := Lib.hid hsA
    have HVA := Lib.hid (Kd.V_below HV9.out hbA)
    have HBA := Lib.hid (HB9.out.trans (hbA.mono HB9.out.size))
    clear hsA hbA
    go_wp2_with fail
    with_reducible refine (PMatrixProducts.matrix_One.calls n O eO _ HON.out).mono ?_
    rintro e wB ⟨vB, rfl, hvB, hbB⟩
    obtain ⟨AB, cB, rfl⟩ := Kd.V_slice hvB
    have HOB := Lib.hid hvB
    have HSB := Lib.hid (Kd.S_below HSA.out hbB)
    have HVB := Lib.hid (Kd.V_below HVA.out hbB)
    have HBB := Lib.hid (HBA.out.trans (hbB.mono HBA.out.size))
    clear hvB hbB
    go_wp2_with fail
    with_reducible refine (PMatrixProducts.tabularyref02_One.calls K n O eO _ HRO.out).mono ?_
    rintro e wC ⟨vC, rfl, hsC, hbC⟩
    obtain ⟨AC, cC, rfl⟩ := Kd.S_slice hsC
    have HQC := Lib.hid hsC
    have HOC := Lib.hid (Kd.V_below HOB.out hbC)
    have HSC := Lib.hid (Kd.S_below HSB.out hbC)
    have HVC := Lib.hid (Kd.V_below HVB.out hbC)
    have HBC := Lib.hid (HBB.out.trans (hbC.mono HBB.out.size))
    clear hsC hbC
    go_wp2_with fail
    with_reducible refine (PMatrixProducts.tabularyref02_Same.calls K A5 c5 R AA cA R true _ (Kd.V_reads' HVC.out).2.2 (Kd.V_reads' HVC.out).2.1 (Kd.S_reads' HSC.out).2.2 (Kd.S_reads' HSC.out).2.1 HSR.out).mono ?_
    rintro e wD ⟨rfl, hdD⟩
    have HQD := Lib.hid (Kd.S_below HQC.out hdD.below)
    have HOD := Lib.hid (Kd.V_below HOC.out hdD.below)
    have HBD := Lib.hid (HBC.out.trans (hdD.below.mono HBC.out.size))
    clear hdD
    go_wp2_with fail
    with_reducible refine (PMatrixProducts.tabularyref02_Same.calls K AB cB O AC cC O true _ (Kd.V_reads' HOD.out).2.2 (Kd.V_reads' HOD.out).2.1 (Kd.S_reads' HQD.out).2.2 (Kd.S_reads' HQD.out).2.1 HSO.out).mono ?_
    rintro e wE ⟨rfl, hdE⟩
    have HBE := Lib.hid (HBD.out.trans (hdE.below.mono HBD.out.size))
    clear hdE
    go_wp2_with fail
    with_reducible refine (PMatrixProducts.tabularylaw02_wakes.calls K true _ HWK.out).mono ?_
    rintro e wF ⟨rfl, hbF⟩
    have HBF := Lib.hid (HBE.out.trans (hbF.mono HBE.out.size))
    clear hbF
    go_wp2
    go_ret
    exact ⟨rfl, HBF.out⟩
end Go.Proofs.Ytjkmaobfpgfdnaa.WalkMatrixProducts
end

/- What came in, laid open, with how much it is: whole numbers, bools, texts, rows, arrays, in whatever nesting. -/
section
namespace Go.Proofs.Ytjkmaobfpgfdnaa.Opn
open Go Go.RowKit Go.Proofs.YtjkmaobfpgfdnaaW.PrintWords Go.Proofs.YtjkmaobfpgfdnaaW.PrintLast Go.Proofs.YtjkmaobfpgfdnaaW.PrintMore
set_option linter.unusedVariables false

/-- Each reading at the type t that is no more than there may be gives a value of which K and W hold. -/
def Opn (P : Program) {α : Type} (K : World → α → List Value → Prop) (t : TypeId) (W : α → Prop) : Prop :=
  ∀ (H : Type) (enc : TypeId × Value → H) (w : World) (sp : Nat → Bool) (held : Bool) (fuel : Nat) (cs : List Value) (x : DataW H × List MemPlace),
    DataW.trod enc P w 0 sp held fuel t cs = some x → (x.1.weights P t).all (· ≤ reachBytes) = true → ∃ a, K w a cs ∧ W a

theorem Opn.weak {P : Program} {α : Type} {K : World → α → List Value → Prop} {t : TypeId} {W W' : α → Prop} (h : Opn P K t W) (hw : ∀ a, W a → W' a) : Opn P K t W' := fun H enc w sp held fuel cs x h1 h2 => by
  obtain ⟨a, ha, hb⟩ := h H enc w sp held fuel cs x h1 h2
  exact ⟨a, ha, hw a hb⟩
theorem of_int {P : Program} {t : TypeId} {k : IntKind} (ht : P.underlying t = some (.int k)) : Opn P (Kd.int k).K t (fun n => (Lit.int k n).wf = true) := by
  intro H enc w sp held fuel cs x h _
  obtain ⟨n, rfl, _, hw⟩ := DataW.trod_int ht h
  exact ⟨n, rfl, hw⟩
theorem of_bool {P : Program} {t : TypeId} (ht : P.underlying t = some .bool) : Opn P Kd.bool.K t (fun _ => True) := by
  intro H enc w sp held fuel cs x h _
  cases fuel with
  | zero => simp [DataW.trod] at h
  | succ n =>
    unfold DataW.trod at h
    rw [ht] at h
    split at h <;> first | (exact ⟨_, rfl, trivial⟩) | simp_all
theorem of_string {P : Program} {t : TypeId} (ht : P.underlying t = some .string) : Opn P Kd.string.K t (fun s => s.size ≤ 140737488351232) := by
  intro H enc w sp held fuel cs x h hw
  obtain ⟨s, rfl, rfl, _⟩ := DataW.trod_string ht h
  refine ⟨s, rfl, ?_⟩
  simp only [DataW.weights, List.all_cons, List.all_nil, Bool.and_true, decide_eq_true_eq] at hw
  simpa [reachBytes] using hw

theorem cells_at {w : World} {a : Addr} {n : Nat} {cs : List Value} (h : w.cells? 0 a n = some cs) : cs.length = n ∧ ∀ i u, cs[i]? = some u → w.cell? (a.add i) = some u := by
  obtain ⟨_, hl, hc⟩ := World.cells?_some h
  refine ⟨hl, fun i u hu => ?_⟩
  have hi : i < n := by rw [← hl]; exact (List.getElem?_eq_some_iff.1 hu).1
  rw [hc i hi, hu]
/-- One value for each place. -/
theorem choose_row {α : Type} {p : Nat → α → Prop} (n : Nat) (h : ∀ i, i < n → ∃ x, p i x) : ∃ xs : List α, xs.length = n ∧ ∀ i x, xs[i]? = some x → p i x := by
  induction n with
  | zero => exact ⟨[], rfl, fun i x hx => by simp at hx⟩
  | succ n ih =>
    obtain ⟨xs, hl, hp⟩ := ih (fun i hi => h i (by omega))
    obtain ⟨x, hx⟩ := h n (by omega)
    refine ⟨xs ++ [x], by simp [hl], fun i y hy => ?_⟩
    by_cases hi : i < xs.length
    · rw [List.getElem?_append_left hi] at hy
      exact hp i y hy
    · rw [List.getElem?_append_right (by omega)] at hy
      have : i = n := by
        have := (List.getElem?_eq_some_iff.1 hy).1
        simp at this; omega
      subst this
      rw [hl, Nat.sub_self] at hy
      simp at hy
      rw [← hy]; exact hx
theorem weights_all {H : Type} {P : Program} {e : TypeId} : ∀ {ds : List (DataW H)} {d : DataW H}, d ∈ ds → ∀ n ∈ d.weights P e, n ∈ DataW.weightsAll P e ds
  | d0 :: ds, d, hd, n, hn => by
    simp only [DataW.weightsAll, List.mem_append]
    rcases List.mem_cons.1 hd with rfl | hd
    · exact .inl hn
    · exact .inr (weights_all hd n hn)

theorem of_slice {P : Program} {α : Type} {d : Kd α} {t e : TypeId} {W : α → Prop} (ht : P.underlying t = some (.slice e)) (hc : P.cellsOf e = d.sz) {B : Nat} (hB : P.bytesOf e = B) (he : Opn P d.K e W) :
    Opn P (Kd.slice e d).K t (fun l => l.length * B ≤ 140737488351232 ∧ l.length ≤ maxLen ∧ ∀ x ∈ l, W x) := by
  intro H enc w sp held fuel cs x h hw
  rcases DataW.trod_slice ht h with ⟨rfl, _⟩ | ⟨a, len, cap, elems, rest, n, _, rfl, hx, _, hlc, hcm, hlen, hel, _⟩
  · exact ⟨[], ⟨none, 0, rfl, Nat.le_refl _, rfl, Nat.zero_le _, fun h => absurd h (by simp)⟩, by simp, by simp [maxLen], fun x hx => by simp at hx⟩
  · subst hx
    have hall := List.all_eq_true.1 hw
    simp only [DataW.weights, ht] at hall
    have h0 : (elems.length + rest.length) * B ≤ 140737488351232 := by
      have := hall ((elems.length + rest.length) * P.bytesOf e) (by simp)
      rw [hB] at this
      have h2 := of_decide_eq_true this
      simpa [reachBytes] using h2
    have hx : ∀ i, i < len → ∃ y, (∃ c, c.length = d.sz ∧ d.K w y c ∧ ∀ j u, c[j]? = some u → w.cell? (a.add (i * d.sz + j)) = some u) ∧ W y := by
      intro i hi
      have hE := hel i hi
      rw [List.getElem?_eq_getElem (by omega)] at hE
      obtain ⟨c, hcc, hy⟩ := Option.bind_eq_some_iff.mp hE
      have hwt : ((elems[i]'(by omega)).1.weights P e).all (· ≤ reachBytes) = true := List.all_eq_true.2 fun n hn => hall n (by
        refine List.mem_cons_of_mem _ (List.mem_append_left _ (weights_all (d := (elems[i]'(by omega)).1) ?_ n hn))
        exact List.mem_map_of_mem (List.getElem_mem _))
      obtain ⟨y, hy, hw⟩ := he H enc w sp held n c _ hy hwt
      obtain ⟨hl, hcell⟩ := cells_at hcc
      refine ⟨y, ⟨c, by rw [hl, hc], hy, fun j u hu => ?_⟩, hw⟩
      have := hcell j u hu
      rw [Addr.add_add, hc] at this
      exact this
    obtain ⟨xs, hl, hp⟩ := choose_row len hx
    have hmx : maxLen ≤ 9223372036854775807 := by decide
    refine ⟨xs, ⟨some a, cap, by rw [hl], by omega, rfl, by omega, fun _ => ⟨a, rfl, fun j p hj => (hp j p hj).1⟩⟩, ?_, by omega, fun x hx => ?_⟩
    · have : len * B ≤ (elems.length + rest.length) * B := Nat.mul_le_mul_right _ (by omega)
      rw [hl]; omega
    · obtain ⟨i, hi, rfl⟩ := List.mem_iff_getElem.mp hx
      exact (hp i _ (List.getElem?_eq_getElem hi)).2

/-- An array's cells are one behind the other. -/
theorem of_ints_array {P : Program} {n : Nat} {t e : TypeId} {k : IntKind} (ht : P.underlying t = some (.array n e)) (he : P.underlying e = some (.int k)) (hc : P.cellsOf e = 1) (hn : P.cellsOf t = n) :
    Opn P (fun _ (l : List Int) cs => l.length = n ∧ cs = l.map (Value.int k)) t (fun l => ∀ m ∈ l, (Lit.int k m).wf = true) := by
  intro H enc w sp held fuel cs x h _
  obtain ⟨xs, m, _, _, hl, hxl, hel⟩ := DataW.trod_array ht h
  have hx : ∀ i, i < n → ∃ y, cs[i]? = some (.int k y) ∧ (Lit.int k y).wf = true := by
    intro i hi
    have hE := hel i hi
    rw [List.getElem?_eq_getElem (by omega), hc, Nat.mul_one] at hE
    obtain ⟨y, hy, _, hw⟩ := DataW.trod_int he hE
    refine ⟨y, ?_, hw⟩
    have hlt : i < cs.length := by omega
    have h0 := congrArg (fun z => z[0]?) hy
    simp only [List.getElem?_take, List.getElem?_drop, Nat.add_zero, List.getElem?_cons_zero] at h0
    simpa using h0
  obtain ⟨l, hll, hp⟩ := choose_row n hx
  refine ⟨l, ⟨hll, ?_⟩, fun m hm => ?_⟩
  · apply List.ext_getElem?
    intro i
    rw [List.getElem?_map]
    cases hi : l[i]? with
    | none =>
      have : l.length ≤ i := List.getElem?_eq_none_iff.mp hi
      rw [List.getElem?_eq_none (by omega)]; rfl
    | some y => rw [(hp i y hi).1]; rfl
  · obtain ⟨i, hi, rfl⟩ := List.mem_iff_getElem.mp hm
    exact (hp i _ (List.getElem?_eq_getElem hi)).2

/-- A state's fields, each read where it lies. -/
theorem fields {P : Program} {H : Type} {enc : TypeId × Value → H} {w : World} {sp : Nat → Bool} {held : Bool} {fuel : Nat} {t : TypeId} {fs : Array Field} {cs : List Value} {x : DataW H × List MemPlace} (ht : P.underlying t = some (.struct fs))
    (h : DataW.trod enc P w 0 sp held fuel t cs = some x) (hw : (x.1.weights P t).all (· ≤ reachBytes) = true) :
    cs.length = P.cellsOf t ∧ ∀ (i : Nat) (f : Field) {α : Type} (K : World → α → List Value → Prop) (W : α → Prop), fs[i]? = some f → Opn P K f.type W → ∃ a, K w a ((cs.drop f.offset).take (P.cellsOf f.type)) ∧ W a := by
  obtain ⟨xs, n, _, rfl, hl, hxl, hf⟩ := DataW.trod_struct ht h
  refine ⟨hl, fun i f α K W hi ho => ?_⟩
  have hif : i < fs.size := (Array.getElem?_eq_some_iff.1 hi).1
  have hq := hf i f hi
  rw [List.getElem?_eq_getElem (by omega)] at hq
  refine ho H enc w sp held n _ _ hq ?_
  have hall := List.all_eq_true.1 hw
  simp only [DataW.weights, ht] at hall
  refine List.all_eq_true.2 fun m hm => hall m ?_
  refine DataW.weights_mem_each (j := i) (t := f.type) (d := (xs[i]'(by omega)).1) ?_ ?_ m hm
  · simp [hi]
  · simp [List.getElem?_eq_getElem (show i < xs.length by omega)]
theorem split_at (cs : List Value) (o s : Nat) : (cs.drop o).take s ++ cs.drop (o + s) = cs.drop o := by
  have := List.take_append_drop s (cs.drop o)
  rwa [List.drop_drop] at this
theorem split_end (cs : List Value) (o s : Nat) (h : cs.length = o + s) : (cs.drop o).take s = cs.drop o := List.take_of_length_le (by rw [List.length_drop]; omega)
/-- A row's data, each no more than there may be. -/
theorem sized_at {H : Type} {P : Program} {ts : List TypeId} {ds : List (DataW H)} (h : (DataW.weightsEach P ts ds).all (· ≤ reachBytes) = true) (j : Nat) {t : TypeId} {d : DataW H} (ht : ts[j]? = some t) (hd : ds[j]? = some d) : (d.weights P t).all (· ≤ reachBytes) = true :=
  List.all_eq_true.2 fun n hn => List.all_eq_true.1 h n (DataW.weights_mem_each ht hd n hn)
end Go.Proofs.Ytjkmaobfpgfdnaa.Opn
end
