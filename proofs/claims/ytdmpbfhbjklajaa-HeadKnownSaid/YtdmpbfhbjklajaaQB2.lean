/- Texts of this claim, laid together by wip/tools/squash.py: PExactx2, PExactx, OctPure, Img, Shelf, Head. -/
import Derived.Test.YtdmpbfhbjklajaaQB1
import Derived.Laws.IdiomCopy
import Derived.Shelf.Small.Strs
import Derived.Shelf.Strings.Search1
import Derived.Shelf.Strings.Search2
import Derived.Shelf.Strings.Cut
import Derived.Shelf.LaysM
import Derived.Shelf.Strings.Shaped
import Derived.Test.YtdmpbfhbjklajaaProg

-- Written by wip/tools/myprint.py, a program of this session over the print tool: not a printed text of the kit's
section
namespace Go.Proofs.Ytdmpbfhbjklajaa.PExact
open Go.RowKit Go.Proofs.YtdmpbfhbjklajaaW.PrintWords Go.Proofs.YtdmpbfhbjklajaaW.PrintLast Go.Proofs.YtdmpbfhbjklajaaW.PrintMore
attribute [local go_sem] max2_int min2_int max_two min_two max_three min_three max_four min_four   -- for this text's walks alone
set_option linter.unusedVariables false
set_option linter.unusedSimpArgs false
set_option maxRecDepth 20000

/-! ### octal_Put: function 49 -/
mutual
def octal_Put.j0 : Nat → Int → Int → Bool → Option (List Int × Int)
 | 0, _, _, _ => none
 | k + 1, x0, x1, x15 => if x15 = true then (some (([] : List Int), 1)) else (if 0 ≤ x1 then (if (x1 : Int).toNat ≤ 281474976710656 then ((some (List.replicate (x1 : Int).toNat 0 : List Int)).bind fun y108 => ((octal_Most.f x1).bind fun t111 => (if x0 ≤ t111 then (octal_Put.l0 k x0 y108 (wrap64 (x1 - 2))) else (octal_Put.l1 k x0 y108 (wrap64 (x1 - 1)))))) else (none)) else (none))
def octal_Put.l0 : Nat → Int → List Int → Int → Option (List Int × Int)
 | 0, _, _, _ => none
 | k + 1, x0, x6, x7 => if x7 ≥ 0 then (if 0 ≤ x7 then (if x7 < (x6.length : Int) then (octal_Put.l0 k (x0 / 8) (x6.set (x7 : Int).toNat ((48 + ((Go.bits .and .i64 x0 7) % 256)) % 256)) (wrap64 (x7 - 1))) else (none)) else (none)) else (some (x6, 0))
def octal_Put.l1 : Nat → Int → List Int → Int → Option (List Int × Int)
 | 0, _, _, _ => none
 | k + 1, x0, x6, x8 => if x8 > 0 then (if 0 ≤ x8 then (if x8 < (x6.length : Int) then (octal_Put.l1 k (x0 / 256) (x6.set (x8 : Int).toNat ((x0) % 256)) (wrap64 (x8 - 1))) else (none)) else (none)) else (if x0 = 0 then (if 0 < (x6.length : Int) then (some ((x6.set (0 : Int).toNat 128), 0)) else (none)) else (some (([] : List Int), 2)))
end
def octal_Put.f (k : Nat) (a0 : Int) (a1 : Int) : Option (List Int × Int) := (octal_field.f a1).bind fun t107 => (if t107 = true then (octal_Put.j0 k a0 a1 (decide (a0 < 0))) else (octal_Put.j0 k a0 a1 true))
set_option maxHeartbeats 8000000 in
set_option maxRecDepth 100000 in
theorem octal_Put.calls (k : Nat) (a0 : Int) (a1 : Int) (r1 : List Int) (r2 : Int) (w : World) (h : octal_Put.f k a0 a1 = some (r1, r2)) :
  Calls Try.prog 49 #[.int .i64 a0, .int .i64 a1] w fun e w' => ∃ v0_ : Value, e = .returned (.tuple #[v0_, .int .i64 r2]) ∧ Kd.R (Kd.int .u8) 5 w' w.heap.size (fun _ => True) v0_ r1 ∧ Below w.heap.size w w' := by
 have HB := Aside0.mk (Below.refl w.heap.size w)
 have H : ((octal_field.f a1).bind fun t107 => (if t107 = true then (octal_Put.j0 k a0 a1 (decide (a0 < 0))) else (octal_Put.j0 k a0 a1 true))) = some (r1, r2) := h
 clear h
 have HC3 := Aside0.mk H
 clear H
 go_enter Try.func49, Try.ntmps49
 go_upto_region 1 with (fail)
 go_cut [15] (fun v15 wc => ∃ (kq : Nat) (x15_2 : Bool), v15 = .bool x15_2 ∧ Aside0 (octal_Put.j0 kq a0 a1 x15_2 = some (r1, r2)) ∧ Aside0 (kq ≤ k) ∧ Aside0 (Below w.heap.size w wc))
 case first =>
  have H := HC3.out
  clear HC3
  replace H := Option.bind_eq_some_iff.mp H
  obtain ⟨t107, A40, H⟩ := H
  replace H : (if t107 = true then (octal_Put.j0 k a0 a1 (decide (a0 < 0))) else (octal_Put.j0 k a0 a1 true)) = some (r1, r2) := H
  have A4 := Aside0.mk A40
  clear A40
  by_cases c5 : t107 = true
  ·subst c5
   have H1 : (octal_Put.j0 k a0 a1 (decide (a0 < 0))) = some (r1, r2) := by rw [if_pos rfl] at H; exact H
   clear H
   have H := H1
   clear H1
   have H' := Aside0.mk H
   clear H
   go_wp2_with (first | ((with_reducible refine gate_callee (f := 56) rfl ?_); refine goesL_ (some 10) rfl rfl Try.func56 (by kernel_rfl) rfl #[.int .i64 a1] rfl (by (try simp only [List.map_toArray, List.map_cons, List.map_nil]); first | done | rfl | (simp only [List.length_drop, List.length_take]; rfl)) ?_; (with_reducible refine (octal_field.calls a1 true _ A4.out).mono ?_); rintro e w' ⟨rfl, ⟨nd, rfl⟩⟩; refine ⟨_, rfl, ?_⟩))
   go_meet
   case rel => exact ⟨_, (decide (a0 < 0)), (by first | rfl | (simp; done) | (simp [*]; done)), H', ⟨by first | omega | exact Nat.le_refl _⟩, ⟨by repeat (first | (with_reducible first | exact HB.out | apply below_alloc | apply pw_below_drewN | apply below_drew1) | exact HB.out)⟩⟩
  ·replace c5 := Bool.eq_false_iff.mpr c5
   subst c5
   have H1 : (octal_Put.j0 k a0 a1 true) = some (r1, r2) := by rw [if_neg (show ¬ (false = true) by decide)] at H; exact H
   clear H
   have H := H1
   clear H1
   have H' := Aside0.mk H
   clear H
   go_wp2_with (first | ((with_reducible refine gate_callee (f := 56) rfl ?_); refine goesL_ (some 10) rfl rfl Try.func56 (by kernel_rfl) rfl #[.int .i64 a1] rfl (by (try simp only [List.map_toArray, List.map_cons, List.map_nil]); first | done | rfl | (simp only [List.length_drop, List.length_take]; rfl)) ?_; (with_reducible refine (octal_field.calls a1 false _ A4.out).mono ?_); rintro e w' ⟨rfl, ⟨nd, rfl⟩⟩; refine ⟨_, rfl, ?_⟩))
   go_meet
   case rel => exact ⟨_, (true), (by first | rfl | (simp; done) | (simp [*]; done)), H', ⟨by first | omega | exact Nat.le_refl _⟩, ⟨by repeat (first | (with_reducible first | exact HB.out | apply below_alloc | apply pw_below_drewN | apply below_drew1) | exact HB.out)⟩⟩
 case rest =>
  clear HC3
  try clear p2
  try clear c4
  try clear c5
  obtain ⟨kq, x15_2, rfl, HA, HJ2, HB⟩ := hcut
  cases kq with
  | zero => exact absurd HA.out (by simp [octal_Put.j0])
  | succ kj2 =>
   have H := HA.out
   clear HA
   simp only [octal_Put.j0] at H
   by_cases c6 : x15_2 = true
   ·subst c6
    have H1 : (some (([] : List Int), 1)) = some (r1, r2) := by rw [if_pos rfl] at H; exact H
    clear H
    have H := H1
    clear H1
    simp only [Option.some.injEq, Prod.mk.injEq] at H
    obtain ⟨rfl, rfl⟩ := H
    go_wp2
    go_ret2
    exact ⟨_, by first | rfl | (simp [errW_none, errW_some] <;> rfl) | (simp [*, errW_none, errW_some] <;> rfl), by first | exact Kd.R_nil _ _ _ _ _ | exact Kd.N_nil _ _ _ _ _ | exact Kd.V_nil _ _ _ _ _ | exact Kd.Q_nil _ _ _ _ _ | exact Kd.S_nil _ _ _ _ _, by repeat (first | (with_reducible first | exact HB.out | apply below_alloc | apply pw_below_drewN | apply below_drew1) | exact HB.out)⟩
   ·replace c6 := Bool.eq_false_iff.mpr c6
    subst c6
    have H1 : (if 0 ≤ a1 then (if (a1 : Int).toNat ≤ 281474976710656 then ((some (List.replicate (a1 : Int).toNat 0 : List Int)).bind fun y108 => ((octal_Most.f a1).bind fun t111 => (if a0 ≤ t111 then (octal_Put.l0 kj2 a0 y108 (wrap64 (a1 - 2))) else (octal_Put.l1 kj2 a0 y108 (wrap64 (a1 - 1)))))) else (none)) else (none)) = some (r1, r2) := by rw [if_neg (show ¬ (false = true) by decide)] at H; exact H
    clear H
    have H := H1
    clear H1
    by_cases c7 : 0 ≤ a1
    ·rw [if_pos c7] at H
     have c7b0 := eq_true c7
     have c7b1 : decide (0 ≤ a1) = true := decide_eq_true c7
     clear c7
     by_cases c8 : (a1 : Int).toNat ≤ 281474976710656
     ·rw [if_pos c8] at H
      have c8b0 := eq_true c8
      have c8b1 : decide ((a1 : Int).toNat ≤ 281474976710656) = true := decide_eq_true c8
      clear c8
      obtain ⟨y108, hy108⟩ : ∃ y_ : List Int, y_ = (List.replicate (a1 : Int).toNat 0) := ⟨_, rfl⟩
      replace H : ((octal_Most.f a1).bind fun t111 => (if a0 ≤ t111 then (octal_Put.l0 kj2 a0 y108 (wrap64 (a1 - 2))) else (octal_Put.l1 kj2 a0 y108 (wrap64 (a1 - 1))))) = some (r1, r2) := by first | (rw [hy108]; with_reducible exact H) | (have H2_ := (Option.bind_some _ _).symm.trans H; rw [hy108]; with_reducible exact H2_) | (have H2_ := (Option.bind_some _ _).symm.trans H; with_reducible exact H2_) | with_reducible exact H | (rw [hy108]; exact H) | exact H
      have Ny108 := Aside0.mk hy108
      clear hy108
      replace H := Option.bind_eq_some_iff.mp H
      obtain ⟨t111, A90, H⟩ := H
      replace H : (if a0 ≤ t111 then (octal_Put.l0 kj2 a0 y108 (wrap64 (a1 - 2))) else (octal_Put.l1 kj2 a0 y108 (wrap64 (a1 - 1)))) = some (r1, r2) := H
      have A9 := Aside0.mk A90
      clear A90
      by_cases c10 : a0 ≤ t111
      ·rw [if_pos c10] at H
       have c10b0 : decide (a0 ≤ t111) = true := decide_eq_true c10
       clear c10
       have H' := Aside0.mk H
       clear H
       go_wp2_with (first | ((with_reducible refine gate_dst (N := 17) rfl ?_); refine Kd.R_make (Kd.int .u8) _ 5 rfl (N := 17) rfl 22 _ _ rfl a1 rfl rfl Try.underlying22 (.int .u8 0) 1 info5 rfl (by decide) (by omega) 0 (ok := fun _ => True) (okp := fun _ => True) rfl (fun _ hk => hk) trivial (of_decide_eq_true (by first | (with_reducible assumption) | assumption)) (Nat.le_trans (Nat.mul_le_mul_right _ (of_decide_eq_true (by first | (with_reducible assumption) | assumption) : a1.toNat ≤ 281474976710656)) (by omega)) (Below.refl _ _) (Nat.le_refl _) ?_; intro v109 w11 ho12 hb hg_ hnew_; clear hg_ hnew_; (first | rw [← Ny108.out] at ho12 | (simp only [Int.reduceToNat] at ho12; rw [← Ny108.out] at ho12)); have n0_ := Aside0.mk (Kd.R_lower ho12 (below_size (by repeat (first | (with_reducible first | exact HB.out | apply below_alloc | apply pw_below_drewN | apply below_drew1) | exact HB.out)))); have n1_ := Aside0.mk (below_step (by repeat (first | (with_reducible first | exact HB.out | apply below_alloc | apply pw_below_drewN | apply below_drew1) | exact HB.out)) hb); clear HB; have HO110 := n0_; have HB := n1_; clear n0_ n1_; clear hb ho12) | ((with_reducible refine gate_callee (f := 57) rfl ?_); refine goesL_ (some 20) rfl rfl Try.func57 (by kernel_rfl) rfl #[.int .i64 a1] rfl (by (try simp only [List.map_toArray, List.map_cons, List.map_nil]); first | done | rfl | (simp only [List.length_drop, List.length_take]; rfl)) ?_; (with_reducible refine (octal_Most.calls a1 t111 _ A9.out).mono ?_); rintro e w' ⟨rfl, ⟨nd, rfl⟩⟩; refine ⟨_, rfl, ?_⟩))
       go_loopg [0, 7] kj2 (fun kq v0 v7 w' => ∃ (x0_2 : Int) (x6_2 : List Int) (x7_2 : Int), v0 = .int .i64 x0_2 ∧ v7 = .int .i64 x7_2 ∧ Aside0 (octal_Put.l0 kq x0_2 x6_2 x7_2 = some (r1, r2)) ∧ Aside0 (kq ≤ kj2) ∧ Aside0 (Kd.R (Kd.int .u8) 5 w' w.heap.size (fun _ => True) v109 x6_2) ∧ Aside0 (Below w.heap.size w w'))
       case atStart => exact ⟨(a0), (y108), (wrap64 (a1 - 2)), (by first | rfl | (simp; done) | (simp [*]; done)), (by first | rfl | (simp; done) | (simp [*]; done)), H', ⟨Nat.le_refl _⟩, ⟨by (with_reducible repeat (first | apply Kd.R_alloc | apply Kd.R_drewN | apply Kd.R_drew)); exact HO110.out⟩, ⟨by repeat (first | (with_reducible first | exact HB.out | apply below_alloc | apply pw_below_drewN | apply below_drew1) | exact HB.out)⟩⟩
       case round =>
        clear H'
        try clear c1
        try clear p2
        try clear c4
        try clear c5
        try clear c6
        try clear p6
        try clear c7
        try clear c7b0
        try clear c7b1
        try clear c8
        try clear c8b0
        try clear c8b1
        try clear c10
        try clear c10b0
        try clear p2
        obtain ⟨x0_2, x6_2, x7_2, rfl, rfl, HA, HK2, HO_6, HB⟩ := hrel
        cases gk with
        | zero => exact absurd HA.out (by simp [octal_Put.l0])
        | succ k2 =>
         have H := HA.out
         clear HA
         simp only [octal_Put.l0] at H
         by_cases c13 : x7_2 ≥ 0
         ·rw [if_pos c13] at H
          have c13b0 : decide (0 ≤ x7_2) = true := decide_eq_true c13
          clear c13
          by_cases c14 : 0 ≤ x7_2
          ·rw [if_pos c14] at H
           have c14b0 : decide (0 ≤ x7_2) = true := decide_eq_true c14
           clear c14
           by_cases c15 : x7_2 < (x6_2.length : Int)
           ·rw [if_pos c15] at H
            have c15b0 : decide (x7_2 < (x6_2.length : Int)) = true := decide_eq_true c15
            clear c15
            obtain ⟨y112, hy112⟩ : ∃ y_ : List Int, y_ = (x6_2.set (x7_2 : Int).toNat ((48 + ((Go.bits .and .i64 x0_2 7) % 256)) % 256)) := ⟨_, rfl⟩
            replace H : (octal_Put.l0 k2 (x0_2 / 8) y112 (wrap64 (x7_2 - 1))) = some (r1, r2) := by first | (rw [hy112]; with_reducible exact H) | (have H2_ := (Option.bind_some _ _).symm.trans H; rw [hy112]; with_reducible exact H2_) | (have H2_ := (Option.bind_some _ _).symm.trans H; with_reducible exact H2_) | with_reducible exact H | (rw [hy112]; exact H) | exact H
            have Ny112 := Aside0.mk hy112
            clear hy112
            have H' := Aside0.mk H
            clear H
            have p16 : 0 ≤ (x7_2 : Int) := of_decide_eq_true (by first | (with_reducible assumption) | assumption)
            have q16 : (x7_2 : Int) < ((x6_2.length : Int) : Int) := of_decide_eq_true (by first | (with_reducible assumption) | assumption)
            obtain ⟨go16, co16, eo16, gb16, gl16, cl16, HG16⟩ := Kd.R_form HO_6.out (by omega)
            (first | cases eo16 | (injection eo16 with ea_ en_ ec_; (first | subst ea_ | (injection ea_ with ea_; subst ea_)); subst ec_; clear en_))
            have GB16 := Aside0.mk gb16
            have GG16 := Aside0.mk HG16
            clear gb16 gl16 HG16
            obtain ⟨hx16_0, hf16_0⟩ := Kd.R_celln 0 HO_6.out (x7_2 : Int) p16 q16
            replace p16 := eq_true p16
            replace q16 := eq_true q16
            have HP17 := Kd.R_putg HO_6.out (x7_2 : Int) ((48 + ((Go.bits .and .i64 x0_2 7) % 256)) % 256)
            go_wp2_with (first | ((with_reducible refine gate_store (t := 5) (p := 34) rfl ?_); refine store_event (t := 5) (p := 34) (v := ?vo_w18) (w1 := (wr.setCell ⟨go16, (x7_2 : Int).toNat, none⟩ (.int .u8 ((48 + ((Go.bits .and .i64 x0_2 7) % 256)) % 256)))) ?hg ?ho ?hn ?hr ?_; (case ho => rfl); (case hg => rfl); (case hn => rfl); (case hr => first | (go_simp; done) | (go_simp; rfl)); intro w18 hw; have hg : wr.grownBy w18 (some go16) := (by rw [hw]; exact HP17.2); have hp_ : Kd.R (Kd.int .u8) 5 w18 w.heap.size (fun _ => True) (.slice (some ⟨go16, 0, none⟩) x6_2.length co16) y112 := (by rw [hw, Ny112.out]; exact HP17.1); clear HP17; have n0_ := Aside0.mk (hp_); have n1_ := Aside0.mk ((by rw [hw]; exact below_set (HB.out) GB16.out : Below w.heap.size w w18)); clear HO_6; clear HB; have HO_6 := n0_; have HB := n1_; clear n0_ n1_; clear hg hw hp_))
            go_roundg k2
            case measure => have := HJ2.out; have := HK2.out; omega
            case rel => exact ⟨(x0_2 / 8), (y112), (wrap64 (x7_2 - 1)), (by first | rfl | (simp; done) | (simp [*]; done)), (by first | rfl | (simp; done) | (simp [*]; done)), H', ⟨by have := HJ2.out; have := HK2.out; omega⟩, ⟨by (with_reducible repeat (first | apply Kd.R_alloc | apply Kd.R_drewN | apply Kd.R_drew)); exact HO_6.out⟩, ⟨by repeat (first | (with_reducible first | exact HB.out | apply below_alloc | apply pw_below_drewN | apply below_drew1) | exact HB.out)⟩⟩
           ·rw [if_neg c15] at H
            exact absurd H (by simp)
          ·rw [if_neg c14] at H
           exact absurd H (by simp)
         ·rw [if_neg c13] at H
          have c13b0 : decide (0 ≤ x7_2) = false := decide_eq_false c13
          clear c13
          simp only [Option.some.injEq, Prod.mk.injEq] at H
          obtain ⟨rfl, rfl⟩ := H
          go_wp2
          go_ret2
          exact ⟨_, by first | rfl | (simp [errW_none, errW_some] <;> rfl) | (simp [*, errW_none, errW_some] <;> rfl), by (with_reducible repeat (first | apply Kd.R_alloc | apply Kd.R_drewN | apply Kd.R_drew)); exact HO_6.out, by repeat (first | (with_reducible first | exact HB.out | apply below_alloc | apply pw_below_drewN | apply below_drew1) | exact HB.out)⟩
      ·rw [if_neg c10] at H
       have c10b0 : decide (a0 ≤ t111) = false := decide_eq_false c10
       clear c10
       have H' := Aside0.mk H
       clear H
       go_wp2_with (first | ((with_reducible refine gate_dst (N := 17) rfl ?_); refine Kd.R_make (Kd.int .u8) _ 5 rfl (N := 17) rfl 22 _ _ rfl a1 rfl rfl Try.underlying22 (.int .u8 0) 1 info5 rfl (by decide) (by omega) 0 (ok := fun _ => True) (okp := fun _ => True) rfl (fun _ hk => hk) trivial (of_decide_eq_true (by first | (with_reducible assumption) | assumption)) (Nat.le_trans (Nat.mul_le_mul_right _ (of_decide_eq_true (by first | (with_reducible assumption) | assumption) : a1.toNat ≤ 281474976710656)) (by omega)) (Below.refl _ _) (Nat.le_refl _) ?_; intro v109 w19 ho20 hb hg_ hnew_; clear hg_ hnew_; (first | rw [← Ny108.out] at ho20 | (simp only [Int.reduceToNat] at ho20; rw [← Ny108.out] at ho20)); have n0_ := Aside0.mk (Kd.R_lower ho20 (below_size (by repeat (first | (with_reducible first | exact HB.out | apply below_alloc | apply pw_below_drewN | apply below_drew1) | exact HB.out)))); have n1_ := Aside0.mk (below_step (by repeat (first | (with_reducible first | exact HB.out | apply below_alloc | apply pw_below_drewN | apply below_drew1) | exact HB.out)) hb); clear HB; have HO110 := n0_; have HB := n1_; clear n0_ n1_; clear hb ho20) | ((with_reducible refine gate_callee (f := 57) rfl ?_); refine goesL_ (some 20) rfl rfl Try.func57 (by kernel_rfl) rfl #[.int .i64 a1] rfl (by (try simp only [List.map_toArray, List.map_cons, List.map_nil]); first | done | rfl | (simp only [List.length_drop, List.length_take]; rfl)) ?_; (with_reducible refine (octal_Most.calls a1 t111 _ A9.out).mono ?_); rintro e w' ⟨rfl, ⟨nd, rfl⟩⟩; refine ⟨_, rfl, ?_⟩))
       go_loopg [0, 8] kj2 (fun kq v0 v8 w' => ∃ (x0_2 : Int) (x6_2 : List Int) (x8_2 : Int), v0 = .int .i64 x0_2 ∧ v8 = .int .i64 x8_2 ∧ Aside0 (octal_Put.l1 kq x0_2 x6_2 x8_2 = some (r1, r2)) ∧ Aside0 (kq ≤ kj2) ∧ Aside0 (Kd.R (Kd.int .u8) 5 w' w.heap.size (fun _ => True) v109 x6_2) ∧ Aside0 (Below w.heap.size w w'))
       case atStart => exact ⟨(a0), (y108), (wrap64 (a1 - 1)), (by first | rfl | (simp; done) | (simp [*]; done)), (by first | rfl | (simp; done) | (simp [*]; done)), H', ⟨Nat.le_refl _⟩, ⟨by (with_reducible repeat (first | apply Kd.R_alloc | apply Kd.R_drewN | apply Kd.R_drew)); exact HO110.out⟩, ⟨by repeat (first | (with_reducible first | exact HB.out | apply below_alloc | apply pw_below_drewN | apply below_drew1) | exact HB.out)⟩⟩
       case round =>
        clear H'
        try clear c1
        try clear p1
        try clear q1
        try clear hx1
        try clear p2
        try clear c4
        try clear c5
        try clear c6
        try clear p6
        try clear c7
        try clear c7b0
        try clear c7b1
        try clear c8
        try clear c8b0
        try clear c8b1
        try clear c10
        try clear c10b0
        try clear c13
        try clear c13b0
        try clear c14
        try clear c14b0
        try clear c15
        try clear c15b0
        try clear p16
        try clear q16
        try clear hx16
        try clear hf16
        try clear hx16_0
        try clear p16
        try clear p2
        try clear p6
        try clear q16
        obtain ⟨x0_2, x6_2, x8_2, rfl, rfl, HA, HK2, HO_6, HB⟩ := hrel
        cases gk with
        | zero => exact absurd HA.out (by simp [octal_Put.l1])
        | succ k2 =>
         have H := HA.out
         clear HA
         simp only [octal_Put.l1] at H
         by_cases c21 : x8_2 > 0
         ·rw [if_pos c21] at H
          have c21b0 : decide (0 < x8_2) = true := decide_eq_true c21
          clear c21
          by_cases c22 : 0 ≤ x8_2
          ·rw [if_pos c22] at H
           have c22b0 : decide (0 ≤ x8_2) = true := decide_eq_true c22
           clear c22
           by_cases c23 : x8_2 < (x6_2.length : Int)
           ·rw [if_pos c23] at H
            have c23b0 : decide (x8_2 < (x6_2.length : Int)) = true := decide_eq_true c23
            clear c23
            obtain ⟨y113, hy113⟩ : ∃ y_ : List Int, y_ = (x6_2.set (x8_2 : Int).toNat ((x0_2) % 256)) := ⟨_, rfl⟩
            replace H : (octal_Put.l1 k2 (x0_2 / 256) y113 (wrap64 (x8_2 - 1))) = some (r1, r2) := by first | (rw [hy113]; with_reducible exact H) | (have H2_ := (Option.bind_some _ _).symm.trans H; rw [hy113]; with_reducible exact H2_) | (have H2_ := (Option.bind_some _ _).symm.trans H; with_reducible exact H2_) | with_reducible exact H | (rw [hy113]; exact H) | exact H
            have Ny113 := Aside0.mk hy113
            clear hy113
            have H' := Aside0.mk H
            clear H
            have p24 : 0 ≤ (x8_2 : Int) := of_decide_eq_true (by first | (with_reducible assumption) | assumption)
            have q24 : (x8_2 : Int) < ((x6_2.length : Int) : Int) := of_decide_eq_true (by first | (with_reducible assumption) | assumption)
            obtain ⟨go24, co24, eo24, gb24, gl24, cl24, HG24⟩ := Kd.R_form HO_6.out (by omega)
            (first | cases eo24 | (injection eo24 with ea_ en_ ec_; (first | subst ea_ | (injection ea_ with ea_; subst ea_)); subst ec_; clear en_))
            have GB24 := Aside0.mk gb24
            have GG24 := Aside0.mk HG24
            clear gb24 gl24 HG24
            obtain ⟨hx24_0, hf24_0⟩ := Kd.R_celln 0 HO_6.out (x8_2 : Int) p24 q24
            replace p24 := eq_true p24
            replace q24 := eq_true q24
            have HP25 := Kd.R_putg HO_6.out (x8_2 : Int) ((x0_2) % 256)
            go_wp2_with (first | ((with_reducible refine gate_store (t := 5) (p := 48) rfl ?_); refine store_event (t := 5) (p := 48) (v := ?vo_w26) (w1 := (wr.setCell ⟨go24, (x8_2 : Int).toNat, none⟩ (.int .u8 ((x0_2) % 256)))) ?hg ?ho ?hn ?hr ?_; (case ho => rfl); (case hg => rfl); (case hn => rfl); (case hr => first | (go_simp; done) | (go_simp; rfl)); intro w26 hw; have hg : wr.grownBy w26 (some go24) := (by rw [hw]; exact HP25.2); have hp_ : Kd.R (Kd.int .u8) 5 w26 w.heap.size (fun _ => True) (.slice (some ⟨go24, 0, none⟩) x6_2.length co24) y113 := (by rw [hw, Ny113.out]; exact HP25.1); clear HP25; have n0_ := Aside0.mk (hp_); have n1_ := Aside0.mk ((by rw [hw]; exact below_set (HB.out) GB24.out : Below w.heap.size w w26)); clear HO_6; clear HB; have HO_6 := n0_; have HB := n1_; clear n0_ n1_; clear hg hw hp_))
            go_roundg k2
            case measure => have := HJ2.out; have := HK2.out; omega
            case rel => exact ⟨(x0_2 / 256), (y113), (wrap64 (x8_2 - 1)), (by first | rfl | (simp; done) | (simp [*]; done)), (by first | rfl | (simp; done) | (simp [*]; done)), H', ⟨by have := HJ2.out; have := HK2.out; omega⟩, ⟨by (with_reducible repeat (first | apply Kd.R_alloc | apply Kd.R_drewN | apply Kd.R_drew)); exact HO_6.out⟩, ⟨by repeat (first | (with_reducible first | exact HB.out | apply below_alloc | apply pw_below_drewN | apply below_drew1) | exact HB.out)⟩⟩
           ·rw [if_neg c23] at H
            exact absurd H (by simp)
          ·rw [if_neg c22] at H
           exact absurd H (by simp)
         ·rw [if_neg c21] at H
          have c21b0 : decide (0 < x8_2) = false := decide_eq_false c21
          clear c21
          by_cases c27 : x0_2 = 0
          ·rw [if_pos c27] at H
           have c27b0 : (x0_2 == 0) = true := beq_iff_eq.mpr c27
           have c27b1 : (x0_2 != 0) = false := bne_eq_false_iff_eq.mpr c27
           clear c27
           by_cases c28 : 0 < (x6_2.length : Int)
           ·rw [if_pos c28] at H
            have c28b0 : decide (0 < (x6_2.length : Int)) = true := decide_eq_true c28
            have c28b1 : decide (0 < x6_2.length) = true := decide_eq_true (by omega)
            clear c28
            obtain ⟨y114, hy114⟩ : ∃ y_ : List Int, y_ = (x6_2.set (0 : Int).toNat 128) := ⟨_, rfl⟩
            replace H : (some (y114, 0)) = some (r1, r2) := by first | (rw [hy114]; with_reducible exact H) | (have H2_ := (Option.bind_some _ _).symm.trans H; rw [hy114]; with_reducible exact H2_) | (have H2_ := (Option.bind_some _ _).symm.trans H; with_reducible exact H2_) | with_reducible exact H | (rw [hy114]; exact H) | exact H
            have Ny114 := Aside0.mk hy114
            clear hy114
            simp only [Option.some.injEq, Prod.mk.injEq] at H
            obtain ⟨rfl, rfl⟩ := H
            have p29 : 0 ≤ (0 : Int) := (by omega)
            have q29 : (0 : Int) < ((x6_2.length : Int) : Int) := of_decide_eq_true (by first | (with_reducible assumption) | assumption)
            have qi29 : (0 < x6_2.length) = True := eq_true (by omega)
            obtain ⟨go29, co29, eo29, gb29, gl29, cl29, HG29⟩ := Kd.R_form HO_6.out (by omega)
            (first | cases eo29 | (injection eo29 with ea_ en_ ec_; (first | subst ea_ | (injection ea_ with ea_; subst ea_)); subst ec_; clear en_))
            have GB29 := Aside0.mk gb29
            have GG29 := Aside0.mk HG29
            clear gb29 gl29 HG29
            obtain ⟨hx29_0, hf29_0⟩ := Kd.R_celln 0 HO_6.out (0 : Int) p29 q29
            (try rw [show ((0 : Int)).toNat = 0 from rfl] at hx29_0)
            (try simp only [Nat.reduceMul, Nat.zero_mul, Nat.zero_add, Nat.reduceAdd] at hx29_0)
            (try rw [show ((0 : Int)).toNat = 0 from rfl] at hf29_0)
            (try simp only [Nat.reduceMul, Nat.zero_mul, Nat.zero_add, Nat.reduceAdd] at hf29_0)
            replace p29 := eq_true p29
            replace q29 := eq_true q29
            have HP30 := Kd.R_putg HO_6.out (0 : Int) 128
            go_wp2_with (first | ((with_reducible refine gate_store (t := 5) (p := 54) rfl ?_); refine store_event (t := 5) (p := 54) (v := ?vo_w31) (w1 := (wr.setCell ⟨go29, (0 : Int).toNat, none⟩ (.int .u8 128))) ?hg ?ho ?hn ?hr ?_; (case ho => rfl); (case hg => rfl); (case hn => rfl); (case hr => first | (go_simp; done) | (go_simp; rfl)); intro w31 hw; have hg : wr.grownBy w31 (some go29) := (by rw [hw]; exact HP30.2); have hp_ : Kd.R (Kd.int .u8) 5 w31 w.heap.size (fun _ => True) (.slice (some ⟨go29, 0, none⟩) x6_2.length co29) y114 := (by rw [hw, Ny114.out]; exact HP30.1); clear HP30; have n0_ := Aside0.mk (hp_); have n1_ := Aside0.mk ((by rw [hw]; exact below_set (HB.out) GB29.out : Below w.heap.size w w31)); clear HO_6; clear HB; have HO_6 := n0_; have HB := n1_; clear n0_ n1_; clear hg hw hp_))
            go_ret2
            exact ⟨_, by first | rfl | (simp [errW_none, errW_some] <;> rfl) | (simp [*, errW_none, errW_some] <;> rfl), by (with_reducible repeat (first | apply Kd.R_alloc | apply Kd.R_drewN | apply Kd.R_drew)); exact HO_6.out, by repeat (first | (with_reducible first | exact HB.out | apply below_alloc | apply pw_below_drewN | apply below_drew1) | exact HB.out)⟩
           ·rw [if_neg c28] at H
            exact absurd H (by simp)
          ·rw [if_neg c27] at H
           have c27b0 : (x0_2 == 0) = false := beq_eq_false_iff_ne.mpr c27
           have c27b1 : (x0_2 != 0) = true := bne_iff_ne.mpr c27
           simp only [Option.some.injEq, Prod.mk.injEq] at H
           obtain ⟨rfl, rfl⟩ := H
           go_wp2
           go_ret2
           exact ⟨_, by first | rfl | (simp [errW_none, errW_some] <;> rfl) | (simp [*, errW_none, errW_some] <;> rfl), by first | exact Kd.R_nil _ _ _ _ _ | exact Kd.N_nil _ _ _ _ _ | exact Kd.V_nil _ _ _ _ _ | exact Kd.Q_nil _ _ _ _ _ | exact Kd.S_nil _ _ _ _ _, by repeat (first | (with_reducible first | exact HB.out | apply below_alloc | apply pw_below_drewN | apply below_drew1) | exact HB.out)⟩
     ·rw [if_neg c8] at H
      exact absurd H (by simp)
    ·rw [if_neg c7] at H
     exact absurd H (by simp)

/-! ### octal_Exact: function 39 -/
def octal_Exact.f (k : Nat) (l0 : List Int) : Option (Int × Int) := (octal_Get.f k l0).bind fun bt115 => (if bt115.2.2 = 0 then ((octal_Put.f k bt115.1 (l0.length : Int)).bind fun bt118 => (if bt118.2 = 0 then (if (strOfNums bt118.1).toList = (strOfNums l0).toList then (some (bt115.1, 0)) else (some (0, 71))) else (some (0, 71)))) else (some (0, bt115.2.2)))
set_option maxHeartbeats 8000000 in
set_option maxRecDepth 100000 in
theorem octal_Exact.calls (k : Nat) (A0 : Option Addr) (c0 : Nat) (l0 : List Int) (r1 : Int) (r2 : Int) (w : World) (hr0 : Kd.C (Kd.int .u8) w A0 l0.length l0) (hc0 : l0.length ≤ c0) (h : octal_Exact.f k l0 = some (r1, r2)) :
  Calls Try.prog 39 #[.slice A0 l0.length c0] w fun e w' => e = .returned (.tuple #[.int .i64 r1, .int .i64 r2]) ∧ Below w.heap.size w w' := by
 have HR0 := Aside0.mk hr0
 have HC0 := Aside0.mk hc0
 clear hr0 hc0
 have HB := Aside0.mk (Below.refl w.heap.size w)
 have H : ((octal_Get.f k l0).bind fun bt115 => (if bt115.2.2 = 0 then ((octal_Put.f k bt115.1 (l0.length : Int)).bind fun bt118 => (if bt118.2 = 0 then (if (strOfNums bt118.1).toList = (strOfNums l0).toList then (some (bt115.1, 0)) else (some (0, 71))) else (some (0, 71)))) else (some (0, bt115.2.2)))) = some (r1, r2) := h
 clear h
 replace H := Option.bind_eq_some_iff.mp H
 obtain ⟨⟨t115, t116, t117⟩, A20, H⟩ := H
 replace H : (if t117 = 0 then ((octal_Put.f k t115 (l0.length : Int)).bind fun bt118 => (if bt118.2 = 0 then (if (strOfNums bt118.1).toList = (strOfNums l0).toList then (some (t115, 0)) else (some (0, 71))) else (some (0, 71)))) else (some (0, t117))) = some (r1, r2) := H
 have A2 := Aside0.mk A20
 clear A20
 by_cases c3 : t117 = 0
 ·rw [if_pos c3] at H
  have c3b0 : (t117 == 0) = true := beq_iff_eq.mpr c3
  have c3b1 : (t117 != 0) = false := bne_eq_false_iff_eq.mpr c3
  clear c3
  replace H := Option.bind_eq_some_iff.mp H
  obtain ⟨⟨t118, t119⟩, A40, H⟩ := H
  replace H : (if t119 = 0 then (if (strOfNums t118).toList = (strOfNums l0).toList then (some (t115, 0)) else (some (0, 71))) else (some (0, 71))) = some (r1, r2) := H
  have A4 := Aside0.mk A40
  clear A40
  by_cases c5 : t119 = 0
  ·rw [if_pos c5] at H
   have c5b0 : (t119 == 0) = true := beq_iff_eq.mpr c5
   have c5b1 : (t119 != 0) = false := bne_eq_false_iff_eq.mpr c5
   clear c5
   by_cases c6 : (strOfNums t118).toList = (strOfNums l0).toList
   ·rw [if_pos c6] at H
    have c6b0 : ((strOfNums t118).toList == (strOfNums l0).toList) = true := beq_iff_eq.mpr c6
    have c6b1 : ((strOfNums t118).toList != (strOfNums l0).toList) = false := bne_eq_false_iff_eq.mpr c6
    clear c6
    simp only [Option.some.injEq, Prod.mk.injEq] at H
    obtain ⟨rfl, rfl⟩ := H
    go_enter Try.func39, Try.ntmps39
    go_wp2_with (first | ((with_reducible refine gate_callee (f := 48) rfl ?_); refine goesL_ (some 10) rfl rfl Try.func48 (by kernel_rfl) rfl #[.slice A0 l0.length c0] rfl (by (try simp only [List.map_toArray, List.map_cons, List.map_nil]); first | done | rfl | (simp only [List.length_drop, List.length_take]; rfl)) ?_; (with_reducible refine (octal_Get.calls k _ _ l0 t115 t116 t117 _ ?side1 ?side2 A2.out).mono ?_); (case side1 => repeat (first | exact HR0.out | (with_reducible refine Kd.C_alloc ?_ _) | (with_reducible refine Kd.C_drewN ?_ _) | (with_reducible refine Kd.C_drew ?_))); (case side2 => exact HC0.out); rintro e w' ⟨rfl, ⟨nd, rfl⟩⟩; refine ⟨_, rfl, ?_⟩) | ((with_reducible refine gate_callee (f := 49) rfl ?_); refine goesL_ (some 21) rfl rfl Try.func49 (by kernel_rfl) rfl #[.int .i64 t115, .int .i64 (l0.length : Int)] rfl (by (try simp only [List.map_toArray, List.map_cons, List.map_nil]); first | done | rfl | (simp only [List.length_drop, List.length_take]; rfl)) ?_; (with_reducible refine (octal_Put.calls k t115 (l0.length : Int) t118 t119 _ A4.out).mono ?_); rintro e w7 ⟨v120, rfl, ho0, hb⟩; refine ⟨_, rfl, ?_⟩; have n0_ := Aside0.mk (Kd.R_lower ho0 (below_size (by repeat (first | (with_reducible first | exact HB.out | apply below_alloc | apply pw_below_drewN | apply below_drew1) | exact HB.out)))); have n1_ := Aside0.mk (below_step (by repeat (first | (with_reducible first | exact HB.out | apply below_alloc | apply pw_below_drewN | apply below_drew1) | exact HB.out)) hb); clear HB; have HO121 := n0_; have HB := n1_; clear n0_ n1_; (try clear hb); (try clear hb2); (try clear hk); (try clear hi); (try clear ho0); have hcv8 := own_string (P := Try.prog) Try.underlying22 Try.underlying5 Try.underlying9 (Kd.own_of_R HO121.out); have hcv9 := Kd.C_string (P := Try.prog) (A := A0) (c := c0) Try.underlying22 Try.underlying5 Try.underlying9 (Kd.C_below HR0.out HB.out); have hcv9b := hcv9; (try simp only [List.length_drop, List.length_take, Int.reduceToNat] at hcv9b)))
    go_ret2
    exact ⟨by first | rfl | (simp [errW_none, errW_some] <;> rfl) | (simp [*, errW_none, errW_some] <;> rfl), by repeat (first | (with_reducible first | exact HB.out | apply below_alloc | apply pw_below_drewN | apply below_drew1) | exact HB.out)⟩
   ·rw [if_neg c6] at H
    have c6b0 : ((strOfNums t118).toList == (strOfNums l0).toList) = false := beq_eq_false_iff_ne.mpr c6
    have c6b1 : ((strOfNums t118).toList != (strOfNums l0).toList) = true := bne_iff_ne.mpr c6
    simp only [Option.some.injEq, Prod.mk.injEq] at H
    obtain ⟨rfl, rfl⟩ := H
    go_enter Try.func39, Try.ntmps39
    go_wp2_with (first | ((with_reducible refine gate_callee (f := 48) rfl ?_); refine goesL_ (some 10) rfl rfl Try.func48 (by kernel_rfl) rfl #[.slice A0 l0.length c0] rfl (by (try simp only [List.map_toArray, List.map_cons, List.map_nil]); first | done | rfl | (simp only [List.length_drop, List.length_take]; rfl)) ?_; (with_reducible refine (octal_Get.calls k _ _ l0 t115 t116 t117 _ ?side1 ?side2 A2.out).mono ?_); (case side1 => repeat (first | exact HR0.out | (with_reducible refine Kd.C_alloc ?_ _) | (with_reducible refine Kd.C_drewN ?_ _) | (with_reducible refine Kd.C_drew ?_))); (case side2 => exact HC0.out); rintro e w' ⟨rfl, ⟨nd, rfl⟩⟩; refine ⟨_, rfl, ?_⟩) | ((with_reducible refine gate_callee (f := 49) rfl ?_); refine goesL_ (some 21) rfl rfl Try.func49 (by kernel_rfl) rfl #[.int .i64 t115, .int .i64 (l0.length : Int)] rfl (by (try simp only [List.map_toArray, List.map_cons, List.map_nil]); first | done | rfl | (simp only [List.length_drop, List.length_take]; rfl)) ?_; (with_reducible refine (octal_Put.calls k t115 (l0.length : Int) t118 t119 _ A4.out).mono ?_); rintro e w10 ⟨v120, rfl, ho0, hb⟩; refine ⟨_, rfl, ?_⟩; have n0_ := Aside0.mk (Kd.R_lower ho0 (below_size (by repeat (first | (with_reducible first | exact HB.out | apply below_alloc | apply pw_below_drewN | apply below_drew1) | exact HB.out)))); have n1_ := Aside0.mk (below_step (by repeat (first | (with_reducible first | exact HB.out | apply below_alloc | apply pw_below_drewN | apply below_drew1) | exact HB.out)) hb); clear HB; have HO121 := n0_; have HB := n1_; clear n0_ n1_; (try clear hb); (try clear hb2); (try clear hk); (try clear hi); (try clear ho0); have hcv11 := own_string (P := Try.prog) Try.underlying22 Try.underlying5 Try.underlying9 (Kd.own_of_R HO121.out); have hcv12 := Kd.C_string (P := Try.prog) (A := A0) (c := c0) Try.underlying22 Try.underlying5 Try.underlying9 (Kd.C_below HR0.out HB.out); have hcv12b := hcv12; (try simp only [List.length_drop, List.length_take, Int.reduceToNat] at hcv12b)))
    go_ret2
    exact ⟨by first | rfl | (simp [errW_none, errW_some] <;> rfl) | (simp [*, errW_none, errW_some] <;> rfl), by repeat (first | (with_reducible first | exact HB.out | apply below_alloc | apply pw_below_drewN | apply below_drew1) | exact HB.out)⟩
  ·rw [if_neg c5] at H
   have c5b0 : (t119 == 0) = false := beq_eq_false_iff_ne.mpr c5
   have c5b1 : (t119 != 0) = true := bne_iff_ne.mpr c5
   simp only [Option.some.injEq, Prod.mk.injEq] at H
   obtain ⟨rfl, rfl⟩ := H
   go_enter Try.func39, Try.ntmps39
   go_wp2_with (first | ((with_reducible refine gate_callee (f := 48) rfl ?_); refine goesL_ (some 10) rfl rfl Try.func48 (by kernel_rfl) rfl #[.slice A0 l0.length c0] rfl (by (try simp only [List.map_toArray, List.map_cons, List.map_nil]); first | done | rfl | (simp only [List.length_drop, List.length_take]; rfl)) ?_; (with_reducible refine (octal_Get.calls k _ _ l0 t115 t116 t117 _ ?side1 ?side2 A2.out).mono ?_); (case side1 => repeat (first | exact HR0.out | (with_reducible refine Kd.C_alloc ?_ _) | (with_reducible refine Kd.C_drewN ?_ _) | (with_reducible refine Kd.C_drew ?_))); (case side2 => exact HC0.out); rintro e w' ⟨rfl, ⟨nd, rfl⟩⟩; refine ⟨_, rfl, ?_⟩) | ((with_reducible refine gate_callee (f := 49) rfl ?_); refine goesL_ (some 21) rfl rfl Try.func49 (by kernel_rfl) rfl #[.int .i64 t115, .int .i64 (l0.length : Int)] rfl (by (try simp only [List.map_toArray, List.map_cons, List.map_nil]); first | done | rfl | (simp only [List.length_drop, List.length_take]; rfl)) ?_; (with_reducible refine (octal_Put.calls k t115 (l0.length : Int) t118 t119 _ A4.out).mono ?_); rintro e w13 ⟨v120, rfl, ho0, hb⟩; refine ⟨_, rfl, ?_⟩; have n0_ := Aside0.mk (Kd.R_lower ho0 (below_size (by repeat (first | (with_reducible first | exact HB.out | apply below_alloc | apply pw_below_drewN | apply below_drew1) | exact HB.out)))); have n1_ := Aside0.mk (below_step (by repeat (first | (with_reducible first | exact HB.out | apply below_alloc | apply pw_below_drewN | apply below_drew1) | exact HB.out)) hb); clear HB; have HO121 := n0_; have HB := n1_; clear n0_ n1_; (try clear hb); (try clear hb2); (try clear hk); (try clear hi); (try clear ho0)))
   go_ret2
   exact ⟨by first | rfl | (simp [errW_none, errW_some] <;> rfl) | (simp [*, errW_none, errW_some] <;> rfl), by repeat (first | (with_reducible first | exact HB.out | apply below_alloc | apply pw_below_drewN | apply below_drew1) | exact HB.out)⟩
 ·rw [if_neg c3] at H
  have c3b0 : (t117 == 0) = false := beq_eq_false_iff_ne.mpr c3
  have c3b1 : (t117 != 0) = true := bne_iff_ne.mpr c3
  simp only [Option.some.injEq, Prod.mk.injEq] at H
  obtain ⟨rfl, rfl⟩ := H
  go_enter Try.func39, Try.ntmps39
  go_wp2_with (first | ((with_reducible refine gate_callee (f := 48) rfl ?_); refine goesL_ (some 10) rfl rfl Try.func48 (by kernel_rfl) rfl #[.slice A0 l0.length c0] rfl (by (try simp only [List.map_toArray, List.map_cons, List.map_nil]); first | done | rfl | (simp only [List.length_drop, List.length_take]; rfl)) ?_; (with_reducible refine (octal_Get.calls k _ _ l0 t115 t116 t117 _ ?side1 ?side2 A2.out).mono ?_); (case side1 => repeat (first | exact HR0.out | (with_reducible refine Kd.C_alloc ?_ _) | (with_reducible refine Kd.C_drewN ?_ _) | (with_reducible refine Kd.C_drew ?_))); (case side2 => exact HC0.out); rintro e w' ⟨rfl, ⟨nd, rfl⟩⟩; refine ⟨_, rfl, ?_⟩))
  go_ret2
  exact ⟨by first | rfl | (simp [errW_none, errW_some] <;> rfl) | (simp [*, errW_none, errW_some] <;> rfl), by repeat (first | (with_reducible first | exact HB.out | apply below_alloc | apply pw_below_drewN | apply below_drew1) | exact HB.out)⟩

end Go.Proofs.Ytdmpbfhbjklajaa.PExact
end

-- Written by wip/tools/myprint.py, a program of this session over the print tool: not a printed text of the kit's
section
namespace Go.Proofs.Ytdmpbfhbjklajaa.PExact
open Go.RowKit Go.Proofs.YtdmpbfhbjklajaaW.PrintWords Go.Proofs.YtdmpbfhbjklajaaW.PrintLast Go.Proofs.YtdmpbfhbjklajaaW.PrintMore
attribute [local go_sem] max2_int min2_int max_two min_two max_three min_three max_four min_four   -- for this text's walks alone
set_option linter.unusedVariables false
set_option linter.unusedSimpArgs false
set_option maxRecDepth 20000

end Go.Proofs.Ytdmpbfhbjklajaa.PExact
end

/- The chapter's octal numbers in plain words. -/
section
namespace Go.Proofs.Ytdmpbfhbjklajaa.OctPure
open Go.Proofs.Ytdmpbfhbjklajaa Go.RowKit Go.Proofs.YtdmpbfhbjklajaaW.PrintWords Go.Proofs.YtdmpbfhbjklajaaW.PrintLast Go.Proofs.YtdmpbfhbjklajaaW.PrintMore Go.Proofs.Ytdmpbfhbjklajaa.PExact
set_option linter.unusedVariables false
set_option linter.unusedSimpArgs false

theorem wf64 {a : Int} (h : (Lit.int .i64 a).wf = true) : -9223372036854775808 ≤ a ∧ a ≤ 9223372036854775807 := by
  simp only [Lit.wf, Bool.and_eq_true, decide_eq_true_eq] at h
  have hmin : IntKind.i64.min = -9223372036854775808 := rfl
  have hmax : IntKind.i64.max = 9223372036854775807 := rfl
  omega

theorem w64 {a : Int} (h : -9223372036854775808 ≤ a ∧ a ≤ 9223372036854775807) : wrap64 a = a := by
  unfold wrap64; omega

theorem and7 (x : Int) (h0 : 0 ≤ x) (h1 : x ≤ 9223372036854775807) : Go.bits .and .i64 x 7 = x % 8 :=
  bits_mask .i64 63 (by decide) (fun n h0 h1 => by rw [IntKind.wrap_i64]; omega) 3 (by decide) x h0 (by omega)

theorem set_drop {α : Type} (l : List α) (c : Nat) (v : α) (h : c < l.length) : (l.set c v).drop c = v :: l.drop (c + 1) := by
  apply List.ext_getElem?
  intro i
  rw [List.getElem?_drop, List.getElem?_set]
  cases i with
  | zero => simp [h]
  | succ i => simp only [List.getElem?_cons_succ, List.getElem?_drop]; rw [if_neg (by omega)]; congr 1; omega

theorem take_set {α : Type} (l : List α) (c : Nat) (v : α) : (l.set c v).take c = l.take c := by
  apply List.ext_getElem?
  intro i
  rw [List.getElem?_take, List.getElem?_take, List.getElem?_set]
  by_cases h : i < c
  · rw [if_pos h, if_pos h, if_neg (by omega)]
  · rw [if_neg h, if_neg h]

/-- `c` octal digits of x, the highest first. -/
def digs : Nat → Int → List Int
  | 0, _ => []
  | c + 1, x => digs c (x / 8) ++ [48 + x % 8]

theorem digs_length (c : Nat) : ∀ x, (digs c x).length = c := by
  induction c with
  | zero => intro x; rfl
  | succ c ih => intro x; simp [digs, ih]

theorem put_l0 (c : Nat) : ∀ (k : Nat) (x : Int) (l : List Int), c < k → c ≤ l.length → c ≤ 1000 → 0 ≤ x → x ≤ 9223372036854775807 →
    octal_Put.l0 k x l ((c : Int) - 1) = some (digs c x ++ l.drop c, 0) := by
  induction c with
  | zero =>
    intro k x l hk hl hc h0 h1
    obtain ⟨k, rfl⟩ : ∃ m, k = m + 1 := ⟨k - 1, by omega⟩
    simp only [octal_Put.l0]
    rw [if_neg (by omega)]
    simp [digs]
  | succ c ih =>
    intro k x l hk hl hc h0 h1
    obtain ⟨k, rfl⟩ : ∃ m, k = m + 1 := ⟨k - 1, by omega⟩
    simp only [octal_Put.l0]
    have e : ((c + 1 : Nat) : Int) - 1 = (c : Int) := by omega
    rw [e, if_pos (by omega), if_pos (by omega), if_pos (by omega), w64 (by omega), ih k _ _ (by omega) (by simp; omega) (by omega) (by omega) (by omega)]
    rw [Int.toNat_natCast, set_drop _ _ _ (by omega), and7 x h0 h1]
    have e2 : (48 + x % 8 % 256) % 256 = 48 + x % 8 := by omega
    rw [e2]
    simp [digs]

/-- `c` bytes of x, the highest first. -/
def byts : Nat → Int → List Int
  | 0, _ => []
  | c + 1, x => byts c (x / 256) ++ [x % 256]

theorem byts_length (c : Nat) : ∀ x, (byts c x).length = c := by
  induction c with
  | zero => intro x; rfl
  | succ c ih => intro x; simp [byts, ih]

/-- what is left of x behind c bytes. -/
def left : Nat → Int → Int
  | 0, x => x
  | c + 1, x => left c (x / 256)

theorem left_nonneg (c : Nat) : ∀ x, 0 ≤ x → 0 ≤ left c x := by
  induction c with
  | zero => intro x h; exact h
  | succ c ih => intro x h; exact ih _ (by omega)

theorem put_l1 (c : Nat) : ∀ (k : Nat) (x : Int) (l : List Int), c < k → c < l.length → c ≤ 1000 → 0 ≤ x → x ≤ 9223372036854775807 →
    octal_Put.l1 k x l (c : Int) = if left c x = 0 then some (128 :: byts c x ++ l.drop (c + 1), 0) else some ([], 2) := by
  induction c with
  | zero =>
    intro k x l hk hl hc h0 h1
    obtain ⟨k, rfl⟩ : ∃ m, k = m + 1 := ⟨k - 1, by omega⟩
    simp only [octal_Put.l1]
    rw [if_neg (by omega), if_pos (show (0 : Int) < (l.length : Int) by omega)]
    cases l with
    | nil => simp at hl
    | cons a l => simp only [left, byts]; rfl
  | succ c ih =>
    intro k x l hk hl hc h0 h1
    obtain ⟨k, rfl⟩ : ∃ m, k = m + 1 := ⟨k - 1, by omega⟩
    simp only [octal_Put.l1]
    have e : wrap64 (((c + 1 : Nat) : Int) - 1) = (c : Int) := by rw [w64 (by omega)]; omega
    rw [if_pos (by omega), if_pos (by omega), if_pos (by omega), e, ih k _ _ (by omega) (by simp; omega) (by omega) (by omega) (by omega),
      Int.toNat_natCast, set_drop _ _ _ hl]
    simp [left, byts]

theorem most_oct (w : Int) (h0 : 2 ≤ w) (h1 : w ≤ 12) : octal_Most.f w = some (8 ^ (w - 1).toNat - 1) := by
  have : w = 2 ∨ w = 3 ∨ w = 4 ∨ w = 5 ∨ w = 6 ∨ w = 7 ∨ w = 8 ∨ w = 9 ∨ w = 10 ∨ w = 11 ∨ w = 12 := by omega
  rcases this with rfl | rfl | rfl | rfl | rfl | rfl | rfl | rfl | rfl | rfl | rfl <;> decide +kernel

theorem most_not (w : Int) (h : ¬ (2 ≤ w ∧ w ≤ 12)) : octal_Most.f w = some (-1) := by
  unfold octal_Most.f octal_field.f
  by_cases h0 : w ≥ 2
  · rw [if_pos h0]; simp only [Option.bind_some]
    rw [if_neg (by simp; omega)]
  · rw [if_neg h0]; simp

theorem field_oct (w : Int) : octal_field.f w = some (decide (2 ≤ w ∧ w ≤ 12)) := by
  unfold octal_field.f
  by_cases h : w ≥ 2
  · rw [if_pos h]; congr 1; simp [h]
  · rw [if_neg h]; congr 1; simp; omega

/-- What Put answers. -/
def putS (n w : Int) : List Int × Int :=
  if 2 ≤ w ∧ w ≤ 12 ∧ 0 ≤ n then
    (if n ≤ 8 ^ (w - 1).toNat - 1 then (digs (w - 1).toNat n ++ [0], 0)
      else if left (w - 1).toNat n = 0 then (128 :: byts (w - 1).toNat n, 0) else ([], 2))
  else ([], 1)

theorem put_oct (n w : Int) (hn : -9223372036854775808 ≤ n ∧ n ≤ 9223372036854775807) (k : Nat) (hk : 20 < k) : octal_Put.f k n w = some (putS n w) := by
  obtain ⟨k, rfl⟩ : ∃ m, k = m + 1 := ⟨k - 1, by omega⟩
  unfold octal_Put.f putS
  rw [field_oct]
  simp only [Option.bind_some]
  by_cases hw : 2 ≤ w ∧ w ≤ 12
  · rw [if_pos (by simpa using hw)]
    simp only [octal_Put.j0]
    by_cases h0 : 0 ≤ n
    · rw [if_neg (by simp; omega), if_pos (show 0 ≤ w by omega), if_pos (show w.toNat ≤ 281474976710656 by omega), if_pos (show 2 ≤ w ∧ w ≤ 12 ∧ 0 ≤ n from ⟨hw.1, hw.2, h0⟩)]
      simp only [Option.bind_some]
      rw [most_oct w hw.1 hw.2]
      simp only [Option.bind_some]
      obtain ⟨m, hm⟩ : ∃ m : Nat, w = m + 1 := ⟨(w - 1).toNat, by omega⟩
      have hm1 : (w - 1).toNat = m := by omega
      have hm2 : w.toNat = m + 1 := by omega
      rw [hm1, hm2]
      by_cases h2 : n ≤ 8 ^ m - 1
      · rw [if_pos h2, if_pos h2, w64 (by omega)]
        have e : w - 2 = (m : Int) - 1 := by omega
        rw [e, put_l0 m k n _ (by omega) (by simp) (by omega) h0 hn.2]
        simp
      · rw [if_neg h2, if_neg h2, w64 (by omega)]
        have e : w - 1 = (m : Int) := by omega
        rw [e, put_l1 m k n _ (by omega) (by simp) (by omega) h0 hn.2]
        simp
        split <;> rfl
    · rw [if_pos (by simp; omega), if_neg (by omega)]
  · rw [if_neg (by simpa using hw), if_neg (by omega)]
    simp only [octal_Put.j0, if_true]

theorem or8 (x y : Int) (h0 : 0 ≤ x) (h1 : x ≤ 1152921504606846975) (hy : 0 ≤ y) (hy1 : y < 8) : Go.bits .or .i64 (x * 8) y = x * 8 + y :=
  bits_join .i64 63 (by decide) (fun n h0 h1 => by rw [IntKind.wrap_i64]; omega) 3 (x * 8) y (by omega) (by omega) (by omega) hy (by omega) (by omega)

theorem or256 (x y : Int) (h0 : 0 ≤ x) (h1 : x < 36028797018963968) (hy : 0 ≤ y) (hy1 : y < 256) : Go.bits .or .i64 (x * 256) y = x * 256 + y :=
  bits_join .i64 63 (by decide) (fun n h0 h1 => by rw [IntKind.wrap_i64]; omega) 8 (x * 256) y (by omega) (by omega) (by omega) hy (by omega) (by omega)

/-- Are these bytes? -/
def AreBytes (l : List Int) : Prop := ∀ x ∈ l, 0 ≤ x ∧ x ≤ 255

theorem rd_at (l : List Int) (j : Nat) (h : j < l.length) : rd l (j : Int) = l[j] := by
  unfold rd; simp [List.getD_eq_getElem?_getD, List.getElem?_eq_getElem h]

/-- A loose field's scan: what is left, the number so far, still ahead, still inside, the place. -/
def scanS : List Int → Int → Bool → Bool → Int → Int × Int × Int
  | [], n, _, _, _ => (n, 0, 0)
  | c :: r, n, a, s, i =>
    if c = 32 ∧ a = true then scanS r n a s (i + 1)
    else if 48 ≤ c ∧ c ≤ 55 ∧ s = true then scanS r (n * 8 + (c - 48)) false s (i + 1)
    else if c = 32 ∨ c = 0 then scanS r n false false (i + 1)
    else (0, i, 70)

theorem pow8_le (c : Nat) (h : c ≤ 14) : (8 : Int) ^ c ≤ 4398046511104 ∧ (1 : Int) ≤ 8 ^ c := by
  have : c = 0 ∨ c = 1 ∨ c = 2 ∨ c = 3 ∨ c = 4 ∨ c = 5 ∨ c = 6 ∨ c = 7 ∨ c = 8 ∨ c = 9 ∨ c = 10 ∨ c = 11 ∨ c = 12 ∨ c = 13 ∨ c = 14 := by omega
  rcases this with rfl | rfl | rfl | rfl | rfl | rfl | rfl | rfl | rfl | rfl | rfl | rfl | rfl | rfl | rfl <;> decide

theorem get_l1 (r : List Int) : ∀ (k : Nat) (n : Int) (a s : Bool) (l : List Int) (i : Nat), 3 * r.length + 3 < k → l.length ≤ 12 → AreBytes r → l.drop i = r → i ≤ l.length → 0 ≤ n → n < 8 ^ i →
    octal_Get.l1 k n a s l (l.length : Int) (i : Int) = some (scanS r n a s i) := by
  induction r with
  | nil =>
    intro k n a s l i hk hl hb hd hi h0 h1
    obtain ⟨k, rfl⟩ : ∃ m, k = m + 1 := ⟨k - 1, by omega⟩
    have : l.length ≤ i := by have := congrArg List.length hd; simp at this; omega
    simp only [octal_Get.l1]
    rw [if_neg (by omega)]
    rfl
  | cons c r ih =>
    intro k n a s l i hk hl hb hd hi h0 h1
    simp only [List.length_cons] at hk
    obtain ⟨k, rfl⟩ : ∃ m, k = m + 3 := ⟨k - 3, by omega⟩
    have hlt : i < l.length := by have := congrArg List.length hd; simp at this; omega
    have hc : l[i] = c := by rw [List.drop_eq_getElem_cons hlt] at hd; injection hd
    have hr : l.drop (i + 1) = r := by rw [List.drop_eq_getElem_cons hlt] at hd; injection hd
    have hcb := hb c (by simp)
    have hbr : AreBytes r := fun x hx => hb x (by simp [hx])
    have hw : wrap64 ((i : Int) + 1) = ((i + 1 : Nat) : Int) := by rw [w64 ⟨by omega, by omega⟩]; omega
    have hp := pow8_le i (by omega)
    have hp1 : (8 : Int) ^ (i + 1) = 8 ^ i * 8 := by rw [Int.pow_succ]
    have hn1 : n < 8 ^ (i + 1) := by rw [hp1]; omega
    have hcast : ((i : Int) + 1) = ((i + 1 : Nat) : Int) := by omega
    simp only [octal_Get.l1]
    rw [if_pos (by omega), if_pos (by omega), if_pos (by omega), rd_at l i hlt, hc]
    simp only [scanS]
    by_cases h32 : c = 32
    · rw [if_pos h32]
      simp only [octal_Get.j2]
      by_cases ha : a = true
      · rw [if_pos ha, if_pos (show c = 32 ∧ a = true from ⟨h32, ha⟩), hw, hcast]
        exact ih (k + 1) n a s l (i + 1) (by omega) hl hbr hr hlt h0 hn1
      · rw [if_neg ha, if_neg (show ¬ (c = 32 ∧ a = true) from fun h => ha h.2), if_neg (show ¬ c ≥ 48 by omega), if_neg (show ¬ (48 ≤ c ∧ c ≤ 55 ∧ s = true) by omega), if_pos (show c = 32 ∨ c = 0 from .inl h32)]
        simp only [octal_Get.j3]
        rw [if_neg (by decide), if_pos h32, hw, hcast]
        exact ih k n false false l (i + 1) (by omega) hl hbr hr hlt h0 hn1
    · rw [if_neg h32]
      simp only [octal_Get.j2]
      rw [if_neg (show ¬ (false = true) by decide), if_neg (show ¬ (c = 32 ∧ a = true) from fun h => h32 h.1)]
      by_cases hdig : 48 ≤ c ∧ c ≤ 55 ∧ s = true
      · rw [if_pos (show c ≥ 48 from hdig.1), if_pos hdig.2.1, if_pos hdig]
        simp only [octal_Get.j3]
        have e1 : wrap64 (n * 8) = n * 8 := w64 ⟨by omega, by omega⟩
        have e2 : (c - 48) % 256 = c - 48 := by omega
        rw [show s = true from hdig.2.2] at *
        rw [if_pos rfl, e1, e2, or8 n (c - 48) h0 (by omega) (by omega) (by omega), hw, hcast]
        exact ih k (n * 8 + (c - 48)) false true l (i + 1) (by omega) hl hbr hr hlt (by omega) (by rw [hp1]; omega)
      · rw [if_neg hdig]
        have hj : octal_Get.j3 (k + 1) n s (i : Int) c l (l.length : Int) (i : Int) false = some (if c = 32 ∨ c = 0 then scanS r n false false ((i : Int) + 1) else (0, (i : Int), 70)) := by
          simp only [octal_Get.j3]
          rw [if_neg (by decide), if_neg h32]
          by_cases h00 : c = 0
          · rw [if_pos h00, if_pos (.inr h00), hw, hcast]
            exact ih k n false false l (i + 1) (by omega) hl hbr hr hlt h0 hn1
          · rw [if_neg h00, if_neg (by omega)]
        by_cases h48 : c ≥ 48
        · rw [if_pos h48]
          by_cases h55 : c ≤ 55
          · rw [if_pos h55]
            have hs : s = false := by
              cases s with
              | false => rfl
              | true => exact absurd ⟨h48, h55, rfl⟩ hdig
            have hj2 : octal_Get.j3 (k + 1) n s (i : Int) c l (l.length : Int) (i : Int) s = octal_Get.j3 (k + 1) n s (i : Int) c l (l.length : Int) (i : Int) false := by rw [hs]
            rw [hj2, hj]
          · rw [if_neg h55, hj]
        · rw [if_neg h48, hj]

/-- A number's own bytes, read from the highest: none: it is above the greatest one. -/
def ownS : List Int → Int → Option Int
  | [], n => some n
  | c :: r, n => if n ≥ 36028797018963968 then none else ownS r (n * 256 + c)

theorem get_l0 (r : List Int) : ∀ (k : Nat) (n : Int) (l : List Int) (i : Nat), r.length < k → l.length ≤ 1000 → AreBytes r → l.drop i = r → i ≤ l.length → 0 ≤ n → n ≤ 9223372036854775807 →
    octal_Get.l0 k n l (l.length : Int) (i : Int) = some (match ownS r n with | some m => (m, 0, 0) | none => (0, 0, 2)) := by
  induction r with
  | nil =>
    intro k n l i hk hl hb hd hi h0 h1
    obtain ⟨k, rfl⟩ : ∃ m, k = m + 1 := ⟨k - 1, by omega⟩
    have : l.length ≤ i := by have := congrArg List.length hd; simp at this; omega
    simp only [octal_Get.l0]
    rw [if_neg (by omega)]
    rfl
  | cons c r ih =>
    intro k n l i hk hl hb hd hi h0 h1
    simp only [List.length_cons] at hk
    obtain ⟨k, rfl⟩ : ∃ m, k = m + 1 := ⟨k - 1, by omega⟩
    have hlt : i < l.length := by have := congrArg List.length hd; simp at this; omega
    have hc : l[i] = c := by rw [List.drop_eq_getElem_cons hlt] at hd; injection hd
    have hr : l.drop (i + 1) = r := by rw [List.drop_eq_getElem_cons hlt] at hd; injection hd
    have hcb := hb c (by simp)
    have hbr : AreBytes r := fun x hx => hb x (by simp [hx])
    have hw : wrap64 ((i : Int) + 1) = ((i + 1 : Nat) : Int) := by rw [w64 ⟨by omega, by omega⟩]; omega
    simp only [octal_Get.l0]
    rw [if_pos (by omega), if_pos (by omega), if_pos (by omega), rd_at l i hlt, hc]
    by_cases h : n ≥ 36028797018963968
    · rw [if_pos h]; simp only [ownS]; rw [if_pos h]
    · rw [if_neg h]
      simp only [ownS]
      have e1 : wrap64 (n * 256) = n * 256 := w64 ⟨by omega, by omega⟩
      have e2 : wrap64 c = c := w64 ⟨by omega, by omega⟩
      rw [if_neg h, e1, e2, or256 n c h0 (by omega) (by omega) (by omega), hw]
      exact ih k (n * 256 + c) l (i + 1) (by omega) hl hbr hr hlt (by omega) (by omega)

/-- What Get answers. -/
def getS (l : List Int) : Int × Int × Int :=
  if 2 ≤ l.length ∧ l.length ≤ 12 then
    (if rd l 0 = 128 then (match ownS (l.drop 1) 0 with | some m => (m, 0, 0) | none => (0, 0, 2)) else scanS l 0 true true 0)
  else (0, 0, 1)

theorem get_oct (l : List Int) (hb : AreBytes l) (k : Nat) (hk : 60 < k) : octal_Get.f k l = some (getS l) := by
  unfold octal_Get.f getS
  rw [field_oct]
  simp only [Option.bind_some]
  by_cases h : 2 ≤ l.length ∧ l.length ≤ 12
  · rw [if_pos (by simp; omega), if_pos h, if_pos (by omega)]
    by_cases h1 : rd l 0 = 128
    · rw [if_pos h1, if_pos h1, if_pos (by omega)]
      exact get_l0 (l.drop 1) k 0 (l.drop 1) 0 (by simp; omega) (by simp; omega) (fun x hx => hb x (List.mem_of_mem_drop hx)) rfl (by omega) (by omega) (by omega)
    · rw [if_neg h1, if_neg h1]
      exact get_l1 l k 0 true true l 0 (by omega) h.2 hb rfl (by omega) (by omega) (by decide)
  · rw [if_neg (by simp; omega), if_neg h]

theorem toNat_byte (x : Int) (h : 0 ≤ x ∧ x ≤ 255) : ((UInt8.ofNat x.toNat).toNat : Int) = x := by
  rw [UInt8.toNat_ofNat']; omega

theorem map_byte_inj (a : List Int) : ∀ b : List Int, AreBytes a → AreBytes b → (a.map (fun n => UInt8.ofNat n.toNat)) = (b.map (fun n => UInt8.ofNat n.toNat)) → a = b := by
  induction a with
  | nil => intro b _ _ h; cases b with
    | nil => rfl
    | cons y b => simp at h
  | cons x a ih =>
    intro b ha hb h
    cases b with
    | nil => simp at h
    | cons y b =>
      simp only [List.map_cons, List.cons.injEq] at h
      have h1 := toNat_byte x (ha x (by simp))
      have h2 := toNat_byte y (hb y (by simp))
      have : x = y := by rw [← h1, ← h2, h.1]
      rw [this, ih b (fun z hz => ha z (by simp [hz])) (fun z hz => hb z (by simp [hz])) h.2]

theorem strOfNums_inj (a b : List Int) (ha : AreBytes a) (hb : AreBytes b) : ((strOfNums a).toList = (strOfNums b).toList) ↔ a = b := by
  constructor
  · intro h
    apply map_byte_inj a b ha hb
    have : (strOfNums a).data.toList = (strOfNums b).data.toList := by
      simpa [ByteArray.toList_eq] using h
    rw [strOfNums_data, strOfNums_data] at this
    exact this
  · intro h; rw [h]

/-- What Exact answers. -/
def exactS (l : List Int) : Int × Int :=
  if (getS l).2.2 = 0 then (if (putS (getS l).1 l.length).2 = 0 ∧ (putS (getS l).1 l.length).1 = l then ((getS l).1, 0) else (0, 71)) else (0, (getS l).2.2)

theorem byts_bytes (c : Nat) : ∀ x, AreBytes (byts c x) := by
  induction c with
  | zero => intro x y hy; simp [byts] at hy
  | succ c ih =>
    intro x y hy
    simp only [byts, List.mem_append, List.mem_singleton] at hy
    rcases hy with h | h
    · exact ih _ y h
    · omega

theorem digs_dig (c : Nat) : ∀ x, ∀ y ∈ digs c x, 48 ≤ y ∧ y ≤ 55 := by
  induction c with
  | zero => intro x y hy; simp [digs] at hy
  | succ c ih =>
    intro x y hy
    simp only [digs, List.mem_append, List.mem_singleton] at hy
    rcases hy with h | h
    · exact ih _ y h
    · omega

theorem putS_bytes (n w : Int) : AreBytes (putS n w).1 := by
  unfold putS
  split
  · split
    · intro y hy
      simp only [List.mem_append, List.mem_singleton] at hy
      rcases hy with h | h
      · have := digs_dig _ _ y h; omega
      · omega
    · split
      · intro y hy
        simp only [List.mem_cons] at hy
        rcases hy with h | h
        · omega
        · exact byts_bytes _ _ y h
      · intro y hy; simp at hy
  · intro y hy; simp at hy

theorem scanS_range (r : List Int) : ∀ (n : Int) (a s : Bool) (i : Int) (j : Nat), j + r.length ≤ 14 → AreBytes r → 0 ≤ n → n < 8 ^ j → 0 ≤ (scanS r n a s i).1 ∧ (scanS r n a s i).1 ≤ 9223372036854775807 := by
  induction r with
  | nil => intro n a s i j hl hb h0 h1; have := pow8_le j (by omega); simp only [scanS]; omega
  | cons c r ih =>
    intro n a s i j hl hb h0 h1
    simp only [List.length_cons] at hl
    have hb' : AreBytes r := fun x hx => hb x (by simp [hx])
    have hp : (8 : Int) ^ (j + 1) = 8 ^ j * 8 := by rw [Int.pow_succ]
    have hc := hb c (by simp)
    simp only [scanS]
    split
    · exact ih _ _ _ _ (j + 1) (by omega) hb' h0 (by omega)
    · split
      · exact ih _ _ _ _ (j + 1) (by omega) hb' (by omega) (by omega)
      · split
        · exact ih _ _ _ _ (j + 1) (by omega) hb' h0 (by omega)
        · simp

theorem ownS_range (r : List Int) : ∀ n m : Int, AreBytes r → 0 ≤ n → n ≤ 9223372036854775807 → ownS r n = some m → 0 ≤ m ∧ m ≤ 9223372036854775807 := by
  induction r with
  | nil => intro n m hb h0 h1 h; simp only [ownS, Option.some.injEq] at h; omega
  | cons c r ih =>
    intro n m hb h0 h1 h
    have hc := hb c (by simp)
    simp only [ownS] at h
    by_cases hn : n ≥ 36028797018963968
    · rw [if_pos hn] at h; simp at h
    · rw [if_neg hn] at h
      exact ih _ m (fun x hx => hb x (by simp [hx])) (by omega) (by omega) h

theorem getS_range (l : List Int) (hb : AreBytes l) : 0 ≤ (getS l).1 ∧ (getS l).1 ≤ 9223372036854775807 := by
  unfold getS
  split
  · split
    · cases h : ownS (l.drop 1) 0 with
      | none => simp
      | some m => exact ownS_range _ 0 m (fun x hx => hb x (List.mem_of_mem_drop hx)) (by omega) (by omega) h
    · rename_i h _
      exact scanS_range l 0 true true 0 0 (by omega) hb (by omega) (by decide)
  · simp

theorem exact_oct (l : List Int) (hb : AreBytes l) (k : Nat) (hk : 60 < k) : octal_Exact.f k l = some (exactS l) := by
  unfold octal_Exact.f exactS
  rw [get_oct l hb k hk]
  simp only [Option.bind_some]
  have hr := getS_range l hb
  by_cases h : (getS l).2.2 = 0
  · rw [if_pos h, if_pos h, put_oct _ _ ⟨by omega, hr.2⟩ k (by omega)]
    simp only [Option.bind_some]
    by_cases h2 : (putS (getS l).1 l.length).2 = 0
    · rw [if_pos h2]
      by_cases h3 : (putS (getS l).1 l.length).1 = l
      · rw [if_pos ((strOfNums_inj _ _ (putS_bytes _ _) hb).2 h3), if_pos ⟨h2, h3⟩]
      · rw [if_neg (fun h => h3 ((strOfNums_inj _ _ (putS_bytes _ _) hb).1 h)), if_neg (fun h => h3 h.2)]
    · rw [if_neg h2, if_neg (fun h => h2 h.1)]
  · rw [if_neg h, if_neg h]

theorem ownS_append (r t : List Int) : ∀ n, ownS (r ++ t) n = (ownS r n).bind (ownS t) := by
  induction r with
  | nil => intro n; rfl
  | cons c r ih =>
    intro n
    simp only [List.cons_append, ownS]
    split
    · rfl
    · exact ih _

theorem ownS_byts (m : Nat) : ∀ x : Int, 0 ≤ x → x ≤ 9223372036854775807 → left m x = 0 → ownS (byts m x) 0 = some x := by
  induction m with
  | zero => intro x h0 h1 h; simp only [left] at h; rw [h]; rfl
  | succ m ih =>
    intro x h0 h1 h
    simp only [byts]
    rw [ownS_append, ih (x / 256) (by omega) (by omega) h]
    simp only [Option.bind_some, ownS]
    rw [if_neg (by omega)]
    congr 1; omega

theorem scanS_digs (m : Nat) : ∀ (x y : Int) (a : Bool) (i : Int) (t : List Int), 0 ≤ x → x < 8 ^ m →
    scanS (digs m x ++ t) y a true i = scanS t (y * 8 ^ m + x) (if m = 0 then a else false) true (i + m) := by
  induction m with
  | zero => intro x y a i t h0 h1; have : x = 0 := by simp at h1; omega
            subst this; simp [digs]
  | succ m ih =>
    intro x y a i t h0 h1
    have hp : (8 : Int) ^ (m + 1) = 8 ^ m * 8 := by rw [Int.pow_succ]
    simp only [digs, List.append_assoc]
    rw [ih (x / 8) y a i _ (by omega) (by omega)]
    simp only [List.cons_append, List.nil_append, scanS]
    rw [if_neg (by omega), if_pos ⟨by omega, by omega, trivial⟩, if_neg (by omega)]
    have e : (y * 8 ^ m + x / 8) * 8 + (48 + x % 8 - 48) = y * 8 ^ (m + 1) + x := by
      rw [hp, ← Int.mul_assoc]; omega
    rw [e]
    congr 1
    omega

theorem rd_zero_digs (m : Nat) (x : Int) (t : List Int) (hm : 1 ≤ m) : rd (digs m x ++ t) 0 ≠ 128 := by
  cases h : digs m x with
  | nil => have := digs_length m x; rw [h] at this; simp at this; omega
  | cons c r =>
    have := digs_dig m x c (by rw [h]; simp)
    have e : rd (c :: r ++ t) 0 = c := rfl
    rw [e]; omega

/-- What was put is got. -/
theorem get_put (n w : Int) (hn : -9223372036854775808 ≤ n ∧ n ≤ 9223372036854775807) (h : (putS n w).2 = 0) : getS (putS n w).1 = (n, 0, 0) ∧ ((putS n w).1.length : Int) = w := by
  unfold putS at h ⊢
  by_cases hw : 2 ≤ w ∧ w ≤ 12 ∧ 0 ≤ n
  · rw [if_pos hw] at h ⊢
    obtain ⟨m, hm⟩ : ∃ m : Nat, w = m + 1 := ⟨(w - 1).toNat, by omega⟩
    have hm1 : (w - 1).toNat = m := by omega
    rw [hm1] at h ⊢
    by_cases h2 : n ≤ 8 ^ m - 1
    · rw [if_pos h2]
      constructor
      · unfold getS
        have hl : (digs m n ++ [0]).length = m + 1 := by simp [digs_length]
        simp only []
        rw [hl, if_pos (by omega), if_neg (rd_zero_digs m n [0] (by omega)), scanS_digs m n 0 true 0 [0] hw.2.2 (by omega)]
        rw [if_neg (show ¬ m = 0 by omega)]
        simp [scanS]
      · simp [digs_length]; omega
    · rw [if_neg h2] at h ⊢
      by_cases h3 : left m n = 0
      · rw [if_pos h3]
        constructor
        · unfold getS
          have hl : (128 :: byts m n).length = m + 1 := by simp [byts_length]
          simp only []
          rw [hl, if_pos (by omega), if_pos (by rfl)]
          have e : (128 :: byts m n).drop 1 = byts m n := rfl
          rw [e, ownS_byts m n hw.2.2 hn.2 h3]
        · simp [byts_length]; omega
      · rw [if_neg h3] at h; simp at h
  · rw [if_neg hw] at h; simp at h

theorem exact_put (n w : Int) (hn : -9223372036854775808 ≤ n ∧ n ≤ 9223372036854775807) (h : (putS n w).2 = 0) : exactS (putS n w).1 = (n, 0) := by
  obtain ⟨h1, h2⟩ := get_put n w hn h
  unfold exactS
  rw [h1, h2]
  simp [h]

theorem exact_same (l : List Int) (h : (exactS l).2 = 0) : putS (exactS l).1 l.length = (l, 0) := by
  unfold exactS at h ⊢
  by_cases h1 : (getS l).2.2 = 0
  · rw [if_pos h1] at h ⊢
    by_cases h2 : (putS (getS l).1 l.length).2 = 0 ∧ (putS (getS l).1 l.length).1 = l
    · rw [if_pos h2]
      exact Prod.ext h2.2 h2.1
    · rw [if_neg h2] at h; simp at h
  · rw [if_neg h1] at h; exact absurd h h1

theorem exact_zero (l : List Int) (h : (exactS l).2 ≠ 0) : (exactS l).1 = 0 := by
  unfold exactS at h ⊢
  by_cases h1 : (getS l).2.2 = 0
  · rw [if_pos h1] at h ⊢
    by_cases h2 : (putS (getS l).1 l.length).2 = 0 ∧ (putS (getS l).1 l.length).1 = l
    · rw [if_pos h2] at h; simp at h
    · rw [if_neg h2]
  · rw [if_neg h1]

theorem exactS_range (l : List Int) (hb : AreBytes l) : 0 ≤ (exactS l).1 ∧ (exactS l).1 ≤ 9223372036854775807 := by
  have h := getS_range l hb
  unfold exactS
  split
  · split
    · exact h
    · simp
  · simp

theorem bytes_of_wf {l : List Int} (h : ∀ x ∈ l, (Lit.int .u8 x).wf = true) : AreBytes l := by
  intro x hx
  have h := h x hx
  simp only [Lit.wf, Bool.and_eq_true, decide_eq_true_eq] at h
  have hmin : IntKind.u8.min = 0 := rfl
  have hmax : IntKind.u8.max = 255 := rfl
  omega

theorem putS_len (n w : Int) : (putS n w).1.length ≤ 13 := by
  unfold putS
  split
  · split
    · simp [digs_length]; omega
    · split
      · simp [byts_length]; omega
      · simp
  · simp

end Go.Proofs.Ytdmpbfhbjklajaa.OctPure
end

/- A head's bytes behind a pointer: a number put at a place, the sum, the seal. -/
section
namespace Go.Proofs.Ytdmpbfhbjklajaa.Img
open Go.Proofs.Ytdmpbfhbjklajaa Go.RowKit Go.Proofs.YtdmpbfhbjklajaaW.PrintWords Go.Proofs.YtdmpbfhbjklajaaW.PrintLast Go.Proofs.YtdmpbfhbjklajaaW.PrintMore Go.Proofs.Ytdmpbfhbjklajaa.Byt Go.Proofs.Ytdmpbfhbjklajaa.OctPure
set_option linter.unusedVariables false
set_option linter.unusedSimpArgs false

abbrev TI : Nat := 59
/-- An array of bytes lies at block g. -/
def IM (w : World) (g : Nat) (l : List Int) : Prop := w.heap[g]? = some (.cells (nums .u8 l).toArray TI (0, 0))
theorem IM.lt {w : World} {g : Nat} {l : List Int} (h : IM w g l) : g < w.heap.size := blk_lt h
theorem IM.below {w w' : World} {g : Nat} {l : List Int} (h : IM w g l) (hb : Below w.heap.size w w') : IM w' g l := (hb.block g h.lt).trans h
theorem IM.wrote {w w' : World} {g k : Nat} {l : List Int} (h : IM w g l) (hb : Wrote k w w') (hk : g ≠ k) : IM w' g l := (hb.block g h.lt hk).trans h
theorem IM.cell {w : World} {g : Nat} {l : List Int} (h : IM w g l) (j : Nat) (hj : j < l.length) : w.cell? ⟨g, j, none⟩ = some (.int .u8 (bn l j)) := by
  rw [blk_cell h]
  unfold bn rd
  simp only [nums, List.getElem?_toArray, List.getElem?_map]
  rw [List.getElem?_eq_getElem hj, Int.toNat_natCast, List.getD_eq_getElem?_getD, List.getElem?_eq_getElem hj]
  rfl
theorem IM.set {w : World} {g : Nat} {l : List Int} (h : IM w g l) (i : Nat) (x : Int) : IM (w.setCell ⟨g, i, none⟩ (.int .u8 x)) g (l.set i x) := by
  refine (blk_set h i _).trans ?_
  rw [nums_set']

/-- Bytes put over others from a place on. -/
def ins (l : List Int) : Nat → List Int → List Int
  | _, [] => l
  | o, x :: m => ins (l.set o x) (o + 1) m
theorem ins_len : ∀ (m : List Int) (l : List Int) (o : Nat), (ins l o m).length = l.length
  | [], l, o => rfl
  | x :: m, l, o => by
    show (ins (l.set o x) (o + 1) m).length = l.length
    rw [ins_len m, List.length_set]
theorem ins_eq : ∀ (m : List Int) (l : List Int) (o : Nat), o + m.length ≤ l.length → ins l o m = l.take o ++ m ++ l.drop (o + m.length)
  | [], l, o, h => by simp [ins]
  | x :: m, l, o, h => by
    simp only [List.length_cons] at h
    show ins (l.set o x) (o + 1) m = _
    rw [ins_eq m _ _ (by rw [List.length_set]; omega)]
    have h1 : (l.set o x).take (o + 1) = l.take o ++ [x] := by
      rw [List.take_succ_eq_append_getElem (by rw [List.length_set]; omega), List.take_set_of_le (Nat.le_refl _)]
      simp
    have h2 : (l.set o x).drop (o + 1 + m.length) = l.drop (o + (m.length + 1)) := by
      rw [List.drop_set_of_lt (by omega), show o + 1 + m.length = o + (m.length + 1) by omega]
    rw [h1, h2]
    simp
theorem im_setCells {g : Nat} : ∀ (m : List Int) (l : List Int) (o : Nat) (w : World), IM w g l → IM (w.setCells g o (nums .u8 m)) g (ins l o m)
  | [], l, o, w, h => h
  | x :: m, l, o, w, h => im_setCells m (l.set o x) (o + 1) _ (h.set o x)
theorem wrote_setCells {g : Nat} : ∀ (vs : List Value) (o : Nat) (w : World), Wrote g w (w.setCells g o vs)
  | [], _, w => Wrote.refl g w
  | v :: r, o, w => ((Wrote.refl g w).trans (wrote_setCell (Wrote.refl g w) o v)).trans (wrote_setCells r (o + 1) _)
theorem ins_bytes {m : List Int} (hm : ∀ x ∈ m, 0 ≤ x ∧ x ≤ 255) : ∀ {l : List Int} {o : Nat}, (∀ x ∈ l, 0 ≤ x ∧ x ≤ 255) → ∀ x ∈ ins l o m, 0 ≤ x ∧ x ≤ 255 := by
  induction m with
  | nil => exact fun h => h
  | cons y m ih =>
    intro l o h
    refine ih (fun x hx => hm x (List.mem_cons_of_mem _ hx)) (l := l.set o y) (o := o + 1) ?_
    intro x hx
    rcases List.mem_or_eq_of_mem_set hx with hx | rfl
    · exact h x hx
    · exact hm _ (List.mem_cons_self ..)

/-- Bytes that are read copied over those of an array. -/
theorem run_copy_im (w : World) (ty : TypeId) (g o d c : Nat) (A : Option Addr) (n cs : Nat) (l m : List Int) (hi : IM w g l) (hn : n = m.length) (hod : o + d = l.length) (hmd : m.length ≤ d) (hA : RC w A m) :
    ∃ w', (Builtin.copy_ #[TB, TB] ty #[.slice (some ⟨g, o, none⟩) d c, .slice A n cs]).run Try.prog w = .ok (.int .i64 (n : Int)) w' ∧ IM w' g (ins l o m) ∧ Wrote g w w' := by
  subst hn
  have ht : Try.prog.underlying TB = some (.slice 5) := Try.underlying22
  rcases Nat.eq_zero_or_pos m.length with h0 | h0
  · obtain rfl : m = [] := List.eq_nil_of_length_eq_zero h0
    refine ⟨w, ?_, hi, Wrote.refl g w⟩
    have := run_copy_none (P := Try.prog) w TB TB ty 5 (some ⟨g, o, none⟩) A d c 0 cs ht info1 (by simp [Nat.min_def])
    exact this
  · obtain ⟨a, rfl, hb, hc⟩ := hA (List.length_pos_iff.mp h0)
    have hnl : (nums .u8 m).length = m.length := by simp [nums]
    have := run_copy_cells (P := Try.prog) w TB TB ty 5 g o d c a m.length cs (nums .u8 m) ht info1 (by rw [hnl]; simp [Nat.min_def]; omega) (cells_of_RC (fun _ => ⟨a, rfl, hb, hc⟩))
      (fun j hj => by rw [blk_cell hi, Array.getElem?_eq_getElem (by simp [nums]; rw [hnl] at hj; omega)]; rfl)
      (fun j hj => blk_frozen hi _)
      (fun v hv => by simp only [nums, List.mem_map] at hv; obtain ⟨x, _, rfl⟩ := hv; rfl)
    rw [hnl] at this
    refine ⟨_, ?_, im_setCells m l o w hi, wrote_setCells _ _ _⟩
    rw [this]
    simp [goInt]

theorem wpList_copy_im {ops : Array Oper} {rs : List Oper} {op : Oper} {a : Act} {w : World} {Q : Exit → Act → World → Prop} (hgd : op.guard = none) (s x : Operand)
    (ho : op.op = .call { callee := .builtin .copy, args := #[s, x], argTypes := #[TB, TB] }) (g o d c : Nat) (A : Option Addr) (n cs : Nat) (l m : List Int)
    (hs : a.eval s = .slice (some ⟨g, o, none⟩) d c) (hx : a.eval x = .slice A n cs) (hi : IM w g l) (hn : n = m.length) (hod : o + d = l.length) (hmd : m.length ≤ d) (hA : RC w A m)
    (h : ∀ w', IM w' g (ins l o m) → Wrote g w w' → wpList Try.prog ops Q rs (a.put op.dst (.int .i64 (n : Int))) w') : wpList Try.prog ops Q (op :: rs) a w :=
  wpList_plain hgd fun _ hK => by
    obtain ⟨w', hr, h1, h2⟩ := run_copy_im w op.type g o d c A n cs l m hi hn hod hmd hA
    unfold Oper.wp execOp
    simp only [ho, resolve, invoke, builtin, Sem.run_bind, Sem.run_pure, Result.andThen_ok, List.map_toArray, List.map_cons, List.map_nil, hs, hx, hr]
    exact hK _ _ (h w' h1 h2)

/-- A string's bytes. -/
theorem firstCells_str {P : Program} (w : World) (s : ByteArray) (sz n : Nat) (hn : n = s.size) : (Builtin.firstCells sz n (.string s)).run P w = .ok (nums .u8 (bytesOf s)).toArray w := by
  subst hn
  rw [Lib.run_firstCells_string]
  congr 2
  simp [nums, bytesOf, Lib.strCells]
theorem run_copy_str (w : World) (ty : TypeId) (g o d c : Nat) (s : ByteArray) (l m : List Int) (hm : m = bytesOf s) (hi : IM w g l) (hod : o + d = l.length) (hmd : m.length ≤ d) :
    ∃ w', (Builtin.copy_ #[TB, 9] ty #[.slice (some ⟨g, o, none⟩) d c, .string s]).run Try.prog w = .ok (.int .i64 (m.length : Int)) w' ∧ IM w' g (ins l o m) ∧ Wrote g w w' := by
  have ht : Try.prog.underlying TB = some (.slice 5) := Try.underlying22
  have hnl : (nums .u8 m).length = m.length := by simp [nums]
  have hsz : s.size = m.length := by rw [hm, bytesOf_length]
  obtain ⟨i, hi1, hsz1⟩ := Option.map_eq_some_iff.1 info1
  have hst := run_storeCells_cells (P := Try.prog) g o (nums .u8 m) 0 w
    (fun j hj => by rw [blk_cell hi, Array.getElem?_eq_getElem (by simp [nums]; rw [hnl] at hj; omega)]; rfl)
    (fun j hj => blk_frozen hi _)
    (fun v hv => by simp only [nums, List.mem_map] at hv; obtain ⟨x, _, rfl⟩ := hv; rfl)
  refine ⟨_, ?_, im_setCells m l o w hi, wrote_setCells _ _ _⟩
  have hf := firstCells_str (P := Try.prog) w s 1 m.length hsz.symm
  rw [← hm] at hf
  simp [Builtin.copy_, run_underlying ht, Builtin.lenOf, sizeOf, typeInfo, hi1, hsz1, hsz, hf, hst, goInt, Nat.min_eq_left hmd, Sem.run_bind]
theorem step_copy_str {ops : Array Oper} {op : Oper} {a : Act} {w : World} {K : Act → World → Prop} {Q : Exit → Act → World → Prop} (hw : Region.wanted op (yielded ops a.tmps) = true) (x y : Operand)
    (ho : op.op = .call { callee := .builtin .copy, args := #[x, y], argTypes := #[TB, 9] }) (g o d c : Nat) (s : ByteArray) (l m : List Int)
    (hs : a.eval x = .slice (some ⟨g, o, none⟩) d c) (hx : a.eval y = .string s) (hm : m = bytesOf s) (hi : IM w g l) (hod : o + d = l.length) (hmd : m.length ≤ d)
    (h : ∀ w', IM w' g (ins l o m) → Wrote g w w' → K (a.put op.dst (.int .i64 (m.length : Int))) w') : if Region.wanted op (yielded ops a.tmps) = true then Oper.wp Try.prog op a w K Q else K (a.put op.dst undef) w := by
  rw [if_pos hw]
  obtain ⟨w', hr, h1, h2⟩ := run_copy_str w op.type g o d c s l m hm hi hod hmd
  unfold Oper.wp execOp
  simp only [ho, resolve, invoke, builtin, Sem.run_bind, Sem.run_pure, Result.andThen_ok, List.map_toArray, List.map_cons, List.map_nil, hs, hx, hr]
  exact h w' h1 h2
theorem wpList_copy_str {ops : Array Oper} {rs : List Oper} {op : Oper} {a : Act} {w : World} {Q : Exit → Act → World → Prop} (hgd : op.guard = none) (x y : Operand)
    (ho : op.op = .call { callee := .builtin .copy, args := #[x, y], argTypes := #[TB, 9] }) (g o d c : Nat) (s : ByteArray) (l m : List Int)
    (hs : a.eval x = .slice (some ⟨g, o, none⟩) d c) (hx : a.eval y = .string s) (hm : m = bytesOf s) (hi : IM w g l) (hod : o + d = l.length) (hmd : m.length ≤ d)
    (h : ∀ w', IM w' g (ins l o m) → Wrote g w w' → wpList Try.prog ops Q rs (a.put op.dst (.int .i64 (m.length : Int))) w') : wpList Try.prog ops Q (op :: rs) a w :=
  wpList_plain hgd fun _ hK => by
    obtain ⟨w', hr, h1, h2⟩ := run_copy_str w op.type g o d c s l m hm hi hod hmd
    unfold Oper.wp execOp
    simp only [ho, resolve, invoke, builtin, Sem.run_bind, Sem.run_pure, Result.andThen_ok, List.map_toArray, List.map_cons, List.map_nil, hs, hx, hr]
    exact hK _ _ (h w' h1 h2)
theorem lenI : Try.prog.arrayLen TI = 512 := by kernel_rfl
theorem elemI : Try.prog.elem TI = 5 := by kernel_rfl
theorem undI : Try.prog.underlying TI = some (.array (Try.prog.arrayLen TI) (Try.prog.elem TI)) := by rw [lenI, elemI]; exact Try.underlying59
/-- A head's bytes from a place on, up to another. -/
theorem run_cutI (g lo hi : Nat) (h1 : lo ≤ hi) (h2 : hi ≤ 512) (h3 : lo < 512) :
    ∀ W : World, (Instr.sliceAt TI (.pointer (some ⟨g, 0, none⟩)) (some (.int .i64 (lo : Int))) (some (.int .i64 (hi : Int))) none).run Try.prog W = .ok (.slice (some ⟨g, lo, none⟩) (hi - lo) (512 - lo)) W := by
  intro W
  obtain ⟨i, hi1, hsz⟩ := Option.map_eq_some_iff.1 info1
  have e1 : (⟨g, 0, none⟩ : Addr).add lo = ⟨g, lo, none⟩ := add_plain g lo
  have hb : (0 : Int) ≤ lo ∧ (lo : Int) ≤ hi ∧ (hi : Int) ≤ 512 ∧ (0 : Int) ≤ hi := by omega
  simp [Instr.sliceAt, run_underlying (Try.underlying59), Instr.sureAddr, Instr.sliceBounds, run_sliceBound, sizeOf, typeInfo, hi1, hsz, e1, hb, Sem.run_bind]
  omega
theorem run_fromI (g lo : Nat) (h3 : lo < 512) :
    ∀ W : World, (Instr.sliceAt TI (.pointer (some ⟨g, 0, none⟩)) (some (.int .i64 (lo : Int))) none none).run Try.prog W = .ok (.slice (some ⟨g, lo, none⟩) (512 - lo) (512 - lo)) W := by
  intro W
  obtain ⟨i, hi1, hsz⟩ := Option.map_eq_some_iff.1 info1
  have e1 : (⟨g, 0, none⟩ : Addr).add lo = ⟨g, lo, none⟩ := add_plain g lo
  have hb : (0 : Int) ≤ lo ∧ (lo : Int) ≤ 512 := by omega
  simp [Instr.sliceAt, run_underlying (Try.underlying59), Instr.sureAddr, Instr.sliceBounds, run_sliceBound, sizeOf, typeInfo, hi1, hsz, e1, hb, Sem.run_bind]
  omega

/-- The form of a number that has one. -/
theorem put_any (n w : Int) (hn : -9223372036854775808 ≤ n ∧ n ≤ 9223372036854775807) (W : World) :
    Calls Try.prog 49 #[.int .i64 n, .int .i64 w] W fun e w' => ∃ A c, e = .returned (.tuple #[.slice A (putS n w).1.length c, .int .i64 (putS n w).2]) ∧ RC w' A (putS n w).1 ∧ Below W.heap.size W w' := by
  refine (PExact.octal_Put.calls 21 n w _ _ W (put_oct n w hn 21 (by decide))).mono ?_
  rintro e w' ⟨v, rfl, ho, hb⟩
  obtain ⟨A, c, rfl⟩ := Kd.R_slice ho
  exact ⟨A, c, rfl, RC.of_C (Kd.R_reads' ho).2.2, hb⟩

set_option maxRecDepth 100000 in
set_option maxHeartbeats 4000000 in
theorem number_gen (g o wd : Nat) (n : Int) (l m : List Int) (r : Int) (W : World) (hm : putS n wd = (m, r)) (hn : -9223372036854775808 ≤ n ∧ n ≤ 9223372036854775807) (hl : l.length = 512) (ho : o < 512) (hol : o + m.length ≤ 512) (hi : IM W g l) :
    Calls Try.prog 42 #[.pointer (some ⟨g, 0, none⟩), .int .i64 (o : Int), .int .i64 (wd : Int), .int .i64 n] W fun e w' => e = .returned (.tuple #[]) ∧ IM w' g (ins l o m) ∧ Wrote g W w' := by
  have HM := Lib.hid hm
  have HI := Lib.hid hi
  have HL := Lib.hid hl
  have hcut := run_fromI g o ho
  clear hm hi hl
  go_enter Try.func42, Try.ntmps42
  go_wp2_with (first
    | (go_at_call 49; (with_reducible refine (put_any n (wd : Int) hn _).mono ?_); rintro e w1 ⟨A, c, rfl, hr, hb⟩; rw [HM.out] at hr ⊢; have HR := Lib.hid hr; have HB := Lib.hid hb; clear hr hb)
    | (refine wpList_copy_im rfl (.tmp 19) (.tmp 20) rfl g o (512 - o) (512 - o) A m.length c l m rfl rfl (HI.out.below HB.out) rfl (by rw [HL.out]; omega) (by omega) HR.out ?_; intro w2 hi2 hw2; have HI2 := Lib.hid hi2; have HW2 := Lib.hid ((Wrote.of_below (g := g) HB.out).trans hw2); clear hi2 hw2))
  go_end0
  exact ⟨rfl, HI2.out, HW2.out⟩
theorem number_at (g o : Nat) (oi wi : Int) (hoi : oi = (o : Int)) (wd : Nat) (hwi : wi = (wd : Int)) (n : Int) (l m : List Int) (r : Int) (W : World) (hm : putS n wi = (m, r)) (hn : -9223372036854775808 ≤ n ∧ n ≤ 9223372036854775807) (hl : l.length = 512) (ho : o < 512) (hol : o + m.length ≤ 512) (hi : IM W g l) :
    Calls Try.prog 42 #[.pointer (some ⟨g, 0, none⟩), .int .i64 oi, .int .i64 wi, .int .i64 n] W fun e w' => e = .returned (.tuple #[]) ∧ IM w' g (ins l o m) ∧ Wrote g W w' := by
  subst hoi hwi
  exact number_gen g o wd n l m r W hm hn hl ho hol hi

/-- What bytes come to, those at the sum's place as blanks. -/
def sumS (l : List Int) : Nat → Int
  | 0 => 0
  | k + 1 => sumS l k + if 148 ≤ k ∧ k < 156 then 32 else bn l k
theorem sumS_range {l : List Int} (hB : Bytes l) : ∀ k, 0 ≤ sumS l k ∧ sumS l k ≤ 255 * k
  | 0 => ⟨Int.le_refl _, Int.le_refl _⟩
  | k + 1 => by
    have h1 := sumS_range hB k
    have h2 := hB k
    unfold sumS
    split <;> omega
theorem sumS_in {l : List Int} {k : Nat} (h : 148 ≤ k ∧ k < 156) : sumS l (k + 1) = sumS l k + 32 := by rw [sumS, if_pos h]
theorem sumS_out {l : List Int} {k : Nat} (h : ¬ (148 ≤ k ∧ k < 156)) : sumS l (k + 1) = sumS l k + bn l k := by rw [sumS, if_neg h]

set_option maxRecDepth 100000 in
set_option maxHeartbeats 4000000 in
theorem sum_gen (g : Nat) (l : List Int) (R : Int) (W : World) (hR : R = sumS l 512) (hB : Bytes l) (hl : l.length = 512) (hi : IM W g l) :
    Calls Try.prog 31 #[.pointer (some ⟨g, 0, none⟩)] W fun e w' => e = .returned (.int .i64 R) ∧ Below W.heap.size W w' := by
  have HR := Lib.hid hR
  have HI := Lib.hid hi
  have HL := Lib.hid hl
  have HB := Lib.hid hB
  clear hR hi hl hB
  go_enter Try.func31, Try.ntmps31
  go_wp2
  go_loopw [3, 7] (fun v3 v7 wr => ∃ (k : Nat) (s : Int), k ≤ 512 ∧ v7 = .int .i64 k ∧ v3 = .int .i64 s ∧ Aside0 (s = sumS l k) ∧ Below W.heap.size W wr) (fun _ v7 _ => 512 - (intOf v7).toNat)
  case atStart => exact ⟨0, 0, by omega, rfl, rfl, ⟨rfl⟩, Below.refl _ _⟩
  case round =>
    obtain ⟨k, s, hk, rfl, rfl, hs, hb⟩ := hrel
    have HBW := Lib.hid hb
    have hsr := sumS_range HB.out k
    rw [← hs.out] at hsr
    by_cases hlt : k < 512
    · have hx := (HI.out.below hb).cell k (by rw [HL.out]; exact hlt)
      have hxb := HB.out k
      have hxi := fun h => @sumS_in l k h
      have hxo := fun h => @sumS_out l k h
      have HXI := Lib.hid hxi
      have HXO := Lib.hid hxo
      have hlt2 : (k : Int) < 512 := by omega
      clear hb hxi hxo
      generalize bn l k = x at hx hxb HXO
      by_cases h1 : 148 ≤ k
      · by_cases h2 : k < 156
        · have HS := Lib.hid (show sumS l (k + 1) = s + 32 by rw [HXI.out ⟨h1, h2⟩, ← hs.out])
          have g1 : (148 : Int) ≤ (k : Int) := by omega
          have g2 : (k : Int) < 156 := by omega
          clear h1 h2
          go_wp2
          go_region
          go_wp2
          go_roundw
          case rel => exact ⟨k + 1, s + 32, by omega, by go_num, rfl, ⟨HS.out.symm⟩, HBW.out.drew⟩
          case measure => simp [intOf]; omega
        · have HS := Lib.hid (show sumS l (k + 1) = s + x by rw [HXO.out (by omega), ← hs.out])
          have g1 : (148 : Int) ≤ (k : Int) := by omega
          have g2 : ¬ (k : Int) < 156 := by omega
          clear h1 h2
          go_wp2
          go_region
          go_wp2
          go_roundw
          case rel => exact ⟨k + 1, s + x, by omega, by go_num, rfl, ⟨HS.out.symm⟩, HBW.out.drew⟩
          case measure => simp [intOf]; omega
      · have HS := Lib.hid (show sumS l (k + 1) = s + x by rw [HXO.out (by omega), ← hs.out])
        have g1 : ¬ (148 : Int) ≤ (k : Int) := by omega
        clear h1
        go_wp2
        go_region
        go_wp2
        go_roundw
        case rel => exact ⟨k + 1, s + x, by omega, by go_num, rfl, ⟨HS.out.symm⟩, HBW.out.drew⟩
        case measure => simp [intOf]; omega
    · have HK := Lib.hid (show k = 512 by omega)
      have HS := Lib.hid (show s = R by rw [HR.out, hs.out, HK.out])
      clear hb
      go_wp2
      go_ret
      exact ⟨by rw [← HS.out]; rfl, HBW.out⟩

/-- The seal put in its place. -/
def sealS (l : List Int) : List Int := (ins l 148 (putS (sumS l 512) 7).1).set 155 32
theorem put7 (n : Int) (h0 : 0 ≤ n) (h1 : n ≤ 130560) : ((putS n 7).1).length = 7 ∧ (putS n 7).2 = 0 := by
  have h8 : ((8 : Int) ^ ((7 : Int) - 1).toNat) = 262144 := by decide
  unfold putS
  rw [if_pos (by omega), if_pos (by rw [h8]; omega)]
  refine ⟨?_, rfl⟩
  rw [List.length_append, digs_length]
  decide

set_option maxRecDepth 100000 in
set_option maxHeartbeats 4000000 in
theorem seal_gen (g : Nat) (l R : List Int) (W : World) (hR : R = sealS l) (hB : Bytes l) (hl : l.length = 512) (hi : IM W g l) :
    Calls Try.prog 32 #[.pointer (some ⟨g, 0, none⟩)] W fun e w' => e = .returned (.tuple #[]) ∧ IM w' g R ∧ Wrote g W w' := by
  obtain ⟨s, hs⟩ : ∃ s : Int, s = sumS l 512 := ⟨_, rfl⟩
  have hsr := sumS_range hB 512
  rw [← hs] at hsr
  obtain ⟨m, hm⟩ : ∃ m : List Int, m = (putS s 7).1 := ⟨_, rfl⟩
  obtain ⟨r, hr⟩ : ∃ r : Int, r = (putS s 7).2 := ⟨_, rfl⟩
  have hm7 : m.length = 7 := by rw [hm]; exact (put7 s (by omega) (by omega)).1
  have HP := Lib.hid (show putS s 7 = (m, r) by rw [hm, hr])
  have HM7 := Lib.hid hm7
  have HS := Lib.hid hs
  have HR := Lib.hid (show R = (ins l 148 m).set 155 32 by rw [hR, hm, hs]; rfl)
  have HI := Lib.hid hi
  have HL := Lib.hid hl
  have HB := Lib.hid hB
  clear hR hi hl hB hs hm hr hm7
  go_enter Try.func32, Try.ntmps32
  go_wp2_with (first
    | (go_at_call 31; go_loud ((with_reducible refine (sum_gen g l s _ HS.out HB.out HL.out HI.out).mono ?_); rintro e w1 ⟨rfl, hb1⟩; have HB1 := Lib.hid hb1; have HI1 := Lib.hid (HI.out.below hb1); clear hb1))
    | (go_at_call 42; go_loud ((with_reducible refine (number_at g 148 148 7 rfl 7 rfl s l m r _ HP.out (by omega) HL.out (by decide) (by rw [HM7.out]; decide) HI1.out).mono ?_); rintro e w2 ⟨rfl, hi2, hw2⟩; have HI2 := Lib.hid hi2; have HW2 := Lib.hid ((Wrote.of_below (g := g) HB1.out).trans hw2); have hx := hi2.cell 155 (by rw [ins_len, HL.out]; decide); have hf := blk_frozen hi2 155; clear hi2 hw2)))
  go_end0
  refine ⟨rfl, ?_, wrote_setCell HW2.out _ _⟩
  rw [HR.out]
  exact HI2.out.set 155 32
end Go.Proofs.Ytdmpbfhbjklajaa.Img
end

/- The library's contracts that this claim calls for, laid at this program (the kit's lay-shelf and lay-plain). -/
section
namespace Go.Proofs.Ytdmpbfhbjklajaa.Shelf
open Go.Shelf
set_option linter.unusedVariables false
def lays137_ren : Go.Shelf.Ren := ⟨fun | 137 => 44 | 217 => 54 | 266 => 59 | n => n, fun | 9 => 9 | 5 => 5 | 3 => 3 | n => n, fun | n => n⟩
theorem lays137 : Go.Proofs.Lays.n137 Try.prog lays137_ren := {
  mixed := by kernel_rfl
  f137 := Try.func44.trans (congrArg some (by kernel_rfl))
  f217 := Try.func54.trans (congrArg some (by kernel_rfl))
  f266 := Try.func59.trans (congrArg some (by kernel_rfl))
  t3 := Try.underlying3
  a3 := Try.isAgg3
  z3 := Try.sizeOf3
  v3 := Try.zeroValue3
  t5 := Try.underlying5
  a5 := Try.isAgg5
  z5 := Try.sizeOf5
  v5 := Try.zeroValue5
  t9 := Try.underlying9
  a9 := Try.isAgg9
  z9 := Try.sizeOf9
  v9 := Try.zeroValue9 }
open Go.RowKit in
/-- strings.IndexByte: "IndexByte returns the index of the first instance of c in s, or -1 if c is not present in s.": IT RETURNS 'Lib.indexByte s c'; the world is as it was. (LAID: no walk: one application.) -/
theorem strings_IndexByte (s : ByteArray) (c : Int) (w : World) :
    Calls Try.prog 44 #[.string s, .int .u8 c] w fun e w' => e = .returned (.int .i64 (Lib.indexByte s.data.toList c.toNat.toUInt8)) ∧ w' = w := Any.strings_IndexByte lays137 s c w
def lays219_ren : Go.Shelf.Ren := ⟨fun | 219 => 60 | 217 => 54 | 225 => 61 | 224 => 62 | 267 => 63 | 266 => 59 | 314 => 64 | n => n, fun | 9 => 9 | 3 => 3 | 4 => 4 | 5 => 5 | 46 => 88 | 146 => 93 | 51 => 92 | n => n, fun | 1 => 0 | n => n⟩
theorem lays219 : Go.Proofs.Lays.n219 Try.prog lays219_ren := {
  mixed := by kernel_rfl
  f217 := Try.func54.trans (congrArg some (by kernel_rfl))
  f219 := Try.func60.trans (congrArg some (by kernel_rfl))
  f224 := Try.func62.trans (congrArg some (by kernel_rfl))
  f225 := Try.func61.trans (congrArg some (by kernel_rfl))
  f266 := Try.func59.trans (congrArg some (by kernel_rfl))
  f267 := Try.func63.trans (congrArg some (by kernel_rfl))
  f314 := Try.func64.trans (congrArg some (by kernel_rfl))
  t3 := Try.underlying3
  a3 := Try.isAgg3
  z3 := Try.sizeOf3
  v3 := Try.zeroValue3
  t4 := Try.underlying4
  a4 := Try.isAgg4
  z4 := Try.sizeOf4
  v4 := Try.zeroValue4
  t5 := Try.underlying5
  a5 := Try.isAgg5
  z5 := Try.sizeOf5
  v5 := Try.zeroValue5
  t9 := Try.underlying9
  a9 := Try.isAgg9
  z9 := Try.sizeOf9
  v9 := Try.zeroValue9
  t46 := Try.underlying88
  a46 := Try.isAgg88
  z46 := Try.sizeOf88
  v46 := Try.zeroValue88
  t51 := Try.underlying92
  a51 := Try.isAgg92
  z51 := Try.sizeOf92
  v51 := Try.zeroValue92
  t146 := Try.underlying93
  a146 := Try.isAgg93
  z146 := Try.sizeOf93
  v146 := Try.zeroValue93
  g1 := by kernel_rfl }
open Go.RowKit Go.Lib in
/-- internal/stringslite.Index (what strings.Index calls) AT A substr OF ONE BYTE c: IT RETURNS 'Lib.indexByte s c'; the world is as it was. (LAID: no walk: one application.) -/
theorem stringslite_Index_one (s : ByteArray) (c : UInt8) (w : World) :
    Calls Try.prog 60 #[.string s, .string ⟨#[c]⟩] w fun e w' => e = .returned (.int .i64 (Lib.indexByte s.data.toList c)) ∧ w' = w := Any.stringslite_Index_one lays219 s c w
end Go.Proofs.Ytdmpbfhbjklajaa.Shelf
end

/- Heads: what may not be, a head's bytes laid and sealed, bytes summed and sealed, 512 noughts. -/
section
namespace Go.Proofs.Ytdmpbfhbjklajaa.Head
open Go.Proofs.Ytdmpbfhbjklajaa Go.RowKit Go.Proofs.YtdmpbfhbjklajaaW.PrintWords Go.Proofs.YtdmpbfhbjklajaaW.PrintLast Go.Proofs.YtdmpbfhbjklajaaW.PrintMore Go.Proofs.Ytdmpbfhbjklajaa.Byt Go.Proofs.Ytdmpbfhbjklajaa.OctPure Go.Proofs.Ytdmpbfhbjklajaa.Img
set_option linter.unusedVariables false
set_option linter.unusedSimpArgs false

abbrev TH : Nat := 24
/-- A head as a value. -/
def hv (n p : ByteArray) (m s t y : Int) (k : ByteArray) : Array Value := #[.string n, .string p, .int .i64 m, .int .i64 s, .int .i64 t, .int .u8 y, .string k]
/-- Where a byte 0 stands in a head's texts. -/
def nulAt (n p k : ByteArray) : Int := Lib.indexByte (n.data.toList ++ (k.data.toList ++ p.data.toList)) 0
/-- What may not be. -/
def mayS (n p : ByteArray) (m s t y : Int) (k : ByteArray) : Int :=
  if y = 48 ∨ y = 49 ∨ y = 50 ∨ y = 53 ∨ y = 120 then
    (if 100 < (n.size : Int) ∨ 100 < (k.size : Int) ∨ 155 < (p.size : Int) then 2
      else if 0 ≤ nulAt n p k then 82
      else if m < 0 ∨ 4095 < m ∨ s < 0 ∨ 8589934591 < s ∨ t < 0 ∨ 1099511627776 < t then 1 else 0)
  else 102

set_option maxRecDepth 100000 in
set_option maxHeartbeats 16000000 in
theorem may_gen (n p : ByteArray) (m s t y : Int) (k : ByteArray) (R : Int) (W : World) (hR : R = mayS n p m s t y k) :
    Calls Try.prog 34 #[.agg (hv n p m s t y k)] W fun e w' => e = .returned (.int .i64 R) ∧ Below W.heap.size W w' := by
  have HR := Lib.hid hR
  clear hR
  unfold hv
  go_enter Try.func34, Try.ntmps34
  go_wp2_with (go_at_call 44; go_loud ((with_reducible refine (Shelf.strings_IndexByte _ _ _).mono ?_); rintro e w1 ⟨rfl, rfl⟩))
  all_goals
    go_ret
    refine ⟨?_, (Below.refl _ _).alloc (Nat.le_refl _) _⟩
    have hr := HR.out
    unfold mayS nulAt at hr
    simp only [beq_iff_eq, beq_eq_false_iff_ne, ne_eq, decide_eq_true_eq] at *
    refine congrArg (fun z => Ending.returned (.int .i64 z)) (Eq.trans ?_ hr.symm)
    clear hr
    repeat' split
    all_goals first | rfl | (exfalso; omega)

def Z512 : List Int := List.replicate 512 0
def ZV : Array Value := (nums .u8 Z512).toArray
def MAGIC : List Int := [117, 115, 116, 97, 114, 0, 48, 48]
theorem zI : ∀ w, (zeroValue TI).run Try.prog w = .ok (.agg ZV) w := fun _ => by kernel_rfl
theorem infoI : (Try.prog.info? TI).map (·.size) = some 512 := by kernel_rfl
/-- A head's bytes ahead of the seal. -/
def bodyS (n p : ByteArray) (m s t y : Int) (k : ByteArray) : List Int :=
  ins (ins (ins (ins (ins ((ins (ins (ins (ins (ins (ins Z512 0 (bytesOf n)) 100 (putS m 8).1) 108 (putS 0 8).1) 116 (putS 0 8).1) 124 (putS s 12).1) 136 (putS t 12).1).set 156 y) 157 (bytesOf k)) 257 MAGIC) 329 (putS 0 8).1) 337 (putS 0 8).1) 345 (bytesOf p)
def layS (n p : ByteArray) (m s t y : Int) (k : ByteArray) : List Int := sealS (bodyS n p m s t y k)
theorem ins_ok {l m : List Int} {o : Nat} (hm : ∀ x ∈ m, 0 ≤ x ∧ x ≤ 255) (hl : l.length = 512 ∧ Bytes l) : (ins l o m).length = 512 ∧ Bytes (ins l o m) :=
  ⟨by rw [ins_len, hl.1], bytes_of_mem (ins_bytes hm (mem_of_bytes hl.2))⟩
theorem set_ok {l : List Int} {o : Nat} {y : Int} (hy : 0 ≤ y ∧ y ≤ 255) (hl : l.length = 512 ∧ Bytes l) : (l.set o y).length = 512 ∧ Bytes (l.set o y) :=
  ⟨by rw [List.length_set, hl.1], bytes_of_mem (fun x hx => by
    rcases List.mem_or_eq_of_mem_set hx with h | rfl
    · exact mem_of_bytes hl.2 x h
    · exact hy)⟩
theorem z_ok : Z512.length = 512 ∧ Bytes Z512 := ⟨List.length_replicate, bytes_of_mem (fun x hx => by have := List.eq_of_mem_replicate hx; omega)⟩
theorem bytesOf_ok (s : ByteArray) : ∀ x ∈ bytesOf s, 0 ≤ x ∧ x ≤ 255 := fun x hx => by
  simp only [bytesOf, List.mem_map] at hx
  obtain ⟨b, _, rfl⟩ := hx
  have := b.toNat_lt
  omega
theorem body_ok (n p : ByteArray) (m s t y : Int) (k : ByteArray) (hy : 0 ≤ y ∧ y ≤ 255) : (bodyS n p m s t y k).length = 512 ∧ Bytes (bodyS n p m s t y k) := by
  unfold bodyS
  refine ins_ok (bytesOf_ok _) (ins_ok (putS_bytes _ _) (ins_ok (putS_bytes _ _) (ins_ok (by decide) (ins_ok (bytesOf_ok _) (set_ok hy (ins_ok (putS_bytes _ _) (ins_ok (putS_bytes _ _) (ins_ok (putS_bytes _ _) (ins_ok (putS_bytes _ _) (ins_ok (putS_bytes _ _) (ins_ok (bytesOf_ok _) z_ok)))))))))))
theorem seal_ok {l : List Int} (h : l.length = 512 ∧ Bytes l) : (sealS l).length = 512 ∧ Bytes (sealS l) := set_ok (by decide) (ins_ok (putS_bytes _ _) h)

end Go.Proofs.Ytdmpbfhbjklajaa.Head
end
