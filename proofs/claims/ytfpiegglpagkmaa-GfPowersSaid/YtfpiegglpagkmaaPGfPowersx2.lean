-- Written by wip/tools/myprint.py, a program of this session over the print tool: not a printed text of the kit's
import Derived.Test.YtfpiegglpagkmaaPGfPowersx0
import Derived.Test.YtfpiegglpagkmaaPGfPowersx1
namespace Go.Proofs.Ytfpiegglpagkmaa.PGfPowers
open Go.RowKit Go.Proofs.YtfpiegglpagkmaaW.PrintWords Go.Proofs.YtfpiegglpagkmaaW.PrintLast Go.Proofs.YtfpiegglpagkmaaW.PrintMore
attribute [local go_sem] max2_int min2_int max_two min_two max_three min_three max_four min_four   -- for this text's walks alone
set_option linter.unusedVariables false
set_option linter.unusedSimpArgs false

/-! ### tabularylaw01_GfPowers: function 7 -/
def tabularylaw01_GfPowers.j0 : Nat → Int → Int → Option (Bool)
  | 0, _, _ => none
  | k + 1, x0, x1 => (gf_Exp.f x1).bind fun t118 => ((tabularyref01_Exp.f k x1).bind fun t119 => (if t118 = t119 then ((gf_Pow.f x0 x1).bind fun t120 => ((tabularyref01_Pow.f k x0 x1).bind fun t121 => (if t120 = t121 then ((tabularylaw01_wakes.f k).bind fun t122 => (some t122)) else (some false)))) else (some false)))
def tabularylaw01_GfPowers.f (k : Nat) (a0 : Int) (a1 : Int) : Option (Bool) := (gf_Log.f a0).bind fun bt115 => ((tabularyref01_Log.f k a0).bind fun t117 => (if a0 = 0 then (if bt115.1 = 0 then (if bt115.2 = 1 then (tabularylaw01_GfPowers.j0 k a0 a1) else (some false)) else (some false)) else (if bt115.1 = t117 then (if bt115.2 = 0 then (tabularylaw01_GfPowers.j0 k a0 a1) else (some false)) else (some false))))
theorem tabularylaw01_GfPowers.mono_l : ∀ k, (∀ y0 y1, LeO (tabularylaw01_GfPowers.j0 k y0 y1) (tabularylaw01_GfPowers.j0 (k + 1) y0 y1))
  | 0 => fun _ _ r h => by simp [tabularylaw01_GfPowers.j0] at h
  | k + 1 => by
    have ih0 := tabularylaw01_GfPowers.mono_l k
    · intro y0 y1
      unfold tabularylaw01_GfPowers.j0
      repeat' first
      | (with_reducible exact ih0 _ _)
      | (with_reducible exact tabularylaw01_wakes.mono _)
      | (with_reducible exact tabularyref01_Exp.mono _ _)
      | (with_reducible exact tabularyref01_Log.mono _ _)
      | (with_reducible exact tabularyref01_Pow.mono _ _ _)
      | (with_reducible exact LeO.refl _)
      | (with_reducible exact LeO.none _)
      | (with_reducible refine LeO.ite ?_ ?_)
      | (with_reducible refine LeO.bind ?_ (fun _ => ?_))
      | exact ih0 _ _
      | exact tabularylaw01_wakes.mono _
      | exact tabularyref01_Exp.mono _ _
      | exact tabularyref01_Log.mono _ _
      | exact tabularyref01_Pow.mono _ _ _
      | exact LeO.none _
      | refine LeO.ite ?_ ?_
      | refine LeO.bind ?_ (fun _ => ?_)
theorem tabularylaw01_GfPowers.mono : ∀ a0 a1 k, LeO (tabularylaw01_GfPowers.f k a0 a1) (tabularylaw01_GfPowers.f (k + 1) a0 a1) := by
  intro a0 a1 k
  have ih0 := tabularylaw01_GfPowers.mono_l k
  unfold tabularylaw01_GfPowers.f
  repeat' first
      | (with_reducible exact ih0 _ _)
      | (with_reducible exact tabularylaw01_wakes.mono _)
      | (with_reducible exact tabularyref01_Exp.mono _ _)
      | (with_reducible exact tabularyref01_Log.mono _ _)
      | (with_reducible exact tabularyref01_Pow.mono _ _ _)
      | (with_reducible exact LeO.refl _)
      | (with_reducible exact LeO.none _)
      | (with_reducible refine LeO.ite ?_ ?_)
      | (with_reducible refine LeO.bind ?_ (fun _ => ?_))
      | exact ih0 _ _
      | exact tabularylaw01_wakes.mono _
      | exact tabularyref01_Exp.mono _ _
      | exact tabularyref01_Log.mono _ _
      | exact tabularyref01_Pow.mono _ _ _
      | exact LeO.none _
      | refine LeO.ite ?_ ?_
      | refine LeO.bind ?_ (fun _ => ?_)
set_option maxHeartbeats 8000000 in
set_option maxRecDepth 100000 in
theorem tabularylaw01_GfPowers.calls (k : Nat) (a0 : Int) (a1 : Int) (r : Bool) (w : World) (h : tabularylaw01_GfPowers.f k a0 a1 = some r) :
    Calls Try.prog 7 #[.int .u8 a0, .int .i64 a1] w fun e w' => e = .returned (.bool r) ∧ Below w.heap.size w w' := by
  have HB := Aside0.mk (Below.refl w.heap.size w)
  have H : ((gf_Log.f a0).bind fun bt115 => ((tabularyref01_Log.f k a0).bind fun t117 => (if a0 = 0 then (if bt115.1 = 0 then (if bt115.2 = 1 then (tabularylaw01_GfPowers.j0 k a0 a1) else (some false)) else (some false)) else (if bt115.1 = t117 then (if bt115.2 = 0 then (tabularylaw01_GfPowers.j0 k a0 a1) else (some false)) else (some false))))) = some r := h
  clear h
  replace H := Option.bind_eq_some_iff.mp H
  obtain ⟨⟨t115, t116⟩, A30, H⟩ := H
  replace H : ((tabularyref01_Log.f k a0).bind fun t117 => (if a0 = 0 then (if t115 = 0 then (if t116 = 1 then (tabularylaw01_GfPowers.j0 k a0 a1) else (some false)) else (some false)) else (if t115 = t117 then (if t116 = 0 then (tabularylaw01_GfPowers.j0 k a0 a1) else (some false)) else (some false)))) = some r := H
  have A3 := Aside0.mk A30
  clear A30
  replace H := Option.bind_eq_some_iff.mp H
  obtain ⟨t117, A40, H⟩ := H
  replace H : (if a0 = 0 then (if t115 = 0 then (if t116 = 1 then (tabularylaw01_GfPowers.j0 k a0 a1) else (some false)) else (some false)) else (if t115 = t117 then (if t116 = 0 then (tabularylaw01_GfPowers.j0 k a0 a1) else (some false)) else (some false))) = some r := H
  have A4 := Aside0.mk A40
  clear A40
  have HC5 := Aside0.mk H
  clear H
  go_enter Try.func7, Try.ntmps7
  go_upto_if 16 with (first | ((with_reducible refine gate_callee (f := 14) rfl ?_); refine goesL_ (some 10) rfl rfl Try.func14 (by kernel_rfl) rfl #[.int .u8 a0] rfl (by (try simp only [List.map_toArray, List.map_cons, List.map_nil]); first | done | rfl | (simp only [List.length_drop, List.length_take]; rfl)) ?_; (with_reducible refine (gf_Log.calls a0 t115 t116 _ A3.out).mono ?_); rintro e w6 ⟨rfl, hb⟩; refine ⟨_, rfl, ?_⟩; have n0_ := Aside0.mk (below_step (by repeat (first | (with_reducible first | exact HB.out | apply below_alloc | apply pw_below_drewN | apply below_drew1) | exact HB.out)) hb); clear HB; have HB := n0_; clear n0_; (try clear hb); (try clear hb2); (try clear hk); (try clear hi)) | ((with_reducible refine gate_callee (f := 19) rfl ?_); refine goesL_ (some 14) rfl rfl Try.func19 (by kernel_rfl) rfl #[.int .u8 a0] rfl (by (try simp only [List.map_toArray, List.map_cons, List.map_nil]); first | done | rfl | (simp only [List.length_drop, List.length_take]; rfl)) ?_; (with_reducible refine (tabularyref01_Log.calls k a0 t117 _ A4.out).mono ?_); rintro e w' ⟨rfl, ⟨nd, rfl⟩⟩; refine ⟨_, rfl, ?_⟩))
  (try simp only [Act.put, List.setIfInBounds_toArray, List.set_cons_zero, List.set_cons_succ])
  go_cut [] (fun wc => ∃ (kq : Nat), Aside0 (tabularylaw01_GfPowers.j0 kq a0 a1 = some r) ∧ Aside0 (kq ≤ k) ∧ Aside0 (Below w.heap.size w wc))
  case first =>
    have H := HC5.out
    clear HC5
    by_cases c7 : a0 = 0
    · rw [if_pos c7] at H
      have c7b0 : (a0 == 0) = true := beq_iff_eq.mpr c7
      have c7b1 : (a0 != 0) = false := bne_eq_false_iff_eq.mpr c7
      clear c7
      (first | rw [c7b0] | (simp only [i64_w, i32_w]; rw [c7b0]) | skip)
      by_cases c8 : t115 = 0
      · rw [if_pos c8] at H
        have c8b0 : (t115 == 0) = true := beq_iff_eq.mpr c8
        have c8b1 : (t115 != 0) = false := bne_eq_false_iff_eq.mpr c8
        clear c8
        by_cases c9 : t116 = 1
        · rw [if_pos c9] at H
          have c9b0 : (t116 == 1) = true := beq_iff_eq.mpr c9
          have c9b1 : (t116 != 1) = false := bne_eq_false_iff_eq.mpr c9
          clear c9
          have H' := Aside0.mk H
          clear H
          go_wp2
          go_meet
          case rel => exact ⟨_, H', ⟨by first | omega | exact Nat.le_refl _⟩, ⟨by repeat (first | (with_reducible first | exact HB.out | apply below_alloc | apply pw_below_drewN | apply below_drew1) | exact HB.out)⟩⟩
        · rw [if_neg c9] at H
          have c9b0 : (t116 == 1) = false := beq_eq_false_iff_ne.mpr c9
          have c9b1 : (t116 != 1) = true := bne_iff_ne.mpr c9
          obtain rfl := Option.some.inj H
          go_wp2
          go_ret
          exact ⟨by first | rfl | (simp [errW_none, errW_some] <;> rfl) | (simp [*, errW_none, errW_some] <;> rfl), by repeat (first | (with_reducible first | exact HB.out | apply below_alloc | apply pw_below_drewN | apply below_drew1) | exact HB.out)⟩
      · rw [if_neg c8] at H
        have c8b0 : (t115 == 0) = false := beq_eq_false_iff_ne.mpr c8
        have c8b1 : (t115 != 0) = true := bne_iff_ne.mpr c8
        obtain rfl := Option.some.inj H
        go_wp2
        go_ret
        exact ⟨by first | rfl | (simp [errW_none, errW_some] <;> rfl) | (simp [*, errW_none, errW_some] <;> rfl), by repeat (first | (with_reducible first | exact HB.out | apply below_alloc | apply pw_below_drewN | apply below_drew1) | exact HB.out)⟩
    · rw [if_neg c7] at H
      have c7b0 : (a0 == 0) = false := beq_eq_false_iff_ne.mpr c7
      have c7b1 : (a0 != 0) = true := bne_iff_ne.mpr c7
      (first | rw [c7b0] | (simp only [i64_w, i32_w]; rw [c7b0]) | skip)
      by_cases c10 : t115 = t117
      · rw [if_pos c10] at H
        have c10b0 : (t115 == t117) = true := beq_iff_eq.mpr c10
        have c10b1 : (t115 != t117) = false := bne_eq_false_iff_eq.mpr c10
        clear c10
        by_cases c11 : t116 = 0
        · rw [if_pos c11] at H
          have c11b0 : (t116 == 0) = true := beq_iff_eq.mpr c11
          have c11b1 : (t116 != 0) = false := bne_eq_false_iff_eq.mpr c11
          clear c11
          have H' := Aside0.mk H
          clear H
          go_wp2
          go_meet
          case rel => exact ⟨_, H', ⟨by first | omega | exact Nat.le_refl _⟩, ⟨by repeat (first | (with_reducible first | exact HB.out | apply below_alloc | apply pw_below_drewN | apply below_drew1) | exact HB.out)⟩⟩
        · rw [if_neg c11] at H
          have c11b0 : (t116 == 0) = false := beq_eq_false_iff_ne.mpr c11
          have c11b1 : (t116 != 0) = true := bne_iff_ne.mpr c11
          obtain rfl := Option.some.inj H
          go_wp2
          go_ret
          exact ⟨by first | rfl | (simp [errW_none, errW_some] <;> rfl) | (simp [*, errW_none, errW_some] <;> rfl), by repeat (first | (with_reducible first | exact HB.out | apply below_alloc | apply pw_below_drewN | apply below_drew1) | exact HB.out)⟩
      · rw [if_neg c10] at H
        have c10b0 : (t115 == t117) = false := beq_eq_false_iff_ne.mpr c10
        have c10b1 : (t115 != t117) = true := bne_iff_ne.mpr c10
        obtain rfl := Option.some.inj H
        go_wp2
        go_ret
        exact ⟨by first | rfl | (simp [errW_none, errW_some] <;> rfl) | (simp [*, errW_none, errW_some] <;> rfl), by repeat (first | (with_reducible first | exact HB.out | apply below_alloc | apply pw_below_drewN | apply below_drew1) | exact HB.out)⟩
  case rest =>
    clear HC5
    try clear c1
    try clear p2
    try clear c7
    try clear c7b0
    try clear c7b1
    try clear c8
    try clear c8b0
    try clear c8b1
    try clear c9
    try clear c9b0
    try clear c9b1
    try clear c10
    try clear c10b0
    try clear c10b1
    try clear c11
    try clear c11b0
    try clear c11b1
    obtain ⟨kq, HA, HJ4, HB⟩ := hcut
    cases kq with
    | zero => exact absurd HA.out (by simp [tabularylaw01_GfPowers.j0])
    | succ kj4 =>
      have H := HA.out
      clear HA
      simp only [tabularylaw01_GfPowers.j0] at H
      replace H := Option.bind_eq_some_iff.mp H
      obtain ⟨t118, A120, H⟩ := H
      replace H : ((tabularyref01_Exp.f kj4 a1).bind fun t119 => (if t118 = t119 then ((gf_Pow.f a0 a1).bind fun t120 => ((tabularyref01_Pow.f kj4 a0 a1).bind fun t121 => (if t120 = t121 then ((tabularylaw01_wakes.f kj4).bind fun t122 => (some t122)) else (some false)))) else (some false))) = some r := H
      have A12 := Aside0.mk A120
      clear A120
      replace H := Option.bind_eq_some_iff.mp H
      obtain ⟨t119, A130, H⟩ := H
      replace H : (if t118 = t119 then ((gf_Pow.f a0 a1).bind fun t120 => ((tabularyref01_Pow.f kj4 a0 a1).bind fun t121 => (if t120 = t121 then ((tabularylaw01_wakes.f kj4).bind fun t122 => (some t122)) else (some false)))) else (some false)) = some r := H
      have A13 := Aside0.mk A130
      clear A130
      by_cases c14 : t118 = t119
      · rw [if_pos c14] at H
        have c14b0 : (t118 == t119) = true := beq_iff_eq.mpr c14
        have c14b1 : (t118 != t119) = false := bne_eq_false_iff_eq.mpr c14
        clear c14
        replace H := Option.bind_eq_some_iff.mp H
        obtain ⟨t120, A150, H⟩ := H
        replace H : ((tabularyref01_Pow.f kj4 a0 a1).bind fun t121 => (if t120 = t121 then ((tabularylaw01_wakes.f kj4).bind fun t122 => (some t122)) else (some false))) = some r := H
        have A15 := Aside0.mk A150
        clear A150
        replace H := Option.bind_eq_some_iff.mp H
        obtain ⟨t121, A160, H⟩ := H
        replace H : (if t120 = t121 then ((tabularylaw01_wakes.f kj4).bind fun t122 => (some t122)) else (some false)) = some r := H
        have A16 := Aside0.mk A160
        clear A160
        by_cases c17 : t120 = t121
        · rw [if_pos c17] at H
          have c17b0 : (t120 == t121) = true := beq_iff_eq.mpr c17
          have c17b1 : (t120 != t121) = false := bne_eq_false_iff_eq.mpr c17
          clear c17
          replace H := Option.bind_eq_some_iff.mp H
          obtain ⟨t122, A180, H⟩ := H
          replace H : (some t122) = some r := H
          have A18 := Aside0.mk A180
          clear A180
          obtain rfl := Option.some.inj H
          go_wp2_with (first | ((with_reducible refine gate_callee (f := 13) rfl ?_); refine goesL_ (some 31) rfl rfl Try.func13 (by kernel_rfl) rfl #[.int .i64 a1] rfl (by (try simp only [List.map_toArray, List.map_cons, List.map_nil]); first | done | rfl | (simp only [List.length_drop, List.length_take]; rfl)) ?_; (with_reducible refine (gf_Exp.calls a1 t118 _ A12.out).mono ?_); rintro e w19 ⟨rfl, hb⟩; refine ⟨_, rfl, ?_⟩; have n0_ := Aside0.mk (below_step (by repeat (first | (with_reducible first | exact HB.out | apply below_alloc | apply pw_below_drewN | apply below_drew1) | exact HB.out)) hb); clear HB; have HB := n0_; clear n0_; (try clear hb); (try clear hb2); (try clear hk); (try clear hi)) | ((with_reducible refine gate_callee (f := 20) rfl ?_); refine goesL_ (some 33) rfl rfl Try.func20 (by kernel_rfl) rfl #[.int .i64 a1] rfl (by (try simp only [List.map_toArray, List.map_cons, List.map_nil]); first | done | rfl | (simp only [List.length_drop, List.length_take]; rfl)) ?_; (with_reducible refine (tabularyref01_Exp.calls kj4 a1 t119 _ A13.out).mono ?_); rintro e w' ⟨rfl, ⟨nd, rfl⟩⟩; refine ⟨_, rfl, ?_⟩) | (go_at_call 21; (with_reducible refine (gf_Pow.calls a0 a1 t120 _ A15.out).mono ?_); rintro e w20 ⟨rfl, hb⟩; have n0_ := Aside0.mk (below_step (by repeat (first | (with_reducible first | exact HB.out | apply below_alloc | apply pw_below_drewN | apply below_drew1) | exact HB.out)) hb); clear HB; have HB := n0_; clear n0_; (try clear hb); (try clear hb2); (try clear hk); (try clear hi)) | (go_at_call 22; (with_reducible refine (tabularyref01_Pow.calls kj4 a0 a1 t121 _ A16.out).mono ?_); rintro e w' ⟨rfl, ⟨nd, rfl⟩⟩) | (go_at_call 12; (with_reducible refine (tabularylaw01_wakes.calls kj4  t122 _ A18.out).mono ?_); rintro e w21 ⟨rfl, hb⟩; have n0_ := Aside0.mk (below_step (by repeat (first | (with_reducible first | exact HB.out | apply below_alloc | apply pw_below_drewN | apply below_drew1) | exact HB.out)) hb); clear HB; have HB := n0_; clear n0_; (try clear hb); (try clear hb2); (try clear hk); (try clear hi)))
          go_ret
          exact ⟨by first | rfl | (simp [errW_none, errW_some] <;> rfl) | (simp [*, errW_none, errW_some] <;> rfl), by repeat (first | (with_reducible first | exact HB.out | apply below_alloc | apply pw_below_drewN | apply below_drew1) | exact HB.out)⟩
        · rw [if_neg c17] at H
          have c17b0 : (t120 == t121) = false := beq_eq_false_iff_ne.mpr c17
          have c17b1 : (t120 != t121) = true := bne_iff_ne.mpr c17
          obtain rfl := Option.some.inj H
          go_wp2_with (first | ((with_reducible refine gate_callee (f := 13) rfl ?_); refine goesL_ (some 31) rfl rfl Try.func13 (by kernel_rfl) rfl #[.int .i64 a1] rfl (by (try simp only [List.map_toArray, List.map_cons, List.map_nil]); first | done | rfl | (simp only [List.length_drop, List.length_take]; rfl)) ?_; (with_reducible refine (gf_Exp.calls a1 t118 _ A12.out).mono ?_); rintro e w22 ⟨rfl, hb⟩; refine ⟨_, rfl, ?_⟩; have n0_ := Aside0.mk (below_step (by repeat (first | (with_reducible first | exact HB.out | apply below_alloc | apply pw_below_drewN | apply below_drew1) | exact HB.out)) hb); clear HB; have HB := n0_; clear n0_; (try clear hb); (try clear hb2); (try clear hk); (try clear hi)) | ((with_reducible refine gate_callee (f := 20) rfl ?_); refine goesL_ (some 33) rfl rfl Try.func20 (by kernel_rfl) rfl #[.int .i64 a1] rfl (by (try simp only [List.map_toArray, List.map_cons, List.map_nil]); first | done | rfl | (simp only [List.length_drop, List.length_take]; rfl)) ?_; (with_reducible refine (tabularyref01_Exp.calls kj4 a1 t119 _ A13.out).mono ?_); rintro e w' ⟨rfl, ⟨nd, rfl⟩⟩; refine ⟨_, rfl, ?_⟩) | (go_at_call 21; (with_reducible refine (gf_Pow.calls a0 a1 t120 _ A15.out).mono ?_); rintro e w23 ⟨rfl, hb⟩; have n0_ := Aside0.mk (below_step (by repeat (first | (with_reducible first | exact HB.out | apply below_alloc | apply pw_below_drewN | apply below_drew1) | exact HB.out)) hb); clear HB; have HB := n0_; clear n0_; (try clear hb); (try clear hb2); (try clear hk); (try clear hi)) | (go_at_call 22; (with_reducible refine (tabularyref01_Pow.calls kj4 a0 a1 t121 _ A16.out).mono ?_); rintro e w' ⟨rfl, ⟨nd, rfl⟩⟩))
          go_ret
          exact ⟨by first | rfl | (simp [errW_none, errW_some] <;> rfl) | (simp [*, errW_none, errW_some] <;> rfl), by repeat (first | (with_reducible first | exact HB.out | apply below_alloc | apply pw_below_drewN | apply below_drew1) | exact HB.out)⟩
      · rw [if_neg c14] at H
        have c14b0 : (t118 == t119) = false := beq_eq_false_iff_ne.mpr c14
        have c14b1 : (t118 != t119) = true := bne_iff_ne.mpr c14
        obtain rfl := Option.some.inj H
        go_wp2_with (first | ((with_reducible refine gate_callee (f := 13) rfl ?_); refine goesL_ (some 31) rfl rfl Try.func13 (by kernel_rfl) rfl #[.int .i64 a1] rfl (by (try simp only [List.map_toArray, List.map_cons, List.map_nil]); first | done | rfl | (simp only [List.length_drop, List.length_take]; rfl)) ?_; (with_reducible refine (gf_Exp.calls a1 t118 _ A12.out).mono ?_); rintro e w24 ⟨rfl, hb⟩; refine ⟨_, rfl, ?_⟩; have n0_ := Aside0.mk (below_step (by repeat (first | (with_reducible first | exact HB.out | apply below_alloc | apply pw_below_drewN | apply below_drew1) | exact HB.out)) hb); clear HB; have HB := n0_; clear n0_; (try clear hb); (try clear hb2); (try clear hk); (try clear hi)) | ((with_reducible refine gate_callee (f := 20) rfl ?_); refine goesL_ (some 33) rfl rfl Try.func20 (by kernel_rfl) rfl #[.int .i64 a1] rfl (by (try simp only [List.map_toArray, List.map_cons, List.map_nil]); first | done | rfl | (simp only [List.length_drop, List.length_take]; rfl)) ?_; (with_reducible refine (tabularyref01_Exp.calls kj4 a1 t119 _ A13.out).mono ?_); rintro e w' ⟨rfl, ⟨nd, rfl⟩⟩; refine ⟨_, rfl, ?_⟩))
        go_ret
        exact ⟨by first | rfl | (simp [errW_none, errW_some] <;> rfl) | (simp [*, errW_none, errW_some] <;> rfl), by repeat (first | (with_reducible first | exact HB.out | apply below_alloc | apply pw_below_drewN | apply below_drew1) | exact HB.out)⟩

/-- THE ONE PURE STATEMENT of tabularylaw01_GfPowers: yours. -/
def tabularylaw01_GfPowers.Pure : Prop := ∀ (a0 : Int) (a1 : Int), (Lit.int .u8 a0).wf = true → (Lit.int .i64 a1).wf = true → ∃ k, tabularylaw01_GfPowers.f k a0 a1 = some true
theorem tabularylaw01_GfPowers.walk (P : tabularylaw01_GfPowers.Pure) (a0 : Int) (a1 : Int) (w : World) (w0 : (Lit.int .u8 a0).wf = true) (w1 : (Lit.int .i64 a1).wf = true) :
    Calls Try.prog 7 #[.int .u8 a0, .int .i64 a1] w fun e w' => e = .returned (.bool true) ∧ Below w.heap.size w w' := by
  obtain ⟨k, h⟩ := P a0 a1 w0 w1
  refine (tabularylaw01_GfPowers.calls k a0 a1 true w h).mono ?_
  rintro e w' ⟨rfl, hd⟩
  exact ⟨rfl, hd⟩

end Go.Proofs.Ytfpiegglpagkmaa.PGfPowers
