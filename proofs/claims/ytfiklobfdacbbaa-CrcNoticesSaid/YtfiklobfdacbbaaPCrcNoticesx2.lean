-- Written by wip/tools/myprint.py, a program of this session over the print tool: not a printed text of the kit's
import Derived.Test.YtfiklobfdacbbaaPCrcNoticesx0
import Derived.Test.YtfiklobfdacbbaaPCrcNoticesx1
namespace Go.Proofs.Ytfiklobfdacbbaa.PCrcNotices
open Go.RowKit Go.Proofs.YtfiklobfdacbbaaW.PrintWords Go.Proofs.YtfiklobfdacbbaaW.PrintLast Go.Proofs.YtfiklobfdacbbaaW.PrintMore
attribute [local go_sem] max2_int min2_int max_two min_two max_three min_three max_four min_four   -- for this text's walks alone
set_option linter.unusedVariables false
set_option linter.unusedSimpArgs false

/-! ### tabularylaw04_CrcNotices: function 5 -/
mutual
def tabularylaw04_CrcNotices.j0 : Nat → Int → Int → List Int → Bool → Option (Bool)
  | 0, _, _, _, _ => none
  | k + 1, x1, x2, x7, x42 => if x42 = true then (some false) else (if x2 = 0 then ((tabularylaw04_wakes.f).bind fun t133 => (some t133)) else (if (wrap64 ((wrap64 (8 * (x7.length : Int))) - 31)) = 0 then (none) else (tabularylaw04_CrcNotices.l0 k x2 x7 (Int.tmod (wrap64 ((Int.tmod x1 (wrap64 ((wrap64 (8 * (x7.length : Int))) - 31))) + (wrap64 ((wrap64 (8 * (x7.length : Int))) - 31)))) (wrap64 ((wrap64 (8 * (x7.length : Int))) - 31))) 0)))
def tabularylaw04_CrcNotices.l0 : Nat → Int → List Int → Int → Int → Option (Bool)
  | 0, _, _, _, _ => none
  | k + 1, x2, x7, x11, x12 => if x12 < 32 then (if 0 ≤ x12 then (if (Go.bits .and .u32 (shr .u32 x2 x12) 1) = 1 then (if 0 ≤ (wrap64 (Int.tdiv (wrap64 (x11 + x12)) 8)) then (if (wrap64 (Int.tdiv (wrap64 (x11 + x12)) 8)) < (x7.length : Int) then (if 0 ≤ (Int.tmod (wrap64 (x11 + x12)) 8) then (tabularylaw04_CrcNotices.l0 k x2 (x7.set ((wrap64 (Int.tdiv (wrap64 (x11 + x12)) 8)) : Int).toNat (Go.bits .xor .u8 (rd x7 (wrap64 (Int.tdiv (wrap64 (x11 + x12)) 8))) (shl .u8 1 (Int.tmod (wrap64 (x11 + x12)) 8)))) x11 (wrap64 (x12 + 1))) else (none)) else (none)) else (none)) else (tabularylaw04_CrcNotices.l0 k x2 x7 x11 (wrap64 (x12 + 1)))) else (none)) else ((crc_Open.f k x7).bind fun bt136 => (if bt136.2 = true then (some false) else (if (bt136.1.length : Int) = 0 then ((tabularylaw04_wakes.f).bind fun t140 => (some t140)) else (some false))))
end
def tabularylaw04_CrcNotices.f (k : Nat) (l0 : List Int) (a1 : Int) (a2 : Int) : Option (Bool) := if (l0.length : Int) > 65536 then ((tabularylaw04_wakes.f).bind fun t125 => (some t125)) else ((crc_Seal.f l0).bind fun t126 => ((crc_Open.f k t126).bind fun bt129 => (if (t126.length : Int) = (wrap64 ((l0.length : Int) + 4)) then (if bt129.2 = true then (tabularylaw04_CrcNotices.j0 k a1 a2 t126 ((strOfNums bt129.1).toList != (strOfNums l0).toList)) else (tabularylaw04_CrcNotices.j0 k a1 a2 t126 true)) else (tabularylaw04_CrcNotices.j0 k a1 a2 t126 true))))
theorem tabularylaw04_CrcNotices.mono_l : ∀ k, (∀ y0 y1 y2 y3, LeO (tabularylaw04_CrcNotices.j0 k y0 y1 y2 y3) (tabularylaw04_CrcNotices.j0 (k + 1) y0 y1 y2 y3)) ∧ (∀ y0 y1 y2 y3, LeO (tabularylaw04_CrcNotices.l0 k y0 y1 y2 y3) (tabularylaw04_CrcNotices.l0 (k + 1) y0 y1 y2 y3))
  | 0 => ⟨fun _ _ _ _ r h => by simp [tabularylaw04_CrcNotices.j0] at h, fun _ _ _ _ r h => by simp [tabularylaw04_CrcNotices.l0] at h⟩
  | k + 1 => by
    obtain ⟨ih0, ih1⟩ := tabularylaw04_CrcNotices.mono_l k
    refine ⟨?_, ?_⟩
    · intro y0 y1 y2 y3
      unfold tabularylaw04_CrcNotices.j0
      repeat' first
      | (with_reducible exact ih0 _ _ _ _)
      | (with_reducible exact ih1 _ _ _ _)
      | (with_reducible exact crc_Open.mono _ _)
      | (with_reducible exact LeO.refl _)
      | (with_reducible exact LeO.none _)
      | (with_reducible refine LeO.ite ?_ ?_)
      | (with_reducible refine LeO.bind ?_ (fun _ => ?_))
      | exact ih0 _ _ _ _
      | exact ih1 _ _ _ _
      | exact crc_Open.mono _ _
      | exact LeO.none _
      | refine LeO.ite ?_ ?_
      | refine LeO.bind ?_ (fun _ => ?_)
    · intro y0 y1 y2 y3
      unfold tabularylaw04_CrcNotices.l0
      repeat' first
      | (with_reducible exact ih0 _ _ _ _)
      | (with_reducible exact ih1 _ _ _ _)
      | (with_reducible exact crc_Open.mono _ _)
      | (with_reducible exact LeO.refl _)
      | (with_reducible exact LeO.none _)
      | (with_reducible refine LeO.ite ?_ ?_)
      | (with_reducible refine LeO.bind ?_ (fun _ => ?_))
      | exact ih0 _ _ _ _
      | exact ih1 _ _ _ _
      | exact crc_Open.mono _ _
      | exact LeO.none _
      | refine LeO.ite ?_ ?_
      | refine LeO.bind ?_ (fun _ => ?_)
theorem tabularylaw04_CrcNotices.mono : ∀ a0 a1 a2 k, LeO (tabularylaw04_CrcNotices.f k a0 a1 a2) (tabularylaw04_CrcNotices.f (k + 1) a0 a1 a2) := by
  intro a0 a1 a2 k
  obtain ⟨ih0, ih1⟩ := tabularylaw04_CrcNotices.mono_l k
  unfold tabularylaw04_CrcNotices.f
  repeat' first
      | (with_reducible exact ih0 _ _ _ _)
      | (with_reducible exact ih1 _ _ _ _)
      | (with_reducible exact crc_Open.mono _ _)
      | (with_reducible exact LeO.refl _)
      | (with_reducible exact LeO.none _)
      | (with_reducible refine LeO.ite ?_ ?_)
      | (with_reducible refine LeO.bind ?_ (fun _ => ?_))
      | exact ih0 _ _ _ _
      | exact ih1 _ _ _ _
      | exact crc_Open.mono _ _
      | exact LeO.none _
      | refine LeO.ite ?_ ?_
      | refine LeO.bind ?_ (fun _ => ?_)
def tabularylaw04_CrcNotices.T15 : Bool × List (List Nat × List Nat) := (true, [([], []), ([], []), ([], []), ([1, 2], [1, 2]), ([3], [3]), ([], []), ([], []), ([], []), ([6, 7], [6, 7]), ([8], [8]), ([5, 9], [5, 9]), ([10], [10]), ([], []), ([], []), ([12, 13], [12, 13]), ([14], [14]), ([15], [15]), ([11, 16], [11, 16]), ([0, 4, 0, 1, 2, 3, 4, 5, 6, 7, 8, 9, 10, 11, 12, 13, 14, 15, 16, 17], [0, 4]), ([18, 17, 0, 1, 2, 3, 4, 5, 6, 7, 8, 9, 10, 11, 12, 13, 14, 15, 16, 17], [17, 18])])
def tabularylaw04_CrcNotices.B15 : List Nat := [0, 0, 0, 6, 14, 0, 0, 0, 192, 448, 992, 2016, 0, 0, 12288, 28672, 61440, 131040, 262143, 524287]
theorem tabularylaw04_CrcNotices.tab15 : rtab .any (opsOf Try.f5 15) = tabularylaw04_CrcNotices.T15 := by kernel_rfl
theorem tabularylaw04_CrcNotices.bits15 : waitsOk tabularylaw04_CrcNotices.T15.2 tabularylaw04_CrcNotices.B15 = true := by kernel_rfl
set_option maxHeartbeats 8000000 in
set_option maxRecDepth 100000 in
theorem tabularylaw04_CrcNotices.calls (k : Nat) (A0 : Option Addr) (c0 : Nat) (l0 : List Int) (a1 : Int) (a2 : Int) (r : Bool) (w : World) (hr0 : Kd.C (Kd.int .u8) w A0 l0.length l0) (hc0 : l0.length ≤ c0) (h : tabularylaw04_CrcNotices.f k l0 a1 a2 = some r) :
    Calls Try.prog 5 #[.slice A0 l0.length c0, .int .i64 a1, .int .u32 a2] w fun e w' => e = .returned (.bool r) ∧ Below w.heap.size w w' := by
  have HR0 := Aside0.mk hr0
  have HC0 := Aside0.mk hc0
  clear hr0 hc0
  have HB := Aside0.mk (Below.refl w.heap.size w)
  have H : (if (l0.length : Int) > 65536 then ((tabularylaw04_wakes.f).bind fun t125 => (some t125)) else ((crc_Seal.f l0).bind fun t126 => ((crc_Open.f k t126).bind fun bt129 => (if (t126.length : Int) = (wrap64 ((l0.length : Int) + 4)) then (if bt129.2 = true then (tabularylaw04_CrcNotices.j0 k a1 a2 t126 ((strOfNums bt129.1).toList != (strOfNums l0).toList)) else (tabularylaw04_CrcNotices.j0 k a1 a2 t126 true)) else (tabularylaw04_CrcNotices.j0 k a1 a2 t126 true))))) = some r := h
  clear h
  by_cases c4 : (l0.length : Int) > 65536
  · rw [if_pos c4] at H
    have c4b0 : decide (65536 < (l0.length : Int)) = true := decide_eq_true c4
    have c4b1 : decide (65536 < l0.length) = true := decide_eq_true (by omega)
    clear c4
    replace H := Option.bind_eq_some_iff.mp H
    obtain ⟨t125, A50, H⟩ := H
    replace H : (some t125) = some r := H
    have A5 := Aside0.mk A50
    clear A50
    obtain rfl := Option.some.inj H
    go_enter Try.func5, Try.ntmps5
    go_wp2_with (first | ((with_reducible refine gate_callee (f := 9) rfl ?_); refine goesL_ (some 18) rfl rfl Try.func9 (by kernel_rfl) rfl #[] rfl (by (try simp only [List.map_toArray, List.map_cons, List.map_nil]); first | done | rfl | (simp only [List.length_drop, List.length_take]; rfl)) ?_; (with_reducible refine (tabularylaw04_wakes.calls  t125 _ A5.out).mono ?_); rintro e w6 ⟨rfl, hb⟩; refine ⟨_, rfl, ?_⟩; have n0_ := Aside0.mk (below_step (by repeat (first | (with_reducible first | exact HB.out | apply below_alloc | apply pw_below_drewN | apply below_drew1) | exact HB.out)) hb); clear HB; have HB := n0_; clear n0_; (try clear hb); (try clear hb2); (try clear hk); (try clear hi)))
    go_ret
    exact ⟨by first | rfl | (simp [errW_none, errW_some] <;> rfl) | (simp [*, errW_none, errW_some] <;> rfl), by repeat (first | (with_reducible first | exact HB.out | apply below_alloc | apply pw_below_drewN | apply below_drew1) | exact HB.out)⟩
  · rw [if_neg c4] at H
    have c4b0 : decide (65536 < (l0.length : Int)) = false := decide_eq_false c4
    have c4b1 : decide (65536 < l0.length) = false := decide_eq_false (by omega)
    clear c4
    replace H := Option.bind_eq_some_iff.mp H
    obtain ⟨t126, A70, H⟩ := H
    replace H : ((crc_Open.f k t126).bind fun bt129 => (if (t126.length : Int) = (wrap64 ((l0.length : Int) + 4)) then (if bt129.2 = true then (tabularylaw04_CrcNotices.j0 k a1 a2 t126 ((strOfNums bt129.1).toList != (strOfNums l0).toList)) else (tabularylaw04_CrcNotices.j0 k a1 a2 t126 true)) else (tabularylaw04_CrcNotices.j0 k a1 a2 t126 true))) = some r := H
    have A7 := Aside0.mk A70
    clear A70
    replace H := Option.bind_eq_some_iff.mp H
    obtain ⟨⟨t129, t130⟩, A80, H⟩ := H
    replace H : (if (t126.length : Int) = (wrap64 ((l0.length : Int) + 4)) then (if t130 = true then (tabularylaw04_CrcNotices.j0 k a1 a2 t126 ((strOfNums t129).toList != (strOfNums l0).toList)) else (tabularylaw04_CrcNotices.j0 k a1 a2 t126 true)) else (tabularylaw04_CrcNotices.j0 k a1 a2 t126 true)) = some r := H
    have A8 := Aside0.mk A80
    clear A80
    have HC9 := Aside0.mk H
    clear H
    go_enter Try.func5, Try.ntmps5
    go_upto_region 5 with (first | ((with_reducible refine gate_callee (f := 14) rfl ?_); refine goesL_ (some 20) rfl rfl Try.func14 (by kernel_rfl) rfl #[.slice A0 l0.length c0] rfl (by (try simp only [List.map_toArray, List.map_cons, List.map_nil]); first | done | rfl | (simp only [List.length_drop, List.length_take]; rfl)) ?_; (with_reducible refine (crc_Seal.calls _ _ l0 t126 _ ?side1 ?side2 A7.out).mono ?_); (case side1 => repeat (first | exact HR0.out | (with_reducible refine Kd.C_alloc ?_ _) | (with_reducible refine Kd.C_drewN ?_ _) | (with_reducible refine Kd.C_drew ?_))); (case side2 => exact HC0.out); rintro e w10 ⟨v127, rfl, ho0, hb⟩; refine ⟨_, rfl, ?_⟩; have n0_ := Aside0.mk (Kd.R_lower ho0 (below_size (by repeat (first | (with_reducible first | exact HB.out | apply below_alloc | apply pw_below_drewN | apply below_drew1) | exact HB.out)))); have n1_ := Aside0.mk (below_step (by repeat (first | (with_reducible first | exact HB.out | apply below_alloc | apply pw_below_drewN | apply below_drew1) | exact HB.out)) hb); clear HB; have HO128 := n0_; have HB := n1_; clear n0_ n1_; (try clear hb); (try clear hb2); (try clear hk); (try clear hi); (try clear ho0); obtain ⟨Ao11, co11, eo11⟩ := Kd.R_slice HO128.out; subst eo11) | ((with_reducible refine gate_callee (f := 15) rfl ?_); refine goesL_ (some 23) rfl rfl Try.func15 (by kernel_rfl) rfl #[.slice Ao11 t126.length co11] rfl (by (try simp only [List.map_toArray, List.map_cons, List.map_nil]); first | done | rfl | (simp only [List.length_drop, List.length_take]; rfl)) ?_; (with_reducible refine (crc_Open.calls k _ _ t126 t129 t130 _ ?side1 ?side2 A8.out).mono ?_); (case side1 => repeat (first | exact (Kd.R_reads' HO128.out).2.2 | (with_reducible refine Kd.C_alloc ?_ _) | (with_reducible refine Kd.C_drewN ?_ _) | (with_reducible refine Kd.C_drew ?_))); (case side2 => exact (Kd.R_reads' HO128.out).2.1); rintro e w12 ⟨v131, rfl, ho0, hb⟩; refine ⟨_, rfl, ?_⟩; have n0_ := Aside0.mk (Kd.R_elder' (by (with_reducible repeat (first | apply Kd.R_alloc | apply Kd.R_drewN | apply Kd.R_drew)); exact HO128.out) (Kd.R_base ho0) hb); have n1_ := Aside0.mk (Kd.R_lower (Kd.R_new' ho0 (Kd.R_lt (by (with_reducible repeat (first | apply Kd.R_alloc | apply Kd.R_drewN | apply Kd.R_drew)); exact HO128.out))) (below_size (by repeat (first | (with_reducible first | exact HB.out | apply below_alloc | apply pw_below_drewN | apply below_drew1) | exact HB.out)))); have n2_ := Aside0.mk (below_step (by repeat (first | (with_reducible first | exact HB.out | apply below_alloc | apply pw_below_drewN | apply below_drew1) | exact HB.out)) hb); clear HO128; clear HB; have HO128 := n0_; have HO132 := n1_; have HB := n2_; clear n0_ n1_ n2_; (try clear hb); (try clear hb2); (try clear hk); (try clear hi); (try clear ho0)))
    (try simp only [Act.put, List.setIfInBounds_toArray, List.set_cons_zero, List.set_cons_succ])
    go_cut [42] (fun v42 wc => ∃ (kq : Nat) (x42_8 : Bool), v42 = .bool x42_8 ∧ Aside0 (tabularylaw04_CrcNotices.j0 kq a1 a2 t126 x42_8 = some r) ∧ Aside0 (kq ≤ k) ∧ Aside0 (Kd.R (Kd.int .u8) 5 wc w.heap.size (fun _ => True) (.slice Ao11 t126.length co11) t126) ∧ Aside0 (Below w.heap.size w wc))
    case first =>
      have H := HC9.out
      clear HC9
      by_cases c13 : (t126.length : Int) = (wrap64 ((l0.length : Int) + 4))
      · rw [if_pos c13] at H
        have c13b0 : ((t126.length : Int) == (wrap64 ((l0.length : Int) + 4))) = true := beq_iff_eq.mpr c13
        have c13b1 : ((t126.length : Int) != (wrap64 ((l0.length : Int) + 4))) = false := bne_eq_false_iff_eq.mpr c13
        clear c13
        (first | rw [c13b0] | (simp only [i64_w, i32_w]; rw [c13b0]) | skip)
        by_cases c14 : t130 = true
        · subst c14
          have H1 : (tabularylaw04_CrcNotices.j0 k a1 a2 t126 ((strOfNums t129).toList != (strOfNums l0).toList)) = some r := by rw [if_pos rfl] at H; exact H
          clear H
          have H := H1
          clear H1
          have H' := Aside0.mk H
          clear H
          have hcv15 := own_string (P := Try.prog) Try.underlying23 Try.underlying5 Try.underlying9 (Kd.own_of_R HO132.out)
          have hcv16 := Kd.C_string (P := Try.prog) (A := A0) (c := c0) Try.underlying23 Try.underlying5 Try.underlying9 (Kd.C_below HR0.out HB.out)
          go_wp2
          go_meet
          case rel => exact ⟨_, (((strOfNums t129).toList != (strOfNums l0).toList)), (by first | rfl | (simp; done) | (simp [*]; done)), H', ⟨by first | omega | exact Nat.le_refl _⟩, ⟨by (with_reducible repeat (first | apply Kd.R_alloc | apply Kd.R_drewN | apply Kd.R_drew)); exact Kd.R_mono HO128.out (fun _ hk => trivial)⟩, ⟨by repeat (first | (with_reducible first | exact HB.out | apply below_alloc | apply pw_below_drewN | apply below_drew1) | exact HB.out)⟩⟩
        · replace c14 := Bool.eq_false_iff.mpr c14
          subst c14
          have H1 : (tabularylaw04_CrcNotices.j0 k a1 a2 t126 true) = some r := by rw [if_neg (show ¬ (false = true) by decide)] at H; exact H
          clear H
          have H := H1
          clear H1
          have H' := Aside0.mk H
          clear H
          go_wp2
          go_meet
          case rel => exact ⟨_, (true), (by first | rfl | (simp; done) | (simp [*]; done)), H', ⟨by first | omega | exact Nat.le_refl _⟩, ⟨by (with_reducible repeat (first | apply Kd.R_alloc | apply Kd.R_drewN | apply Kd.R_drew)); exact Kd.R_mono HO128.out (fun _ hk => trivial)⟩, ⟨by repeat (first | (with_reducible first | exact HB.out | apply below_alloc | apply pw_below_drewN | apply below_drew1) | exact HB.out)⟩⟩
      · rw [if_neg c13] at H
        have c13b0 : ((t126.length : Int) == (wrap64 ((l0.length : Int) + 4))) = false := beq_eq_false_iff_ne.mpr c13
        have c13b1 : ((t126.length : Int) != (wrap64 ((l0.length : Int) + 4))) = true := bne_iff_ne.mpr c13
        (first | rw [c13b0] | (simp only [i64_w, i32_w]; rw [c13b0]) | skip)
        have H' := Aside0.mk H
        clear H
        go_wp2
        go_meet
        case rel => exact ⟨_, (true), (by first | rfl | (simp; done) | (simp [*]; done)), H', ⟨by first | omega | exact Nat.le_refl _⟩, ⟨by (with_reducible repeat (first | apply Kd.R_alloc | apply Kd.R_drewN | apply Kd.R_drew)); exact Kd.R_mono HO128.out (fun _ hk => trivial)⟩, ⟨by repeat (first | (with_reducible first | exact HB.out | apply below_alloc | apply pw_below_drewN | apply below_drew1) | exact HB.out)⟩⟩
    case rest =>
      clear HC9
      try clear c1
      try clear hcv1
      try clear p2
      try clear c4
      try clear c4b0
      try clear c4b1
      try clear c5
      try clear p6
      try clear c9
      try clear c13
      try clear c13b0
      try clear c13b1
      try clear c14
      try clear c15
      try clear hcv15
      try clear hcv16
      obtain ⟨kq, x42_8, rfl, HA, HJ8, HO_7, HB⟩ := hcut
      cases kq with
      | zero => exact absurd HA.out (by simp [tabularylaw04_CrcNotices.j0])
      | succ kj8 =>
        have H := HA.out
        clear HA
        simp only [tabularylaw04_CrcNotices.j0] at H
        by_cases c17 : x42_8 = true
        · subst c17
          have H1 : (some false) = some r := by rw [if_pos rfl] at H; exact H
          clear H
          have H := H1
          clear H1
          obtain rfl := Option.some.inj H
          go_wp2
          go_ret
          exact ⟨by first | rfl | (simp [errW_none, errW_some] <;> rfl) | (simp [*, errW_none, errW_some] <;> rfl), by repeat (first | (with_reducible first | exact HB.out | apply below_alloc | apply pw_below_drewN | apply below_drew1) | exact HB.out)⟩
        · replace c17 := Bool.eq_false_iff.mpr c17
          subst c17
          have H1 : (if a2 = 0 then ((tabularylaw04_wakes.f).bind fun t133 => (some t133)) else (if (wrap64 ((wrap64 (8 * (t126.length : Int))) - 31)) = 0 then (none) else (tabularylaw04_CrcNotices.l0 kj8 a2 t126 (Int.tmod (wrap64 ((Int.tmod a1 (wrap64 ((wrap64 (8 * (t126.length : Int))) - 31))) + (wrap64 ((wrap64 (8 * (t126.length : Int))) - 31)))) (wrap64 ((wrap64 (8 * (t126.length : Int))) - 31))) 0))) = some r := by rw [if_neg (show ¬ (false = true) by decide)] at H; exact H
          clear H
          have H := H1
          clear H1
          by_cases c18 : a2 = 0
          · rw [if_pos c18] at H
            have c18b0 : (a2 == 0) = true := beq_iff_eq.mpr c18
            have c18b1 : (a2 != 0) = false := bne_eq_false_iff_eq.mpr c18
            clear c18
            replace H := Option.bind_eq_some_iff.mp H
            obtain ⟨t133, A190, H⟩ := H
            replace H : (some t133) = some r := H
            have A19 := Aside0.mk A190
            clear A190
            obtain rfl := Option.some.inj H
            go_wp2_with (first | ((with_reducible refine gate_callee (f := 9) rfl ?_); refine goesL_ (some 45) rfl rfl Try.func9 (by kernel_rfl) rfl #[] rfl (by (try simp only [List.map_toArray, List.map_cons, List.map_nil]); first | done | rfl | (simp only [List.length_drop, List.length_take]; rfl)) ?_; (with_reducible refine (tabularylaw04_wakes.calls  t133 _ A19.out).mono ?_); rintro e w20 ⟨rfl, hb⟩; refine ⟨_, rfl, ?_⟩; have n0_ := Aside0.mk (Kd.R_below (by (with_reducible repeat (first | apply Kd.R_alloc | apply Kd.R_drewN | apply Kd.R_drew)); exact HO_7.out) hb); have n1_ := Aside0.mk (below_step (by repeat (first | (with_reducible first | exact HB.out | apply below_alloc | apply pw_below_drewN | apply below_drew1) | exact HB.out)) hb); clear HO_7; clear HB; have HO_7 := n0_; have HB := n1_; clear n0_ n1_; (try clear hb); (try clear hb2); (try clear hk); (try clear hi)))
            go_ret
            exact ⟨by first | rfl | (simp [errW_none, errW_some] <;> rfl) | (simp [*, errW_none, errW_some] <;> rfl), by repeat (first | (with_reducible first | exact HB.out | apply below_alloc | apply pw_below_drewN | apply below_drew1) | exact HB.out)⟩
          · rw [if_neg c18] at H
            have c18b0 : (a2 == 0) = false := beq_eq_false_iff_ne.mpr c18
            have c18b1 : (a2 != 0) = true := bne_iff_ne.mpr c18
            by_cases c21 : (wrap64 ((wrap64 (8 * (t126.length : Int))) - 31)) = 0
            · rw [if_pos c21] at H
              exact absurd H (by simp)
            · rw [if_neg c21] at H
              have c21b0 : ((wrap64 ((wrap64 (8 * (t126.length : Int))) - 31)) == 0) = false := beq_eq_false_iff_ne.mpr c21
              have c21b1 : ((wrap64 ((wrap64 (8 * (t126.length : Int))) - 31)) != 0) = true := bne_iff_ne.mpr c21
              have H' := Aside0.mk H
              clear H
              go_wp2
              go_loopg [12] kj8 (fun kq v12 w' => ∃ (x7_2 : List Int) (x12_2 : Int), v12 = .int .i64 x12_2 ∧ Aside0 (tabularylaw04_CrcNotices.l0 kq a2 x7_2 (Int.tmod (wrap64 ((Int.tmod a1 (wrap64 ((wrap64 (8 * (t126.length : Int))) - 31))) + (wrap64 ((wrap64 (8 * (t126.length : Int))) - 31)))) (wrap64 ((wrap64 (8 * (t126.length : Int))) - 31))) x12_2 = some r) ∧ Aside0 (kq ≤ kj8) ∧ Aside0 (Kd.R (Kd.int .u8) 5 w' w.heap.size (fun _ => True) (.slice Ao11 t126.length co11) x7_2) ∧ Aside0 (Below w.heap.size w w'))
              case atStart => exact ⟨(t126), (0), (by first | rfl | (simp; done) | (simp [*]; done)), H', ⟨Nat.le_refl _⟩, ⟨by (with_reducible repeat (first | apply Kd.R_alloc | apply Kd.R_drewN | apply Kd.R_drew)); exact HO_7.out⟩, ⟨by repeat (first | (with_reducible first | exact HB.out | apply below_alloc | apply pw_below_drewN | apply below_drew1) | exact HB.out)⟩⟩
              case round =>
                clear H'
                try clear c1
                try clear hcv1
                try clear c2
                try clear p2
                try clear c4
                try clear c4b0
                try clear c4b1
                try clear c5
                try clear p6
                try clear c9
                try clear c13
                try clear c13b0
                try clear c13b1
                try clear c14
                try clear c15
                try clear hcv15
                try clear hcv16
                try clear c17
                try clear c18
                try clear c18b0
                try clear c18b1
                try clear c21
                try clear c21b0
                try clear c21b1
                try clear p2
                try clear p6
                obtain ⟨x7_2, x12_2, rfl, HA, HK2, HO_7, HB⟩ := hrel
                have hl7_2 := (Kd.R_reads' HO_7.out).1
                rw [hl7_2] at HO_7
                (try simp only [hl7_2])
                cases gk with
                | zero => exact absurd HA.out (by simp [tabularylaw04_CrcNotices.l0])
                | succ k2 =>
                  have H := HA.out
                  clear HA
                  simp only [tabularylaw04_CrcNotices.l0] at H
                  by_cases c22 : x12_2 < 32
                  · rw [if_pos c22] at H
                    have c22b0 : decide (x12_2 < 32) = true := decide_eq_true c22
                    clear c22
                    by_cases c23 : 0 ≤ x12_2
                    · rw [if_pos c23] at H
                      have c23b0 := eq_true c23
                      have c23b1 : decide (0 ≤ x12_2) = true := decide_eq_true c23
                      clear c23
                      obtain ⟨ji24, hji24⟩ : ∃ j_ : Int, (shr .u32 a2 x12_2) = j_ := ⟨_, rfl⟩
                      replace H : (if (Go.bits .and .u32 (ji24) 1) = 1 then (if 0 ≤ (wrap64 (Int.tdiv (wrap64 ((Int.tmod (wrap64 ((Int.tmod a1 (wrap64 ((wrap64 (8 * (t126.length : Int))) - 31))) + (wrap64 ((wrap64 (8 * (t126.length : Int))) - 31)))) (wrap64 ((wrap64 (8 * (t126.length : Int))) - 31))) + x12_2)) 8)) then (if (wrap64 (Int.tdiv (wrap64 ((Int.tmod (wrap64 ((Int.tmod a1 (wrap64 ((wrap64 (8 * (t126.length : Int))) - 31))) + (wrap64 ((wrap64 (8 * (t126.length : Int))) - 31)))) (wrap64 ((wrap64 (8 * (t126.length : Int))) - 31))) + x12_2)) 8)) < (x7_2.length : Int) then (if 0 ≤ (Int.tmod (wrap64 ((Int.tmod (wrap64 ((Int.tmod a1 (wrap64 ((wrap64 (8 * (t126.length : Int))) - 31))) + (wrap64 ((wrap64 (8 * (t126.length : Int))) - 31)))) (wrap64 ((wrap64 (8 * (t126.length : Int))) - 31))) + x12_2)) 8) then (tabularylaw04_CrcNotices.l0 k2 a2 (x7_2.set ((wrap64 (Int.tdiv (wrap64 ((Int.tmod (wrap64 ((Int.tmod a1 (wrap64 ((wrap64 (8 * (t126.length : Int))) - 31))) + (wrap64 ((wrap64 (8 * (t126.length : Int))) - 31)))) (wrap64 ((wrap64 (8 * (t126.length : Int))) - 31))) + x12_2)) 8)) : Int).toNat (Go.bits .xor .u8 (rd x7_2 (wrap64 (Int.tdiv (wrap64 ((Int.tmod (wrap64 ((Int.tmod a1 (wrap64 ((wrap64 (8 * (t126.length : Int))) - 31))) + (wrap64 ((wrap64 (8 * (t126.length : Int))) - 31)))) (wrap64 ((wrap64 (8 * (t126.length : Int))) - 31))) + x12_2)) 8))) (shl .u8 1 (Int.tmod (wrap64 ((Int.tmod (wrap64 ((Int.tmod a1 (wrap64 ((wrap64 (8 * (t126.length : Int))) - 31))) + (wrap64 ((wrap64 (8 * (t126.length : Int))) - 31)))) (wrap64 ((wrap64 (8 * (t126.length : Int))) - 31))) + x12_2)) 8)))) (Int.tmod (wrap64 ((Int.tmod a1 (wrap64 ((wrap64 (8 * (t126.length : Int))) - 31))) + (wrap64 ((wrap64 (8 * (t126.length : Int))) - 31)))) (wrap64 ((wrap64 (8 * (t126.length : Int))) - 31))) (wrap64 (x12_2 + 1))) else (none)) else (none)) else (none)) else (tabularylaw04_CrcNotices.l0 k2 a2 x7_2 (Int.tmod (wrap64 ((Int.tmod a1 (wrap64 ((wrap64 (8 * (t126.length : Int))) - 31))) + (wrap64 ((wrap64 (8 * (t126.length : Int))) - 31)))) (wrap64 ((wrap64 (8 * (t126.length : Int))) - 31))) (wrap64 (x12_2 + 1)))) = some r := by first | (rw [hji24] at H; exact H) | (simp only [hji24] at H ⊢; exact H)
                      have hji24_ : (a2 / 2 ^ min x12_2.toNat 32) = ji24 := hji24
                      have hji24z : x12_2 ≤ 32 → (a2 / 2 ^ x12_2.toNat) = ji24 := shr_small hji24
                      by_cases c25 : (Go.bits .and .u32 (ji24) 1) = 1
                      · rw [if_pos c25] at H
                        have c25b0 : ((Go.bits .and .u32 (ji24) 1) == 1) = true := beq_iff_eq.mpr c25
                        have c25b1 : ((Go.bits .and .u32 (ji24) 1) != 1) = false := bne_eq_false_iff_eq.mpr c25
                        clear c25
                        obtain ⟨ji26, hji26⟩ : ∃ j_ : Int, (wrap64 (Int.tdiv (wrap64 ((Int.tmod (wrap64 ((Int.tmod a1 (wrap64 ((wrap64 (8 * (t126.length : Int))) - 31))) + (wrap64 ((wrap64 (8 * (t126.length : Int))) - 31)))) (wrap64 ((wrap64 (8 * (t126.length : Int))) - 31))) + x12_2)) 8)) = j_ := ⟨_, rfl⟩
                        replace H : (if 0 ≤ (ji26) then (if (ji26) < (x7_2.length : Int) then (if 0 ≤ (Int.tmod (wrap64 ((Int.tmod (wrap64 ((Int.tmod a1 (wrap64 ((wrap64 (8 * (t126.length : Int))) - 31))) + (wrap64 ((wrap64 (8 * (t126.length : Int))) - 31)))) (wrap64 ((wrap64 (8 * (t126.length : Int))) - 31))) + x12_2)) 8) then (tabularylaw04_CrcNotices.l0 k2 a2 (x7_2.set ((ji26) : Int).toNat (Go.bits .xor .u8 (rd x7_2 (ji26)) (shl .u8 1 (Int.tmod (wrap64 ((Int.tmod (wrap64 ((Int.tmod a1 (wrap64 ((wrap64 (8 * (t126.length : Int))) - 31))) + (wrap64 ((wrap64 (8 * (t126.length : Int))) - 31)))) (wrap64 ((wrap64 (8 * (t126.length : Int))) - 31))) + x12_2)) 8)))) (Int.tmod (wrap64 ((Int.tmod a1 (wrap64 ((wrap64 (8 * (t126.length : Int))) - 31))) + (wrap64 ((wrap64 (8 * (t126.length : Int))) - 31)))) (wrap64 ((wrap64 (8 * (t126.length : Int))) - 31))) (wrap64 (x12_2 + 1))) else (none)) else (none)) else (none)) = some r := by first | (rw [hji26] at H; exact H) | (simp only [hji26] at H ⊢; exact H)
                        have hji26w : (IntKind.i64.wrap (Int.tdiv (wrap64 ((Int.tmod (wrap64 ((Int.tmod a1 (wrap64 ((wrap64 (8 * (t126.length : Int))) - 31))) + (wrap64 ((wrap64 (8 * (t126.length : Int))) - 31)))) (wrap64 ((wrap64 (8 * (t126.length : Int))) - 31))) + x12_2)) 8)) = ji26 := (i64_w _).trans hji26
                        by_cases c27 : 0 ≤ (ji26)
                        · rw [if_pos c27] at H
                          have c27b0 : decide (0 ≤ (ji26)) = true := decide_eq_true c27
                          clear c27
                          by_cases c28 : (ji26) < (x7_2.length : Int)
                          · rw [if_pos c28] at H
                            have c28b0 : decide ((ji26) < (x7_2.length : Int)) = true := decide_eq_true c28
                            clear c28
                            obtain ⟨ji29, hji29⟩ : ∃ j_ : Int, (Int.tmod (wrap64 ((Int.tmod (wrap64 ((Int.tmod a1 (wrap64 ((wrap64 (8 * (t126.length : Int))) - 31))) + (wrap64 ((wrap64 (8 * (t126.length : Int))) - 31)))) (wrap64 ((wrap64 (8 * (t126.length : Int))) - 31))) + x12_2)) 8) = j_ := ⟨_, rfl⟩
                            replace H : (if 0 ≤ (ji29) then (tabularylaw04_CrcNotices.l0 k2 a2 (x7_2.set ((ji26) : Int).toNat (Go.bits .xor .u8 (rd x7_2 (ji26)) (shl .u8 1 (ji29)))) (Int.tmod (wrap64 ((Int.tmod a1 (wrap64 ((wrap64 (8 * (t126.length : Int))) - 31))) + (wrap64 ((wrap64 (8 * (t126.length : Int))) - 31)))) (wrap64 ((wrap64 (8 * (t126.length : Int))) - 31))) (wrap64 (x12_2 + 1))) else (none)) = some r := by first | (rw [hji29] at H; exact H) | (simp only [hji29] at H ⊢; exact H)
                            by_cases c30 : 0 ≤ (ji29)
                            · rw [if_pos c30] at H
                              have c30b0 := eq_true c30
                              have c30b1 : decide (0 ≤ (ji29)) = true := decide_eq_true c30
                              clear c30
                              obtain ⟨ji31, hji31⟩ : ∃ j_ : Int, (shl .u8 1 (ji29)) = j_ := ⟨_, rfl⟩
                              replace H : (tabularylaw04_CrcNotices.l0 k2 a2 (x7_2.set ((ji26) : Int).toNat (Go.bits .xor .u8 (rd x7_2 (ji26)) (ji31))) (Int.tmod (wrap64 ((Int.tmod a1 (wrap64 ((wrap64 (8 * (t126.length : Int))) - 31))) + (wrap64 ((wrap64 (8 * (t126.length : Int))) - 31)))) (wrap64 ((wrap64 (8 * (t126.length : Int))) - 31))) (wrap64 (x12_2 + 1))) = some r := by first | (rw [hji31] at H; exact H) | (simp only [hji31] at H ⊢; exact H)
                              have hji31_ : (IntKind.u8.wrap (1 * 2 ^ min (ji29).toNat 8)) = ji31 := hji31
                              have hji31z : (ji29) ≤ 8 → (IntKind.u8.wrap (1 * 2 ^ (ji29).toNat)) = ji31 := shl_small hji31
                              have hji31u : (IntKind.u8.wrap (2 ^ min (ji29).toNat 8)) = ji31 := by have h_ := hji31_; rw [Int.one_mul] at h_; exact h_
                              have hji31v : (ji29) ≤ 8 → (IntKind.u8.wrap (2 ^ (ji29).toNat)) = ji31 := fun hle_ => by have h_ := hji31z hle_; rw [Int.one_mul] at h_; exact h_
                              obtain ⟨y135, hy135⟩ : ∃ y_ : List Int, y_ = (x7_2.set ((ji26) : Int).toNat (Go.bits .xor .u8 (rd x7_2 (ji26)) (ji31))) := ⟨_, rfl⟩
                              replace H : (tabularylaw04_CrcNotices.l0 k2 a2 y135 (Int.tmod (wrap64 ((Int.tmod a1 (wrap64 ((wrap64 (8 * (t126.length : Int))) - 31))) + (wrap64 ((wrap64 (8 * (t126.length : Int))) - 31)))) (wrap64 ((wrap64 (8 * (t126.length : Int))) - 31))) (wrap64 (x12_2 + 1))) = some r := by first | (rw [hy135]; with_reducible exact H) | (have H2_ := (Option.bind_some _ _).symm.trans H; rw [hy135]; with_reducible exact H2_) | (have H2_ := (Option.bind_some _ _).symm.trans H; with_reducible exact H2_) | with_reducible exact H | (rw [hy135]; exact H) | exact H
                              have Ny135 := Aside0.mk hy135
                              clear hy135
                              have H' := Aside0.mk H
                              clear H
                              try go_wp2
                              have n0_ := Aside0.mk (Kd.R_drew HO_7.out)
                              have n1_ := Aside0.mk (below_drew1 HB.out)
                              clear HO_7
                              clear HB
                              have HO_7 := n0_
                              have HB := n1_
                              clear n0_ n1_
                              have p134 : 0 ≤ ((ji26) : Int) := of_decide_eq_true (by first | (with_reducible assumption) | assumption)
                              have q134 : (ji26) < (x7_2.length : Int) := of_decide_eq_true (by first | (with_reducible assumption) | assumption)
                              obtain ⟨ad134, e134, hx134_0⟩ := Kd.at_int (Kd.R_reads' HO_7.out).2.2 (ji26) p134 q134
                              cases e134
                              replace p134 := eq_true p134
                              replace q134 := eq_true q134
                              have p32 : 0 ≤ ((ji26) : Int) := of_decide_eq_true (by first | (with_reducible assumption) | assumption)
                              have q32 : ((ji26) : Int) < ((x7_2.length : Int) : Int) := of_decide_eq_true (by first | (with_reducible assumption) | assumption)
                              obtain ⟨go32, co32, eo32, gb32, gl32, cl32, HG32⟩ := Kd.R_form HO_7.out (by omega)
                              (first | cases eo32 | (injection eo32 with ea_ en_ ec_; (first | subst ea_ | (injection ea_ with ea_; subst ea_)); subst ec_; clear en_))
                              have GB32 := Aside0.mk gb32
                              have GG32 := Aside0.mk HG32
                              clear gb32 gl32 HG32
                              (first | simp only [add_plain] at hx134_0 | skip)
                              obtain ⟨hx32_0, hf32_0⟩ := Kd.R_celln 0 HO_7.out ((ji26) : Int) p32 q32
                              replace p32 := eq_true p32
                              replace q32 := eq_true q32
                              have HP34 := Kd.R_putn HO_7.out ((ji26) : Int) (Go.bits .xor .u8 (rd x7_2 (ji26)) (ji31))
                              rw [← Ny135.out] at HP34
                              have HQ34 := Aside0.mk HP34
                              clear HP34
                              refine start_ (n := 20) (S := fun w' => w'.cell? ⟨go32, ((ji26)).toNat, none⟩ = some (.int .u8 (rd x7_2 (ji26)))) (ds := [19]) #[false, false, false, false, false, false, false, false, false, false, false, false, false, false, false, false, false, false, false, false] (by kernel_rfl) rfl rfl (hx134_0) (fun hHeld => ?_); refine with_tabW tabularylaw04_CrcNotices.tab15 tabularylaw04_CrcNotices.bits15 (fun HT_ HW_ => ?_)
                              generalize wr.drew = w33 at HO_7 HB GG32 HQ34 hf32_0 hx134_0 hx32_0 hHeld ⊢
                              refine pure_ (i := 0) (N := some 66) (v := ?_) (a' := ?_) #[true, false, false, false, false, false, false, false, false, false, false, false, false, false, false, false, false, false, false, false] rfl rfl (any_of HT_.out (by kernel_rfl)) (fun _ _ _ h => h) (Or.inl ⟨by rfl, ?_⟩) ?_ ?_
                              rotate_left
                              · intro w'
                                go_simp
                                (first | (with_reducible rfl) | ((try simp only [← hl7_2]); (try simp only [hji24]); (try simp only [hji26]); (try simp only [hji29]); (try simp only [hji31]); (try simp only [*]); (try simp only [and_self, if_true]); (try go_simp); (try simp only [*]); (with_reducible rfl)))
                              rotate_left
                              · simp only [Act.put, List.setIfInBounds_toArray, List.set_cons_zero, List.set_cons_succ, i64_w, i32_w]
                                rfl
                              refine pure_ (i := 1) (N := some 67) (v := ?_) (a' := ?_) #[true, true, false, false, false, false, false, false, false, false, false, false, false, false, false, false, false, false, false, false] rfl rfl (any_of HT_.out (by kernel_rfl)) (fun _ _ _ h => h) (Or.inl ⟨by rfl, ?_⟩) ?_ ?_
                              rotate_left
                              · intro w'
                                go_simp
                                (first | (with_reducible rfl) | ((try simp only [← hl7_2]); (try simp only [hji24]); (try simp only [hji26]); (try simp only [hji29]); (try simp only [hji31]); (try simp only [*]); (try simp only [and_self, if_true]); (try go_simp); (try simp only [*]); (with_reducible rfl)))
                              rotate_left
                              · simp only [Act.put, List.setIfInBounds_toArray, List.set_cons_zero, List.set_cons_succ, i64_w, i32_w]
                                rfl
                              refine pure_ (i := 2) (N := some 68) (v := ?_) (a' := ?_) #[true, true, true, false, false, false, false, false, false, false, false, false, false, false, false, false, false, false, false, false] rfl rfl (any_of HT_.out (by kernel_rfl)) (fun _ _ _ h => h) (Or.inl ⟨by rfl, ?_⟩) ?_ ?_
                              rotate_left
                              · intro w'
                                go_simp
                                (first | (with_reducible rfl) | ((try simp only [← hl7_2]); (try simp only [hji24]); (try simp only [hji26]); (try simp only [hji29]); (try simp only [hji31]); (try simp only [*]); (try simp only [and_self, if_true]); (try go_simp); (try simp only [*]); (with_reducible rfl)))
                              rotate_left
                              · simp only [Act.put, List.setIfInBounds_toArray, List.set_cons_zero, List.set_cons_succ, i64_w, i32_w]
                                rfl
                              refine pure_ (i := 3) (N := some 69) (v := ?_) (a' := ?_) #[true, true, true, true, false, false, false, false, false, false, false, false, false, false, false, false, false, false, false, false] rfl rfl (any_of HT_.out (by kernel_rfl)) (fun _ _ _ h => h) (Or.inl ⟨by rfl, ?_⟩) ?_ ?_
                              rotate_left
                              · intro w'
                                go_simp
                                (first | (with_reducible rfl) | ((try simp only [← hl7_2]); (try simp only [hji24]); (try simp only [hji26]); (try simp only [hji29]); (try simp only [hji31]); (try simp only [*]); (try simp only [and_self, if_true]); (try go_simp); (try simp only [*]); (with_reducible rfl)))
                              rotate_left
                              · simp only [Act.put, List.setIfInBounds_toArray, List.set_cons_zero, List.set_cons_succ, i64_w, i32_w]
                                rfl
                              refine pure_ (i := 4) (N := some 70) (v := ?_) (a' := ?_) #[true, true, true, true, true, false, false, false, false, false, false, false, false, false, false, false, false, false, false, false] rfl rfl (any_of HT_.out (by kernel_rfl)) (fun _ _ _ h => h) (Or.inl ⟨by rfl, ?_⟩) ?_ ?_
                              rotate_left
                              · intro w'
                                go_simp
                                (first | (with_reducible rfl) | ((try simp only [← hl7_2]); (try simp only [hji24]); (try simp only [hji26]); (try simp only [hji29]); (try simp only [hji31]); (try simp only [*]); (try simp only [and_self, if_true]); (try go_simp); (try simp only [*]); (with_reducible rfl)))
                              rotate_left
                              · simp only [Act.put, List.setIfInBounds_toArray, List.set_cons_zero, List.set_cons_succ, i64_w, i32_w]
                                rfl
                              refine pure_ (i := 5) (N := some 71) (v := ?_) (a' := ?_) #[true, true, true, true, true, true, false, false, false, false, false, false, false, false, false, false, false, false, false, false] rfl rfl (any_of HT_.out (by kernel_rfl)) (fun _ _ _ h => h) (Or.inl ⟨by rfl, ?_⟩) ?_ ?_
                              rotate_left
                              · intro w'
                                go_simp
                                (first | (with_reducible rfl) | ((try simp only [← hl7_2]); (try simp only [hji24]); (try simp only [hji26]); (try simp only [hji29]); (try simp only [hji31]); (try simp only [*]); (try simp only [and_self, if_true]); (try go_simp); (try simp only [*]); (with_reducible rfl)))
                              rotate_left
                              · simp only [Act.put, List.setIfInBounds_toArray, List.set_cons_zero, List.set_cons_succ, i64_w, i32_w]
                                rfl
                              refine pure_ (i := 6) (N := some 72) (v := ?_) (a' := ?_) #[true, true, true, true, true, true, true, false, false, false, false, false, false, false, false, false, false, false, false, false] rfl rfl (any_of HT_.out (by kernel_rfl)) (fun _ _ _ h => h) (Or.inl ⟨by rfl, ?_⟩) ?_ ?_
                              rotate_left
                              · intro w'
                                go_simp
                                (first | (with_reducible rfl) | ((try simp only [← hl7_2]); (try simp only [hji24]); (try simp only [hji26]); (try simp only [hji29]); (try simp only [hji31]); (try simp only [*]); (try simp only [and_self, if_true]); (try go_simp); (try simp only [*]); (with_reducible rfl)))
                              rotate_left
                              · simp only [Act.put, List.setIfInBounds_toArray, List.set_cons_zero, List.set_cons_succ, i64_w, i32_w]
                                rfl
                              refine pure_ (i := 7) (N := some 73) (v := ?_) (a' := ?_) #[true, true, true, true, true, true, true, true, false, false, false, false, false, false, false, false, false, false, false, false] rfl rfl (any_of HT_.out (by kernel_rfl)) (fun _ _ _ h => h) (Or.inl ⟨by rfl, ?_⟩) ?_ ?_
                              rotate_left
                              · intro w'
                                go_simp
                                (first | (with_reducible rfl) | ((try simp only [← hl7_2]); (try simp only [hji24]); (try simp only [hji26]); (try simp only [hji29]); (try simp only [hji31]); (try simp only [*]); (try simp only [and_self, if_true]); (try go_simp); (try simp only [*]); (with_reducible rfl)))
                              rotate_left
                              · simp only [Act.put, List.setIfInBounds_toArray, List.set_cons_zero, List.set_cons_succ, i64_w, i32_w]
                                rfl
                              refine pure_ (i := 8) (N := some 74) (v := ?_) (a' := ?_) #[true, true, true, true, true, true, true, true, true, false, false, false, false, false, false, false, false, false, false, false] rfl rfl (any_of HT_.out (by kernel_rfl)) (fun _ _ _ h => h) (Or.inl ⟨by rfl, ?_⟩) ?_ ?_
                              rotate_left
                              · intro w'
                                go_simp
                                (first | (with_reducible rfl) | ((try simp only [← hl7_2]); (try simp only [hji24]); (try simp only [hji26]); (try simp only [hji29]); (try simp only [hji31]); (try simp only [*]); (try simp only [and_self, if_true]); (try go_simp); (try simp only [*]); (with_reducible rfl)))
                              rotate_left
                              · simp only [Act.put, List.setIfInBounds_toArray, List.set_cons_zero, List.set_cons_succ, i64_w, i32_w]
                                rfl
                              refine pure_ (i := 9) (N := some 75) (v := ?_) (a' := ?_) #[true, true, true, true, true, true, true, true, true, true, false, false, false, false, false, false, false, false, false, false] rfl rfl (any_of HT_.out (by kernel_rfl)) (fun _ _ _ h => h) (Or.inl ⟨by rfl, ?_⟩) ?_ ?_
                              rotate_left
                              · intro w'
                                go_simp
                                (first | (with_reducible rfl) | ((try simp only [← hl7_2]); (try simp only [hji24]); (try simp only [hji26]); (try simp only [hji29]); (try simp only [hji31]); (try simp only [*]); (try simp only [and_self, if_true]); (try go_simp); (try simp only [*]); (with_reducible rfl)))
                              rotate_left
                              · simp only [Act.put, List.setIfInBounds_toArray, List.set_cons_zero, List.set_cons_succ, i64_w, i32_w]
                                rfl
                              refine pure_ (i := 10) (N := some 76) (v := ?_) (a' := ?_) #[true, true, true, true, true, true, true, true, true, true, true, false, false, false, false, false, false, false, false, false] rfl rfl (any_of HT_.out (by kernel_rfl)) (fun _ _ _ h => h) (Or.inl ⟨by rfl, ?_⟩) ?_ ?_
                              rotate_left
                              · intro w'
                                go_simp
                                (first | (with_reducible rfl) | ((try simp only [← hl7_2]); (try simp only [hji24]); (try simp only [hji26]); (try simp only [hji29]); (try simp only [hji31]); (try simp only [*]); (try simp only [and_self, if_true]); (try go_simp); (try simp only [*]); (with_reducible rfl)))
                              rotate_left
                              · simp only [Act.put, List.setIfInBounds_toArray, List.set_cons_zero, List.set_cons_succ, i64_w, i32_w]
                                rfl
                              refine pure_ (i := 12) (N := some 78) (v := ?_) (a' := ?_) #[true, true, true, true, true, true, true, true, true, true, true, false, true, false, false, false, false, false, false, false] rfl rfl (any_of HT_.out (by kernel_rfl)) (fun _ _ _ h => h) (Or.inl ⟨by rfl, ?_⟩) ?_ ?_
                              rotate_left
                              · intro w'
                                go_simp
                                (first | (with_reducible rfl) | ((try simp only [← hl7_2]); (try simp only [hji24]); (try simp only [hji26]); (try simp only [hji29]); (try simp only [hji31]); (try simp only [*]); (try simp only [and_self, if_true]); (try go_simp); (try simp only [*]); (with_reducible rfl)))
                              rotate_left
                              · simp only [Act.put, List.setIfInBounds_toArray, List.set_cons_zero, List.set_cons_succ, i64_w, i32_w]
                                rfl
                              refine pure_ (i := 13) (N := some 79) (v := ?_) (a' := ?_) #[true, true, true, true, true, true, true, true, true, true, true, false, true, true, false, false, false, false, false, false] rfl rfl (any_of HT_.out (by kernel_rfl)) (fun _ _ _ h => h) (Or.inl ⟨by rfl, ?_⟩) ?_ ?_
                              rotate_left
                              · intro w'
                                go_simp
                                (first | (with_reducible rfl) | ((try simp only [← hl7_2]); (try simp only [hji24]); (try simp only [hji26]); (try simp only [hji29]); (try simp only [hji31]); (try simp only [*]); (try simp only [and_self, if_true]); (try go_simp); (try simp only [*]); (with_reducible rfl)))
                              rotate_left
                              · simp only [Act.put, List.setIfInBounds_toArray, List.set_cons_zero, List.set_cons_succ, i64_w, i32_w]
                                rfl
                              refine pure_ (i := 14) (N := some 80) (v := ?_) (a' := ?_) #[true, true, true, true, true, true, true, true, true, true, true, false, true, true, true, false, false, false, false, false] rfl rfl (any_of HT_.out (by kernel_rfl)) (fun _ _ _ h => h) (Or.inl ⟨by rfl, ?_⟩) ?_ ?_
                              rotate_left
                              · intro w'
                                go_simp
                                (first | (with_reducible rfl) | ((try simp only [← hl7_2]); (try simp only [hji24]); (try simp only [hji26]); (try simp only [hji29]); (try simp only [hji31]); (try simp only [*]); (try simp only [and_self, if_true]); (try go_simp); (try simp only [*]); (with_reducible rfl)))
                              rotate_left
                              · simp only [Act.put, List.setIfInBounds_toArray, List.set_cons_zero, List.set_cons_succ, i64_w, i32_w]
                                rfl
                              refine pure_ (i := 15) (N := some 81) (v := ?_) (a' := ?_) #[true, true, true, true, true, true, true, true, true, true, true, false, true, true, true, true, false, false, false, false] rfl rfl (any_of HT_.out (by kernel_rfl)) (fun _ _ _ h => h) (Or.inl ⟨by rfl, ?_⟩) ?_ ?_
                              rotate_left
                              · intro w'
                                go_simp
                                (first | (with_reducible rfl) | ((try simp only [← hl7_2]); (try simp only [hji24]); (try simp only [hji26]); (try simp only [hji29]); (try simp only [hji31]); (try simp only [*]); (try simp only [and_self, if_true]); (try go_simp); (try simp only [*]); (with_reducible rfl)))
                              rotate_left
                              · simp only [Act.put, List.setIfInBounds_toArray, List.set_cons_zero, List.set_cons_succ, i64_w, i32_w]
                                rfl
                              refine pure_ (i := 16) (N := some 82) (v := ?_) (a' := ?_) #[true, true, true, true, true, true, true, true, true, true, true, false, true, true, true, true, true, false, false, false] rfl rfl (any_of HT_.out (by kernel_rfl)) (fun _ _ _ h => h) (Or.inl ⟨by rfl, ?_⟩) ?_ ?_
                              rotate_left
                              · intro w'
                                go_simp
                                (first | (with_reducible rfl) | ((try simp only [← hl7_2]); (try simp only [hji24]); (try simp only [hji26]); (try simp only [hji29]); (try simp only [hji31]); (try simp only [*]); (try simp only [and_self, if_true]); (try go_simp); (try simp only [*]); (with_reducible rfl)))
                              rotate_left
                              · simp only [Act.put, List.setIfInBounds_toArray, List.set_cons_zero, List.set_cons_succ, i64_w, i32_w]
                                rfl
                              refine take_ (i := 11) (N := some 77) (v := ?_) (a' := ?_) #[true, true, true, true, true, true, true, true, true, true, true, true, true, true, true, true, true, false, false, false] rfl rfl (take_ofW HT_.out HW_.out (by kernel_rfl)) (fun _ _ _ h => h) (Or.inl ⟨by rfl, ?_⟩) hHeld ?_ ?_
                              rotate_left
                              · intro w' s0
                                go_simp
                                (first | (with_reducible rfl) | ((try simp only [← hl7_2]); (try simp only [hji24]); (try simp only [hji26]); (try simp only [hji29]); (try simp only [hji31]); (try simp only [*]); (try simp only [and_self, if_true]); (try go_simp); (try simp only [*]); (with_reducible rfl)))
                              rotate_left
                              · simp only [Act.put, List.setIfInBounds_toArray, List.set_cons_zero, List.set_cons_succ, i64_w, i32_w]
                                rfl
                              refine pure_ (i := 17) (N := some 83) (v := ?_) (a' := ?_) #[true, true, true, true, true, true, true, true, true, true, true, true, true, true, true, true, true, true, false, false] rfl rfl (any_of HT_.out (by kernel_rfl)) (fun _ _ _ h => h) (Or.inl ⟨by rfl, ?_⟩) ?_ ?_
                              rotate_left
                              · intro w'
                                go_simp
                                (first | (with_reducible rfl) | ((try simp only [← hl7_2]); (try simp only [hji24]); (try simp only [hji26]); (try simp only [hji29]); (try simp only [hji31]); (try simp only [*]); (try simp only [and_self, if_true]); (try go_simp); (try simp only [*]); (with_reducible rfl)))
                              rotate_left
                              · simp only [Act.put, List.setIfInBounds_toArray, List.set_cons_zero, List.set_cons_succ, i64_w, i32_w]
                                rfl
                              refine pure_ (i := 18) (N := some 84) (v := ?_) (a' := ?_) #[true, true, true, true, true, true, true, true, true, true, true, true, true, true, true, true, true, true, true, false] rfl rfl (any_of HT_.out (by kernel_rfl)) (fun _ _ _ h => h) (Or.inl ⟨by rfl, ?_⟩) ?_ ?_
                              rotate_left
                              · intro w'
                                go_simp
                                (first | (with_reducible rfl) | ((try simp only [← hl7_2]); (try simp only [hji24]); (try simp only [hji26]); (try simp only [hji29]); (try simp only [hji31]); (try simp only [*]); (try simp only [and_self, if_true]); (try go_simp); (try simp only [*]); (with_reducible rfl)))
                              rotate_left
                              · simp only [Act.put, List.setIfInBounds_toArray, List.set_cons_zero, List.set_cons_succ, i64_w, i32_w]
                                rfl
                              refine last_ (i := 19) (N := none) #[true, true, true, true, true, true, true, true, true, true, true, true, true, true, true, true, true, true, true, true] rfl rfl (one_of HT_.out (by kernel_rfl)) (by decide) (fun K hK => ?_)
                              refine skip_ (w1 := ?_) (by rfl) rfl ?_ ?_
                              rotate_left
                              · go_simp
                                rfl
                              refine hK.out _ _ ?_
                              clear hK K
                              refine done_ (done_of HT_.out (by kernel_rfl)) ?_
                              try go_wp2
                              (try simp only [← hl7_2])
                              go_roundg k2
                              case measure => have := HJ8.out; have := HK2.out; omega
                              case rel => exact ⟨(y135), (wrap64 (x12_2 + 1)), (by first | rfl | (simp; done) | (simp [*]; done)), H', ⟨by have := HJ8.out; have := HK2.out; omega⟩, ⟨by (try simp only [hl7_2]); (with_reducible repeat (first | apply Kd.R_alloc | apply Kd.R_drewN | apply Kd.R_drew)); exact HQ34.out⟩, ⟨by repeat (first | (with_reducible first | exact HB.out | apply below_alloc | apply pw_below_drewN | apply below_drew1 | refine below_set ?_ GB32.out) | exact HB.out)⟩⟩
                            · rw [if_neg c30] at H
                              exact absurd H (by simp)
                          · rw [if_neg c28] at H
                            exact absurd H (by simp)
                        · rw [if_neg c27] at H
                          exact absurd H (by simp)
                      · rw [if_neg c25] at H
                        have c25b0 : ((Go.bits .and .u32 (ji24) 1) == 1) = false := beq_eq_false_iff_ne.mpr c25
                        have c25b1 : ((Go.bits .and .u32 (ji24) 1) != 1) = true := bne_iff_ne.mpr c25
                        have H' := Aside0.mk H
                        clear H
                        go_wp2
                        (try simp only [← hl7_2])
                        go_roundg k2
                        case measure => have := HJ8.out; have := HK2.out; omega
                        case rel => exact ⟨(x7_2), (wrap64 (x12_2 + 1)), (by first | rfl | (simp; done) | (simp [*]; done)), H', ⟨by have := HJ8.out; have := HK2.out; omega⟩, ⟨by (try simp only [hl7_2]); (with_reducible repeat (first | apply Kd.R_alloc | apply Kd.R_drewN | apply Kd.R_drew)); exact HO_7.out⟩, ⟨by repeat (first | (with_reducible first | exact HB.out | apply below_alloc | apply pw_below_drewN | apply below_drew1) | exact HB.out)⟩⟩
                    · rw [if_neg c23] at H
                      exact absurd H (by simp)
                  · rw [if_neg c22] at H
                    have c22b0 : decide (x12_2 < 32) = false := decide_eq_false c22
                    clear c22
                    replace H := Option.bind_eq_some_iff.mp H
                    obtain ⟨⟨t136, t137⟩, A350, H⟩ := H
                    replace H : (if t137 = true then (some false) else (if (t136.length : Int) = 0 then ((tabularylaw04_wakes.f).bind fun t140 => (some t140)) else (some false))) = some r := H
                    have A35 := Aside0.mk A350
                    clear A350
                    by_cases c36 : t137 = true
                    · subst c36
                      have H1 : (some false) = some r := by rw [if_pos rfl] at H; exact H
                      clear H
                      have H := H1
                      clear H1
                      obtain rfl := Option.some.inj H
                      go_wp2_with (first | ((with_reducible refine gate_callee (f := 15) rfl ?_); refine goesL_ (some 87) rfl rfl Try.func15 (by kernel_rfl) rfl #[.slice Ao11 x7_2.length co11] rfl (by (try simp only [List.map_toArray, List.map_cons, List.map_nil]); first | done | rfl | (simp only [List.length_drop, List.length_take]; rfl)) ?_; (with_reducible refine (crc_Open.calls k2 _ _ x7_2 t136 true _ ?side1 ?side2 A35.out).mono ?_); (case side1 => repeat (first | exact (Kd.R_reads' HO_7.out).2.2 | (with_reducible refine Kd.C_alloc ?_ _) | (with_reducible refine Kd.C_drewN ?_ _) | (with_reducible refine Kd.C_drew ?_))); (case side2 => exact (Kd.R_reads' HO_7.out).2.1); rintro e w37 ⟨v138, rfl, ho0, hb⟩; refine ⟨_, rfl, ?_⟩; have n0_ := Aside0.mk (Kd.R_elder' (by (with_reducible repeat (first | apply Kd.R_alloc | apply Kd.R_drewN | apply Kd.R_drew)); exact HO_7.out) (Kd.R_base ho0) hb); have n1_ := Aside0.mk (Kd.R_lower (Kd.R_new' ho0 (Kd.R_lt (by (with_reducible repeat (first | apply Kd.R_alloc | apply Kd.R_drewN | apply Kd.R_drew)); exact HO_7.out))) (below_size (by repeat (first | (with_reducible first | exact HB.out | apply below_alloc | apply pw_below_drewN | apply below_drew1) | exact HB.out)))); have n2_ := Aside0.mk (below_step (by repeat (first | (with_reducible first | exact HB.out | apply below_alloc | apply pw_below_drewN | apply below_drew1) | exact HB.out)) hb); clear HO_7; clear HB; have HO_7 := n0_; have HO139 := n1_; have HB := n2_; clear n0_ n1_ n2_; (try clear hb); (try clear hb2); (try clear hk); (try clear hi); (try clear ho0)))
                      go_ret
                      exact ⟨by first | rfl | (simp [errW_none, errW_some] <;> rfl) | (simp [*, errW_none, errW_some] <;> rfl), by repeat (first | (with_reducible first | exact HB.out | apply below_alloc | apply pw_below_drewN | apply below_drew1) | exact HB.out)⟩
                    · replace c36 := Bool.eq_false_iff.mpr c36
                      subst c36
                      have H1 : (if (t136.length : Int) = 0 then ((tabularylaw04_wakes.f).bind fun t140 => (some t140)) else (some false)) = some r := by rw [if_neg (show ¬ (false = true) by decide)] at H; exact H
                      clear H
                      have H := H1
                      clear H1
                      by_cases c38 : (t136.length : Int) = 0
                      · rw [if_pos c38] at H
                        have c38b0 : ((t136.length : Int) == 0) = true := beq_iff_eq.mpr c38
                        have c38b1 : ((t136.length : Int) != 0) = false := bne_eq_false_iff_eq.mpr c38
                        clear c38
                        replace H := Option.bind_eq_some_iff.mp H
                        obtain ⟨t140, A390, H⟩ := H
                        replace H : (some t140) = some r := H
                        have A39 := Aside0.mk A390
                        clear A390
                        obtain rfl := Option.some.inj H
                        go_wp2_with (first | ((with_reducible refine gate_callee (f := 15) rfl ?_); refine goesL_ (some 87) rfl rfl Try.func15 (by kernel_rfl) rfl #[.slice Ao11 x7_2.length co11] rfl (by (try simp only [List.map_toArray, List.map_cons, List.map_nil]); first | done | rfl | (simp only [List.length_drop, List.length_take]; rfl)) ?_; (with_reducible refine (crc_Open.calls k2 _ _ x7_2 t136 false _ ?side1 ?side2 A35.out).mono ?_); (case side1 => repeat (first | exact (Kd.R_reads' HO_7.out).2.2 | (with_reducible refine Kd.C_alloc ?_ _) | (with_reducible refine Kd.C_drewN ?_ _) | (with_reducible refine Kd.C_drew ?_))); (case side2 => exact (Kd.R_reads' HO_7.out).2.1); rintro e w40 ⟨v138, rfl, ho0, hb⟩; refine ⟨_, rfl, ?_⟩; have n0_ := Aside0.mk (Kd.R_elder' (by (with_reducible repeat (first | apply Kd.R_alloc | apply Kd.R_drewN | apply Kd.R_drew)); exact HO_7.out) (Kd.R_base ho0) hb); have n1_ := Aside0.mk (Kd.R_lower (Kd.R_new' ho0 (Kd.R_lt (by (with_reducible repeat (first | apply Kd.R_alloc | apply Kd.R_drewN | apply Kd.R_drew)); exact HO_7.out))) (below_size (by repeat (first | (with_reducible first | exact HB.out | apply below_alloc | apply pw_below_drewN | apply below_drew1) | exact HB.out)))); have n2_ := Aside0.mk (below_step (by repeat (first | (with_reducible first | exact HB.out | apply below_alloc | apply pw_below_drewN | apply below_drew1) | exact HB.out)) hb); clear HO_7; clear HB; have HO_7 := n0_; have HO139 := n1_; have HB := n2_; clear n0_ n1_ n2_; (try clear hb); (try clear hb2); (try clear hk); (try clear hi); (try clear ho0); obtain ⟨Ao41, co41, eo41⟩ := Kd.R_slice HO139.out; subst eo41) | (go_at_call 9; (with_reducible refine (tabularylaw04_wakes.calls  t140 _ A39.out).mono ?_); rintro e w42 ⟨rfl, hb⟩; have n0_ := Aside0.mk (Kd.R_below (by (with_reducible repeat (first | apply Kd.R_alloc | apply Kd.R_drewN | apply Kd.R_drew)); exact HO_7.out) hb); have n1_ := Aside0.mk (Kd.R_below (by (with_reducible repeat (first | apply Kd.R_alloc | apply Kd.R_drewN | apply Kd.R_drew)); exact HO139.out) hb); have n2_ := Aside0.mk (below_step (by repeat (first | (with_reducible first | exact HB.out | apply below_alloc | apply pw_below_drewN | apply below_drew1) | exact HB.out)) hb); clear HO_7; clear HO139; clear HB; have HO_7 := n0_; have HO139 := n1_; have HB := n2_; clear n0_ n1_ n2_; (try clear hb); (try clear hb2); (try clear hk); (try clear hi)))
                        go_ret
                        exact ⟨by first | rfl | (simp [errW_none, errW_some] <;> rfl) | (simp [*, errW_none, errW_some] <;> rfl), by repeat (first | (with_reducible first | exact HB.out | apply below_alloc | apply pw_below_drewN | apply below_drew1) | exact HB.out)⟩
                      · rw [if_neg c38] at H
                        have c38b0 : ((t136.length : Int) == 0) = false := beq_eq_false_iff_ne.mpr c38
                        have c38b1 : ((t136.length : Int) != 0) = true := bne_iff_ne.mpr c38
                        have c38b2 : ¬ (t136 = []) := fun h_ => c38 (by rw [h_]; rfl)
                        obtain rfl := Option.some.inj H
                        go_wp2_with (first | ((with_reducible refine gate_callee (f := 15) rfl ?_); refine goesL_ (some 87) rfl rfl Try.func15 (by kernel_rfl) rfl #[.slice Ao11 x7_2.length co11] rfl (by (try simp only [List.map_toArray, List.map_cons, List.map_nil]); first | done | rfl | (simp only [List.length_drop, List.length_take]; rfl)) ?_; (with_reducible refine (crc_Open.calls k2 _ _ x7_2 t136 false _ ?side1 ?side2 A35.out).mono ?_); (case side1 => repeat (first | exact (Kd.R_reads' HO_7.out).2.2 | (with_reducible refine Kd.C_alloc ?_ _) | (with_reducible refine Kd.C_drewN ?_ _) | (with_reducible refine Kd.C_drew ?_))); (case side2 => exact (Kd.R_reads' HO_7.out).2.1); rintro e w43 ⟨v138, rfl, ho0, hb⟩; refine ⟨_, rfl, ?_⟩; have n0_ := Aside0.mk (Kd.R_elder' (by (with_reducible repeat (first | apply Kd.R_alloc | apply Kd.R_drewN | apply Kd.R_drew)); exact HO_7.out) (Kd.R_base ho0) hb); have n1_ := Aside0.mk (Kd.R_lower (Kd.R_new' ho0 (Kd.R_lt (by (with_reducible repeat (first | apply Kd.R_alloc | apply Kd.R_drewN | apply Kd.R_drew)); exact HO_7.out))) (below_size (by repeat (first | (with_reducible first | exact HB.out | apply below_alloc | apply pw_below_drewN | apply below_drew1) | exact HB.out)))); have n2_ := Aside0.mk (below_step (by repeat (first | (with_reducible first | exact HB.out | apply below_alloc | apply pw_below_drewN | apply below_drew1) | exact HB.out)) hb); clear HO_7; clear HB; have HO_7 := n0_; have HO139 := n1_; have HB := n2_; clear n0_ n1_ n2_; (try clear hb); (try clear hb2); (try clear hk); (try clear hi); (try clear ho0); obtain ⟨Ao44, co44, eo44⟩ := Kd.R_slice HO139.out; subst eo44))
                        go_ret
                        exact ⟨by first | rfl | (simp [errW_none, errW_some] <;> rfl) | (simp [*, errW_none, errW_some] <;> rfl), by repeat (first | (with_reducible first | exact HB.out | apply below_alloc | apply pw_below_drewN | apply below_drew1) | exact HB.out)⟩

/-- THE ONE PURE STATEMENT of tabularylaw04_CrcNotices: yours. -/
def tabularylaw04_CrcNotices.Pure : Prop := ∀ (l0 : List Int) (a1 : Int) (a2 : Int), l0.length ≤ maxLen → l0.length * 1 ≤ 140737488351232 → (∀ x ∈ l0, (Lit.int .u8 x).wf = true) → (Lit.int .i64 a1).wf = true → (Lit.int .u32 a2).wf = true → ∃ k, tabularylaw04_CrcNotices.f k l0 a1 a2 = some true
theorem tabularylaw04_CrcNotices.walk (P : tabularylaw04_CrcNotices.Pure) (a0 : Option Addr) (len0 cap0 : Nat) (z0 : List Int) (a1 : Int) (a2 : Int) (w : World) (w0 : (a0 = none ∧ len0 = 0 ∧ cap0 = 0 ∧ z0 = []) ∨ ∃ x, a0 = some x ∧ len0 ≤ cap0 ∧ cap0 ≤ maxLen ∧ z0.length = cap0 ∧ (∀ i, i < z0.length → w.cell? (x.add i) = some (.int .u8 (z0.getD i 0))) ∧ ∀ n ∈ z0, (Lit.int .u8 n).wf = true) (y0 : len0 * 1 ≤ 140737488351232) (w1 : (Lit.int .i64 a1).wf = true) (w2 : (Lit.int .u32 a2).wf = true) :
    Calls Try.prog 5 #[.slice a0 len0 cap0, .int .i64 a1, .int .u32 a2] w fun e w' => e = .returned (.bool true) ∧ Below w.heap.size w w' := by
  obtain ⟨l0, rfl, hr0, hm0, hw0, hc0⟩ := ReadsInt.ofRowC w0
  obtain ⟨k, h⟩ := P l0 a1 a2 hm0 y0 hw0 w1 w2
  refine (tabularylaw04_CrcNotices.calls k _ _ l0 a1 a2 true w (Kd.C_of_reads (d := (0 : Int)) (h1 := fun _ => rfl) hr0) hc0 h).mono ?_
  rintro e w' ⟨rfl, hd⟩
  exact ⟨rfl, hd⟩

end Go.Proofs.Ytfiklobfdacbbaa.PCrcNotices
