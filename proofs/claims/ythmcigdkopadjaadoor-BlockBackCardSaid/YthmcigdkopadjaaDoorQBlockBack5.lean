/- Texts of this claim, laid together by wip/tools/squash.py: PBlockPacksx3, PBlockPacksx, WalkBlockPacks. -/
import Derived.Test.YthmcigdkopadjaaDoorQBlockBack4

-- Written by wip/tools/myprint.py, a program of this session over the print tool: not a printed text of the kit's
section
namespace Go.Proofs.YthmcigdkopadjaaDoor.PBlockPacks
open Go.RowKit Go.Proofs.YthmcigdkopadjaaDoorW.PrintWords Go.Proofs.YthmcigdkopadjaaDoorW.PrintLast Go.Proofs.YthmcigdkopadjaaDoorW.PrintMore
attribute [local go_sem] max2_int min2_int max_two min_two max_three min_three max_four min_four   -- for this text's walks alone
set_option linter.unusedVariables false
set_option linter.unusedSimpArgs false
set_option maxRecDepth 20000

/-! ### tabularylaw06_BlockPacks: function 3 -/
def tabularylaw06_BlockPacks.l0 : Nat → List Int → Int → Int → Int → Int → Int → List Int → Int → Int → Int → List Int → Option (Bool)
  | 0, _, _, _, _, _, _, _, _, _, _, _ => none
  | k + 1, x4, x5, x6, x154000, x154001, x154002, x154003, x156000, x156001, x156002, x156003 => if x6 < (x156003.length : Int) then (if 0 ≤ x6 then (tabularylaw06_BlockPacks.l0 k x4 x5 (wrap64 (x6 + 1)) x154000 x154001 x154002 x154003 x156000 x156001 x156002 (x156003.set (x6 : Int).toNat (Go.bits .xor .u8 255 (rd x156003 x6)))) else (none)) else ((tabularyref06_Pack.f k x154000 x154001 x154002 x154003).bind fun bt168 => (if x5 = bt168.2 then (if (strOfNums x4).toList = (strOfNums bt168.1).toList then ((tabularylaw06_wakes.f).bind fun t172 => (some t172)) else (some false)) else (some false)))
def tabularylaw06_BlockPacks.f (k : Nat) (a0_0 : Int) (a0_1 : Int) (a0_2 : Int) (l0_3 : List Int) : Option (Bool) := if (l0_3.length : Int) > 4096 then ((tabularylaw06_wakes.f).bind fun t154 => (some t154)) else ((some (([] : List Int) : List Int)).bind fun y156 => (if y156.length + l0_3.length < 140737488355328 then ((some (y156 ++ l0_3 : List Int)).bind fun y159 => ((block_Pack.f a0_0 a0_1 a0_2 y159).bind fun bt162 => (if (strOfNums y159).toList = (strOfNums l0_3).toList then (tabularylaw06_BlockPacks.l0 k bt162.1 bt162.2 0 a0_0 a0_1 a0_2 l0_3 a0_0 a0_1 a0_2 y159) else (some false)))) else (none)))
theorem tabularylaw06_BlockPacks.mono_l : ∀ k, (∀ y0 y1 y2 y3 y4 y5 y6 y7 y8 y9 y10, LeO (tabularylaw06_BlockPacks.l0 k y0 y1 y2 y3 y4 y5 y6 y7 y8 y9 y10) (tabularylaw06_BlockPacks.l0 (k + 1) y0 y1 y2 y3 y4 y5 y6 y7 y8 y9 y10))
  | 0 => fun _ _ _ _ _ _ _ _ _ _ _ r h => by simp [tabularylaw06_BlockPacks.l0] at h
  | k + 1 => by
    have ih0 := tabularylaw06_BlockPacks.mono_l k
    · intro y0 y1 y2 y3 y4 y5 y6 y7 y8 y9 y10
      unfold tabularylaw06_BlockPacks.l0
      repeat' first
      | (with_reducible exact ih0 _ _ _ _ _ _ _ _ _ _ _)
      | (with_reducible exact tabularyref06_Pack.mono _ _ _ _ _)
      | (with_reducible exact LeO.refl _)
      | (with_reducible exact LeO.none _)
      | (with_reducible refine LeO.ite ?_ ?_)
      | (with_reducible refine LeO.bind ?_ (fun _ => ?_))
      | exact ih0 _ _ _ _ _ _ _ _ _ _ _
      | exact tabularyref06_Pack.mono _ _ _ _ _
      | exact LeO.none _
      | refine LeO.ite ?_ ?_
      | refine LeO.bind ?_ (fun _ => ?_)
theorem tabularylaw06_BlockPacks.mono : ∀ a0 a1 a2 a3 k, LeO (tabularylaw06_BlockPacks.f k a0 a1 a2 a3) (tabularylaw06_BlockPacks.f (k + 1) a0 a1 a2 a3) := by
  intro a0 a1 a2 a3 k
  have ih0 := tabularylaw06_BlockPacks.mono_l k
  unfold tabularylaw06_BlockPacks.f
  repeat' first
      | (with_reducible exact ih0 _ _ _ _ _ _ _ _ _ _ _)
      | (with_reducible exact tabularyref06_Pack.mono _ _ _ _ _)
      | (with_reducible exact LeO.refl _)
      | (with_reducible exact LeO.none _)
      | (with_reducible refine LeO.ite ?_ ?_)
      | (with_reducible refine LeO.bind ?_ (fun _ => ?_))
      | exact ih0 _ _ _ _ _ _ _ _ _ _ _
      | exact tabularyref06_Pack.mono _ _ _ _ _
      | exact LeO.none _
      | refine LeO.ite ?_ ?_
      | refine LeO.bind ?_ (fun _ => ?_)
def tabularylaw06_BlockPacks.T11 : Bool × List (List Nat × List Nat) := (true, [([], []), ([0], [0]), ([], []), ([], []), ([3], [3]), ([], []), ([4, 5], [4, 5]), ([6], [6]), ([7], [7]), ([1, 2, 0, 1, 2, 3, 4, 5, 6, 7, 8], [1, 2]), ([9, 8, 0, 1, 2, 3, 4, 5, 6, 7, 8], [8, 9])])
def tabularylaw06_BlockPacks.B11 : List Nat := [0, 1, 0, 0, 8, 0, 56, 120, 248, 511, 1023]
theorem tabularylaw06_BlockPacks.tab11 : rtab .any (opsOf Tryd.f3 11) = tabularylaw06_BlockPacks.T11 := by kernel_rfl
theorem tabularylaw06_BlockPacks.bits11 : waitsOk tabularylaw06_BlockPacks.T11.2 tabularylaw06_BlockPacks.B11 = true := by kernel_rfl
set_option maxHeartbeats 8000000 in
set_option maxRecDepth 100000 in
theorem tabularylaw06_BlockPacks.calls (k : Nat) (a0_0 : Int) (a0_1 : Int) (a0_2 : Int) (A0_3 : Option Addr) (c0_3 : Nat) (l0_3 : List Int) (r : Bool) (w : World) (hr0_3 : Kd.C (Kd.int .u8) w A0_3 l0_3.length l0_3) (hc0_3 : l0_3.length ≤ c0_3) (h : tabularylaw06_BlockPacks.f k a0_0 a0_1 a0_2 l0_3 = some r) :
    Calls Tryd.prog 3 #[.agg #[.int .u64 a0_0, .int .u32 a0_1, .int .u8 a0_2, .slice A0_3 l0_3.length c0_3]] w fun e w' => e = .returned (.bool r) ∧ Below w.heap.size w w' := by
  have hu26 := Tryd.underlying26
  have HR0_3 := Aside0.mk hr0_3
  have HC0_3 := Aside0.mk hc0_3
  clear hr0_3 hc0_3
  have HB := Aside0.mk (Below.refl w.heap.size w)
  have H : (if (l0_3.length : Int) > 4096 then ((tabularylaw06_wakes.f).bind fun t154 => (some t154)) else ((some (([] : List Int) : List Int)).bind fun y156 => (if y156.length + l0_3.length < 140737488355328 then ((some (y156 ++ l0_3 : List Int)).bind fun y159 => ((block_Pack.f a0_0 a0_1 a0_2 y159).bind fun bt162 => (if (strOfNums y159).toList = (strOfNums l0_3).toList then (tabularylaw06_BlockPacks.l0 k bt162.1 bt162.2 0 a0_0 a0_1 a0_2 l0_3 a0_0 a0_1 a0_2 y159) else (some false)))) else (none)))) = some r := h
  clear h
  by_cases c2 : (l0_3.length : Int) > 4096
  · rw [if_pos c2] at H
    have c2b0 : decide (4096 < (l0_3.length : Int)) = true := decide_eq_true c2
    have c2b1 : decide (4096 < l0_3.length) = true := decide_eq_true (by omega)
    clear c2
    replace H := Option.bind_eq_some_iff.mp H
    obtain ⟨t154, A30, H⟩ := H
    replace H : (some t154) = some r := H
    have A3 := Aside0.mk A30
    clear A30
    obtain rfl := Option.some.inj H
    go_enter Tryd.func3, Tryd.ntmps3
    go_wp2_with (first | ((with_reducible refine gate_dst (N := 1) rfl ?_); refine box_event ?hg (N := 1) ?hd (cs := #[.int .u64 a0_0, .int .u32 a0_1, .int .u8 a0_2, .slice A0_3 l0_3.length c0_3]) (t := 26) ?hr ?_; (case hd => rfl); (case hg => rfl); (case hr => first | (go_simp; done) | (go_simp; rfl)); intro gb153 hg w4 hbox hb; have n0_ := Aside0.mk (below_step (by repeat (first | (with_reducible first | exact HB.out | apply below_alloc | apply pw_below_drewN | apply below_drew1) | exact HB.out)) hb); have n1_ := Aside0.mk (hbox); have n2_ := Aside0.mk ((by rw [hg]; exact (below_size (by repeat (first | (with_reducible first | exact HB.out | apply below_alloc | apply pw_below_drewN | apply below_drew1) | exact HB.out))) : w.heap.size ≤ gb153)); have n3_ := Aside0.mk ((by rw [hg]; exact (below_size (by repeat (first | (with_reducible first | exact HB.out | apply below_alloc | apply pw_below_drewN | apply below_drew1) | exact HB.out))) : w.heap.size ≤ gb153)); clear HB; have HB := n0_; have BK153 := n1_; have GW153 := n2_; have GE153 := n3_; clear n0_ n1_ n2_ n3_; clear hb hbox hg; have hcz5_0 : w4.cell? ⟨gb153, 0, none⟩ = some (.int .u64 a0_0) := (blk_cell BK153.out 0).trans rfl; have hcz5_1 : w4.cell? ⟨gb153, 1, none⟩ = some (.int .u32 a0_1) := (blk_cell BK153.out 1).trans rfl; have hcz5_2 : w4.cell? ⟨gb153, 2, none⟩ = some (.int .u8 a0_2) := (blk_cell BK153.out 2).trans rfl; have hcz5_3 : w4.cell? ⟨gb153, 3, none⟩ = some (.slice A0_3 l0_3.length c0_3) := (blk_cell BK153.out 3).trans rfl; have hfz5_0 := blk_frozen BK153.out 0; have hfz5_1 := blk_frozen BK153.out 1; have hfz5_2 := blk_frozen BK153.out 2; have hfz5_3 := blk_frozen BK153.out 3) | ((with_reducible refine gate_callee (f := 8) rfl ?_); refine goesL_ (some 13) rfl rfl Tryd.func8 (by kernel_rfl) rfl #[] rfl (by (try simp only [List.map_toArray, List.map_cons, List.map_nil]); first | done | rfl | (simp only [List.length_drop, List.length_take]; rfl)) ?_; (with_reducible refine (tabularylaw06_wakes.calls  t154 _ A3.out).mono ?_); rintro e w6 ⟨rfl, hb⟩; refine ⟨_, rfl, ?_⟩; have n0_ := Aside0.mk (blk_below (g := gb153) (o := .cells #[.int .u64 a0_0, .int .u32 a0_1, .int .u8 a0_2, .slice A0_3 l0_3.length c0_3] 26 (0, 0)) (by (with_reducible repeat (first | refine blk_drewN ?_ _ | refine blk_drew ?_ | refine blk_alloc ?_ _)); exact BK153.out) hb); have n1_ := Aside0.mk (below_step (by repeat (first | (with_reducible first | exact HB.out | apply below_alloc | apply pw_below_drewN | apply below_drew1 | refine below_set ?_ GE153.out) | exact HB.out)) hb); clear BK153; clear HB; have BK153 := n0_; have HB := n1_; clear n0_ n1_; (try clear hb); (try clear hb2); (try clear hk); (try clear hi)))
    go_ret
    exact ⟨by first | rfl | (simp [errW_none, errW_some] <;> rfl) | (simp [*, errW_none, errW_some] <;> rfl), by repeat (first | (with_reducible first | exact HB.out | apply below_alloc | apply pw_below_drewN | apply below_drew1 | refine below_set ?_ GE153.out) | exact HB.out)⟩
  · rw [if_neg c2] at H
    have c2b0 : decide (4096 < (l0_3.length : Int)) = false := decide_eq_false c2
    have c2b1 : decide (4096 < l0_3.length) = false := decide_eq_false (by omega)
    clear c2
    obtain ⟨y156, hy156⟩ : ∃ y_ : List Int, y_ = (([] : List Int)) := ⟨_, rfl⟩
    replace H : (if y156.length + l0_3.length < 140737488355328 then ((some (y156 ++ l0_3 : List Int)).bind fun y159 => ((block_Pack.f a0_0 a0_1 a0_2 y159).bind fun bt162 => (if (strOfNums y159).toList = (strOfNums l0_3).toList then (tabularylaw06_BlockPacks.l0 k bt162.1 bt162.2 0 a0_0 a0_1 a0_2 l0_3 a0_0 a0_1 a0_2 y159) else (some false)))) else (none)) = some r := by first | (rw [hy156]; with_reducible exact H) | (have H2_ := (Option.bind_some _ _).symm.trans H; rw [hy156]; with_reducible exact H2_) | (have H2_ := (Option.bind_some _ _).symm.trans H; with_reducible exact H2_) | with_reducible exact H | (rw [hy156]; exact H) | exact H
    have Ny156 := Aside0.mk hy156
    clear hy156
    by_cases c7 : y156.length + l0_3.length < 140737488355328
    · rw [if_pos c7] at H
      have LMc7 := Aside0.mk c7
      clear c7
      obtain ⟨y159, hy159⟩ : ∃ y_ : List Int, y_ = (y156 ++ l0_3) := ⟨_, rfl⟩
      replace H : ((block_Pack.f a0_0 a0_1 a0_2 y159).bind fun bt162 => (if (strOfNums y159).toList = (strOfNums l0_3).toList then (tabularylaw06_BlockPacks.l0 k bt162.1 bt162.2 0 a0_0 a0_1 a0_2 l0_3 a0_0 a0_1 a0_2 y159) else (some false))) = some r := by first | (rw [hy159]; with_reducible exact H) | (have H2_ := (Option.bind_some _ _).symm.trans H; rw [hy159]; with_reducible exact H2_) | (have H2_ := (Option.bind_some _ _).symm.trans H; with_reducible exact H2_) | with_reducible exact H | (rw [hy159]; exact H) | exact H
      have Ny159 := Aside0.mk hy159
      clear hy159
      replace H := Option.bind_eq_some_iff.mp H
      obtain ⟨⟨t162, t165⟩, A80, H⟩ := H
      replace H : (if (strOfNums y159).toList = (strOfNums l0_3).toList then (tabularylaw06_BlockPacks.l0 k t162 t165 0 a0_0 a0_1 a0_2 l0_3 a0_0 a0_1 a0_2 y159) else (some false)) = some r := H
      have A8 := Aside0.mk A80
      clear A80
      by_cases c9 : (strOfNums y159).toList = (strOfNums l0_3).toList
      · rw [if_pos c9] at H
        have c9b0 : ((strOfNums y159).toList == (strOfNums l0_3).toList) = true := beq_iff_eq.mpr c9
        have c9b1 : ((strOfNums y159).toList != (strOfNums l0_3).toList) = false := bne_eq_false_iff_eq.mpr c9
        clear c9
        have H' := Aside0.mk H
        clear H
        go_enter Tryd.func3, Tryd.ntmps3
        go_wp2_with (first | ((with_reducible refine gate_dst (N := 1) rfl ?_); refine box_event ?hg (N := 1) ?hd (cs := #[.int .u64 a0_0, .int .u32 a0_1, .int .u8 a0_2, .slice A0_3 l0_3.length c0_3]) (t := 26) ?hr ?_; (case hd => rfl); (case hg => rfl); (case hr => first | (go_simp; done) | (go_simp; rfl)); intro gb153 hg w10 hbox hb; have n0_ := Aside0.mk (below_step (by repeat (first | (with_reducible first | exact HB.out | apply below_alloc | apply pw_below_drewN | apply below_drew1) | exact HB.out)) hb); have n1_ := Aside0.mk (hbox); have n2_ := Aside0.mk ((by rw [hg]; exact (below_size (by repeat (first | (with_reducible first | exact HB.out | apply below_alloc | apply pw_below_drewN | apply below_drew1) | exact HB.out))) : w.heap.size ≤ gb153)); have n3_ := Aside0.mk ((by rw [hg]; exact (below_size (by repeat (first | (with_reducible first | exact HB.out | apply below_alloc | apply pw_below_drewN | apply below_drew1) | exact HB.out))) : w.heap.size ≤ gb153)); clear HB; have HB := n0_; have BK153 := n1_; have GW153 := n2_; have GE153 := n3_; clear n0_ n1_ n2_ n3_; clear hb hbox hg; have hcz11_0 : w10.cell? ⟨gb153, 0, none⟩ = some (.int .u64 a0_0) := (blk_cell BK153.out 0).trans rfl; have hcz11_1 : w10.cell? ⟨gb153, 1, none⟩ = some (.int .u32 a0_1) := (blk_cell BK153.out 1).trans rfl; have hcz11_2 : w10.cell? ⟨gb153, 2, none⟩ = some (.int .u8 a0_2) := (blk_cell BK153.out 2).trans rfl; have hcz11_3 : w10.cell? ⟨gb153, 3, none⟩ = some (.slice A0_3 l0_3.length c0_3) := (blk_cell BK153.out 3).trans rfl; have hfz11_0 := blk_frozen BK153.out 0; have hfz11_1 := blk_frozen BK153.out 1; have hfz11_2 := blk_frozen BK153.out 2; have hfz11_3 := blk_frozen BK153.out 3) | ((with_reducible refine gate_dst (N := 3) rfl ?_); refine box_event ?hg (N := 3) ?hd (cs := #[.int .u64 0, .int .u32 0, .int .u8 0, .slice none 0 0]) (t := 26) ?hr ?_; (case hd => rfl); (case hg => rfl); (case hr => first | (go_simp; done) | (go_simp; rfl)); intro gb155 hg w12 hbox hb; have n0_ := Aside0.mk (blk_below (g := gb153) (o := .cells #[.int .u64 a0_0, .int .u32 a0_1, .int .u8 a0_2, .slice A0_3 l0_3.length c0_3] 26 (0, 0)) (by (with_reducible repeat (first | refine blk_drewN ?_ _ | refine blk_drew ?_ | refine blk_alloc ?_ _)); exact BK153.out) hb); have n1_ := Aside0.mk (below_step (by repeat (first | (with_reducible first | exact HB.out | apply below_alloc | apply pw_below_drewN | apply below_drew1 | refine below_set ?_ GE153.out) | exact HB.out)) hb); have n2_ := Aside0.mk (hbox); have n3_ := Aside0.mk ((by rw [hg]; exact (below_size (by repeat (first | (with_reducible first | exact HB.out | apply below_alloc | apply pw_below_drewN | apply below_drew1 | refine below_set ?_ GE153.out) | exact HB.out))) : w.heap.size ≤ gb155)); have n4_ := Aside0.mk ((by rw [hg]; exact (below_size (by repeat (first | (with_reducible first | exact HB.out | apply below_alloc | apply pw_below_drewN | apply below_drew1 | refine below_set ?_ GE153.out) | exact HB.out))) : w.heap.size ≤ gb155)); have n5_ := Aside0.mk ((by rw [hg]; exact Nat.ne_of_lt (blk_lt (g := gb153) (o := .cells #[.int .u64 a0_0, .int .u32 a0_1, .int .u8 a0_2, .slice A0_3 l0_3.length c0_3] 26 (0, 0)) (by (with_reducible repeat (first | refine blk_drewN ?_ _ | refine blk_drew ?_ | refine blk_alloc ?_ _)); exact BK153.out)) : gb153 ≠ gb155)); have n6_ := Aside0.mk ((by rw [hg]; exact Nat.ne_of_gt (blk_lt (g := gb153) (o := .cells #[.int .u64 a0_0, .int .u32 a0_1, .int .u8 a0_2, .slice A0_3 l0_3.length c0_3] 26 (0, 0)) (by (with_reducible repeat (first | refine blk_drewN ?_ _ | refine blk_drew ?_ | refine blk_alloc ?_ _)); exact BK153.out)) : gb155 ≠ gb153)); clear BK153; clear HB; have BK153 := n0_; have HB := n1_; have BK155 := n2_; have GW155 := n3_; have GE155 := n4_; have NB153_155 := n5_; have NB155_153 := n6_; clear n0_ n1_ n2_ n3_ n4_ n5_ n6_; clear hb hbox hg; have hnb13 := NB155_153.out; have hnc13 := NB153_155.out; have hcz14_0 : w12.cell? ⟨gb155, 0, none⟩ = some (.int .u64 0) := (blk_cell BK155.out 0).trans rfl; have hcz14_1 : w12.cell? ⟨gb155, 1, none⟩ = some (.int .u32 0) := (blk_cell BK155.out 1).trans rfl; have hcz14_2 : w12.cell? ⟨gb155, 2, none⟩ = some (.int .u8 0) := (blk_cell BK155.out 2).trans rfl; have hcz14_3 : w12.cell? ⟨gb155, 3, none⟩ = some (.slice none 0 0) := (blk_cell BK155.out 3).trans rfl; have hfz14_0 := blk_frozen BK155.out 0; have hfz14_1 := blk_frozen BK155.out 1; have hfz14_2 := blk_frozen BK155.out 2; have hfz14_3 := blk_frozen BK155.out 3) | ((with_reducible refine gate_dst (N := 15) rfl ?_); refine Kd.R_lit (Kd.int .u8) _ 5 ?hg (N := 15) ?hd (xs := ([] : List Int)) (inner := []) (ok := fun _ => True) (okp := fun _ => True) ?hr ?hp (fun _ hk => hk) trivial (Below.refl _ _) (Nat.le_refl _) (by simp) ?_; (case hd => rfl); (case hg => rfl); (case hr => first | (go_simp; done) | (go_simp; rfl)); (case hp => exact (Reps.none _ _)); intro v157 w15 ho16 hb hg_ hnew_; clear hg_ hnew_; (first | rw [← Ny156.out] at ho16 | (simp only [Int.reduceToNat] at ho16; rw [← Ny156.out] at ho16)); have n0_ := Aside0.mk (Kd.R_lower ho16 (below_size (by repeat (first | (with_reducible first | exact HB.out | apply below_alloc | apply pw_below_drewN | apply below_drew1 | refine below_set ?_ GE153.out | refine below_set ?_ GE155.out) | exact HB.out)))); have n1_ := Aside0.mk (blk_below (g := gb153) (o := .cells #[.int .u64 a0_0, .int .u32 a0_1, .int .u8 a0_2, .slice A0_3 l0_3.length c0_3] 26 (0, 0)) (by (with_reducible repeat (first | refine blk_drewN ?_ _ | refine blk_drew ?_ | refine blk_alloc ?_ _)); refine blk_far ?_ NB153_155.out _; (with_reducible repeat (first | refine blk_drewN ?_ _ | refine blk_drew ?_ | refine blk_alloc ?_ _)); refine blk_far ?_ NB153_155.out _; (with_reducible repeat (first | refine blk_drewN ?_ _ | refine blk_drew ?_ | refine blk_alloc ?_ _)); refine blk_far ?_ NB153_155.out _; (with_reducible repeat (first | refine blk_drewN ?_ _ | refine blk_drew ?_ | refine blk_alloc ?_ _)); refine blk_far ?_ NB153_155.out _; (with_reducible repeat (first | refine blk_drewN ?_ _ | refine blk_drew ?_ | refine blk_alloc ?_ _)); exact BK153.out) hb); have n2_ := Aside0.mk (blk_below (g := gb155) (o := .cells #[.int .u64 a0_0, .int .u32 a0_1, .int .u8 a0_2, .slice A0_3 l0_3.length c0_3] 26 (0, 0)) (by (with_reducible repeat (first | refine blk_drewN ?_ _ | refine blk_drew ?_ | refine blk_alloc ?_ _)); refine blk_put (cs := #[.int .u64 a0_0, .int .u32 a0_1, .int .u8 a0_2, .slice none 0 0]) ?_ 3 _ rfl; (with_reducible repeat (first | refine blk_drewN ?_ _ | refine blk_drew ?_ | refine blk_alloc ?_ _)); refine blk_put (cs := #[.int .u64 a0_0, .int .u32 a0_1, .int .u8 0, .slice none 0 0]) ?_ 2 _ rfl; (with_reducible repeat (first | refine blk_drewN ?_ _ | refine blk_drew ?_ | refine blk_alloc ?_ _)); refine blk_put (cs := #[.int .u64 a0_0, .int .u32 0, .int .u8 0, .slice none 0 0]) ?_ 1 _ rfl; (with_reducible repeat (first | refine blk_drewN ?_ _ | refine blk_drew ?_ | refine blk_alloc ?_ _)); refine blk_put (cs := #[.int .u64 0, .int .u32 0, .int .u8 0, .slice none 0 0]) ?_ 0 _ rfl; (with_reducible repeat (first | refine blk_drewN ?_ _ | refine blk_drew ?_ | refine blk_alloc ?_ _)); exact BK155.out) hb); have n3_ := Aside0.mk (below_step (by repeat (first | (with_reducible first | exact HB.out | apply below_alloc | apply pw_below_drewN | apply below_drew1 | refine below_set ?_ GE153.out | refine below_set ?_ GE155.out) | exact HB.out)) hb); clear BK153; clear BK155; clear HB; have HO158 := n0_; have BK153 := n1_; have BK155 := n2_; have HB := n3_; clear n0_ n1_ n2_ n3_; clear hb ho16; have hcz17_0 : w15.cell? ⟨gb153, 0, none⟩ = some (.int .u64 a0_0) := (blk_cell BK153.out 0).trans rfl; have hcz17_1 : w15.cell? ⟨gb153, 1, none⟩ = some (.int .u32 a0_1) := (blk_cell BK153.out 1).trans rfl; have hcz17_2 : w15.cell? ⟨gb153, 2, none⟩ = some (.int .u8 a0_2) := (blk_cell BK153.out 2).trans rfl; have hcz17_3 : w15.cell? ⟨gb153, 3, none⟩ = some (.slice A0_3 l0_3.length c0_3) := (blk_cell BK153.out 3).trans rfl; have hfz17_0 := blk_frozen BK153.out 0; have hfz17_1 := blk_frozen BK153.out 1; have hfz17_2 := blk_frozen BK153.out 2; have hfz17_3 := blk_frozen BK153.out 3) | ((with_reducible refine gate_builtin (b := .append) (xs := #[.tmp 15, .tmp 17]) rfl ?_); at_builtin; refine Kd.R_append_rows (Kd.int .u8) (w0 := w) w.heap.size rfl (.tmp 15) (.tmp 17) 24 5 (.int .u8 0) 1 rfl Tryd.underlying24 info5 rfl (by decide) (by omega) v157 y156 l0_3 _ _ _ (fun _ => True) (fun _ => False) rfl rfl ?aO ?aR (fun _ _ h => h) (fun _ h => h.elim) ?aF ?aB ?aS ?aL ?_; (case aR => repeat (first | exact (Kd.C_below HR0_3.out HB.out) | (with_reducible refine Kd.C_alloc ?_ _) | (with_reducible refine Kd.C_drewN ?_ _) | (with_reducible refine Kd.C_drew ?_))); (case aB => exact (by repeat (first | (with_reducible first | exact HB.out | apply below_alloc | apply pw_below_drewN | apply below_drew1 | refine below_set ?_ GE153.out | refine below_set ?_ GE155.out) | exact HB.out))); (case aF => exact (fun _ _ => trivial)); (case aO => exact (by (with_reducible repeat (first | apply Kd.R_alloc | apply Kd.R_drewN | apply Kd.R_drew)); exact HO158.out)); (case aS => exact (below_size (by repeat (first | (with_reducible first | exact HB.out | apply below_alloc | apply pw_below_drewN | apply below_drew1 | refine below_set ?_ GE153.out | refine below_set ?_ GE155.out) | exact HB.out)))); (case aL => have := LMc7.out; omega); intro v160 w18 ho hb hg hat; rw [← Ny159.out] at ho; have n0_ := Aside0.mk (blk_grown (g := gb153) (o := .cells #[.int .u64 a0_0, .int .u32 a0_1, .int .u8 a0_2, .slice A0_3 l0_3.length c0_3] 26 (0, 0)) (by (with_reducible repeat (first | refine blk_drewN ?_ _ | refine blk_drew ?_ | refine blk_alloc ?_ _)); exact BK153.out) hg (Kd.R_ne HO158.out BK153.out (by decide))); have n1_ := Aside0.mk (blk_grown (g := gb155) (o := .cells #[.int .u64 a0_0, .int .u32 a0_1, .int .u8 a0_2, .slice A0_3 l0_3.length c0_3] 26 (0, 0)) (by (with_reducible repeat (first | refine blk_drewN ?_ _ | refine blk_drew ?_ | refine blk_alloc ?_ _)); exact BK155.out) hg (Kd.R_ne HO158.out BK155.out (by decide))); have n2_ := Aside0.mk (hb); have n3_ := Aside0.mk (ho); clear BK153; clear BK155; clear HB; clear HO158; have BK153 := n0_; have BK155 := n1_; have HB := n2_; have HO161 := n3_; clear n0_ n1_ n2_ n3_; clear ho hb hg hat; obtain ⟨Ao19, co19, eo19⟩ := Kd.R_slice HO161.out; subst eo19; have hcz20_0 : w18.cell? ⟨gb155, 0, none⟩ = some (.int .u64 a0_0) := (blk_cell BK155.out 0).trans rfl; have hcz20_1 : w18.cell? ⟨gb155, 1, none⟩ = some (.int .u32 a0_1) := (blk_cell BK155.out 1).trans rfl; have hcz20_2 : w18.cell? ⟨gb155, 2, none⟩ = some (.int .u8 a0_2) := (blk_cell BK155.out 2).trans rfl; have hcz20_3 : w18.cell? ⟨gb155, 3, none⟩ = some (.slice A0_3 l0_3.length c0_3) := (blk_cell BK155.out 3).trans rfl; have hfz20_0 := blk_frozen BK155.out 0; have hfz20_1 := blk_frozen BK155.out 1; have hfz20_2 := blk_frozen BK155.out 2; have hfz20_3 := blk_frozen BK155.out 3) | ((with_reducible refine gate_callee (f := 9) rfl ?_); refine goesL_ (some 22) rfl rfl Tryd.func9 (by kernel_rfl) rfl #[.agg #[.int .u64 a0_0, .int .u32 a0_1, .int .u8 a0_2, .slice Ao19 y159.length co19]] rfl (by (try simp only [List.map_toArray, List.map_cons, List.map_nil]); first | done | rfl | (simp only [List.length_drop, List.length_take]; rfl)) ?_; (with_reducible refine (block_Pack.calls a0_0 a0_1 a0_2 _ _ y159 t162 t165 _ ?side1 ?side2 A8.out).mono ?_); (case side1 => refine (Kd.R_reads' (e := 5) (base := w.heap.size) (ok := fun k_ => True) (n := y159.length) (c := co19) ?_).2.2; exact (by (with_reducible repeat (first | apply Kd.R_alloc | apply Kd.R_drewN | apply Kd.R_drew)); exact (Kd.R_mono (Kd.R_far (p := ⟨gb155, 3, none⟩) (Kd.R_types HO161.out BK155.out (by decide)) (fun _ hk => hk.2) (.slice Ao19 y159.length co19)) (fun _ h_ => h_.1)))); (case side2 => exact (Kd.R_reads' HO161.out).2.1); rintro e w21 ⟨v163, rfl, ho0, hb⟩; refine ⟨_, rfl, ?_⟩; have n0_ := Aside0.mk (Kd.R_elder' (by (with_reducible repeat (first | apply Kd.R_alloc | apply Kd.R_drewN | apply Kd.R_drew)); exact (Kd.R_mono (Kd.R_far (p := ⟨gb155, 3, none⟩) (Kd.R_types HO161.out BK155.out (by decide)) (fun _ hk => hk.2) (.slice Ao19 y159.length co19)) (fun _ h_ => h_.1))) (Kd.R_base ho0) hb); have n1_ := Aside0.mk (Kd.R_lower (Kd.R_new' ho0 (Kd.R_lt (by (with_reducible repeat (first | apply Kd.R_alloc | apply Kd.R_drewN | apply Kd.R_drew)); exact (Kd.R_mono (Kd.R_far (p := ⟨gb155, 3, none⟩) (Kd.R_types HO161.out BK155.out (by decide)) (fun _ hk => hk.2) (.slice Ao19 y159.length co19)) (fun _ h_ => h_.1))))) (below_size (by repeat (first | (with_reducible first | exact HB.out | apply below_alloc | apply pw_below_drewN | apply below_drew1 | refine below_set ?_ GE153.out | refine below_set ?_ GE155.out) | exact HB.out)))); have n2_ := Aside0.mk (blk_below (g := gb153) (o := .cells #[.int .u64 a0_0, .int .u32 a0_1, .int .u8 a0_2, .slice A0_3 l0_3.length c0_3] 26 (0, 0)) (by (with_reducible repeat (first | refine blk_drewN ?_ _ | refine blk_drew ?_ | refine blk_alloc ?_ _)); refine blk_far ?_ NB153_155.out _; (with_reducible repeat (first | refine blk_drewN ?_ _ | refine blk_drew ?_ | refine blk_alloc ?_ _)); exact BK153.out) hb); have n3_ := Aside0.mk (blk_below (g := gb155) (o := .cells #[.int .u64 a0_0, .int .u32 a0_1, .int .u8 a0_2, .slice Ao19 y159.length co19] 26 (0, 0)) (by (with_reducible repeat (first | refine blk_drewN ?_ _ | refine blk_drew ?_ | refine blk_alloc ?_ _)); refine blk_put (cs := #[.int .u64 a0_0, .int .u32 a0_1, .int .u8 a0_2, .slice A0_3 l0_3.length c0_3]) ?_ 3 _ rfl; (with_reducible repeat (first | refine blk_drewN ?_ _ | refine blk_drew ?_ | refine blk_alloc ?_ _)); exact BK155.out) hb); have n4_ := Aside0.mk (below_step (by repeat (first | (with_reducible first | exact HB.out | apply below_alloc | apply pw_below_drewN | apply below_drew1 | refine below_set ?_ GE153.out | refine below_set ?_ GE155.out) | exact HB.out)) hb); clear HO161; clear BK153; clear BK155; clear HB; have HO161 := n0_; have HO164 := n1_; have BK153 := n2_; have BK155 := n3_; have HB := n4_; clear n0_ n1_ n2_ n3_ n4_; (try clear hb); (try clear hb2); (try clear hk); (try clear hi); (try clear ho0); have hcz22_0 : w21.cell? ⟨gb155, 0, none⟩ = some (.int .u64 a0_0) := (blk_cell BK155.out 0).trans rfl; have hcz22_1 : w21.cell? ⟨gb155, 1, none⟩ = some (.int .u32 a0_1) := (blk_cell BK155.out 1).trans rfl; have hcz22_2 : w21.cell? ⟨gb155, 2, none⟩ = some (.int .u8 a0_2) := (blk_cell BK155.out 2).trans rfl; have hcz22_3 : w21.cell? ⟨gb155, 3, none⟩ = some (.slice Ao19 y159.length co19) := (blk_cell BK155.out 3).trans rfl; have hfz22_0 := blk_frozen BK155.out 0; have hfz22_1 := blk_frozen BK155.out 1; have hfz22_2 := blk_frozen BK155.out 2; have hfz22_3 := blk_frozen BK155.out 3; have hcv23 := own_string (P := Tryd.prog) Tryd.underlying24 Tryd.underlying5 Tryd.underlying9 (Kd.own_of_R HO161.out); have hcz24_0 : w21.cell? ⟨gb153, 0, none⟩ = some (.int .u64 a0_0) := (blk_cell BK153.out 0).trans rfl; have hcz24_1 : w21.cell? ⟨gb153, 1, none⟩ = some (.int .u32 a0_1) := (blk_cell BK153.out 1).trans rfl; have hcz24_2 : w21.cell? ⟨gb153, 2, none⟩ = some (.int .u8 a0_2) := (blk_cell BK153.out 2).trans rfl; have hcz24_3 : w21.cell? ⟨gb153, 3, none⟩ = some (.slice A0_3 l0_3.length c0_3) := (blk_cell BK153.out 3).trans rfl; have hfz24_0 := blk_frozen BK153.out 0; have hfz24_1 := blk_frozen BK153.out 1; have hfz24_2 := blk_frozen BK153.out 2; have hfz24_3 := blk_frozen BK153.out 3; have hcv25 := Kd.C_string (P := Tryd.prog) (A := A0_3) (c := c0_3) Tryd.underlying24 Tryd.underlying5 Tryd.underlying9 (Kd.C_below HR0_3.out HB.out); have hcv25b := hcv25; (try simp only [List.length_drop, List.length_take, Int.reduceToNat] at hcv25b)))
        go_loopg [6] k (fun kq v6 w' => ∃ (x4_1 : List Int) (x6_1 : Int) (x156003_1 : List Int) (u156003 : Value), v6 = .int .i64 x6_1 ∧ Aside0 (tabularylaw06_BlockPacks.l0 kq x4_1 t165 x6_1 a0_0 a0_1 a0_2 l0_3 a0_0 a0_1 a0_2 x156003_1 = some r) ∧ Aside0 (kq ≤ k) ∧ Aside0 (Kd.R (Kd.int .u8) 5 w' w.heap.size (fun k_ => some k_ ≠ (u156003 : Value).ownBlock) v163 x4_1) ∧ Aside0 (Kd.R (Kd.int .u8) 5 w' w.heap.size (fun k_ => some k_ ≠ (v163 : Value).ownBlock) u156003 x156003_1) ∧ Aside0 (w'.heap[gb153]? = some (.cells #[.int .u64 a0_0, .int .u32 a0_1, .int .u8 a0_2, (.slice A0_3 l0_3.length c0_3)] 26 (0, 0))) ∧ Aside0 (w'.heap[gb155]? = some (.cells #[.int .u64 a0_0, .int .u32 a0_1, .int .u8 a0_2, u156003] 26 (0, 0))) ∧ Aside0 (Below w.heap.size w w'))
        case atStart => exact ⟨(t162), (0), (y159), (.slice Ao19 y159.length co19), (by first | rfl | (simp; done) | (simp [*]; done)), H', ⟨Nat.le_refl _⟩, ⟨by (with_reducible repeat (first | apply Kd.R_alloc | apply Kd.R_drewN | apply Kd.R_drew)); exact Kd.R_mono HO164.out (fun _ hk => hk.2)⟩, ⟨by (with_reducible repeat (first | apply Kd.R_alloc | apply Kd.R_drewN | apply Kd.R_drew)); exact Kd.R_mono HO161.out (fun _ hk => hk.2)⟩, ⟨by (with_reducible repeat (first | refine blk_drewN ?_ _ | refine blk_drew ?_ | refine blk_alloc ?_ _)); exact BK153.out⟩, ⟨by (with_reducible repeat (first | refine blk_drewN ?_ _ | refine blk_drew ?_ | refine blk_alloc ?_ _)); exact BK155.out⟩, ⟨by repeat (first | (with_reducible first | exact HB.out | apply below_alloc | apply pw_below_drewN | apply below_drew1 | refine below_set ?_ GE153.out | refine below_set ?_ GE155.out) | exact HB.out)⟩⟩
        case round =>
          clear H'
          try clear c1
          try clear c2
          try clear c2b0
          try clear c2b1
          try clear p2
          try clear hcv2
          try clear c3
          try clear c7
          try clear c8
          try clear c9
          try clear c9b0
          try clear c9b1
          try clear c13
          try clear hcv23
          try clear hcv25
          try clear hcz11_0
          try clear hcz11_1
          try clear hcz11_2
          try clear hcz11_3
          try clear hcz14_0
          try clear hcz14_1
          try clear hcz14_2
          try clear hcz14_3
          try clear hcz17_0
          try clear hcz17_1
          try clear hcz17_2
          try clear hcz17_3
          try clear hcz20_0
          try clear hcz20_1
          try clear hcz20_2
          try clear hcz20_3
          try clear hcz22_0
          try clear hcz22_1
          try clear hcz22_2
          try clear hcz22_3
          try clear hcz24_0
          try clear hcz24_1
          try clear hcz24_2
          try clear hcz24_3
          try clear hcz5_0
          try clear hcz5_1
          try clear hcz5_2
          try clear hcz5_3
          try clear hfz11_0
          try clear hfz11_1
          try clear hfz11_2
          try clear hfz11_3
          try clear hfz14_0
          try clear hfz14_1
          try clear hfz14_2
          try clear hfz14_3
          try clear hfz17_0
          try clear hfz17_1
          try clear hfz17_2
          try clear hfz17_3
          try clear hfz20_0
          try clear hfz20_1
          try clear hfz20_2
          try clear hfz20_3
          try clear hfz22_0
          try clear hfz22_1
          try clear hfz22_2
          try clear hfz22_3
          try clear hfz24_0
          try clear hfz24_1
          try clear hfz24_2
          try clear hfz24_3
          try clear hfz5_0
          try clear hfz5_1
          try clear hfz5_2
          try clear hfz5_3
          obtain ⟨x4_1, x6_1, x156003_1, u156003, rfl, HA, HK1, HO_4, HO_156003, BK153, BK155, HB⟩ := hrel
          cases gk with
          | zero => exact absurd HA.out (by simp [tabularylaw06_BlockPacks.l0])
          | succ k1 =>
            have H := HA.out
            clear HA
            simp only [tabularylaw06_BlockPacks.l0] at H
            by_cases c26 : x6_1 < (x156003_1.length : Int)
            · rw [if_pos c26] at H
              have c26b0 : decide (x6_1 < (x156003_1.length : Int)) = true := decide_eq_true c26
              clear c26
              by_cases c27 : 0 ≤ x6_1
              · rw [if_pos c27] at H
                have c27b0 : decide (0 ≤ x6_1) = true := decide_eq_true c27
                clear c27
                obtain ⟨y167, hy167⟩ : ∃ y_ : List Int, y_ = (x156003_1.set (x6_1 : Int).toNat (Go.bits .xor .u8 255 (rd x156003_1 x6_1))) := ⟨_, rfl⟩
                replace H : (tabularylaw06_BlockPacks.l0 k1 x4_1 t165 (wrap64 (x6_1 + 1)) a0_0 a0_1 a0_2 l0_3 a0_0 a0_1 a0_2 y167) = some r := by first | (rw [hy167]; with_reducible exact H) | (have H2_ := (Option.bind_some _ _).symm.trans H; rw [hy167]; with_reducible exact H2_) | (have H2_ := (Option.bind_some _ _).symm.trans H; with_reducible exact H2_) | with_reducible exact H | (rw [hy167]; exact H) | exact H
                have Ny167 := Aside0.mk hy167
                clear hy167
                have H' := Aside0.mk H
                clear H
                have hnb29 := NB155_153.out
                have hnc29 := NB153_155.out
                have hcz30_0 : wr.cell? ⟨gb155, 0, none⟩ = some (.int .u64 a0_0) := (blk_cell BK155.out 0).trans rfl
                have hcz30_1 : wr.cell? ⟨gb155, 1, none⟩ = some (.int .u32 a0_1) := (blk_cell BK155.out 1).trans rfl
                have hcz30_2 : wr.cell? ⟨gb155, 2, none⟩ = some (.int .u8 a0_2) := (blk_cell BK155.out 2).trans rfl
                have hcz30_3 : wr.cell? ⟨gb155, 3, none⟩ = some (u156003) := (blk_cell BK155.out 3).trans rfl
                have hfz30_0 := blk_frozen BK155.out 0
                have hfz30_1 := blk_frozen BK155.out 1
                have hfz30_2 := blk_frozen BK155.out 2
                have hfz30_3 := blk_frozen BK155.out 3
                obtain ⟨Ao31, co31, eo31⟩ := Kd.R_slice HO_156003.out
                subst eo31
                try go_wp2
                have n0_ := Aside0.mk (Kd.R_drew HO_4.out)
                have n1_ := Aside0.mk (Kd.R_drew HO_156003.out)
                have n2_ := Aside0.mk (blk_drew BK153.out)
                have n3_ := Aside0.mk (blk_drew BK155.out)
                have n4_ := Aside0.mk (below_drew1 HB.out)
                clear HO_4
                clear HO_156003
                clear BK153
                clear BK155
                clear HB
                have HO_4 := n0_
                have HO_156003 := n1_
                have BK153 := n2_
                have BK155 := n3_
                have HB := n4_
                clear n0_ n1_ n2_ n3_ n4_
                have p166 : 0 ≤ (x6_1 : Int) := of_decide_eq_true (by first | (with_reducible assumption) | assumption)
                have q166 : x6_1 < (x156003_1.length : Int) := of_decide_eq_true (by first | (with_reducible assumption) | assumption)
                obtain ⟨ad166, e166, hx166_0⟩ := Kd.at_int (Kd.R_reads' HO_156003.out).2.2 x6_1 p166 q166
                cases e166
                replace p166 := eq_true p166
                replace q166 := eq_true q166
                have p28 : 0 ≤ (x6_1 : Int) := of_decide_eq_true (by first | (with_reducible assumption) | assumption)
                have q28 : (x6_1 : Int) < ((x156003_1.length : Int) : Int) := of_decide_eq_true (by first | (with_reducible assumption) | assumption)
                obtain ⟨go28, co28, eo28, gb28, gl28, cl28, HG28⟩ := Kd.R_form HO_156003.out (by omega)
                (first | cases eo28 | (injection eo28 with ea_ en_ ec_; (first | subst ea_ | (injection ea_ with ea_; subst ea_)); subst ec_; clear en_))
                have GB28 := Aside0.mk gb28
                have GG28 := Aside0.mk HG28
                clear gb28 gl28 HG28
                (first | simp only [add_plain] at hx166_0 | skip)
                obtain ⟨hx28_0, hf28_0⟩ := Kd.R_celln 0 HO_156003.out (x6_1 : Int) p28 q28
                replace p28 := eq_true p28
                replace q28 := eq_true q28
                have HP33 := Kd.R_putn HO_156003.out (x6_1 : Int) (Go.bits .xor .u8 255 (rd x156003_1 x6_1))
                rw [← Ny167.out] at HP33
                have HQ33 := Aside0.mk HP33
                clear HP33
                refine start_ (n := 11) (S := fun w' => w'.cell? ⟨gb155, 0, none⟩ = some (.int .u64 a0_0) ∧ w'.cell? ⟨gb155, 1, none⟩ = some (.int .u32 a0_1) ∧ w'.cell? ⟨gb155, 2, none⟩ = some (.int .u8 a0_2) ∧ w'.cell? ⟨gb155, 3, none⟩ = some (.slice (some ⟨go28, 0, none⟩) x156003_1.length co31) ∧ w'.cell? ⟨go28, (x6_1).toNat, none⟩ = some (.int .u8 (rd x156003_1 x6_1))) (ds := [10]) #[false, false, false, false, false, false, false, false, false, false, false] (by kernel_rfl) rfl rfl ⟨(blk_cell BK155.out 0).trans rfl, (blk_cell BK155.out 1).trans rfl, (blk_cell BK155.out 2).trans rfl, (blk_cell BK155.out 3).trans rfl, hx166_0⟩ (fun hHeld => ?_); refine with_tabW tabularylaw06_BlockPacks.tab11 tabularylaw06_BlockPacks.bits11 (fun HT_ HW_ => ?_)
                generalize wr.drew = w32 at HO_4 HO_156003 BK153 BK155 HB GG28 HQ33 hf28_0 hx166_0 hx28_0 hHeld ⊢
                refine pure_ (i := 0) (N := some 39) (v := ?_) (a' := ?_) #[true, false, false, false, false, false, false, false, false, false, false] rfl rfl (any_of HT_.out (by kernel_rfl)) (fun _ _ _ h => h) (Or.inl ⟨by rfl, ?_⟩) ?_ ?_
                rotate_left
                · intro w'
                  go_simp
                  (first | (with_reducible rfl) | ((try simp only [*]); (with_reducible rfl)))
                rotate_left
                · simp only [Act.put, List.setIfInBounds_toArray, List.set_cons_zero, List.set_cons_succ, i64_w, i32_w]
                  rfl
                refine pure_ (i := 2) (N := some 41) (v := ?_) (a' := ?_) #[true, false, true, false, false, false, false, false, false, false, false] rfl rfl (any_of HT_.out (by kernel_rfl)) (fun _ _ _ h => h) (Or.inl ⟨by rfl, ?_⟩) ?_ ?_
                rotate_left
                · intro w'
                  go_simp
                  (first | (with_reducible rfl) | ((try simp only [*]); (with_reducible rfl)))
                rotate_left
                · simp only [Act.put, List.setIfInBounds_toArray, List.set_cons_zero, List.set_cons_succ, i64_w, i32_w]
                  rfl
                refine pure_ (i := 3) (N := some 42) (v := ?_) (a' := ?_) #[true, false, true, true, false, false, false, false, false, false, false] rfl rfl (any_of HT_.out (by kernel_rfl)) (fun _ _ _ h => h) (Or.inl ⟨by rfl, ?_⟩) ?_ ?_
                rotate_left
                · intro w'
                  go_simp
                  (first | (with_reducible rfl) | ((try simp only [*]); (with_reducible rfl)))
                rotate_left
                · simp only [Act.put, List.setIfInBounds_toArray, List.set_cons_zero, List.set_cons_succ, i64_w, i32_w]
                  rfl
                refine pure_ (i := 5) (N := some 44) (v := ?_) (a' := ?_) #[true, false, true, true, false, true, false, false, false, false, false] rfl rfl (any_of HT_.out (by kernel_rfl)) (fun _ _ _ h => h) (Or.inl ⟨by rfl, ?_⟩) ?_ ?_
                rotate_left
                · intro w'
                  go_simp
                  (first | (with_reducible rfl) | ((try simp only [*]); (with_reducible rfl)))
                rotate_left
                · simp only [Act.put, List.setIfInBounds_toArray, List.set_cons_zero, List.set_cons_succ, i64_w, i32_w]
                  rfl
                refine take_ (i := 1) (N := some 40) (v := ?_) (a' := ?_) #[true, true, true, true, false, true, false, false, false, false, false] rfl rfl (take_ofW HT_.out HW_.out (by kernel_rfl)) (fun _ _ _ h => h) (Or.inl ⟨by rfl, ?_⟩) hHeld ?_ ?_
                rotate_left
                · rintro w' ⟨s0, s1, s2, s3, s4⟩
                  go_simp
                  (first | (with_reducible rfl) | ((try simp only [*]); (with_reducible rfl)))
                rotate_left
                · simp only [Act.put, List.setIfInBounds_toArray, List.set_cons_zero, List.set_cons_succ, i64_w, i32_w]
                  rfl
                refine take_ (i := 4) (N := some 43) (v := ?_) (a' := ?_) #[true, true, true, true, true, true, false, false, false, false, false] rfl rfl (take_ofW HT_.out HW_.out (by kernel_rfl)) (fun _ _ _ h => h) (Or.inl ⟨by rfl, ?_⟩) hHeld ?_ ?_
                rotate_left
                · rintro w' ⟨s0, s1, s2, s3, s4⟩
                  go_simp
                  (first | (with_reducible rfl) | ((try simp only [*]); (with_reducible rfl)))
                rotate_left
                · simp only [Act.put, List.setIfInBounds_toArray, List.set_cons_zero, List.set_cons_succ, i64_w, i32_w]
                  rfl
                refine pure_ (i := 6) (N := some 45) (v := ?_) (a' := ?_) #[true, true, true, true, true, true, true, false, false, false, false] rfl rfl (any_of HT_.out (by kernel_rfl)) (fun _ _ _ h => h) (Or.inl ⟨by rfl, ?_⟩) ?_ ?_
                rotate_left
                · intro w'
                  go_simp
                  (first | (with_reducible rfl) | ((try simp only [*]); (with_reducible rfl)))
                rotate_left
                · simp only [Act.put, List.setIfInBounds_toArray, List.set_cons_zero, List.set_cons_succ, i64_w, i32_w]
                  rfl
                refine take_ (i := 7) (N := some 46) (v := ?_) (a' := ?_) #[true, true, true, true, true, true, true, true, false, false, false] rfl rfl (take_ofW HT_.out HW_.out (by kernel_rfl)) (fun _ _ _ h => h) (Or.inl ⟨by rfl, ?_⟩) hHeld ?_ ?_
                rotate_left
                · rintro w' ⟨s0, s1, s2, s3, s4⟩
                  go_simp
                  (first | (with_reducible rfl) | ((try simp only [*]); (with_reducible rfl)))
                rotate_left
                · simp only [Act.put, List.setIfInBounds_toArray, List.set_cons_zero, List.set_cons_succ, i64_w, i32_w]
                  rfl
                refine pure_ (i := 8) (N := some 47) (v := ?_) (a' := ?_) #[true, true, true, true, true, true, true, true, true, false, false] rfl rfl (any_of HT_.out (by kernel_rfl)) (fun _ _ _ h => h) (Or.inl ⟨by rfl, ?_⟩) ?_ ?_
                rotate_left
                · intro w'
                  go_simp
                  (first | (with_reducible rfl) | ((try simp only [*]); (with_reducible rfl)))
                rotate_left
                · simp only [Act.put, List.setIfInBounds_toArray, List.set_cons_zero, List.set_cons_succ, i64_w, i32_w]
                  rfl
                refine pure_ (i := 9) (N := some 48) (v := ?_) (a' := ?_) #[true, true, true, true, true, true, true, true, true, true, false] rfl rfl (any_of HT_.out (by kernel_rfl)) (fun _ _ _ h => h) (Or.inl ⟨by rfl, ?_⟩) ?_ ?_
                rotate_left
                · intro w'
                  go_simp
                  (first | (with_reducible rfl) | ((try simp only [*]); (with_reducible rfl)))
                rotate_left
                · simp only [Act.put, List.setIfInBounds_toArray, List.set_cons_zero, List.set_cons_succ, i64_w, i32_w]
                  rfl
                refine last_ (i := 10) (N := none) #[true, true, true, true, true, true, true, true, true, true, true] rfl rfl (one_of HT_.out (by kernel_rfl)) (by decide) (fun K hK => ?_)
                refine skip_ (w1 := ?_) (by rfl) rfl ?_ ?_
                rotate_left
                · go_simp
                  rfl
                refine hK.out _ _ ?_
                clear hK K
                refine done_ (done_of HT_.out (by kernel_rfl)) ?_
                try go_wp2
                go_roundg k1
                case measure => have := HK1.out; omega
                case rel => exact ⟨(x4_1), (wrap64 (x6_1 + 1)), (y167), (.slice (some ⟨go28, 0, none⟩) x156003_1.length co31), (by first | rfl | (simp; done) | (simp [*]; done)), H', ⟨by have := HK1.out; omega⟩, ⟨by (with_reducible repeat (first | apply Kd.R_alloc | apply Kd.R_drewN | apply Kd.R_drew)); exact Kd.R_mono (Kd.R_far (p := ⟨go28, (x6_1 : Int).toNat, none⟩) (Kd.R_mono HO_4.out (fun k_ hk => (⟨hk, fun e_ => hk (by rw [e_]; rfl)⟩ : _ ∧ k_ ≠ go28))) (fun _ hk => hk.2) (.int .u8 (Go.bits .xor .u8 255 (rd x156003_1 x6_1)))) (fun _ hk => hk.1)⟩, ⟨by (with_reducible repeat (first | apply Kd.R_alloc | apply Kd.R_drewN | apply Kd.R_drew)); exact HQ33.out⟩, ⟨by (with_reducible repeat (first | refine blk_drewN ?_ _ | refine blk_drew ?_ | refine blk_alloc ?_ _)); refine blk_far ?_ (by have h_ := Kd.R_ne HO_156003.out BK153.out (by decide); intro e_; exact h_ (by rw [e_]; rfl)) _; (with_reducible repeat (first | refine blk_drewN ?_ _ | refine blk_drew ?_ | refine blk_alloc ?_ _)); exact BK153.out⟩, ⟨by (with_reducible repeat (first | refine blk_drewN ?_ _ | refine blk_drew ?_ | refine blk_alloc ?_ _)); refine blk_far ?_ (by have h_ := Kd.R_ne HO_156003.out BK155.out (by decide); intro e_; exact h_ (by rw [e_]; rfl)) _; (with_reducible repeat (first | refine blk_drewN ?_ _ | refine blk_drew ?_ | refine blk_alloc ?_ _)); exact BK155.out⟩, ⟨by repeat (first | (with_reducible first | exact HB.out | apply below_alloc | apply pw_below_drewN | apply below_drew1 | refine below_set ?_ GB28.out | refine below_set ?_ GE153.out | refine below_set ?_ GE155.out) | exact HB.out)⟩⟩
              · rw [if_neg c27] at H
                exact absurd H (by simp)
            · rw [if_neg c26] at H
              have c26b0 : decide (x6_1 < (x156003_1.length : Int)) = false := decide_eq_false c26
              clear c26
              replace H := Option.bind_eq_some_iff.mp H
              obtain ⟨⟨t168, t171⟩, A340, H⟩ := H
              replace H : (if t165 = t171 then (if (strOfNums x4_1).toList = (strOfNums t168).toList then ((tabularylaw06_wakes.f).bind fun t172 => (some t172)) else (some false)) else (some false)) = some r := H
              have A34 := Aside0.mk A340
              clear A340
              by_cases c35 : t165 = t171
              · rw [if_pos c35] at H
                have c35b0 : (t165 == t171) = true := beq_iff_eq.mpr c35
                have c35b1 : (t165 != t171) = false := bne_eq_false_iff_eq.mpr c35
                clear c35
                by_cases c36 : (strOfNums x4_1).toList = (strOfNums t168).toList
                · rw [if_pos c36] at H
                  have c36b0 : ((strOfNums x4_1).toList == (strOfNums t168).toList) = true := beq_iff_eq.mpr c36
                  have c36b1 : ((strOfNums x4_1).toList != (strOfNums t168).toList) = false := bne_eq_false_iff_eq.mpr c36
                  clear c36
                  replace H := Option.bind_eq_some_iff.mp H
                  obtain ⟨t172, A370, H⟩ := H
                  replace H : (some t172) = some r := H
                  have A37 := Aside0.mk A370
                  clear A370
                  obtain rfl := Option.some.inj H
                  have hnb38 := NB155_153.out
                  have hnc38 := NB153_155.out
                  have hcz39_0 : wr.cell? ⟨gb155, 0, none⟩ = some (.int .u64 a0_0) := (blk_cell BK155.out 0).trans rfl
                  have hcz39_1 : wr.cell? ⟨gb155, 1, none⟩ = some (.int .u32 a0_1) := (blk_cell BK155.out 1).trans rfl
                  have hcz39_2 : wr.cell? ⟨gb155, 2, none⟩ = some (.int .u8 a0_2) := (blk_cell BK155.out 2).trans rfl
                  have hcz39_3 : wr.cell? ⟨gb155, 3, none⟩ = some (u156003) := (blk_cell BK155.out 3).trans rfl
                  have hfz39_0 := blk_frozen BK155.out 0
                  have hfz39_1 := blk_frozen BK155.out 1
                  have hfz39_2 := blk_frozen BK155.out 2
                  have hfz39_3 := blk_frozen BK155.out 3
                  obtain ⟨Ao40, co40, eo40⟩ := Kd.R_slice HO_156003.out
                  subst eo40
                  have hcz41_0 : wr.cell? ⟨gb153, 0, none⟩ = some (.int .u64 a0_0) := (blk_cell BK153.out 0).trans rfl
                  have hcz41_1 : wr.cell? ⟨gb153, 1, none⟩ = some (.int .u32 a0_1) := (blk_cell BK153.out 1).trans rfl
                  have hcz41_2 : wr.cell? ⟨gb153, 2, none⟩ = some (.int .u8 a0_2) := (blk_cell BK153.out 2).trans rfl
                  have hcz41_3 : wr.cell? ⟨gb153, 3, none⟩ = some (.slice A0_3 l0_3.length c0_3) := (blk_cell BK153.out 3).trans rfl
                  have hfz41_0 := blk_frozen BK153.out 0
                  have hfz41_1 := blk_frozen BK153.out 1
                  have hfz41_2 := blk_frozen BK153.out 2
                  have hfz41_3 := blk_frozen BK153.out 3
                  go_wp2_with (first | ((with_reducible refine gate_callee (f := 10) rfl ?_); refine goesL_ (some 51) rfl rfl Tryd.func10 (by kernel_rfl) rfl #[.agg #[.int .u64 a0_0, .int .u32 a0_1, .int .u8 a0_2, .slice A0_3 l0_3.length c0_3]] rfl (by (try simp only [List.map_toArray, List.map_cons, List.map_nil]); first | done | rfl | (simp only [List.length_drop, List.length_take]; rfl)) ?_; (with_reducible refine (tabularyref06_Pack.calls k1 a0_0 a0_1 a0_2 _ _ l0_3 t168 t171 _ ?side1 ?side2 A34.out).mono ?_); (case side1 => repeat (first | exact (Kd.C_below HR0_3.out HB.out) | (with_reducible refine Kd.C_alloc ?_ _) | (with_reducible refine Kd.C_drewN ?_ _) | (with_reducible refine Kd.C_drew ?_))); (case side2 => exact HC0_3.out); rintro e w42 ⟨v169, rfl, ho0, hb⟩; refine ⟨_, rfl, ?_⟩; have n0_ := Aside0.mk (Kd.R_elder' (by (with_reducible repeat (first | apply Kd.R_alloc | apply Kd.R_drewN | apply Kd.R_drew)); exact HO_4.out) (Kd.R_base ho0) hb); have n1_ := Aside0.mk (Kd.R_elder' (by (with_reducible repeat (first | apply Kd.R_alloc | apply Kd.R_drewN | apply Kd.R_drew)); exact HO_156003.out) (Kd.R_base ho0) hb); have n2_ := Aside0.mk (Kd.R_lower (Kd.R_new' (Kd.R_new' ho0 (Kd.R_lt (by (with_reducible repeat (first | apply Kd.R_alloc | apply Kd.R_drewN | apply Kd.R_drew)); exact HO_4.out))) (Kd.R_lt (by (with_reducible repeat (first | apply Kd.R_alloc | apply Kd.R_drewN | apply Kd.R_drew)); exact HO_156003.out))) (below_size (by repeat (first | (with_reducible first | exact HB.out | apply below_alloc | apply pw_below_drewN | apply below_drew1 | refine below_set ?_ GE153.out | refine below_set ?_ GE155.out) | exact HB.out)))); have n3_ := Aside0.mk (blk_below (g := gb153) (o := .cells #[.int .u64 a0_0, .int .u32 a0_1, .int .u8 a0_2, .slice A0_3 l0_3.length c0_3] 26 (0, 0)) (by (with_reducible repeat (first | refine blk_drewN ?_ _ | refine blk_drew ?_ | refine blk_alloc ?_ _)); exact BK153.out) hb); have n4_ := Aside0.mk (blk_below (g := gb155) (o := .cells #[.int .u64 a0_0, .int .u32 a0_1, .int .u8 a0_2, .slice Ao40 x156003_1.length co40] 26 (0, 0)) (by (with_reducible repeat (first | refine blk_drewN ?_ _ | refine blk_drew ?_ | refine blk_alloc ?_ _)); exact BK155.out) hb); have n5_ := Aside0.mk (below_step (by repeat (first | (with_reducible first | exact HB.out | apply below_alloc | apply pw_below_drewN | apply below_drew1 | refine below_set ?_ GE153.out | refine below_set ?_ GE155.out) | exact HB.out)) hb); clear HO_4; clear HO_156003; clear BK153; clear BK155; clear HB; have HO_4 := n0_; have HO_156003 := n1_; have HO170 := n2_; have BK153 := n3_; have BK155 := n4_; have HB := n5_; clear n0_ n1_ n2_ n3_ n4_ n5_; (try clear hb); (try clear hb2); (try clear hk); (try clear hi); (try clear ho0); have hcv43 := own_string (P := Tryd.prog) Tryd.underlying24 Tryd.underlying5 Tryd.underlying9 (Kd.own_of_R HO_4.out); have hcv44 := own_string (P := Tryd.prog) Tryd.underlying24 Tryd.underlying5 Tryd.underlying9 (Kd.own_of_R HO170.out)) | (go_at_call 8; (with_reducible refine (tabularylaw06_wakes.calls  t172 _ A37.out).mono ?_); rintro e w45 ⟨rfl, hb⟩; have n0_ := Aside0.mk (Kd.R_below (by (with_reducible repeat (first | apply Kd.R_alloc | apply Kd.R_drewN | apply Kd.R_drew)); exact HO_4.out) hb); have n1_ := Aside0.mk (Kd.R_below (by (with_reducible repeat (first | apply Kd.R_alloc | apply Kd.R_drewN | apply Kd.R_drew)); exact HO_156003.out) hb); have n2_ := Aside0.mk (Kd.R_below (by (with_reducible repeat (first | apply Kd.R_alloc | apply Kd.R_drewN | apply Kd.R_drew)); exact HO170.out) hb); have n3_ := Aside0.mk (blk_below (g := gb153) (o := .cells #[.int .u64 a0_0, .int .u32 a0_1, .int .u8 a0_2, .slice A0_3 l0_3.length c0_3] 26 (0, 0)) (by (with_reducible repeat (first | refine blk_drewN ?_ _ | refine blk_drew ?_ | refine blk_alloc ?_ _)); exact BK153.out) hb); have n4_ := Aside0.mk (blk_below (g := gb155) (o := .cells #[.int .u64 a0_0, .int .u32 a0_1, .int .u8 a0_2, .slice Ao40 x156003_1.length co40] 26 (0, 0)) (by (with_reducible repeat (first | refine blk_drewN ?_ _ | refine blk_drew ?_ | refine blk_alloc ?_ _)); exact BK155.out) hb); have n5_ := Aside0.mk (below_step (by repeat (first | (with_reducible first | exact HB.out | apply below_alloc | apply pw_below_drewN | apply below_drew1 | refine below_set ?_ GE153.out | refine below_set ?_ GE155.out) | exact HB.out)) hb); clear HO_4; clear HO_156003; clear HO170; clear BK153; clear BK155; clear HB; have HO_4 := n0_; have HO_156003 := n1_; have HO170 := n2_; have BK153 := n3_; have BK155 := n4_; have HB := n5_; clear n0_ n1_ n2_ n3_ n4_ n5_; (try clear hb); (try clear hb2); (try clear hk); (try clear hi)))
                  go_ret
                  exact ⟨by first | rfl | (simp [errW_none, errW_some] <;> rfl) | (simp [*, errW_none, errW_some] <;> rfl), by repeat (first | (with_reducible first | exact HB.out | apply below_alloc | apply pw_below_drewN | apply below_drew1 | refine below_set ?_ GE153.out | refine below_set ?_ GE155.out) | exact HB.out)⟩
                · rw [if_neg c36] at H
                  have c36b0 : ((strOfNums x4_1).toList == (strOfNums t168).toList) = false := beq_eq_false_iff_ne.mpr c36
                  have c36b1 : ((strOfNums x4_1).toList != (strOfNums t168).toList) = true := bne_iff_ne.mpr c36
                  obtain rfl := Option.some.inj H
                  have hnb46 := NB155_153.out
                  have hnc46 := NB153_155.out
                  have hcz47_0 : wr.cell? ⟨gb155, 0, none⟩ = some (.int .u64 a0_0) := (blk_cell BK155.out 0).trans rfl
                  have hcz47_1 : wr.cell? ⟨gb155, 1, none⟩ = some (.int .u32 a0_1) := (blk_cell BK155.out 1).trans rfl
                  have hcz47_2 : wr.cell? ⟨gb155, 2, none⟩ = some (.int .u8 a0_2) := (blk_cell BK155.out 2).trans rfl
                  have hcz47_3 : wr.cell? ⟨gb155, 3, none⟩ = some (u156003) := (blk_cell BK155.out 3).trans rfl
                  have hfz47_0 := blk_frozen BK155.out 0
                  have hfz47_1 := blk_frozen BK155.out 1
                  have hfz47_2 := blk_frozen BK155.out 2
                  have hfz47_3 := blk_frozen BK155.out 3
                  obtain ⟨Ao48, co48, eo48⟩ := Kd.R_slice HO_156003.out
                  subst eo48
                  have hcz49_0 : wr.cell? ⟨gb153, 0, none⟩ = some (.int .u64 a0_0) := (blk_cell BK153.out 0).trans rfl
                  have hcz49_1 : wr.cell? ⟨gb153, 1, none⟩ = some (.int .u32 a0_1) := (blk_cell BK153.out 1).trans rfl
                  have hcz49_2 : wr.cell? ⟨gb153, 2, none⟩ = some (.int .u8 a0_2) := (blk_cell BK153.out 2).trans rfl
                  have hcz49_3 : wr.cell? ⟨gb153, 3, none⟩ = some (.slice A0_3 l0_3.length c0_3) := (blk_cell BK153.out 3).trans rfl
                  have hfz49_0 := blk_frozen BK153.out 0
                  have hfz49_1 := blk_frozen BK153.out 1
                  have hfz49_2 := blk_frozen BK153.out 2
                  have hfz49_3 := blk_frozen BK153.out 3
                  go_wp2_with (first | ((with_reducible refine gate_callee (f := 10) rfl ?_); refine goesL_ (some 51) rfl rfl Tryd.func10 (by kernel_rfl) rfl #[.agg #[.int .u64 a0_0, .int .u32 a0_1, .int .u8 a0_2, .slice A0_3 l0_3.length c0_3]] rfl (by (try simp only [List.map_toArray, List.map_cons, List.map_nil]); first | done | rfl | (simp only [List.length_drop, List.length_take]; rfl)) ?_; (with_reducible refine (tabularyref06_Pack.calls k1 a0_0 a0_1 a0_2 _ _ l0_3 t168 t171 _ ?side1 ?side2 A34.out).mono ?_); (case side1 => repeat (first | exact (Kd.C_below HR0_3.out HB.out) | (with_reducible refine Kd.C_alloc ?_ _) | (with_reducible refine Kd.C_drewN ?_ _) | (with_reducible refine Kd.C_drew ?_))); (case side2 => exact HC0_3.out); rintro e w50 ⟨v169, rfl, ho0, hb⟩; refine ⟨_, rfl, ?_⟩; have n0_ := Aside0.mk (Kd.R_elder' (by (with_reducible repeat (first | apply Kd.R_alloc | apply Kd.R_drewN | apply Kd.R_drew)); exact HO_4.out) (Kd.R_base ho0) hb); have n1_ := Aside0.mk (Kd.R_elder' (by (with_reducible repeat (first | apply Kd.R_alloc | apply Kd.R_drewN | apply Kd.R_drew)); exact HO_156003.out) (Kd.R_base ho0) hb); have n2_ := Aside0.mk (Kd.R_lower (Kd.R_new' (Kd.R_new' ho0 (Kd.R_lt (by (with_reducible repeat (first | apply Kd.R_alloc | apply Kd.R_drewN | apply Kd.R_drew)); exact HO_4.out))) (Kd.R_lt (by (with_reducible repeat (first | apply Kd.R_alloc | apply Kd.R_drewN | apply Kd.R_drew)); exact HO_156003.out))) (below_size (by repeat (first | (with_reducible first | exact HB.out | apply below_alloc | apply pw_below_drewN | apply below_drew1 | refine below_set ?_ GE153.out | refine below_set ?_ GE155.out) | exact HB.out)))); have n3_ := Aside0.mk (blk_below (g := gb153) (o := .cells #[.int .u64 a0_0, .int .u32 a0_1, .int .u8 a0_2, .slice A0_3 l0_3.length c0_3] 26 (0, 0)) (by (with_reducible repeat (first | refine blk_drewN ?_ _ | refine blk_drew ?_ | refine blk_alloc ?_ _)); exact BK153.out) hb); have n4_ := Aside0.mk (blk_below (g := gb155) (o := .cells #[.int .u64 a0_0, .int .u32 a0_1, .int .u8 a0_2, .slice Ao48 x156003_1.length co48] 26 (0, 0)) (by (with_reducible repeat (first | refine blk_drewN ?_ _ | refine blk_drew ?_ | refine blk_alloc ?_ _)); exact BK155.out) hb); have n5_ := Aside0.mk (below_step (by repeat (first | (with_reducible first | exact HB.out | apply below_alloc | apply pw_below_drewN | apply below_drew1 | refine below_set ?_ GE153.out | refine below_set ?_ GE155.out) | exact HB.out)) hb); clear HO_4; clear HO_156003; clear BK153; clear BK155; clear HB; have HO_4 := n0_; have HO_156003 := n1_; have HO170 := n2_; have BK153 := n3_; have BK155 := n4_; have HB := n5_; clear n0_ n1_ n2_ n3_ n4_ n5_; (try clear hb); (try clear hb2); (try clear hk); (try clear hi); (try clear ho0); have hcv51 := own_string (P := Tryd.prog) Tryd.underlying24 Tryd.underlying5 Tryd.underlying9 (Kd.own_of_R HO_4.out); have hcv52 := own_string (P := Tryd.prog) Tryd.underlying24 Tryd.underlying5 Tryd.underlying9 (Kd.own_of_R HO170.out)))
                  go_ret
                  exact ⟨by first | rfl | (simp [errW_none, errW_some] <;> rfl) | (simp [*, errW_none, errW_some] <;> rfl), by repeat (first | (with_reducible first | exact HB.out | apply below_alloc | apply pw_below_drewN | apply below_drew1 | refine below_set ?_ GE153.out | refine below_set ?_ GE155.out) | exact HB.out)⟩
              · rw [if_neg c35] at H
                have c35b0 : (t165 == t171) = false := beq_eq_false_iff_ne.mpr c35
                have c35b1 : (t165 != t171) = true := bne_iff_ne.mpr c35
                obtain rfl := Option.some.inj H
                have hnb53 := NB155_153.out
                have hnc53 := NB153_155.out
                have hcz54_0 : wr.cell? ⟨gb155, 0, none⟩ = some (.int .u64 a0_0) := (blk_cell BK155.out 0).trans rfl
                have hcz54_1 : wr.cell? ⟨gb155, 1, none⟩ = some (.int .u32 a0_1) := (blk_cell BK155.out 1).trans rfl
                have hcz54_2 : wr.cell? ⟨gb155, 2, none⟩ = some (.int .u8 a0_2) := (blk_cell BK155.out 2).trans rfl
                have hcz54_3 : wr.cell? ⟨gb155, 3, none⟩ = some (u156003) := (blk_cell BK155.out 3).trans rfl
                have hfz54_0 := blk_frozen BK155.out 0
                have hfz54_1 := blk_frozen BK155.out 1
                have hfz54_2 := blk_frozen BK155.out 2
                have hfz54_3 := blk_frozen BK155.out 3
                obtain ⟨Ao55, co55, eo55⟩ := Kd.R_slice HO_156003.out
                subst eo55
                have hcz56_0 : wr.cell? ⟨gb153, 0, none⟩ = some (.int .u64 a0_0) := (blk_cell BK153.out 0).trans rfl
                have hcz56_1 : wr.cell? ⟨gb153, 1, none⟩ = some (.int .u32 a0_1) := (blk_cell BK153.out 1).trans rfl
                have hcz56_2 : wr.cell? ⟨gb153, 2, none⟩ = some (.int .u8 a0_2) := (blk_cell BK153.out 2).trans rfl
                have hcz56_3 : wr.cell? ⟨gb153, 3, none⟩ = some (.slice A0_3 l0_3.length c0_3) := (blk_cell BK153.out 3).trans rfl
                have hfz56_0 := blk_frozen BK153.out 0
                have hfz56_1 := blk_frozen BK153.out 1
                have hfz56_2 := blk_frozen BK153.out 2
                have hfz56_3 := blk_frozen BK153.out 3
                go_wp2_with (first | ((with_reducible refine gate_callee (f := 10) rfl ?_); refine goesL_ (some 51) rfl rfl Tryd.func10 (by kernel_rfl) rfl #[.agg #[.int .u64 a0_0, .int .u32 a0_1, .int .u8 a0_2, .slice A0_3 l0_3.length c0_3]] rfl (by (try simp only [List.map_toArray, List.map_cons, List.map_nil]); first | done | rfl | (simp only [List.length_drop, List.length_take]; rfl)) ?_; (with_reducible refine (tabularyref06_Pack.calls k1 a0_0 a0_1 a0_2 _ _ l0_3 t168 t171 _ ?side1 ?side2 A34.out).mono ?_); (case side1 => repeat (first | exact (Kd.C_below HR0_3.out HB.out) | (with_reducible refine Kd.C_alloc ?_ _) | (with_reducible refine Kd.C_drewN ?_ _) | (with_reducible refine Kd.C_drew ?_))); (case side2 => exact HC0_3.out); rintro e w57 ⟨v169, rfl, ho0, hb⟩; refine ⟨_, rfl, ?_⟩; have n0_ := Aside0.mk (Kd.R_elder' (by (with_reducible repeat (first | apply Kd.R_alloc | apply Kd.R_drewN | apply Kd.R_drew)); exact HO_4.out) (Kd.R_base ho0) hb); have n1_ := Aside0.mk (Kd.R_elder' (by (with_reducible repeat (first | apply Kd.R_alloc | apply Kd.R_drewN | apply Kd.R_drew)); exact HO_156003.out) (Kd.R_base ho0) hb); have n2_ := Aside0.mk (Kd.R_lower (Kd.R_new' (Kd.R_new' ho0 (Kd.R_lt (by (with_reducible repeat (first | apply Kd.R_alloc | apply Kd.R_drewN | apply Kd.R_drew)); exact HO_4.out))) (Kd.R_lt (by (with_reducible repeat (first | apply Kd.R_alloc | apply Kd.R_drewN | apply Kd.R_drew)); exact HO_156003.out))) (below_size (by repeat (first | (with_reducible first | exact HB.out | apply below_alloc | apply pw_below_drewN | apply below_drew1 | refine below_set ?_ GE153.out | refine below_set ?_ GE155.out) | exact HB.out)))); have n3_ := Aside0.mk (blk_below (g := gb153) (o := .cells #[.int .u64 a0_0, .int .u32 a0_1, .int .u8 a0_2, .slice A0_3 l0_3.length c0_3] 26 (0, 0)) (by (with_reducible repeat (first | refine blk_drewN ?_ _ | refine blk_drew ?_ | refine blk_alloc ?_ _)); exact BK153.out) hb); have n4_ := Aside0.mk (blk_below (g := gb155) (o := .cells #[.int .u64 a0_0, .int .u32 a0_1, .int .u8 a0_2, .slice Ao55 x156003_1.length co55] 26 (0, 0)) (by (with_reducible repeat (first | refine blk_drewN ?_ _ | refine blk_drew ?_ | refine blk_alloc ?_ _)); exact BK155.out) hb); have n5_ := Aside0.mk (below_step (by repeat (first | (with_reducible first | exact HB.out | apply below_alloc | apply pw_below_drewN | apply below_drew1 | refine below_set ?_ GE153.out | refine below_set ?_ GE155.out) | exact HB.out)) hb); clear HO_4; clear HO_156003; clear BK153; clear BK155; clear HB; have HO_4 := n0_; have HO_156003 := n1_; have HO170 := n2_; have BK153 := n3_; have BK155 := n4_; have HB := n5_; clear n0_ n1_ n2_ n3_ n4_ n5_; (try clear hb); (try clear hb2); (try clear hk); (try clear hi); (try clear ho0)))
                go_ret
                exact ⟨by first | rfl | (simp [errW_none, errW_some] <;> rfl) | (simp [*, errW_none, errW_some] <;> rfl), by repeat (first | (with_reducible first | exact HB.out | apply below_alloc | apply pw_below_drewN | apply below_drew1 | refine below_set ?_ GE153.out | refine below_set ?_ GE155.out) | exact HB.out)⟩
      · rw [if_neg c9] at H
        have c9b0 : ((strOfNums y159).toList == (strOfNums l0_3).toList) = false := beq_eq_false_iff_ne.mpr c9
        have c9b1 : ((strOfNums y159).toList != (strOfNums l0_3).toList) = true := bne_iff_ne.mpr c9
        obtain rfl := Option.some.inj H
        go_enter Tryd.func3, Tryd.ntmps3
        go_wp2_with (first | ((with_reducible refine gate_dst (N := 1) rfl ?_); refine box_event ?hg (N := 1) ?hd (cs := #[.int .u64 a0_0, .int .u32 a0_1, .int .u8 a0_2, .slice A0_3 l0_3.length c0_3]) (t := 26) ?hr ?_; (case hd => rfl); (case hg => rfl); (case hr => first | (go_simp; done) | (go_simp; rfl)); intro gb153 hg w58 hbox hb; have n0_ := Aside0.mk (below_step (by repeat (first | (with_reducible first | exact HB.out | apply below_alloc | apply pw_below_drewN | apply below_drew1) | exact HB.out)) hb); have n1_ := Aside0.mk (hbox); have n2_ := Aside0.mk ((by rw [hg]; exact (below_size (by repeat (first | (with_reducible first | exact HB.out | apply below_alloc | apply pw_below_drewN | apply below_drew1) | exact HB.out))) : w.heap.size ≤ gb153)); have n3_ := Aside0.mk ((by rw [hg]; exact (below_size (by repeat (first | (with_reducible first | exact HB.out | apply below_alloc | apply pw_below_drewN | apply below_drew1) | exact HB.out))) : w.heap.size ≤ gb153)); clear HB; have HB := n0_; have BK153 := n1_; have GW153 := n2_; have GE153 := n3_; clear n0_ n1_ n2_ n3_; clear hb hbox hg; have hcz59_0 : w58.cell? ⟨gb153, 0, none⟩ = some (.int .u64 a0_0) := (blk_cell BK153.out 0).trans rfl; have hcz59_1 : w58.cell? ⟨gb153, 1, none⟩ = some (.int .u32 a0_1) := (blk_cell BK153.out 1).trans rfl; have hcz59_2 : w58.cell? ⟨gb153, 2, none⟩ = some (.int .u8 a0_2) := (blk_cell BK153.out 2).trans rfl; have hcz59_3 : w58.cell? ⟨gb153, 3, none⟩ = some (.slice A0_3 l0_3.length c0_3) := (blk_cell BK153.out 3).trans rfl; have hfz59_0 := blk_frozen BK153.out 0; have hfz59_1 := blk_frozen BK153.out 1; have hfz59_2 := blk_frozen BK153.out 2; have hfz59_3 := blk_frozen BK153.out 3) | ((with_reducible refine gate_dst (N := 3) rfl ?_); refine box_event ?hg (N := 3) ?hd (cs := #[.int .u64 0, .int .u32 0, .int .u8 0, .slice none 0 0]) (t := 26) ?hr ?_; (case hd => rfl); (case hg => rfl); (case hr => first | (go_simp; done) | (go_simp; rfl)); intro gb155 hg w60 hbox hb; have n0_ := Aside0.mk (blk_below (g := gb153) (o := .cells #[.int .u64 a0_0, .int .u32 a0_1, .int .u8 a0_2, .slice A0_3 l0_3.length c0_3] 26 (0, 0)) (by (with_reducible repeat (first | refine blk_drewN ?_ _ | refine blk_drew ?_ | refine blk_alloc ?_ _)); exact BK153.out) hb); have n1_ := Aside0.mk (below_step (by repeat (first | (with_reducible first | exact HB.out | apply below_alloc | apply pw_below_drewN | apply below_drew1 | refine below_set ?_ GE153.out) | exact HB.out)) hb); have n2_ := Aside0.mk (hbox); have n3_ := Aside0.mk ((by rw [hg]; exact (below_size (by repeat (first | (with_reducible first | exact HB.out | apply below_alloc | apply pw_below_drewN | apply below_drew1 | refine below_set ?_ GE153.out) | exact HB.out))) : w.heap.size ≤ gb155)); have n4_ := Aside0.mk ((by rw [hg]; exact (below_size (by repeat (first | (with_reducible first | exact HB.out | apply below_alloc | apply pw_below_drewN | apply below_drew1 | refine below_set ?_ GE153.out) | exact HB.out))) : w.heap.size ≤ gb155)); have n5_ := Aside0.mk ((by rw [hg]; exact Nat.ne_of_lt (blk_lt (g := gb153) (o := .cells #[.int .u64 a0_0, .int .u32 a0_1, .int .u8 a0_2, .slice A0_3 l0_3.length c0_3] 26 (0, 0)) (by (with_reducible repeat (first | refine blk_drewN ?_ _ | refine blk_drew ?_ | refine blk_alloc ?_ _)); exact BK153.out)) : gb153 ≠ gb155)); have n6_ := Aside0.mk ((by rw [hg]; exact Nat.ne_of_gt (blk_lt (g := gb153) (o := .cells #[.int .u64 a0_0, .int .u32 a0_1, .int .u8 a0_2, .slice A0_3 l0_3.length c0_3] 26 (0, 0)) (by (with_reducible repeat (first | refine blk_drewN ?_ _ | refine blk_drew ?_ | refine blk_alloc ?_ _)); exact BK153.out)) : gb155 ≠ gb153)); clear BK153; clear HB; have BK153 := n0_; have HB := n1_; have BK155 := n2_; have GW155 := n3_; have GE155 := n4_; have NB153_155 := n5_; have NB155_153 := n6_; clear n0_ n1_ n2_ n3_ n4_ n5_ n6_; clear hb hbox hg; have hnb61 := NB155_153.out; have hnc61 := NB153_155.out; have hcz62_0 : w60.cell? ⟨gb155, 0, none⟩ = some (.int .u64 0) := (blk_cell BK155.out 0).trans rfl; have hcz62_1 : w60.cell? ⟨gb155, 1, none⟩ = some (.int .u32 0) := (blk_cell BK155.out 1).trans rfl; have hcz62_2 : w60.cell? ⟨gb155, 2, none⟩ = some (.int .u8 0) := (blk_cell BK155.out 2).trans rfl; have hcz62_3 : w60.cell? ⟨gb155, 3, none⟩ = some (.slice none 0 0) := (blk_cell BK155.out 3).trans rfl; have hfz62_0 := blk_frozen BK155.out 0; have hfz62_1 := blk_frozen BK155.out 1; have hfz62_2 := blk_frozen BK155.out 2; have hfz62_3 := blk_frozen BK155.out 3) | ((with_reducible refine gate_dst (N := 15) rfl ?_); refine Kd.R_lit (Kd.int .u8) _ 5 ?hg (N := 15) ?hd (xs := ([] : List Int)) (inner := []) (ok := fun _ => True) (okp := fun _ => True) ?hr ?hp (fun _ hk => hk) trivial (Below.refl _ _) (Nat.le_refl _) (by simp) ?_; (case hd => rfl); (case hg => rfl); (case hr => first | (go_simp; done) | (go_simp; rfl)); (case hp => exact (Reps.none _ _)); intro v157 w63 ho64 hb hg_ hnew_; clear hg_ hnew_; (first | rw [← Ny156.out] at ho64 | (simp only [Int.reduceToNat] at ho64; rw [← Ny156.out] at ho64)); have n0_ := Aside0.mk (Kd.R_lower ho64 (below_size (by repeat (first | (with_reducible first | exact HB.out | apply below_alloc | apply pw_below_drewN | apply below_drew1 | refine below_set ?_ GE153.out | refine below_set ?_ GE155.out) | exact HB.out)))); have n1_ := Aside0.mk (blk_below (g := gb153) (o := .cells #[.int .u64 a0_0, .int .u32 a0_1, .int .u8 a0_2, .slice A0_3 l0_3.length c0_3] 26 (0, 0)) (by (with_reducible repeat (first | refine blk_drewN ?_ _ | refine blk_drew ?_ | refine blk_alloc ?_ _)); refine blk_far ?_ NB153_155.out _; (with_reducible repeat (first | refine blk_drewN ?_ _ | refine blk_drew ?_ | refine blk_alloc ?_ _)); refine blk_far ?_ NB153_155.out _; (with_reducible repeat (first | refine blk_drewN ?_ _ | refine blk_drew ?_ | refine blk_alloc ?_ _)); refine blk_far ?_ NB153_155.out _; (with_reducible repeat (first | refine blk_drewN ?_ _ | refine blk_drew ?_ | refine blk_alloc ?_ _)); refine blk_far ?_ NB153_155.out _; (with_reducible repeat (first | refine blk_drewN ?_ _ | refine blk_drew ?_ | refine blk_alloc ?_ _)); exact BK153.out) hb); have n2_ := Aside0.mk (blk_below (g := gb155) (o := .cells #[.int .u64 a0_0, .int .u32 a0_1, .int .u8 a0_2, .slice A0_3 l0_3.length c0_3] 26 (0, 0)) (by (with_reducible repeat (first | refine blk_drewN ?_ _ | refine blk_drew ?_ | refine blk_alloc ?_ _)); refine blk_put (cs := #[.int .u64 a0_0, .int .u32 a0_1, .int .u8 a0_2, .slice none 0 0]) ?_ 3 _ rfl; (with_reducible repeat (first | refine blk_drewN ?_ _ | refine blk_drew ?_ | refine blk_alloc ?_ _)); refine blk_put (cs := #[.int .u64 a0_0, .int .u32 a0_1, .int .u8 0, .slice none 0 0]) ?_ 2 _ rfl; (with_reducible repeat (first | refine blk_drewN ?_ _ | refine blk_drew ?_ | refine blk_alloc ?_ _)); refine blk_put (cs := #[.int .u64 a0_0, .int .u32 0, .int .u8 0, .slice none 0 0]) ?_ 1 _ rfl; (with_reducible repeat (first | refine blk_drewN ?_ _ | refine blk_drew ?_ | refine blk_alloc ?_ _)); refine blk_put (cs := #[.int .u64 0, .int .u32 0, .int .u8 0, .slice none 0 0]) ?_ 0 _ rfl; (with_reducible repeat (first | refine blk_drewN ?_ _ | refine blk_drew ?_ | refine blk_alloc ?_ _)); exact BK155.out) hb); have n3_ := Aside0.mk (below_step (by repeat (first | (with_reducible first | exact HB.out | apply below_alloc | apply pw_below_drewN | apply below_drew1 | refine below_set ?_ GE153.out | refine below_set ?_ GE155.out) | exact HB.out)) hb); clear BK153; clear BK155; clear HB; have HO158 := n0_; have BK153 := n1_; have BK155 := n2_; have HB := n3_; clear n0_ n1_ n2_ n3_; clear hb ho64; have hcz65_0 : w63.cell? ⟨gb153, 0, none⟩ = some (.int .u64 a0_0) := (blk_cell BK153.out 0).trans rfl; have hcz65_1 : w63.cell? ⟨gb153, 1, none⟩ = some (.int .u32 a0_1) := (blk_cell BK153.out 1).trans rfl; have hcz65_2 : w63.cell? ⟨gb153, 2, none⟩ = some (.int .u8 a0_2) := (blk_cell BK153.out 2).trans rfl; have hcz65_3 : w63.cell? ⟨gb153, 3, none⟩ = some (.slice A0_3 l0_3.length c0_3) := (blk_cell BK153.out 3).trans rfl; have hfz65_0 := blk_frozen BK153.out 0; have hfz65_1 := blk_frozen BK153.out 1; have hfz65_2 := blk_frozen BK153.out 2; have hfz65_3 := blk_frozen BK153.out 3) | ((with_reducible refine gate_builtin (b := .append) (xs := #[.tmp 15, .tmp 17]) rfl ?_); at_builtin; refine Kd.R_append_rows (Kd.int .u8) (w0 := w) w.heap.size rfl (.tmp 15) (.tmp 17) 24 5 (.int .u8 0) 1 rfl Tryd.underlying24 info5 rfl (by decide) (by omega) v157 y156 l0_3 _ _ _ (fun _ => True) (fun _ => False) rfl rfl ?aO ?aR (fun _ _ h => h) (fun _ h => h.elim) ?aF ?aB ?aS ?aL ?_; (case aR => repeat (first | exact (Kd.C_below HR0_3.out HB.out) | (with_reducible refine Kd.C_alloc ?_ _) | (with_reducible refine Kd.C_drewN ?_ _) | (with_reducible refine Kd.C_drew ?_))); (case aB => exact (by repeat (first | (with_reducible first | exact HB.out | apply below_alloc | apply pw_below_drewN | apply below_drew1 | refine below_set ?_ GE153.out | refine below_set ?_ GE155.out) | exact HB.out))); (case aF => exact (fun _ _ => trivial)); (case aO => exact (by (with_reducible repeat (first | apply Kd.R_alloc | apply Kd.R_drewN | apply Kd.R_drew)); exact HO158.out)); (case aS => exact (below_size (by repeat (first | (with_reducible first | exact HB.out | apply below_alloc | apply pw_below_drewN | apply below_drew1 | refine below_set ?_ GE153.out | refine below_set ?_ GE155.out) | exact HB.out)))); (case aL => have := LMc7.out; omega); intro v160 w66 ho hb hg hat; rw [← Ny159.out] at ho; have n0_ := Aside0.mk (blk_grown (g := gb153) (o := .cells #[.int .u64 a0_0, .int .u32 a0_1, .int .u8 a0_2, .slice A0_3 l0_3.length c0_3] 26 (0, 0)) (by (with_reducible repeat (first | refine blk_drewN ?_ _ | refine blk_drew ?_ | refine blk_alloc ?_ _)); exact BK153.out) hg (Kd.R_ne HO158.out BK153.out (by decide))); have n1_ := Aside0.mk (blk_grown (g := gb155) (o := .cells #[.int .u64 a0_0, .int .u32 a0_1, .int .u8 a0_2, .slice A0_3 l0_3.length c0_3] 26 (0, 0)) (by (with_reducible repeat (first | refine blk_drewN ?_ _ | refine blk_drew ?_ | refine blk_alloc ?_ _)); exact BK155.out) hg (Kd.R_ne HO158.out BK155.out (by decide))); have n2_ := Aside0.mk (hb); have n3_ := Aside0.mk (ho); clear BK153; clear BK155; clear HB; clear HO158; have BK153 := n0_; have BK155 := n1_; have HB := n2_; have HO161 := n3_; clear n0_ n1_ n2_ n3_; clear ho hb hg hat; obtain ⟨Ao67, co67, eo67⟩ := Kd.R_slice HO161.out; subst eo67; have hcz68_0 : w66.cell? ⟨gb155, 0, none⟩ = some (.int .u64 a0_0) := (blk_cell BK155.out 0).trans rfl; have hcz68_1 : w66.cell? ⟨gb155, 1, none⟩ = some (.int .u32 a0_1) := (blk_cell BK155.out 1).trans rfl; have hcz68_2 : w66.cell? ⟨gb155, 2, none⟩ = some (.int .u8 a0_2) := (blk_cell BK155.out 2).trans rfl; have hcz68_3 : w66.cell? ⟨gb155, 3, none⟩ = some (.slice A0_3 l0_3.length c0_3) := (blk_cell BK155.out 3).trans rfl; have hfz68_0 := blk_frozen BK155.out 0; have hfz68_1 := blk_frozen BK155.out 1; have hfz68_2 := blk_frozen BK155.out 2; have hfz68_3 := blk_frozen BK155.out 3) | ((with_reducible refine gate_callee (f := 9) rfl ?_); refine goesL_ (some 22) rfl rfl Tryd.func9 (by kernel_rfl) rfl #[.agg #[.int .u64 a0_0, .int .u32 a0_1, .int .u8 a0_2, .slice Ao67 y159.length co67]] rfl (by (try simp only [List.map_toArray, List.map_cons, List.map_nil]); first | done | rfl | (simp only [List.length_drop, List.length_take]; rfl)) ?_; (with_reducible refine (block_Pack.calls a0_0 a0_1 a0_2 _ _ y159 t162 t165 _ ?side1 ?side2 A8.out).mono ?_); (case side1 => refine (Kd.R_reads' (e := 5) (base := w.heap.size) (ok := fun k_ => True) (n := y159.length) (c := co67) ?_).2.2; exact (by (with_reducible repeat (first | apply Kd.R_alloc | apply Kd.R_drewN | apply Kd.R_drew)); exact (Kd.R_mono (Kd.R_far (p := ⟨gb155, 3, none⟩) (Kd.R_types HO161.out BK155.out (by decide)) (fun _ hk => hk.2) (.slice Ao67 y159.length co67)) (fun _ h_ => h_.1)))); (case side2 => exact (Kd.R_reads' HO161.out).2.1); rintro e w69 ⟨v163, rfl, ho0, hb⟩; refine ⟨_, rfl, ?_⟩; have n0_ := Aside0.mk (Kd.R_elder' (by (with_reducible repeat (first | apply Kd.R_alloc | apply Kd.R_drewN | apply Kd.R_drew)); exact (Kd.R_mono (Kd.R_far (p := ⟨gb155, 3, none⟩) (Kd.R_types HO161.out BK155.out (by decide)) (fun _ hk => hk.2) (.slice Ao67 y159.length co67)) (fun _ h_ => h_.1))) (Kd.R_base ho0) hb); have n1_ := Aside0.mk (Kd.R_lower (Kd.R_new' ho0 (Kd.R_lt (by (with_reducible repeat (first | apply Kd.R_alloc | apply Kd.R_drewN | apply Kd.R_drew)); exact (Kd.R_mono (Kd.R_far (p := ⟨gb155, 3, none⟩) (Kd.R_types HO161.out BK155.out (by decide)) (fun _ hk => hk.2) (.slice Ao67 y159.length co67)) (fun _ h_ => h_.1))))) (below_size (by repeat (first | (with_reducible first | exact HB.out | apply below_alloc | apply pw_below_drewN | apply below_drew1 | refine below_set ?_ GE153.out | refine below_set ?_ GE155.out) | exact HB.out)))); have n2_ := Aside0.mk (blk_below (g := gb153) (o := .cells #[.int .u64 a0_0, .int .u32 a0_1, .int .u8 a0_2, .slice A0_3 l0_3.length c0_3] 26 (0, 0)) (by (with_reducible repeat (first | refine blk_drewN ?_ _ | refine blk_drew ?_ | refine blk_alloc ?_ _)); refine blk_far ?_ NB153_155.out _; (with_reducible repeat (first | refine blk_drewN ?_ _ | refine blk_drew ?_ | refine blk_alloc ?_ _)); exact BK153.out) hb); have n3_ := Aside0.mk (blk_below (g := gb155) (o := .cells #[.int .u64 a0_0, .int .u32 a0_1, .int .u8 a0_2, .slice Ao67 y159.length co67] 26 (0, 0)) (by (with_reducible repeat (first | refine blk_drewN ?_ _ | refine blk_drew ?_ | refine blk_alloc ?_ _)); refine blk_put (cs := #[.int .u64 a0_0, .int .u32 a0_1, .int .u8 a0_2, .slice A0_3 l0_3.length c0_3]) ?_ 3 _ rfl; (with_reducible repeat (first | refine blk_drewN ?_ _ | refine blk_drew ?_ | refine blk_alloc ?_ _)); exact BK155.out) hb); have n4_ := Aside0.mk (below_step (by repeat (first | (with_reducible first | exact HB.out | apply below_alloc | apply pw_below_drewN | apply below_drew1 | refine below_set ?_ GE153.out | refine below_set ?_ GE155.out) | exact HB.out)) hb); clear HO161; clear BK153; clear BK155; clear HB; have HO161 := n0_; have HO164 := n1_; have BK153 := n2_; have BK155 := n3_; have HB := n4_; clear n0_ n1_ n2_ n3_ n4_; (try clear hb); (try clear hb2); (try clear hk); (try clear hi); (try clear ho0); have hcz70_0 : w69.cell? ⟨gb155, 0, none⟩ = some (.int .u64 a0_0) := (blk_cell BK155.out 0).trans rfl; have hcz70_1 : w69.cell? ⟨gb155, 1, none⟩ = some (.int .u32 a0_1) := (blk_cell BK155.out 1).trans rfl; have hcz70_2 : w69.cell? ⟨gb155, 2, none⟩ = some (.int .u8 a0_2) := (blk_cell BK155.out 2).trans rfl; have hcz70_3 : w69.cell? ⟨gb155, 3, none⟩ = some (.slice Ao67 y159.length co67) := (blk_cell BK155.out 3).trans rfl; have hfz70_0 := blk_frozen BK155.out 0; have hfz70_1 := blk_frozen BK155.out 1; have hfz70_2 := blk_frozen BK155.out 2; have hfz70_3 := blk_frozen BK155.out 3; have hcv71 := own_string (P := Tryd.prog) Tryd.underlying24 Tryd.underlying5 Tryd.underlying9 (Kd.own_of_R HO161.out); have hcz72_0 : w69.cell? ⟨gb153, 0, none⟩ = some (.int .u64 a0_0) := (blk_cell BK153.out 0).trans rfl; have hcz72_1 : w69.cell? ⟨gb153, 1, none⟩ = some (.int .u32 a0_1) := (blk_cell BK153.out 1).trans rfl; have hcz72_2 : w69.cell? ⟨gb153, 2, none⟩ = some (.int .u8 a0_2) := (blk_cell BK153.out 2).trans rfl; have hcz72_3 : w69.cell? ⟨gb153, 3, none⟩ = some (.slice A0_3 l0_3.length c0_3) := (blk_cell BK153.out 3).trans rfl; have hfz72_0 := blk_frozen BK153.out 0; have hfz72_1 := blk_frozen BK153.out 1; have hfz72_2 := blk_frozen BK153.out 2; have hfz72_3 := blk_frozen BK153.out 3; have hcv73 := Kd.C_string (P := Tryd.prog) (A := A0_3) (c := c0_3) Tryd.underlying24 Tryd.underlying5 Tryd.underlying9 (Kd.C_below HR0_3.out HB.out); have hcv73b := hcv73; (try simp only [List.length_drop, List.length_take, Int.reduceToNat] at hcv73b)))
        go_ret
        exact ⟨by first | rfl | (simp [errW_none, errW_some] <;> rfl) | (simp [*, errW_none, errW_some] <;> rfl), by repeat (first | (with_reducible first | exact HB.out | apply below_alloc | apply pw_below_drewN | apply below_drew1 | refine below_set ?_ GE153.out | refine below_set ?_ GE155.out) | exact HB.out)⟩
    · rw [if_neg c7] at H
      exact absurd H (by simp)

end Go.Proofs.YthmcigdkopadjaaDoor.PBlockPacks
end

-- Written by wip/tools/myprint.py, a program of this session over the print tool: not a printed text of the kit's
section
namespace Go.Proofs.YthmcigdkopadjaaDoor.PBlockPacks
open Go.RowKit Go.Proofs.YthmcigdkopadjaaDoorW.PrintWords Go.Proofs.YthmcigdkopadjaaDoorW.PrintLast Go.Proofs.YthmcigdkopadjaaDoorW.PrintMore
attribute [local go_sem] max2_int min2_int max_two min_two max_three min_three max_four min_four   -- for this text's walks alone
set_option linter.unusedVariables false
set_option linter.unusedSimpArgs false
set_option maxRecDepth 20000

end Go.Proofs.YthmcigdkopadjaaDoor.PBlockPacks
end

/- BlockPacks: any block's bytes are the document's. -/
section
namespace Go.Proofs.YthmcigdkopadjaaDoor.WalkBlockPacks
open Go.Proofs.YthmcigdkopadjaaDoor Go.RowKit Go.Proofs.YthmcigdkopadjaaDoorW.PrintWords Go.Proofs.YthmcigdkopadjaaDoorW.PrintLast Go.Proofs.YthmcigdkopadjaaDoorW.PrintMore Go.Proofs.YthmcigdkopadjaaDoor.Lay6 Go.Proofs.YthmcigdkopadjaaDoor.Pack6 Go.Proofs.YthmcigdkopadjaaDoor.Block6 Go.Proofs.YthmcigdkopadjaaDoor.PBlockPacks Go.Proofs.YthmcigdkopadjaaDoor.CrcPure Go.Proofs.YthmcigdkopadjaaDoor.Crc6
set_option linter.unusedVariables false
set_option linter.unusedSimpArgs false
theorem wk : tabularylaw06_wakes.f = some true := rfl
theorem rtake_l0 (d : Nat) : ∀ (k x i : Nat), i + d = 8 → d < k → x < 4294967296 → tabularyref04_take.l0 k (x : Int) (i : Int) = some ((CrcMath.shs d x : Nat) : Int) := by
  induction d with
  | zero =>
    intro k x i hi hk hx
    obtain ⟨k, rfl⟩ : ∃ m, k = m + 1 := ⟨k - 1, by omega⟩
    simp only [tabularyref04_take.l0]
    rw [if_neg (by omega)]
    rfl
  | succ d ih =>
    intro k x i hi hk hx
    obtain ⟨k, rfl⟩ : ∃ m, k = m + 1 := ⟨k - 1, by omega⟩
    simp only [tabularyref04_take.l0]
    have e2 : wrap64 ((i : Int) + 1) = ((i + 1 : Nat) : Int) := by rw [w64 ⟨by omega, by omega⟩]; omega
    have e1 : (x : Int) / 2 = ((x / 2 : Nat) : Int) := by omega
    have e3 : Go.bits .xor .u32 ((x / 2 : Nat) : Int) 2197175160 = ((x / 2 ^^^ 2197175160 : Nat) : Int) := xor32 (x / 2) 2197175160 (by omega) (by decide)
    rw [if_pos (by omega), e2, e1, e3, and1 x hx, CrcMath.shs_step]
    have hx2 := CrcMath.sh_lt hx
    by_cases hb : x % 2 = 1
    · have hs : CrcMath.sh x = x / 2 ^^^ 2197175160 := by
        unfold CrcMath.sh; rw [Nat.testBit_zero, hb]; rfl
      rw [if_pos (by omega), ← hs]
      exact ih k _ (i + 1) (by omega) (by omega) hx2
    · have hs : CrcMath.sh x = x / 2 := by
        unfold CrcMath.sh; rw [Nat.testBit_zero, show x % 2 = 0 by omega]; simp
      rw [if_neg (by omega), ← hs]
      exact ih k _ (i + 1) (by omega) (by omega) hx2

theorem rtake (x c : Nat) (hx : x < 4294967296) (hc : c < 256) (k : Nat) (hk : 10 < k) : tabularyref04_take.f k (x : Int) (c : Int) = some ((CrcMath.take x c : Nat) : Int) := by
  unfold tabularyref04_take.f
  have e : (c : Int) % 4294967296 = (c : Int) := by omega
  rw [e, xor32 x c hx (by omega)]
  exact rtake_l0 8 k _ 0 rfl (by omega) (Nat.xor_lt_two_pow (n := 32) hx (by omega))

theorem rmore_l0 (r : List Nat) : ∀ (k : Nat) (l : List Nat) (x i : Nat), r.length + 20 < k → l.length ≤ 1000000 → Small l → l.drop i = r → i ≤ l.length → x < 4294967296 →
    tabularyref04_More.l0 k (ints l) (x : Int) (i : Int) = some ((4294967295 ^^^ CrcMath.takes r x : Nat) : Int) := by
  induction r with
  | nil =>
    intro k l x i hk hl hs hd hi hx
    obtain ⟨k, rfl⟩ : ∃ m, k = m + 1 := ⟨k - 1, by omega⟩
    have : l.length ≤ i := by have := congrArg List.length hd; simp at this; omega
    simp only [tabularyref04_More.l0]
    rw [ints_len, if_neg (by omega)]
    have := xor32 4294967295 x (by decide) hx
    rw [show ((4294967295 : Nat) : Int) = 4294967295 from rfl] at this
    rw [this]; rfl
  | cons c r ih =>
    intro k l x i hk hl hs hd hi hx
    simp only [List.length_cons] at hk
    obtain ⟨k, rfl⟩ : ∃ m, k = m + 1 := ⟨k - 1, by omega⟩
    have hlt : i < l.length := by have := congrArg List.length hd; simp at this; omega
    have hc : l[i] = c := by rw [List.drop_eq_getElem_cons hlt] at hd; injection hd
    have hr : l.drop (i + 1) = r := by rw [List.drop_eq_getElem_cons hlt] at hd; injection hd
    have hcb : c < 256 := hs c (by rw [← hc]; exact List.getElem_mem hlt)
    have e2 : wrap64 ((i : Int) + 1) = ((i + 1 : Nat) : Int) := by rw [w64 ⟨by omega, by omega⟩]; omega
    have e3 : rd (ints l) (i : Int) = (c : Int) := by
      rw [rd_ints, List.getD_eq_getElem?_getD, List.getElem?_eq_getElem hlt, hc]; rfl
    simp only [tabularyref04_More.l0]
    rw [ints_len, if_pos (by omega), if_pos (by omega), e3, rtake x c hx hcb k (by omega), e2]
    simp only [Option.bind_some]
    exact ih k l _ (i + 1) (by omega) hl hs hr hlt (CrcMath.take_lt hx hcb)

theorem rmore (s : Nat) (l : List Nat) (hs : s < 4294967296) (hl : Small l) (hn : l.length ≤ 1000000) (k : Nat) (hk : l.length + 20 < k) :
    tabularyref04_More.f k (s : Int) (ints l) = some ((CrcMath.more s l : Nat) : Int) := by
  unfold tabularyref04_More.f
  have h1 := xor32 4294967295 s (by decide) hs
  rw [show ((4294967295 : Nat) : Int) = 4294967295 from rfl] at h1
  rw [h1]
  exact rmore_l0 l k l _ 0 (by omega) hn hl rfl (by omega) (Nat.xor_lt_two_pow (n := 32) (by decide) hs)

theorem rsum (l : List Nat) (hl : Small l) (hn : l.length ≤ 1000000) (k : Nat) (hk : l.length + 20 < k) : tabularyref04_Sum.f k (ints l) = some ((CrcMath.more 0 l : Nat) : Int) := by
  unfold tabularyref04_Sum.f
  have := rmore 0 l (by decide) hl hn k hk
  rw [show (0 : Int) = ((0 : Nat) : Int) from rfl, this]
  rfl
theorem rseal_crc (m : List Nat) (hm : Small m) (hn : m.length ≤ 1000000) (k : Nat) (hk : m.length + 20 < k) : tabularyref04_Seal.f k (ints m) = some (ints (sealN m)) := by
  unfold tabularyref04_Seal.f
  rw [rsum m hm hn k hk]
  simp only [Option.bind_some, List.nil_append]
  rw [le4_ints, ints_len, ints_len, if_pos (by show 0 + m.length < _; omega), if_pos (by show m.length + 4 < _; omega), ints_append]
  rfl

/-- A number's highest byte stands first. -/
theorem be_front (x : Int) (n : Nat) : [x / 256 ^ n % 256] ++ be x n = be x (n + 1) := by
  induction n generalizing x with
  | zero => show [x / 256 ^ 0 % 256] ++ [] = [] ++ [x % 256]; rw [Int.pow_zero, Int.ediv_one]; rfl
  | succ n ih =>
    show [x / 256 ^ (n + 1) % 256] ++ (be (x / 256) n ++ [x % 256]) = be (x / 256) (n + 1) ++ [x % 256]
    rw [← ih (x / 256), ← List.append_assoc]
    congr 3
    rw [Int.pow_succ, Int.mul_comm, Int.ediv_ediv_of_nonneg (by decide)]
theorem rseal (l : List Int) (hA : AreB l) (hl : l.length ≤ 1000000) (k : Nat) (hk : l.length + 20 < k) : tabularyref04_Seal.f k l = some (sealI l) := by
  have := rseal_crc (nats l) (nats_small hA) (by simp [nats]; exact hl) k (by simp [nats]; exact hk)
  rw [ints_nats hA] at this
  exact this
theorem l3_some (d : Nat) : ∀ (k : Nat) (l : List Int), l.length + d = 124 → d + 200 < k → AreB l → tabularyref06_Pack.l3 k l = some (sealI (l ++ List.replicate d 0), 0) := by
  induction d with
  | zero =>
    intro k l hl hk hA
    obtain ⟨k, rfl⟩ : ∃ m, k = m + 1 := ⟨k - 1, by omega⟩
    simp only [tabularyref06_Pack.l3]
    rw [if_neg (by omega), rseal l hA (by omega) k (by omega), List.replicate_zero, List.append_nil]
    rfl
  | succ d ih =>
    intro k l hl hk hA
    obtain ⟨k, rfl⟩ : ∃ m, k = m + 1 := ⟨k - 1, by omega⟩
    simp only [tabularyref06_Pack.l3]
    rw [if_pos (by omega), if_pos (by omega), ih k (l ++ [0]) (by rw [List.length_append]; simp; omega) (by omega) (areB_append hA (fun x hx => by simp at hx; omega))]
    rw [List.append_assoc]
    rfl
theorem l2_some (d : Nat) : ∀ (k : Nat) (l : List Int) (a b c : Int) (data : List Int), l.length + d = 28 → d + 400 < k → AreB l → AreB data → data.length ≤ 96 → tabularyref06_Pack.l2 k l a b c data = some (sealI (l ++ List.replicate d 0 ++ data ++ List.replicate (96 - data.length) 0), 0) := by
  induction d with
  | zero =>
    intro k l a b c data hl hk hA hB hd
    obtain ⟨k, rfl⟩ : ∃ m, k = m + 1 := ⟨k - 1, by omega⟩
    simp only [tabularyref06_Pack.l2]
    rw [if_neg (by omega), if_pos (by omega), l3_some (96 - data.length) k (l ++ data) (by rw [List.length_append]; omega) (by omega) (areB_append hA hB), List.replicate_zero, List.append_nil]
  | succ d ih =>
    intro k l a b c data hl hk hA hB hd
    obtain ⟨k, rfl⟩ : ∃ m, k = m + 1 := ⟨k - 1, by omega⟩
    simp only [tabularyref06_Pack.l2]
    rw [if_pos (by omega), if_pos (by omega), ih k (l ++ [0]) a b c data (by rw [List.length_append]; simp; omega) (by omega) (areB_append hA (fun x hx => by simp at hx; omega)) hB hd]
    rw [show l ++ [0] ++ List.replicate d 0 = l ++ List.replicate (d + 1) 0 by rw [List.append_assoc]; rfl]
theorem l1_some (j : Nat) : ∀ (k : Nat) (l : List Int) (a b c : Int) (data : List Int), j ≤ 4 → j + 500 < k → l.length + j = 16 → AreB l → AreB data → data.length ≤ 96 → (0 ≤ b ∧ b < 4294967296) → (0 ≤ c ∧ c < 256) →
    tabularyref06_Pack.l1 k (l) (8 * (j : Int) - 8) a b c data = some (sealI (l ++ be b j ++ [c, (data.length : Int)] ++ List.replicate 10 0 ++ data ++ List.replicate (96 - data.length) 0), 0) := by
  induction j with
  | zero =>
    intro k l a b c data hj hk hl hA hB hd hb hc
    obtain ⟨k, rfl⟩ : ∃ m, k = m + 1 := ⟨k - 1, by omega⟩
    simp only [tabularyref06_Pack.l1]
    rw [if_neg (by omega)]
    simp only [Option.bind_some]
    rw [show (data.length : Int) % 256 = data.length by omega, if_pos (by simp; omega)]
    rw [l2_some 10 k (l ++ [c, (data.length : Int)]) a b c data (by rw [List.length_append]; simp; omega) (by omega) (areB_append hA (fun x hx => by simp at hx; omega)) hB hd]
    rw [show be b 0 = [] from rfl, List.append_nil]
  | succ j ih =>
    intro k l a b c data hj hk hl hA hB hd hb hc
    obtain ⟨k, rfl⟩ : ∃ m, k = m + 1 := ⟨k - 1, by omega⟩
    have es : shr .u32 b (8 * ((j + 1 : Nat) : Int) - 8) = b / 256 ^ j := by
      unfold shr
      rw [show (8 * ((j + 1 : Nat) : Int) - 8).toNat = 8 * j by omega, show min (8 * j) IntKind.u32.bits = 8 * j from Nat.min_eq_left (by show 8 * j ≤ 32; omega), Lay6.p256]
    simp only [tabularyref06_Pack.l1]
    rw [if_pos (by omega), if_pos (by omega), if_pos (by omega), es, show wrap64 (8 * ((j + 1 : Nat) : Int) - 8 - 8) = 8 * (j : Int) - 8 by unfold wrap64; omega]
    rw [ih k (l ++ [b / 256 ^ j % 256]) a b c data (by omega) (by omega) (by rw [List.length_append]; simp; omega) (areB_append hA (fun x hx => by simp at hx; omega)) hB hd hb hc]
    have hbe : [b / 256 ^ j % 256] ++ be b j = be b (j + 1) := be_front b j
    rw [List.append_assoc l, hbe]
theorem l0_some (j : Nat) : ∀ (k : Nat) (l : List Int) (a b c : Int) (data : List Int), j ≤ 8 → j + 600 < k → l.length + j = 12 → AreB l → AreB data → data.length ≤ 96 → (0 ≤ a ∧ a < 18446744073709551616) → (0 ≤ b ∧ b < 4294967296) → (0 ≤ c ∧ c < 256) →
    tabularyref06_Pack.l0 k (l) (8 * (j : Int) - 8) a b c data = some (sealI (l ++ be a j ++ be b 4 ++ [c, (data.length : Int)] ++ List.replicate 10 0 ++ data ++ List.replicate (96 - data.length) 0), 0) := by
  induction j with
  | zero =>
    intro k l a b c data hj hk hl hA hB hd ha hb hc
    obtain ⟨k, rfl⟩ : ∃ m, k = m + 1 := ⟨k - 1, by omega⟩
    simp only [tabularyref06_Pack.l0]
    rw [if_neg (by omega)]
    have := l1_some 4 k l a b c data (by omega) (by omega) (by omega) hA hB hd hb hc
    rw [show (8 * ((4 : Nat) : Int) - 8) = 24 from rfl] at this
    rw [this, show be a 0 = [] from rfl, List.append_nil]
  | succ j ih =>
    intro k l a b c data hj hk hl hA hB hd ha hb hc
    obtain ⟨k, rfl⟩ : ∃ m, k = m + 1 := ⟨k - 1, by omega⟩
    have es : shr .u64 a (8 * ((j + 1 : Nat) : Int) - 8) = a / 256 ^ j := by
      unfold shr
      rw [show (8 * ((j + 1 : Nat) : Int) - 8).toNat = 8 * j by omega, show min (8 * j) IntKind.u64.bits = 8 * j from Nat.min_eq_left (by show 8 * j ≤ 64; omega), Lay6.p256]
    simp only [tabularyref06_Pack.l0]
    rw [if_pos (by omega), if_pos (by omega), if_pos (by omega), es, show wrap64 (8 * ((j + 1 : Nat) : Int) - 8 - 8) = 8 * (j : Int) - 8 by unfold wrap64; omega]
    rw [ih k (l ++ [a / 256 ^ j % 256]) a b c data (by omega) (by omega) (by rw [List.length_append]; simp; omega) (areB_append hA (fun x hx => by simp at hx; omega)) hB hd ha hb hc]
    have hbe : [a / 256 ^ j % 256] ++ be a j = be a (j + 1) := be_front a j
    rw [List.append_assoc l, hbe]
theorem rpack {key stripe shard : Int} {data : List Int} (h : Okay key stripe shard data) (k : Nat) (hk : 700 < k) : tabularyref06_Pack.f k key stripe shard data = ParseC.packF key stripe shard data := by
  rw [pack_ok h]
  unfold tabularyref06_Pack.f
  by_cases n1 : 96 < data.length
  · rw [if_pos n1, if_pos (by omega)]
  · rw [if_neg n1, if_neg (by omega)]
    have := l0_some 8 k [84, 66, 76, 75] key stripe shard data (by omega) (by omega) rfl (by unfold AreB; decide) h.data (by omega) h.key h.stripe h.shard
    rw [show (8 * ((8 : Nat) : Int) - 8) = 56 from rfl] at this
    rw [this]
    have hs := h.shard
    unfold bodyP headP
    rw [Int.emod_eq_of_lt hs.1 hs.2, show (data.length : Int) % 256 = data.length by omega]
theorem bits_any (x y : Int) : ∃ z, Go.bits .xor .u8 x y = z := ⟨_, rfl⟩
theorem packs_l0 {key stripe shard : Int} {data : List Int} (h : Okay key stripe shard data) (hl : data.length ≤ 4096) (x : List Int) (e : Int) (hp : ParseC.packF key stripe shard data = some (x, e)) (d : Nat) : ∀ (k i : Nat) (m : List Int) (a b c : Int), d + i = m.length → d + 800 < k → m.length ≤ 4096 →
    tabularylaw06_BlockPacks.l0 k x e (i : Int) key stripe shard data a b c m = some true := by
  induction d with
  | zero =>
    intro k i m a b c hi hk hm
    obtain ⟨k, rfl⟩ : ∃ m, k = m + 1 := ⟨k - 1, by omega⟩
    simp only [tabularylaw06_BlockPacks.l0]
    rw [if_neg (by omega), rpack h k (by omega), hp]
    simp only [Option.bind_some]
    rw [if_pos trivial, if_pos trivial, wk]
    rfl
  | succ d ih =>
    intro k i m a b c hi hk hm
    obtain ⟨k, rfl⟩ : ∃ m, k = m + 1 := ⟨k - 1, by omega⟩
    simp only [tabularylaw06_BlockPacks.l0]
    rw [if_pos (by omega), if_pos (by omega), show wrap64 ((i : Int) + 1) = ((i + 1 : Nat) : Int) by unfold wrap64; omega]
    exact ih k (i + 1) _ a b c (by rw [List.length_set]; omega) (by omega) (by rw [List.length_set]; omega)
theorem packs_true {key stripe shard : Int} {data : List Int} (h : Okay key stripe shard data) (hl : data.length ≤ 140737488351232) : tabularylaw06_BlockPacks.f 6000 key stripe shard data = some true := by
  unfold tabularylaw06_BlockPacks.f
  by_cases n : (data.length : Int) > 4096
  · rw [if_pos n, wk]
    rfl
  · rw [if_neg n]
    simp only [Option.bind_some, List.nil_append]
    rw [if_pos (by simp; omega)]
    obtain ⟨x, e, hp⟩ : ∃ x e, ParseC.packF key stripe shard data = some (x, e) := by
      rw [pack_ok h]
      split
      · exact ⟨_, _, rfl⟩
      · exact ⟨_, _, rfl⟩
    rw [show block_Pack.f key stripe shard data = _ from hp]
    simp only [Option.bind_some]
    rw [if_pos trivial]
    exact packs_l0 h (by omega) x e hp data.length 6000 0 data key stripe shard (by omega) (by omega) (by omega)
theorem walk (k1 s1 d1 : Int) (A1 : Option Addr) (c1 : Nat) (l1 : List Int) (W : World)
    (o1 : Okay k1 s1 d1 l1) (h1 : Kd.C (Kd.int .u8) W A1 l1.length l1) (hc1 : l1.length ≤ c1) (hl : l1.length ≤ 140737488351232) :
    Calls Tryd.prog 3 #[.agg #[.int .u64 k1, .int .u32 s1, .int .u8 d1, .slice A1 l1.length c1]] W fun e w' => e = .returned (.bool true) ∧ Below W.heap.size W w' :=
  tabularylaw06_BlockPacks.calls 6000 k1 s1 d1 A1 c1 l1 true W h1 hc1 (packs_true o1 hl)
end Go.Proofs.YthmcigdkopadjaaDoor.WalkBlockPacks
end
