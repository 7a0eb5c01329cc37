/- Texts of this claim, laid together by wip/tools/squash.py: PBlockParsesx3, PBlockParsesx, RefSum, Block6, Back6, RParse6, Own3, RSeal6. -/
import Derived.Test.YthmcigdkopadjaaDoorQBlockParses3
import Derived.Lib.Bytes
import Derived.Test.YthmcigdkopadjaaDoorProg
import Derived.Test.YthmcigdkopadjaaDoorWMore
import Derived.WalkKit
import Derived.KernelRfl
import Derived.Lib.Hide
import Derived.Deep.Onto

-- Written by wip/tools/myprint.py, a program of this session over the print tool: not a printed text of the kit's
section
namespace Go.Proofs.YthmcigdkopadjaaDoor.PBlockParses
open Go.RowKit Go.Proofs.YthmcigdkopadjaaDoorW.PrintWords Go.Proofs.YthmcigdkopadjaaDoorW.PrintLast Go.Proofs.YthmcigdkopadjaaDoorW.PrintMore
attribute [local go_sem] max2_int min2_int max_two min_two max_three min_three max_four min_four   -- for this text's walks alone
set_option linter.unusedVariables false
set_option linter.unusedSimpArgs false
set_option maxRecDepth 20000

/-! ### tabularyref06_Same: function 15 -/
def tabularyref06_Same.f (a0_0 : Int) (a0_1 : Int) (a0_2 : Int) (l0_3 : List Int) (a1_0 : Int) (a1_1 : Int) (a1_2 : Int) (l1_3 : List Int) : Option (Bool) := if a0_0 = a1_0 then (if a0_1 = a1_1 then (if a0_2 = a1_2 then (some ((strOfNums l0_3).toList == (strOfNums l1_3).toList)) else (some false)) else (some false)) else (some false)
set_option maxHeartbeats 8000000 in
set_option maxRecDepth 100000 in
theorem tabularyref06_Same.calls (a0_0 : Int) (a0_1 : Int) (a0_2 : Int) (A0_3 : Option Addr) (c0_3 : Nat) (l0_3 : List Int) (a1_0 : Int) (a1_1 : Int) (a1_2 : Int) (A1_3 : Option Addr) (c1_3 : Nat) (l1_3 : List Int) (r : Bool) (w : World) (hr0_3 : Kd.C (Kd.int .u8) w A0_3 l0_3.length l0_3) (hc0_3 : l0_3.length ≤ c0_3) (hr1_3 : Kd.C (Kd.int .u8) w A1_3 l1_3.length l1_3) (hc1_3 : l1_3.length ≤ c1_3) (h : tabularyref06_Same.f a0_0 a0_1 a0_2 l0_3 a1_0 a1_1 a1_2 l1_3 = some r) :
    Calls Tryd.prog 15 #[.agg #[.int .u64 a0_0, .int .u32 a0_1, .int .u8 a0_2, .slice A0_3 l0_3.length c0_3], .agg #[.int .u64 a1_0, .int .u32 a1_1, .int .u8 a1_2, .slice A1_3 l1_3.length c1_3]] w fun e w' => e = .returned (.bool r) ∧ Below w.heap.size w w' := by
  have hu26 := Tryd.underlying26
  have HR0_3 := Aside0.mk hr0_3
  have HC0_3 := Aside0.mk hc0_3
  clear hr0_3 hc0_3
  have HR1_3 := Aside0.mk hr1_3
  have HC1_3 := Aside0.mk hc1_3
  clear hr1_3 hc1_3
  have HB := Aside0.mk (Below.refl w.heap.size w)
  have H : (if a0_0 = a1_0 then (if a0_1 = a1_1 then (if a0_2 = a1_2 then (some ((strOfNums l0_3).toList == (strOfNums l1_3).toList)) else (some false)) else (some false)) else (some false)) = some r := h
  clear h
  by_cases c3 : a0_0 = a1_0
  · rw [if_pos c3] at H
    have c3b0 : (a0_0 == a1_0) = true := beq_iff_eq.mpr c3
    have c3b1 : (a0_0 != a1_0) = false := bne_eq_false_iff_eq.mpr c3
    clear c3
    by_cases c4 : a0_1 = a1_1
    · rw [if_pos c4] at H
      have c4b0 : (a0_1 == a1_1) = true := beq_iff_eq.mpr c4
      have c4b1 : (a0_1 != a1_1) = false := bne_eq_false_iff_eq.mpr c4
      clear c4
      by_cases c5 : a0_2 = a1_2
      · rw [if_pos c5] at H
        have c5b0 : (a0_2 == a1_2) = true := beq_iff_eq.mpr c5
        have c5b1 : (a0_2 != a1_2) = false := bne_eq_false_iff_eq.mpr c5
        clear c5
        obtain rfl := Option.some.inj H
        go_enter Tryd.func15, Tryd.ntmps15
        go_wp2_with (first | ((with_reducible refine gate_dst (N := 2) rfl ?_); refine box_event ?hg (N := 2) ?hd (cs := #[.int .u64 a0_0, .int .u32 a0_1, .int .u8 a0_2, .slice A0_3 l0_3.length c0_3]) (t := 26) ?hr ?_; (case hd => rfl); (case hg => rfl); (case hr => first | (go_simp; done) | (go_simp; rfl)); intro gb153 hg w6 hbox hb; have n0_ := Aside0.mk (below_step (by repeat (first | (with_reducible first | exact HB.out | apply below_alloc | apply pw_below_drewN | apply below_drew1) | exact HB.out)) hb); have n1_ := Aside0.mk (hbox); have n2_ := Aside0.mk ((by rw [hg]; exact (below_size (by repeat (first | (with_reducible first | exact HB.out | apply below_alloc | apply pw_below_drewN | apply below_drew1) | exact HB.out))) : w.heap.size ≤ gb153)); have n3_ := Aside0.mk ((by rw [hg]; exact (below_size (by repeat (first | (with_reducible first | exact HB.out | apply below_alloc | apply pw_below_drewN | apply below_drew1) | exact HB.out))) : w.heap.size ≤ gb153)); clear HB; have HB := n0_; have BK153 := n1_; have GW153 := n2_; have GE153 := n3_; clear n0_ n1_ n2_ n3_; clear hb hbox hg) | ((with_reducible refine gate_dst (N := 3) rfl ?_); refine box_event ?hg (N := 3) ?hd (cs := #[.int .u64 a1_0, .int .u32 a1_1, .int .u8 a1_2, .slice A1_3 l1_3.length c1_3]) (t := 26) ?hr ?_; (case hd => rfl); (case hg => rfl); (case hr => first | (go_simp; done) | (go_simp; rfl)); intro gb154 hg w7 hbox hb; have n0_ := Aside0.mk (blk_below (g := gb153) (o := .cells #[.int .u64 a0_0, .int .u32 a0_1, .int .u8 a0_2, .slice A0_3 l0_3.length c0_3] 26 (0, 0)) (by (with_reducible repeat (first | refine blk_drewN ?_ _ | refine blk_drew ?_ | refine blk_alloc ?_ _)); exact BK153.out) hb); have n1_ := Aside0.mk (below_step (by repeat (first | (with_reducible first | exact HB.out | apply below_alloc | apply pw_below_drewN | apply below_drew1 | refine below_set ?_ GE153.out) | exact HB.out)) hb); have n2_ := Aside0.mk (hbox); have n3_ := Aside0.mk ((by rw [hg]; exact (below_size (by repeat (first | (with_reducible first | exact HB.out | apply below_alloc | apply pw_below_drewN | apply below_drew1 | refine below_set ?_ GE153.out) | exact HB.out))) : w.heap.size ≤ gb154)); have n4_ := Aside0.mk ((by rw [hg]; exact (below_size (by repeat (first | (with_reducible first | exact HB.out | apply below_alloc | apply pw_below_drewN | apply below_drew1 | refine below_set ?_ GE153.out) | exact HB.out))) : w.heap.size ≤ gb154)); have n5_ := Aside0.mk ((by rw [hg]; exact Nat.ne_of_lt (blk_lt (g := gb153) (o := .cells #[.int .u64 a0_0, .int .u32 a0_1, .int .u8 a0_2, .slice A0_3 l0_3.length c0_3] 26 (0, 0)) (by (with_reducible repeat (first | refine blk_drewN ?_ _ | refine blk_drew ?_ | refine blk_alloc ?_ _)); exact BK153.out)) : gb153 ≠ gb154)); have n6_ := Aside0.mk ((by rw [hg]; exact Nat.ne_of_gt (blk_lt (g := gb153) (o := .cells #[.int .u64 a0_0, .int .u32 a0_1, .int .u8 a0_2, .slice A0_3 l0_3.length c0_3] 26 (0, 0)) (by (with_reducible repeat (first | refine blk_drewN ?_ _ | refine blk_drew ?_ | refine blk_alloc ?_ _)); exact BK153.out)) : gb154 ≠ gb153)); clear BK153; clear HB; have BK153 := n0_; have HB := n1_; have BK154 := n2_; have GW154 := n3_; have GE154 := n4_; have NB153_154 := n5_; have NB154_153 := n6_; clear n0_ n1_ n2_ n3_ n4_ n5_ n6_; clear hb hbox hg; have hnb8 := NB153_154.out; have hnc8 := NB154_153.out; have hcz9_0 : w7.cell? ⟨gb153, 0, none⟩ = some (.int .u64 a0_0) := (blk_cell BK153.out 0).trans rfl; have hcz9_1 : w7.cell? ⟨gb153, 1, none⟩ = some (.int .u32 a0_1) := (blk_cell BK153.out 1).trans rfl; have hcz9_2 : w7.cell? ⟨gb153, 2, none⟩ = some (.int .u8 a0_2) := (blk_cell BK153.out 2).trans rfl; have hcz9_3 : w7.cell? ⟨gb153, 3, none⟩ = some (.slice A0_3 l0_3.length c0_3) := (blk_cell BK153.out 3).trans rfl; have hfz9_0 := blk_frozen BK153.out 0; have hfz9_1 := blk_frozen BK153.out 1; have hfz9_2 := blk_frozen BK153.out 2; have hfz9_3 := blk_frozen BK153.out 3; have hcz10_0 : w7.cell? ⟨gb154, 0, none⟩ = some (.int .u64 a1_0) := (blk_cell BK154.out 0).trans rfl; have hcz10_1 : w7.cell? ⟨gb154, 1, none⟩ = some (.int .u32 a1_1) := (blk_cell BK154.out 1).trans rfl; have hcz10_2 : w7.cell? ⟨gb154, 2, none⟩ = some (.int .u8 a1_2) := (blk_cell BK154.out 2).trans rfl; have hcz10_3 : w7.cell? ⟨gb154, 3, none⟩ = some (.slice A1_3 l1_3.length c1_3) := (blk_cell BK154.out 3).trans rfl; have hfz10_0 := blk_frozen BK154.out 0; have hfz10_1 := blk_frozen BK154.out 1; have hfz10_2 := blk_frozen BK154.out 2; have hfz10_3 := blk_frozen BK154.out 3; have hcv11 := Kd.C_string (P := Tryd.prog) (A := A0_3) (c := c0_3) Tryd.underlying24 Tryd.underlying5 Tryd.underlying9 (Kd.C_below HR0_3.out HB.out); have hcv11b := hcv11; (try simp only [List.length_drop, List.length_take, Int.reduceToNat] at hcv11b); have hcv12 := Kd.C_string (P := Tryd.prog) (A := A1_3) (c := c1_3) Tryd.underlying24 Tryd.underlying5 Tryd.underlying9 (Kd.C_below HR1_3.out HB.out); have hcv12b := hcv12; (try simp only [List.length_drop, List.length_take, Int.reduceToNat] at hcv12b)))
        go_ret
        exact ⟨by first | rfl | (simp [errW_none, errW_some] <;> rfl) | (simp [*, errW_none, errW_some] <;> rfl), by repeat (first | (with_reducible first | exact HB.out | apply below_alloc | apply pw_below_drewN | apply below_drew1 | refine below_set ?_ GE153.out | refine below_set ?_ GE154.out) | exact HB.out)⟩
      · rw [if_neg c5] at H
        have c5b0 : (a0_2 == a1_2) = false := beq_eq_false_iff_ne.mpr c5
        have c5b1 : (a0_2 != a1_2) = true := bne_iff_ne.mpr c5
        obtain rfl := Option.some.inj H
        go_enter Tryd.func15, Tryd.ntmps15
        go_wp2_with (first | ((with_reducible refine gate_dst (N := 2) rfl ?_); refine box_event ?hg (N := 2) ?hd (cs := #[.int .u64 a0_0, .int .u32 a0_1, .int .u8 a0_2, .slice A0_3 l0_3.length c0_3]) (t := 26) ?hr ?_; (case hd => rfl); (case hg => rfl); (case hr => first | (go_simp; done) | (go_simp; rfl)); intro gb153 hg w13 hbox hb; have n0_ := Aside0.mk (below_step (by repeat (first | (with_reducible first | exact HB.out | apply below_alloc | apply pw_below_drewN | apply below_drew1) | exact HB.out)) hb); have n1_ := Aside0.mk (hbox); have n2_ := Aside0.mk ((by rw [hg]; exact (below_size (by repeat (first | (with_reducible first | exact HB.out | apply below_alloc | apply pw_below_drewN | apply below_drew1) | exact HB.out))) : w.heap.size ≤ gb153)); have n3_ := Aside0.mk ((by rw [hg]; exact (below_size (by repeat (first | (with_reducible first | exact HB.out | apply below_alloc | apply pw_below_drewN | apply below_drew1) | exact HB.out))) : w.heap.size ≤ gb153)); clear HB; have HB := n0_; have BK153 := n1_; have GW153 := n2_; have GE153 := n3_; clear n0_ n1_ n2_ n3_; clear hb hbox hg) | ((with_reducible refine gate_dst (N := 3) rfl ?_); refine box_event ?hg (N := 3) ?hd (cs := #[.int .u64 a1_0, .int .u32 a1_1, .int .u8 a1_2, .slice A1_3 l1_3.length c1_3]) (t := 26) ?hr ?_; (case hd => rfl); (case hg => rfl); (case hr => first | (go_simp; done) | (go_simp; rfl)); intro gb154 hg w14 hbox hb; have n0_ := Aside0.mk (blk_below (g := gb153) (o := .cells #[.int .u64 a0_0, .int .u32 a0_1, .int .u8 a0_2, .slice A0_3 l0_3.length c0_3] 26 (0, 0)) (by (with_reducible repeat (first | refine blk_drewN ?_ _ | refine blk_drew ?_ | refine blk_alloc ?_ _)); exact BK153.out) hb); have n1_ := Aside0.mk (below_step (by repeat (first | (with_reducible first | exact HB.out | apply below_alloc | apply pw_below_drewN | apply below_drew1 | refine below_set ?_ GE153.out) | exact HB.out)) hb); have n2_ := Aside0.mk (hbox); have n3_ := Aside0.mk ((by rw [hg]; exact (below_size (by repeat (first | (with_reducible first | exact HB.out | apply below_alloc | apply pw_below_drewN | apply below_drew1 | refine below_set ?_ GE153.out) | exact HB.out))) : w.heap.size ≤ gb154)); have n4_ := Aside0.mk ((by rw [hg]; exact (below_size (by repeat (first | (with_reducible first | exact HB.out | apply below_alloc | apply pw_below_drewN | apply below_drew1 | refine below_set ?_ GE153.out) | exact HB.out))) : w.heap.size ≤ gb154)); have n5_ := Aside0.mk ((by rw [hg]; exact Nat.ne_of_lt (blk_lt (g := gb153) (o := .cells #[.int .u64 a0_0, .int .u32 a0_1, .int .u8 a0_2, .slice A0_3 l0_3.length c0_3] 26 (0, 0)) (by (with_reducible repeat (first | refine blk_drewN ?_ _ | refine blk_drew ?_ | refine blk_alloc ?_ _)); exact BK153.out)) : gb153 ≠ gb154)); have n6_ := Aside0.mk ((by rw [hg]; exact Nat.ne_of_gt (blk_lt (g := gb153) (o := .cells #[.int .u64 a0_0, .int .u32 a0_1, .int .u8 a0_2, .slice A0_3 l0_3.length c0_3] 26 (0, 0)) (by (with_reducible repeat (first | refine blk_drewN ?_ _ | refine blk_drew ?_ | refine blk_alloc ?_ _)); exact BK153.out)) : gb154 ≠ gb153)); clear BK153; clear HB; have BK153 := n0_; have HB := n1_; have BK154 := n2_; have GW154 := n3_; have GE154 := n4_; have NB153_154 := n5_; have NB154_153 := n6_; clear n0_ n1_ n2_ n3_ n4_ n5_ n6_; clear hb hbox hg; have hnb15 := NB153_154.out; have hnc15 := NB154_153.out; have hcz16_0 : w14.cell? ⟨gb153, 0, none⟩ = some (.int .u64 a0_0) := (blk_cell BK153.out 0).trans rfl; have hcz16_1 : w14.cell? ⟨gb153, 1, none⟩ = some (.int .u32 a0_1) := (blk_cell BK153.out 1).trans rfl; have hcz16_2 : w14.cell? ⟨gb153, 2, none⟩ = some (.int .u8 a0_2) := (blk_cell BK153.out 2).trans rfl; have hcz16_3 : w14.cell? ⟨gb153, 3, none⟩ = some (.slice A0_3 l0_3.length c0_3) := (blk_cell BK153.out 3).trans rfl; have hfz16_0 := blk_frozen BK153.out 0; have hfz16_1 := blk_frozen BK153.out 1; have hfz16_2 := blk_frozen BK153.out 2; have hfz16_3 := blk_frozen BK153.out 3; have hcz17_0 : w14.cell? ⟨gb154, 0, none⟩ = some (.int .u64 a1_0) := (blk_cell BK154.out 0).trans rfl; have hcz17_1 : w14.cell? ⟨gb154, 1, none⟩ = some (.int .u32 a1_1) := (blk_cell BK154.out 1).trans rfl; have hcz17_2 : w14.cell? ⟨gb154, 2, none⟩ = some (.int .u8 a1_2) := (blk_cell BK154.out 2).trans rfl; have hcz17_3 : w14.cell? ⟨gb154, 3, none⟩ = some (.slice A1_3 l1_3.length c1_3) := (blk_cell BK154.out 3).trans rfl; have hfz17_0 := blk_frozen BK154.out 0; have hfz17_1 := blk_frozen BK154.out 1; have hfz17_2 := blk_frozen BK154.out 2; have hfz17_3 := blk_frozen BK154.out 3))
        go_ret
        exact ⟨by first | rfl | (simp [errW_none, errW_some] <;> rfl) | (simp [*, errW_none, errW_some] <;> rfl), by repeat (first | (with_reducible first | exact HB.out | apply below_alloc | apply pw_below_drewN | apply below_drew1 | refine below_set ?_ GE153.out | refine below_set ?_ GE154.out) | exact HB.out)⟩
    · rw [if_neg c4] at H
      have c4b0 : (a0_1 == a1_1) = false := beq_eq_false_iff_ne.mpr c4
      have c4b1 : (a0_1 != a1_1) = true := bne_iff_ne.mpr c4
      obtain rfl := Option.some.inj H
      go_enter Tryd.func15, Tryd.ntmps15
      go_wp2_with (first | ((with_reducible refine gate_dst (N := 2) rfl ?_); refine box_event ?hg (N := 2) ?hd (cs := #[.int .u64 a0_0, .int .u32 a0_1, .int .u8 a0_2, .slice A0_3 l0_3.length c0_3]) (t := 26) ?hr ?_; (case hd => rfl); (case hg => rfl); (case hr => first | (go_simp; done) | (go_simp; rfl)); intro gb153 hg w18 hbox hb; have n0_ := Aside0.mk (below_step (by repeat (first | (with_reducible first | exact HB.out | apply below_alloc | apply pw_below_drewN | apply below_drew1) | exact HB.out)) hb); have n1_ := Aside0.mk (hbox); have n2_ := Aside0.mk ((by rw [hg]; exact (below_size (by repeat (first | (with_reducible first | exact HB.out | apply below_alloc | apply pw_below_drewN | apply below_drew1) | exact HB.out))) : w.heap.size ≤ gb153)); have n3_ := Aside0.mk ((by rw [hg]; exact (below_size (by repeat (first | (with_reducible first | exact HB.out | apply below_alloc | apply pw_below_drewN | apply below_drew1) | exact HB.out))) : w.heap.size ≤ gb153)); clear HB; have HB := n0_; have BK153 := n1_; have GW153 := n2_; have GE153 := n3_; clear n0_ n1_ n2_ n3_; clear hb hbox hg) | ((with_reducible refine gate_dst (N := 3) rfl ?_); refine box_event ?hg (N := 3) ?hd (cs := #[.int .u64 a1_0, .int .u32 a1_1, .int .u8 a1_2, .slice A1_3 l1_3.length c1_3]) (t := 26) ?hr ?_; (case hd => rfl); (case hg => rfl); (case hr => first | (go_simp; done) | (go_simp; rfl)); intro gb154 hg w19 hbox hb; have n0_ := Aside0.mk (blk_below (g := gb153) (o := .cells #[.int .u64 a0_0, .int .u32 a0_1, .int .u8 a0_2, .slice A0_3 l0_3.length c0_3] 26 (0, 0)) (by (with_reducible repeat (first | refine blk_drewN ?_ _ | refine blk_drew ?_ | refine blk_alloc ?_ _)); exact BK153.out) hb); have n1_ := Aside0.mk (below_step (by repeat (first | (with_reducible first | exact HB.out | apply below_alloc | apply pw_below_drewN | apply below_drew1 | refine below_set ?_ GE153.out) | exact HB.out)) hb); have n2_ := Aside0.mk (hbox); have n3_ := Aside0.mk ((by rw [hg]; exact (below_size (by repeat (first | (with_reducible first | exact HB.out | apply below_alloc | apply pw_below_drewN | apply below_drew1 | refine below_set ?_ GE153.out) | exact HB.out))) : w.heap.size ≤ gb154)); have n4_ := Aside0.mk ((by rw [hg]; exact (below_size (by repeat (first | (with_reducible first | exact HB.out | apply below_alloc | apply pw_below_drewN | apply below_drew1 | refine below_set ?_ GE153.out) | exact HB.out))) : w.heap.size ≤ gb154)); have n5_ := Aside0.mk ((by rw [hg]; exact Nat.ne_of_lt (blk_lt (g := gb153) (o := .cells #[.int .u64 a0_0, .int .u32 a0_1, .int .u8 a0_2, .slice A0_3 l0_3.length c0_3] 26 (0, 0)) (by (with_reducible repeat (first | refine blk_drewN ?_ _ | refine blk_drew ?_ | refine blk_alloc ?_ _)); exact BK153.out)) : gb153 ≠ gb154)); have n6_ := Aside0.mk ((by rw [hg]; exact Nat.ne_of_gt (blk_lt (g := gb153) (o := .cells #[.int .u64 a0_0, .int .u32 a0_1, .int .u8 a0_2, .slice A0_3 l0_3.length c0_3] 26 (0, 0)) (by (with_reducible repeat (first | refine blk_drewN ?_ _ | refine blk_drew ?_ | refine blk_alloc ?_ _)); exact BK153.out)) : gb154 ≠ gb153)); clear BK153; clear HB; have BK153 := n0_; have HB := n1_; have BK154 := n2_; have GW154 := n3_; have GE154 := n4_; have NB153_154 := n5_; have NB154_153 := n6_; clear n0_ n1_ n2_ n3_ n4_ n5_ n6_; clear hb hbox hg; have hnb20 := NB153_154.out; have hnc20 := NB154_153.out; have hcz21_0 : w19.cell? ⟨gb153, 0, none⟩ = some (.int .u64 a0_0) := (blk_cell BK153.out 0).trans rfl; have hcz21_1 : w19.cell? ⟨gb153, 1, none⟩ = some (.int .u32 a0_1) := (blk_cell BK153.out 1).trans rfl; have hcz21_2 : w19.cell? ⟨gb153, 2, none⟩ = some (.int .u8 a0_2) := (blk_cell BK153.out 2).trans rfl; have hcz21_3 : w19.cell? ⟨gb153, 3, none⟩ = some (.slice A0_3 l0_3.length c0_3) := (blk_cell BK153.out 3).trans rfl; have hfz21_0 := blk_frozen BK153.out 0; have hfz21_1 := blk_frozen BK153.out 1; have hfz21_2 := blk_frozen BK153.out 2; have hfz21_3 := blk_frozen BK153.out 3; have hcz22_0 : w19.cell? ⟨gb154, 0, none⟩ = some (.int .u64 a1_0) := (blk_cell BK154.out 0).trans rfl; have hcz22_1 : w19.cell? ⟨gb154, 1, none⟩ = some (.int .u32 a1_1) := (blk_cell BK154.out 1).trans rfl; have hcz22_2 : w19.cell? ⟨gb154, 2, none⟩ = some (.int .u8 a1_2) := (blk_cell BK154.out 2).trans rfl; have hcz22_3 : w19.cell? ⟨gb154, 3, none⟩ = some (.slice A1_3 l1_3.length c1_3) := (blk_cell BK154.out 3).trans rfl; have hfz22_0 := blk_frozen BK154.out 0; have hfz22_1 := blk_frozen BK154.out 1; have hfz22_2 := blk_frozen BK154.out 2; have hfz22_3 := blk_frozen BK154.out 3))
      go_ret
      exact ⟨by first | rfl | (simp [errW_none, errW_some] <;> rfl) | (simp [*, errW_none, errW_some] <;> rfl), by repeat (first | (with_reducible first | exact HB.out | apply below_alloc | apply pw_below_drewN | apply below_drew1 | refine below_set ?_ GE153.out | refine below_set ?_ GE154.out) | exact HB.out)⟩
  · rw [if_neg c3] at H
    have c3b0 : (a0_0 == a1_0) = false := beq_eq_false_iff_ne.mpr c3
    have c3b1 : (a0_0 != a1_0) = true := bne_iff_ne.mpr c3
    obtain rfl := Option.some.inj H
    go_enter Tryd.func15, Tryd.ntmps15
    go_wp2_with (first | ((with_reducible refine gate_dst (N := 2) rfl ?_); refine box_event ?hg (N := 2) ?hd (cs := #[.int .u64 a0_0, .int .u32 a0_1, .int .u8 a0_2, .slice A0_3 l0_3.length c0_3]) (t := 26) ?hr ?_; (case hd => rfl); (case hg => rfl); (case hr => first | (go_simp; done) | (go_simp; rfl)); intro gb153 hg w23 hbox hb; have n0_ := Aside0.mk (below_step (by repeat (first | (with_reducible first | exact HB.out | apply below_alloc | apply pw_below_drewN | apply below_drew1) | exact HB.out)) hb); have n1_ := Aside0.mk (hbox); have n2_ := Aside0.mk ((by rw [hg]; exact (below_size (by repeat (first | (with_reducible first | exact HB.out | apply below_alloc | apply pw_below_drewN | apply below_drew1) | exact HB.out))) : w.heap.size ≤ gb153)); have n3_ := Aside0.mk ((by rw [hg]; exact (below_size (by repeat (first | (with_reducible first | exact HB.out | apply below_alloc | apply pw_below_drewN | apply below_drew1) | exact HB.out))) : w.heap.size ≤ gb153)); clear HB; have HB := n0_; have BK153 := n1_; have GW153 := n2_; have GE153 := n3_; clear n0_ n1_ n2_ n3_; clear hb hbox hg) | ((with_reducible refine gate_dst (N := 3) rfl ?_); refine box_event ?hg (N := 3) ?hd (cs := #[.int .u64 a1_0, .int .u32 a1_1, .int .u8 a1_2, .slice A1_3 l1_3.length c1_3]) (t := 26) ?hr ?_; (case hd => rfl); (case hg => rfl); (case hr => first | (go_simp; done) | (go_simp; rfl)); intro gb154 hg w24 hbox hb; have n0_ := Aside0.mk (blk_below (g := gb153) (o := .cells #[.int .u64 a0_0, .int .u32 a0_1, .int .u8 a0_2, .slice A0_3 l0_3.length c0_3] 26 (0, 0)) (by (with_reducible repeat (first | refine blk_drewN ?_ _ | refine blk_drew ?_ | refine blk_alloc ?_ _)); exact BK153.out) hb); have n1_ := Aside0.mk (below_step (by repeat (first | (with_reducible first | exact HB.out | apply below_alloc | apply pw_below_drewN | apply below_drew1 | refine below_set ?_ GE153.out) | exact HB.out)) hb); have n2_ := Aside0.mk (hbox); have n3_ := Aside0.mk ((by rw [hg]; exact (below_size (by repeat (first | (with_reducible first | exact HB.out | apply below_alloc | apply pw_below_drewN | apply below_drew1 | refine below_set ?_ GE153.out) | exact HB.out))) : w.heap.size ≤ gb154)); have n4_ := Aside0.mk ((by rw [hg]; exact (below_size (by repeat (first | (with_reducible first | exact HB.out | apply below_alloc | apply pw_below_drewN | apply below_drew1 | refine below_set ?_ GE153.out) | exact HB.out))) : w.heap.size ≤ gb154)); have n5_ := Aside0.mk ((by rw [hg]; exact Nat.ne_of_lt (blk_lt (g := gb153) (o := .cells #[.int .u64 a0_0, .int .u32 a0_1, .int .u8 a0_2, .slice A0_3 l0_3.length c0_3] 26 (0, 0)) (by (with_reducible repeat (first | refine blk_drewN ?_ _ | refine blk_drew ?_ | refine blk_alloc ?_ _)); exact BK153.out)) : gb153 ≠ gb154)); have n6_ := Aside0.mk ((by rw [hg]; exact Nat.ne_of_gt (blk_lt (g := gb153) (o := .cells #[.int .u64 a0_0, .int .u32 a0_1, .int .u8 a0_2, .slice A0_3 l0_3.length c0_3] 26 (0, 0)) (by (with_reducible repeat (first | refine blk_drewN ?_ _ | refine blk_drew ?_ | refine blk_alloc ?_ _)); exact BK153.out)) : gb154 ≠ gb153)); clear BK153; clear HB; have BK153 := n0_; have HB := n1_; have BK154 := n2_; have GW154 := n3_; have GE154 := n4_; have NB153_154 := n5_; have NB154_153 := n6_; clear n0_ n1_ n2_ n3_ n4_ n5_ n6_; clear hb hbox hg; have hnb25 := NB153_154.out; have hnc25 := NB154_153.out; have hcz26_0 : w24.cell? ⟨gb153, 0, none⟩ = some (.int .u64 a0_0) := (blk_cell BK153.out 0).trans rfl; have hcz26_1 : w24.cell? ⟨gb153, 1, none⟩ = some (.int .u32 a0_1) := (blk_cell BK153.out 1).trans rfl; have hcz26_2 : w24.cell? ⟨gb153, 2, none⟩ = some (.int .u8 a0_2) := (blk_cell BK153.out 2).trans rfl; have hcz26_3 : w24.cell? ⟨gb153, 3, none⟩ = some (.slice A0_3 l0_3.length c0_3) := (blk_cell BK153.out 3).trans rfl; have hfz26_0 := blk_frozen BK153.out 0; have hfz26_1 := blk_frozen BK153.out 1; have hfz26_2 := blk_frozen BK153.out 2; have hfz26_3 := blk_frozen BK153.out 3; have hcz27_0 : w24.cell? ⟨gb154, 0, none⟩ = some (.int .u64 a1_0) := (blk_cell BK154.out 0).trans rfl; have hcz27_1 : w24.cell? ⟨gb154, 1, none⟩ = some (.int .u32 a1_1) := (blk_cell BK154.out 1).trans rfl; have hcz27_2 : w24.cell? ⟨gb154, 2, none⟩ = some (.int .u8 a1_2) := (blk_cell BK154.out 2).trans rfl; have hcz27_3 : w24.cell? ⟨gb154, 3, none⟩ = some (.slice A1_3 l1_3.length c1_3) := (blk_cell BK154.out 3).trans rfl; have hfz27_0 := blk_frozen BK154.out 0; have hfz27_1 := blk_frozen BK154.out 1; have hfz27_2 := blk_frozen BK154.out 2; have hfz27_3 := blk_frozen BK154.out 3))
    go_ret
    exact ⟨by first | rfl | (simp [errW_none, errW_some] <;> rfl) | (simp [*, errW_none, errW_some] <;> rfl), by repeat (first | (with_reducible first | exact HB.out | apply below_alloc | apply pw_below_drewN | apply below_drew1 | refine below_set ?_ GE153.out | refine below_set ?_ GE154.out) | exact HB.out)⟩

/-! ### tabularyref06_Is: function 16 -/
def tabularyref06_Is.f (k : Nat) (l0 : List Int) (a1 : Int) (a2 : Int) (a3 : Int) : Option (Bool) := (tabularyref06_Parse.f k l0).bind fun bt155 => (if bt155.2.2.2.2 = 0 then (if bt155.1 = a1 then (if bt155.2.1 = a2 then (some (bt155.2.2.1 == a3)) else (some false)) else (some false)) else (some false))
theorem tabularyref06_Is.mono : ∀ a0 a1 a2 a3 k, LeO (tabularyref06_Is.f k a0 a1 a2 a3) (tabularyref06_Is.f (k + 1) a0 a1 a2 a3) := by
  intro a0 a1 a2 a3 k
  unfold tabularyref06_Is.f
  repeat' first
      | (with_reducible exact tabularyref06_Parse.mono _ _)
      | (with_reducible exact LeO.refl _)
      | (with_reducible exact LeO.none _)
      | (with_reducible refine LeO.ite ?_ ?_)
      | (with_reducible refine LeO.bind ?_ (fun _ => ?_))
      | exact tabularyref06_Parse.mono _ _
      | exact LeO.none _
      | refine LeO.ite ?_ ?_
      | refine LeO.bind ?_ (fun _ => ?_)
set_option maxHeartbeats 8000000 in
set_option maxRecDepth 100000 in
theorem tabularyref06_Is.calls (k : Nat) (A0 : Option Addr) (c0 : Nat) (l0 : List Int) (a1 : Int) (a2 : Int) (a3 : Int) (r : Bool) (w : World) (hr0 : Kd.C (Kd.int .u8) w A0 l0.length l0) (hc0 : l0.length ≤ c0) (h : tabularyref06_Is.f k l0 a1 a2 a3 = some r) :
    Calls Tryd.prog 16 #[.slice A0 l0.length c0, .int .u64 a1, .int .u32 a2, .int .u8 a3] w fun e w' => e = .returned (.bool r) ∧ Below w.heap.size w w' := by
  have hu26 := Tryd.underlying26
  have HR0 := Aside0.mk hr0
  have HC0 := Aside0.mk hc0
  clear hr0 hc0
  have HB := Aside0.mk (Below.refl w.heap.size w)
  have H : ((tabularyref06_Parse.f k l0).bind fun bt155 => (if bt155.2.2.2.2 = 0 then (if bt155.1 = a1 then (if bt155.2.1 = a2 then (some (bt155.2.2.1 == a3)) else (some false)) else (some false)) else (some false))) = some r := h
  clear h
  replace H := Option.bind_eq_some_iff.mp H
  obtain ⟨⟨t155, t156, t157, t158, t161⟩, A50, H⟩ := H
  replace H : (if t161 = 0 then (if t155 = a1 then (if t156 = a2 then (some (t157 == a3)) else (some false)) else (some false)) else (some false)) = some r := H
  have A5 := Aside0.mk A50
  clear A50
  by_cases c6 : t161 = 0
  · rw [if_pos c6] at H
    have c6b0 : (t161 == 0) = true := beq_iff_eq.mpr c6
    have c6b1 : (t161 != 0) = false := bne_eq_false_iff_eq.mpr c6
    clear c6
    by_cases c7 : t155 = a1
    · rw [if_pos c7] at H
      have c7b0 : (t155 == a1) = true := beq_iff_eq.mpr c7
      have c7b1 : (t155 != a1) = false := bne_eq_false_iff_eq.mpr c7
      clear c7
      by_cases c8 : t156 = a2
      · rw [if_pos c8] at H
        have c8b0 : (t156 == a2) = true := beq_iff_eq.mpr c8
        have c8b1 : (t156 != a2) = false := bne_eq_false_iff_eq.mpr c8
        clear c8
        obtain rfl := Option.some.inj H
        go_enter Tryd.func16, Tryd.ntmps16
        go_wp2_with (first | ((with_reducible refine gate_callee (f := 14) rfl ?_); refine goesL_ (some 13) rfl rfl Tryd.func14 (by kernel_rfl) rfl #[.slice A0 l0.length c0] rfl (by (try simp only [List.map_toArray, List.map_cons, List.map_nil]); first | done | rfl | (simp only [List.length_drop, List.length_take]; rfl)) ?_; (with_reducible refine (tabularyref06_Parse.calls k _ _ l0 t155 t156 t157 t158 t161 _ ?side1 ?side2 A5.out).mono ?_); (case side1 => repeat (first | exact HR0.out | (with_reducible refine Kd.C_alloc ?_ _) | (with_reducible refine Kd.C_drewN ?_ _) | (with_reducible refine Kd.C_drew ?_))); (case side2 => exact HC0.out); rintro e w9 ⟨v159, rfl, ho0, hb⟩; refine ⟨_, rfl, ?_⟩; have n0_ := Aside0.mk (Kd.R_lower ho0 (below_size (by repeat (first | (with_reducible first | exact HB.out | apply below_alloc | apply pw_below_drewN | apply below_drew1) | exact HB.out)))); have n1_ := Aside0.mk (below_step (by repeat (first | (with_reducible first | exact HB.out | apply below_alloc | apply pw_below_drewN | apply below_drew1) | exact HB.out)) hb); clear HB; have HO160 := n0_; have HB := n1_; clear n0_ n1_; (try clear hb); (try clear hb2); (try clear hk); (try clear hi); (try clear ho0)) | ((with_reducible refine gate_dst (N := 9) rfl ?_); refine box_event ?hg (N := 9) ?hd (cs := #[.int .u64 0, .int .u32 0, .int .u8 0, .slice none 0 0]) (t := 26) ?hr ?_; (case hd => rfl); (case hg => rfl); (case hr => first | (go_simp; done) | (go_simp; rfl)); intro gb162 hg w10 hbox hb; have n0_ := Aside0.mk (Kd.R_below (by (with_reducible repeat (first | apply Kd.R_alloc | apply Kd.R_drewN | apply Kd.R_drew)); exact HO160.out) hb); have n1_ := Aside0.mk (below_step (by repeat (first | (with_reducible first | exact HB.out | apply below_alloc | apply pw_below_drewN | apply below_drew1) | exact HB.out)) hb); have n2_ := Aside0.mk (hbox); have n3_ := Aside0.mk ((by rw [hg]; exact (below_size (by repeat (first | (with_reducible first | exact HB.out | apply below_alloc | apply pw_below_drewN | apply below_drew1) | exact HB.out))) : w.heap.size ≤ gb162)); have n4_ := Aside0.mk ((by rw [hg]; exact (below_size (by repeat (first | (with_reducible first | exact HB.out | apply below_alloc | apply pw_below_drewN | apply below_drew1) | exact HB.out))) : w.heap.size ≤ gb162)); clear HO160; clear HB; have HO160 := n0_; have HB := n1_; have BK162 := n2_; have GW162 := n3_; have GE162 := n4_; clear n0_ n1_ n2_ n3_ n4_; clear hb hbox hg; have hcz11_0 : w10.cell? ⟨gb162, 0, none⟩ = some (.int .u64 0) := (blk_cell BK162.out 0).trans rfl; have hcz11_1 : w10.cell? ⟨gb162, 1, none⟩ = some (.int .u32 0) := (blk_cell BK162.out 1).trans rfl; have hcz11_2 : w10.cell? ⟨gb162, 2, none⟩ = some (.int .u8 0) := (blk_cell BK162.out 2).trans rfl; have hcz11_3 : w10.cell? ⟨gb162, 3, none⟩ = some (.slice none 0 0) := (blk_cell BK162.out 3).trans rfl; have hfz11_0 := blk_frozen BK162.out 0; have hfz11_1 := blk_frozen BK162.out 1; have hfz11_2 := blk_frozen BK162.out 2; have hfz11_3 := blk_frozen BK162.out 3; obtain ⟨Ao12, co12, eo12⟩ := Kd.R_slice HO160.out; subst eo12))
        go_ret
        exact ⟨by first | rfl | (simp [errW_none, errW_some] <;> rfl) | (simp [*, errW_none, errW_some] <;> rfl), by repeat (first | (with_reducible first | exact HB.out | apply below_alloc | apply pw_below_drewN | apply below_drew1 | refine below_set ?_ GE162.out) | exact HB.out)⟩
      · rw [if_neg c8] at H
        have c8b0 : (t156 == a2) = false := beq_eq_false_iff_ne.mpr c8
        have c8b1 : (t156 != a2) = true := bne_iff_ne.mpr c8
        obtain rfl := Option.some.inj H
        go_enter Tryd.func16, Tryd.ntmps16
        go_wp2_with (first | ((with_reducible refine gate_callee (f := 14) rfl ?_); refine goesL_ (some 13) rfl rfl Tryd.func14 (by kernel_rfl) rfl #[.slice A0 l0.length c0] rfl (by (try simp only [List.map_toArray, List.map_cons, List.map_nil]); first | done | rfl | (simp only [List.length_drop, List.length_take]; rfl)) ?_; (with_reducible refine (tabularyref06_Parse.calls k _ _ l0 t155 t156 t157 t158 t161 _ ?side1 ?side2 A5.out).mono ?_); (case side1 => repeat (first | exact HR0.out | (with_reducible refine Kd.C_alloc ?_ _) | (with_reducible refine Kd.C_drewN ?_ _) | (with_reducible refine Kd.C_drew ?_))); (case side2 => exact HC0.out); rintro e w13 ⟨v159, rfl, ho0, hb⟩; refine ⟨_, rfl, ?_⟩; have n0_ := Aside0.mk (Kd.R_lower ho0 (below_size (by repeat (first | (with_reducible first | exact HB.out | apply below_alloc | apply pw_below_drewN | apply below_drew1) | exact HB.out)))); have n1_ := Aside0.mk (below_step (by repeat (first | (with_reducible first | exact HB.out | apply below_alloc | apply pw_below_drewN | apply below_drew1) | exact HB.out)) hb); clear HB; have HO160 := n0_; have HB := n1_; clear n0_ n1_; (try clear hb); (try clear hb2); (try clear hk); (try clear hi); (try clear ho0)) | ((with_reducible refine gate_dst (N := 9) rfl ?_); refine box_event ?hg (N := 9) ?hd (cs := #[.int .u64 0, .int .u32 0, .int .u8 0, .slice none 0 0]) (t := 26) ?hr ?_; (case hd => rfl); (case hg => rfl); (case hr => first | (go_simp; done) | (go_simp; rfl)); intro gb162 hg w14 hbox hb; have n0_ := Aside0.mk (Kd.R_below (by (with_reducible repeat (first | apply Kd.R_alloc | apply Kd.R_drewN | apply Kd.R_drew)); exact HO160.out) hb); have n1_ := Aside0.mk (below_step (by repeat (first | (with_reducible first | exact HB.out | apply below_alloc | apply pw_below_drewN | apply below_drew1) | exact HB.out)) hb); have n2_ := Aside0.mk (hbox); have n3_ := Aside0.mk ((by rw [hg]; exact (below_size (by repeat (first | (with_reducible first | exact HB.out | apply below_alloc | apply pw_below_drewN | apply below_drew1) | exact HB.out))) : w.heap.size ≤ gb162)); have n4_ := Aside0.mk ((by rw [hg]; exact (below_size (by repeat (first | (with_reducible first | exact HB.out | apply below_alloc | apply pw_below_drewN | apply below_drew1) | exact HB.out))) : w.heap.size ≤ gb162)); clear HO160; clear HB; have HO160 := n0_; have HB := n1_; have BK162 := n2_; have GW162 := n3_; have GE162 := n4_; clear n0_ n1_ n2_ n3_ n4_; clear hb hbox hg; have hcz15_0 : w14.cell? ⟨gb162, 0, none⟩ = some (.int .u64 0) := (blk_cell BK162.out 0).trans rfl; have hcz15_1 : w14.cell? ⟨gb162, 1, none⟩ = some (.int .u32 0) := (blk_cell BK162.out 1).trans rfl; have hcz15_2 : w14.cell? ⟨gb162, 2, none⟩ = some (.int .u8 0) := (blk_cell BK162.out 2).trans rfl; have hcz15_3 : w14.cell? ⟨gb162, 3, none⟩ = some (.slice none 0 0) := (blk_cell BK162.out 3).trans rfl; have hfz15_0 := blk_frozen BK162.out 0; have hfz15_1 := blk_frozen BK162.out 1; have hfz15_2 := blk_frozen BK162.out 2; have hfz15_3 := blk_frozen BK162.out 3; obtain ⟨Ao16, co16, eo16⟩ := Kd.R_slice HO160.out; subst eo16))
        go_ret
        exact ⟨by first | rfl | (simp [errW_none, errW_some] <;> rfl) | (simp [*, errW_none, errW_some] <;> rfl), by repeat (first | (with_reducible first | exact HB.out | apply below_alloc | apply pw_below_drewN | apply below_drew1 | refine below_set ?_ GE162.out) | exact HB.out)⟩
    · rw [if_neg c7] at H
      have c7b0 : (t155 == a1) = false := beq_eq_false_iff_ne.mpr c7
      have c7b1 : (t155 != a1) = true := bne_iff_ne.mpr c7
      obtain rfl := Option.some.inj H
      go_enter Tryd.func16, Tryd.ntmps16
      go_wp2_with (first | ((with_reducible refine gate_callee (f := 14) rfl ?_); refine goesL_ (some 13) rfl rfl Tryd.func14 (by kernel_rfl) rfl #[.slice A0 l0.length c0] rfl (by (try simp only [List.map_toArray, List.map_cons, List.map_nil]); first | done | rfl | (simp only [List.length_drop, List.length_take]; rfl)) ?_; (with_reducible refine (tabularyref06_Parse.calls k _ _ l0 t155 t156 t157 t158 t161 _ ?side1 ?side2 A5.out).mono ?_); (case side1 => repeat (first | exact HR0.out | (with_reducible refine Kd.C_alloc ?_ _) | (with_reducible refine Kd.C_drewN ?_ _) | (with_reducible refine Kd.C_drew ?_))); (case side2 => exact HC0.out); rintro e w17 ⟨v159, rfl, ho0, hb⟩; refine ⟨_, rfl, ?_⟩; have n0_ := Aside0.mk (Kd.R_lower ho0 (below_size (by repeat (first | (with_reducible first | exact HB.out | apply below_alloc | apply pw_below_drewN | apply below_drew1) | exact HB.out)))); have n1_ := Aside0.mk (below_step (by repeat (first | (with_reducible first | exact HB.out | apply below_alloc | apply pw_below_drewN | apply below_drew1) | exact HB.out)) hb); clear HB; have HO160 := n0_; have HB := n1_; clear n0_ n1_; (try clear hb); (try clear hb2); (try clear hk); (try clear hi); (try clear ho0)) | ((with_reducible refine gate_dst (N := 9) rfl ?_); refine box_event ?hg (N := 9) ?hd (cs := #[.int .u64 0, .int .u32 0, .int .u8 0, .slice none 0 0]) (t := 26) ?hr ?_; (case hd => rfl); (case hg => rfl); (case hr => first | (go_simp; done) | (go_simp; rfl)); intro gb162 hg w18 hbox hb; have n0_ := Aside0.mk (Kd.R_below (by (with_reducible repeat (first | apply Kd.R_alloc | apply Kd.R_drewN | apply Kd.R_drew)); exact HO160.out) hb); have n1_ := Aside0.mk (below_step (by repeat (first | (with_reducible first | exact HB.out | apply below_alloc | apply pw_below_drewN | apply below_drew1) | exact HB.out)) hb); have n2_ := Aside0.mk (hbox); have n3_ := Aside0.mk ((by rw [hg]; exact (below_size (by repeat (first | (with_reducible first | exact HB.out | apply below_alloc | apply pw_below_drewN | apply below_drew1) | exact HB.out))) : w.heap.size ≤ gb162)); have n4_ := Aside0.mk ((by rw [hg]; exact (below_size (by repeat (first | (with_reducible first | exact HB.out | apply below_alloc | apply pw_below_drewN | apply below_drew1) | exact HB.out))) : w.heap.size ≤ gb162)); clear HO160; clear HB; have HO160 := n0_; have HB := n1_; have BK162 := n2_; have GW162 := n3_; have GE162 := n4_; clear n0_ n1_ n2_ n3_ n4_; clear hb hbox hg; have hcz19_0 : w18.cell? ⟨gb162, 0, none⟩ = some (.int .u64 0) := (blk_cell BK162.out 0).trans rfl; have hcz19_1 : w18.cell? ⟨gb162, 1, none⟩ = some (.int .u32 0) := (blk_cell BK162.out 1).trans rfl; have hcz19_2 : w18.cell? ⟨gb162, 2, none⟩ = some (.int .u8 0) := (blk_cell BK162.out 2).trans rfl; have hcz19_3 : w18.cell? ⟨gb162, 3, none⟩ = some (.slice none 0 0) := (blk_cell BK162.out 3).trans rfl; have hfz19_0 := blk_frozen BK162.out 0; have hfz19_1 := blk_frozen BK162.out 1; have hfz19_2 := blk_frozen BK162.out 2; have hfz19_3 := blk_frozen BK162.out 3; obtain ⟨Ao20, co20, eo20⟩ := Kd.R_slice HO160.out; subst eo20))
      go_ret
      exact ⟨by first | rfl | (simp [errW_none, errW_some] <;> rfl) | (simp [*, errW_none, errW_some] <;> rfl), by repeat (first | (with_reducible first | exact HB.out | apply below_alloc | apply pw_below_drewN | apply below_drew1 | refine below_set ?_ GE162.out) | exact HB.out)⟩
  · rw [if_neg c6] at H
    have c6b0 : (t161 == 0) = false := beq_eq_false_iff_ne.mpr c6
    have c6b1 : (t161 != 0) = true := bne_iff_ne.mpr c6
    obtain rfl := Option.some.inj H
    go_enter Tryd.func16, Tryd.ntmps16
    go_wp2_with (first | ((with_reducible refine gate_callee (f := 14) rfl ?_); refine goesL_ (some 13) rfl rfl Tryd.func14 (by kernel_rfl) rfl #[.slice A0 l0.length c0] rfl (by (try simp only [List.map_toArray, List.map_cons, List.map_nil]); first | done | rfl | (simp only [List.length_drop, List.length_take]; rfl)) ?_; (with_reducible refine (tabularyref06_Parse.calls k _ _ l0 t155 t156 t157 t158 t161 _ ?side1 ?side2 A5.out).mono ?_); (case side1 => repeat (first | exact HR0.out | (with_reducible refine Kd.C_alloc ?_ _) | (with_reducible refine Kd.C_drewN ?_ _) | (with_reducible refine Kd.C_drew ?_))); (case side2 => exact HC0.out); rintro e w21 ⟨v159, rfl, ho0, hb⟩; refine ⟨_, rfl, ?_⟩; have n0_ := Aside0.mk (Kd.R_lower ho0 (below_size (by repeat (first | (with_reducible first | exact HB.out | apply below_alloc | apply pw_below_drewN | apply below_drew1) | exact HB.out)))); have n1_ := Aside0.mk (below_step (by repeat (first | (with_reducible first | exact HB.out | apply below_alloc | apply pw_below_drewN | apply below_drew1) | exact HB.out)) hb); clear HB; have HO160 := n0_; have HB := n1_; clear n0_ n1_; (try clear hb); (try clear hb2); (try clear hk); (try clear hi); (try clear ho0)) | ((with_reducible refine gate_dst (N := 9) rfl ?_); refine box_event ?hg (N := 9) ?hd (cs := #[.int .u64 0, .int .u32 0, .int .u8 0, .slice none 0 0]) (t := 26) ?hr ?_; (case hd => rfl); (case hg => rfl); (case hr => first | (go_simp; done) | (go_simp; rfl)); intro gb162 hg w22 hbox hb; have n0_ := Aside0.mk (Kd.R_below (by (with_reducible repeat (first | apply Kd.R_alloc | apply Kd.R_drewN | apply Kd.R_drew)); exact HO160.out) hb); have n1_ := Aside0.mk (below_step (by repeat (first | (with_reducible first | exact HB.out | apply below_alloc | apply pw_below_drewN | apply below_drew1) | exact HB.out)) hb); have n2_ := Aside0.mk (hbox); have n3_ := Aside0.mk ((by rw [hg]; exact (below_size (by repeat (first | (with_reducible first | exact HB.out | apply below_alloc | apply pw_below_drewN | apply below_drew1) | exact HB.out))) : w.heap.size ≤ gb162)); have n4_ := Aside0.mk ((by rw [hg]; exact (below_size (by repeat (first | (with_reducible first | exact HB.out | apply below_alloc | apply pw_below_drewN | apply below_drew1) | exact HB.out))) : w.heap.size ≤ gb162)); clear HO160; clear HB; have HO160 := n0_; have HB := n1_; have BK162 := n2_; have GW162 := n3_; have GE162 := n4_; clear n0_ n1_ n2_ n3_ n4_; clear hb hbox hg; have hcz23_0 : w22.cell? ⟨gb162, 0, none⟩ = some (.int .u64 0) := (blk_cell BK162.out 0).trans rfl; have hcz23_1 : w22.cell? ⟨gb162, 1, none⟩ = some (.int .u32 0) := (blk_cell BK162.out 1).trans rfl; have hcz23_2 : w22.cell? ⟨gb162, 2, none⟩ = some (.int .u8 0) := (blk_cell BK162.out 2).trans rfl; have hcz23_3 : w22.cell? ⟨gb162, 3, none⟩ = some (.slice none 0 0) := (blk_cell BK162.out 3).trans rfl; have hfz23_0 := blk_frozen BK162.out 0; have hfz23_1 := blk_frozen BK162.out 1; have hfz23_2 := blk_frozen BK162.out 2; have hfz23_3 := blk_frozen BK162.out 3; obtain ⟨Ao24, co24, eo24⟩ := Kd.R_slice HO160.out; subst eo24))
    go_ret
    exact ⟨by first | rfl | (simp [errW_none, errW_some] <;> rfl) | (simp [*, errW_none, errW_some] <;> rfl), by repeat (first | (with_reducible first | exact HB.out | apply below_alloc | apply pw_below_drewN | apply below_drew1 | refine below_set ?_ GE162.out) | exact HB.out)⟩

-- NOT PRINTED: function 4 (tabularylaw06_BlockParses)

end Go.Proofs.YthmcigdkopadjaaDoor.PBlockParses
end

-- Written by wip/tools/myprint.py, a program of this session over the print tool: not a printed text of the kit's
section
namespace Go.Proofs.YthmcigdkopadjaaDoor.PBlockParses
open Go.RowKit Go.Proofs.YthmcigdkopadjaaDoorW.PrintWords Go.Proofs.YthmcigdkopadjaaDoorW.PrintLast Go.Proofs.YthmcigdkopadjaaDoorW.PrintMore
attribute [local go_sem] max2_int min2_int max_two min_two max_three min_three max_four min_four   -- for this text's walks alone
set_option linter.unusedVariables false
set_option linter.unusedSimpArgs false
set_option maxRecDepth 20000

end Go.Proofs.YthmcigdkopadjaaDoor.PBlockParses
end

/- The reference's sum is the plain sum. -/
section
namespace Go.Proofs.YthmcigdkopadjaaDoor.RefSum
open Go.Proofs.YthmcigdkopadjaaDoor Go.RowKit Go.Proofs.YthmcigdkopadjaaDoorW.PrintWords Go.Proofs.YthmcigdkopadjaaDoorW.PrintLast Go.Proofs.YthmcigdkopadjaaDoorW.PrintMore Go.Proofs.YthmcigdkopadjaaDoor.PSum Go.Proofs.YthmcigdkopadjaaDoor.CrcPure
set_option linter.unusedVariables false
set_option linter.unusedSimpArgs false

theorem rtake_l0 (d : Nat) : ∀ (k x i : Nat), i + d = 8 → d < k → x < 4294967296 → tabularyref04_take.l0 k (x : Int) (i : Int) = some ((CrcMath.shs d x : Nat) : Int) := by
  induction d with
  | zero =>
    intro k x i hi hk hx
    obtain ⟨k, rfl⟩ : ∃ m, k = m + 1 := ⟨k - 1, by omega⟩
    simp only [tabularyref04_take.l0]
    rw [if_neg (by omega)]
    rfl
  | succ d ih =>
    intro k x i hi hk hx
    obtain ⟨k, rfl⟩ : ∃ m, k = m + 1 := ⟨k - 1, by omega⟩
    simp only [tabularyref04_take.l0]
    have e2 : wrap64 ((i : Int) + 1) = ((i + 1 : Nat) : Int) := by rw [w64 ⟨by omega, by omega⟩]; omega
    have e1 : (x : Int) / 2 = ((x / 2 : Nat) : Int) := by omega
    have e3 : Go.bits .xor .u32 ((x / 2 : Nat) : Int) 2197175160 = ((x / 2 ^^^ 2197175160 : Nat) : Int) := xor32 (x / 2) 2197175160 (by omega) (by decide)
    rw [if_pos (by omega), e2, e1, e3, and1 x hx, CrcMath.shs_step]
    have hx2 := CrcMath.sh_lt hx
    by_cases hb : x % 2 = 1
    · have hs : CrcMath.sh x = x / 2 ^^^ 2197175160 := by
        unfold CrcMath.sh; rw [Nat.testBit_zero, hb]; rfl
      rw [if_pos (by omega), ← hs]
      exact ih k _ (i + 1) (by omega) (by omega) hx2
    · have hs : CrcMath.sh x = x / 2 := by
        unfold CrcMath.sh; rw [Nat.testBit_zero, show x % 2 = 0 by omega]; simp
      rw [if_neg (by omega), ← hs]
      exact ih k _ (i + 1) (by omega) (by omega) hx2

theorem rtake (x c : Nat) (hx : x < 4294967296) (hc : c < 256) (k : Nat) (hk : 10 < k) : tabularyref04_take.f k (x : Int) (c : Int) = some ((CrcMath.take x c : Nat) : Int) := by
  unfold tabularyref04_take.f
  have e : (c : Int) % 4294967296 = (c : Int) := by omega
  rw [e, xor32 x c hx (by omega)]
  exact rtake_l0 8 k _ 0 rfl (by omega) (Nat.xor_lt_two_pow (n := 32) hx (by omega))

theorem rmore_l0 (r : List Nat) : ∀ (k : Nat) (l : List Nat) (x i : Nat), r.length + 20 < k → l.length ≤ 1000000 → Small l → l.drop i = r → i ≤ l.length → x < 4294967296 →
    tabularyref04_More.l0 k (ints l) (x : Int) (i : Int) = some ((4294967295 ^^^ CrcMath.takes r x : Nat) : Int) := by
  induction r with
  | nil =>
    intro k l x i hk hl hs hd hi hx
    obtain ⟨k, rfl⟩ : ∃ m, k = m + 1 := ⟨k - 1, by omega⟩
    have : l.length ≤ i := by have := congrArg List.length hd; simp at this; omega
    simp only [tabularyref04_More.l0]
    rw [ints_len, if_neg (by omega)]
    have := xor32 4294967295 x (by decide) hx
    rw [show ((4294967295 : Nat) : Int) = 4294967295 from rfl] at this
    rw [this]; rfl
  | cons c r ih =>
    intro k l x i hk hl hs hd hi hx
    simp only [List.length_cons] at hk
    obtain ⟨k, rfl⟩ : ∃ m, k = m + 1 := ⟨k - 1, by omega⟩
    have hlt : i < l.length := by have := congrArg List.length hd; simp at this; omega
    have hc : l[i] = c := by rw [List.drop_eq_getElem_cons hlt] at hd; injection hd
    have hr : l.drop (i + 1) = r := by rw [List.drop_eq_getElem_cons hlt] at hd; injection hd
    have hcb : c < 256 := hs c (by rw [← hc]; exact List.getElem_mem hlt)
    have e2 : wrap64 ((i : Int) + 1) = ((i + 1 : Nat) : Int) := by rw [w64 ⟨by omega, by omega⟩]; omega
    have e3 : rd (ints l) (i : Int) = (c : Int) := by
      rw [rd_ints, List.getD_eq_getElem?_getD, List.getElem?_eq_getElem hlt, hc]; rfl
    simp only [tabularyref04_More.l0]
    rw [ints_len, if_pos (by omega), if_pos (by omega), e3, rtake x c hx hcb k (by omega), e2]
    simp only [Option.bind_some]
    exact ih k l _ (i + 1) (by omega) hl hs hr hlt (CrcMath.take_lt hx hcb)

theorem rmore (s : Nat) (l : List Nat) (hs : s < 4294967296) (hl : Small l) (hn : l.length ≤ 1000000) (k : Nat) (hk : l.length + 20 < k) :
    tabularyref04_More.f k (s : Int) (ints l) = some ((CrcMath.more s l : Nat) : Int) := by
  unfold tabularyref04_More.f
  have h1 := xor32 4294967295 s (by decide) hs
  rw [show ((4294967295 : Nat) : Int) = 4294967295 from rfl] at h1
  rw [h1]
  exact rmore_l0 l k l _ 0 (by omega) hn hl rfl (by omega) (Nat.xor_lt_two_pow (n := 32) (by decide) hs)

theorem rsum (l : List Nat) (hl : Small l) (hn : l.length ≤ 1000000) (k : Nat) (hk : l.length + 20 < k) : tabularyref04_Sum.f k (ints l) = some ((CrcMath.more 0 l : Nat) : Int) := by
  unfold tabularyref04_Sum.f
  have := rmore 0 l (by decide) hl hn k hk
  rw [show (0 : Int) = ((0 : Nat) : Int) from rfl, this]
  rfl

end Go.Proofs.YthmcigdkopadjaaDoor.RefSum
end

/- A block's bytes, in plain words: there and back; bytes that are changed within 32 bits are not read. -/
section
namespace Go.Proofs.YthmcigdkopadjaaDoor.Block6
open Go.Proofs.YthmcigdkopadjaaDoor Go.RowKit Go.Proofs.YthmcigdkopadjaaDoorW.PrintWords Go.Proofs.YthmcigdkopadjaaDoorW.PrintLast Go.Proofs.YthmcigdkopadjaaDoorW.PrintMore Go.Proofs.YthmcigdkopadjaaDoor.Byt Go.Proofs.YthmcigdkopadjaaDoor.Lay6 Go.Proofs.YthmcigdkopadjaaDoor.Pack6 Go.Proofs.YthmcigdkopadjaaDoor.Parse6
set_option linter.unusedVariables false
set_option linter.unusedSimpArgs false
theorem beN_be (n : Nat) : ∀ x : Int, 0 ≤ x → x < 256 ^ n → beN (be x n) = x := by
  induction n with
  | zero => intro x h0 h1; have : (256 : Int) ^ 0 = 1 := rfl; show (0 : Int) = x; omega
  | succ n ih =>
    intro x h0 h1
    rw [Int.pow_succ] at h1
    show beN (be (x / 256) n ++ [x % 256]) = x
    rw [beN_next, ih (x / 256) (by omega) (by omega)]
    omega
theorem seal_take {l : List Int} (h : AreB l) {n : Nat} (hn : l.length = n) : (sealI l).take n = l := by
  subst hn
  unfold sealI
  rw [CrcPure.ints_take]
  unfold Crc6.sealN
  rw [List.take_left' (by simp [nats]), ints_nats h]
theorem mid (a b c : List Int) {o n : Nat} (ha : a.length = o) (hb : b.length = n) : ((a ++ (b ++ c)).drop o).take n = b := by
  subst ha hb
  rw [List.drop_left, List.take_left]
theorem bn_mid (a c : List Int) (x : Int) {o : Nat} (ha : a.length = o) : bn (a ++ (x :: c)) o = x := by
  subst ha
  rw [bn_getD, List.getD_eq_getElem?_getD, List.getElem?_append_right (Nat.le_refl _), Nat.sub_self]
  rfl
structure Okay (key stripe shard : Int) (data : List Int) : Prop where
  key : 0 ≤ key ∧ key < 18446744073709551616
  stripe : 0 ≤ stripe ∧ stripe < 4294967296
  shard : 0 ≤ shard ∧ shard < 256
  data : AreB data
theorem pack_ok {key stripe shard : Int} {data : List Int} (h : Okay key stripe shard data) : ParseC.packF key stripe shard data = if 96 < data.length then some ([], 2) else some (sealI (bodyP key stripe shard data), 0) := by
  show Pack6.packF key stripe shard data = _
  unfold Pack6.packF
  rw [if_pos ⟨h.key, h.stripe, h.shard, h.data⟩]
/-- THERE AND BACK. -/
theorem parse_pack {key stripe shard : Int} {data : List Int} (h : Okay key stripe shard data) (hl : data.length ≤ 96) : ParseC.parseF (sealI (bodyP key stripe shard data)) = some (key, stripe, shard, data, 0) := by
  have hB := bodyP_bytes key stripe shard h.data
  have hL := bodyP_len key stripe shard hl
  obtain ⟨B, hBe⟩ : ∃ B, B = bodyP key stripe shard data := ⟨_, rfl⟩
  rw [← hBe] at hB hL ⊢
  have hX := seal_bytes hB
  have hXl := seal_len B
  have hXt := seal_take hB hL
  have hsh := h.shard
  have hlen : ((data.length : Nat) : Int) % 256 = data.length := by omega
  have hb8 := be_len key 8
  have hb4 := be_len stripe 4
  have e1 : B = MARK ++ (be key 8 ++ (be stripe 4 ++ [shard, (data.length : Int)] ++ List.replicate 10 0 ++ data ++ List.replicate (96 - data.length) 0)) := by
    rw [hBe]; unfold bodyP headP MARK
    rw [Int.emod_eq_of_lt hsh.1 hsh.2, hlen]
    simp only [List.append_assoc]
  have e2 : B = (MARK ++ be key 8) ++ (be stripe 4 ++ ([shard, (data.length : Int)] ++ List.replicate 10 0 ++ data ++ List.replicate (96 - data.length) 0)) := by rw [e1]; simp only [List.append_assoc]
  have e3 : B = (MARK ++ be key 8 ++ be stripe 4) ++ (shard :: ((data.length : Int) :: (List.replicate 10 0 ++ data ++ List.replicate (96 - data.length) 0))) := by rw [e1]; simp only [List.append_assoc, List.cons_append, List.nil_append]
  have e4 : B = (MARK ++ be key 8 ++ be stripe 4 ++ [shard]) ++ ((data.length : Int) :: (List.replicate 10 0 ++ data ++ List.replicate (96 - data.length) 0)) := by rw [e1]; simp only [List.append_assoc, List.cons_append, List.nil_append]
  have e5 : B = (MARK ++ be key 8 ++ be stripe 4 ++ [shard, (data.length : Int)]) ++ (List.replicate 10 0 ++ (data ++ List.replicate (96 - data.length) 0)) := by rw [e1]; simp only [List.append_assoc, List.cons_append, List.nil_append]
  have e6 : B = (MARK ++ be key 8 ++ be stripe 4 ++ [shard, (data.length : Int)] ++ List.replicate 10 0) ++ (data ++ List.replicate (96 - data.length) 0) := by rw [e1]; simp only [List.append_assoc, List.cons_append, List.nil_append]
  have hM : MARK.length = 4 := rfl
  have q16 : bn (sealI B) 16 = shard := by
    rw [← bn_take (sealI B) 124 16 (by decide), hXt, e3]
    exact bn_mid _ _ _ (by simp only [List.length_append, hM, hb8, hb4])
  have q17 : bn (sealI B) 17 = (data.length : Int) := by
    rw [← bn_take (sealI B) 124 17 (by decide), hXt, e4]
    exact bn_mid _ _ _ (by simp only [List.length_append, hM, hb8, hb4, List.length_cons, List.length_nil])
  have qm : (sealI B).take 4 = MARK := by
    have : (sealI B).take 4 = ((sealI B).take 124).take 4 := by rw [List.take_take]; rfl
    rw [this, hXt, e1]
    exact List.take_left' rfl
  have q8 : (B.drop 4).take 8 = be key 8 := by rw [e1]; exact mid _ _ _ hM hb8
  have q4 : (B.drop 12).take 4 = be stripe 4 := by rw [e2]; exact mid _ _ _ (by simp only [List.length_append, hM, hb8]) hb4
  have q10 : (B.drop 18).take 10 = List.replicate 10 0 := by rw [e5]; exact mid _ _ _ (by simp only [List.length_append, hM, hb8, hb4, List.length_cons, List.length_nil]) List.length_replicate
  have q28 : B.drop 28 = data ++ List.replicate (96 - data.length) 0 := by rw [e6]; exact List.drop_left' (by simp only [List.length_append, hM, hb8, hb4, List.length_cons, List.length_nil, List.length_replicate])
  show Parse6.parseF _ = _
  unfold Parse6.parseF
  rw [if_pos hX, if_pos (by omega), if_pos qm, hXt, if_pos (rfl : sealI B = sealI B), if_pos, q16, q17, q8, q4, q28, beN_be 8 key h.key.1 h.key.2, beN_be 4 stripe h.stripe.1 h.stripe.2, Int.toNat_natCast, List.take_left]
  unfold fineS
  rw [hXt, q17, q10, q28, Int.toNat_natCast, List.drop_left]
  exact ⟨by omega, fun x hx => List.eq_of_mem_replicate hx, fun x hx => List.eq_of_mem_replicate hx⟩
/-- Unlike blocks have unlike bytes. -/
theorem pack_inj {k1 s1 d1 : Int} {l1 : List Int} {k2 s2 d2 : Int} {l2 : List Int} (h1 : Okay k1 s1 d1 l1) (h2 : Okay k2 s2 d2 l2) (n1 : l1.length ≤ 96) (n2 : l2.length ≤ 96) (h : sealI (bodyP k1 s1 d1 l1) = sealI (bodyP k2 s2 d2 l2)) : k1 = k2 ∧ s1 = s2 ∧ d1 = d2 ∧ l1 = l2 := by
  have e1 := parse_pack h1 n1
  rw [h, parse_pack h2 n2] at e1
  simp only [Option.some.injEq, Prod.mk.injEq, and_true] at e1
  exact ⟨e1.1.symm, e1.2.1.symm, e1.2.2.1.symm, e1.2.2.2.symm⟩
/-- What is not sealed is not read. -/
theorem parse_unsealed {X : List Int} (hA : AreB X) (hl : X.length = 128) (hS : ¬ X = sealI (X.take 124)) : ∃ e : Int, (e = 60 ∨ e = 61) ∧ ParseC.parseF X = some (0, 0, 0, [], e) := by
  by_cases hM : X.take 4 = MARK
  · refine ⟨61, .inr rfl, ?_⟩
    show Parse6.parseF _ = _
    unfold Parse6.parseF
    rw [if_pos hA, if_pos hl, if_pos hM, if_neg hS]
  · refine ⟨60, .inl rfl, ?_⟩
    show Parse6.parseF _ = _
    unfold Parse6.parseF
    rw [if_pos hA, if_pos hl, if_neg hM]
theorem toNat_byte (x : Int) (h : 0 ≤ x ∧ x ≤ 255) : ((UInt8.ofNat x.toNat).toNat : Int) = x := by
  rw [UInt8.toNat_ofNat']; omega
theorem str_inj (a b : List Int) (ha : AreB a) (hb : AreB b) : ((strOfNums a).toList = (strOfNums b).toList) ↔ a = b := by
  constructor
  · intro h
    rw [Lib.strOfNums_toList, Lib.strOfNums_toList] at h
    have h2 := congrArg (List.map (fun b : UInt8 => (b.toNat : Int))) h
    unfold Lib.bytesOf at h2
    rw [List.map_map, List.map_map] at h2
    have key : ∀ l : List Int, AreB l → l.map ((fun b : UInt8 => (b.toNat : Int)) ∘ (fun n : Int => UInt8.ofNat n.toNat)) = l := by
      intro l hl
      conv => rhs; rw [← List.map_id l]
      exact List.map_congr_left fun x hx => toNat_byte x (hl x hx)
    rw [key a ha, key b hb] at h2
    exact h2
  · rintro rfl; rfl
theorem str_beq (a b : List Int) (ha : AreB a) (hb : AreB b) : ((strOfNums a).toList == (strOfNums b).toList) = decide (a = b) := by
  rw [Bool.eq_iff_iff, beq_iff_eq, decide_eq_true_eq]
  exact str_inj a b ha hb
theorem areB_wf {l : List Int} (h : ∀ x ∈ l, (Lit.int .u8 x).wf = true) : AreB l := by
  intro x hx
  have h := h x hx
  simp only [Lit.wf, Bool.and_eq_true, decide_eq_true_eq] at h
  have hmin : IntKind.u8.min = 0 := rfl
  have hmax : IntKind.u8.max = 255 := rfl
  omega
theorem okay_wf {key stripe shard : Int} {data : List Int} (h1 : (Lit.int .u64 key).wf = true) (h2 : (Lit.int .u32 stripe).wf = true) (h3 : (Lit.int .u8 shard).wf = true) (h4 : ∀ x ∈ data, (Lit.int .u8 x).wf = true) : Okay key stripe shard data := by
  simp only [Lit.wf, Bool.and_eq_true, decide_eq_true_eq] at h1 h2 h3
  have a1 : IntKind.u64.min = 0 := rfl
  have a2 : IntKind.u64.max = 18446744073709551615 := rfl
  have a3 : IntKind.u32.min = 0 := rfl
  have a4 : IntKind.u32.max = 4294967295 := rfl
  have a5 : IntKind.u8.min = 0 := rfl
  have a6 : IntKind.u8.max = 255 := rfl
  exact ⟨by omega, by omega, by omega, areB_wf h4⟩
end Go.Proofs.YthmcigdkopadjaaDoor.Block6
end

/- What is read as a block is written as the same bytes. -/
section
namespace Go.Proofs.YthmcigdkopadjaaDoor.Back6
open Go.Proofs.YthmcigdkopadjaaDoor Go.RowKit Go.Proofs.YthmcigdkopadjaaDoorW.PrintWords Go.Proofs.YthmcigdkopadjaaDoorW.PrintLast Go.Proofs.YthmcigdkopadjaaDoorW.PrintMore Go.Proofs.YthmcigdkopadjaaDoor.Byt Go.Proofs.YthmcigdkopadjaaDoor.Lay6 Go.Proofs.YthmcigdkopadjaaDoor.Pack6 Go.Proofs.YthmcigdkopadjaaDoor.Parse6 Go.Proofs.YthmcigdkopadjaaDoor.Block6
set_option linter.unusedVariables false
set_option linter.unusedSimpArgs false
theorem be_beN (n : Nat) : ∀ l : List Int, l.length = n → AreB l → be (beN l) n = l := by
  induction n with
  | zero => intro l hl hA; rw [List.eq_nil_of_length_eq_zero hl]; rfl
  | succ n ih =>
    intro l hl hA
    have hne : l ≠ [] := by intro e; rw [e] at hl; cases hl
    obtain ⟨m, c, rfl⟩ : ∃ m c, l = m ++ [c] := ⟨l.dropLast, l.getLast hne, (List.dropLast_concat_getLast hne).symm⟩
    have hm : m.length = n := by rw [List.length_append] at hl; simpa using hl
    have hc := hA c (by simp)
    have hmA : AreB m := fun x hx => hA x (List.mem_append_left _ hx)
    rw [beN_next]
    show be ((beN m * 256 + c) / 256) n ++ [(beN m * 256 + c) % 256] = m ++ [c]
    rw [show (beN m * 256 + c) / 256 = beN m by omega, show (beN m * 256 + c) % 256 = c by omega, ih m hm hmA]
theorem zeros_eq {l : List Int} (h : ∀ x ∈ l, x = 0) {n : Nat} (hn : l.length = n) : l = List.replicate n 0 := by
  subst hn
  exact List.eq_replicate_iff.mpr ⟨rfl, h⟩
theorem cut (l : List Int) (o n : Nat) : l.drop o = (l.drop o).take n ++ l.drop (o + n) := by
  rw [← List.drop_drop, List.take_append_drop]
theorem one_at (l : List Int) (o : Nat) (h : o < l.length) : (l.drop o).take 1 = [bn l o] := by
  apply List.ext_getElem?
  intro j
  simp only [List.getElem?_take, List.getElem?_drop]
  match j with
  | 0 =>
    rw [if_pos (by decide), Nat.add_zero, bn_getD, List.getD_eq_getElem?_getD, List.getElem?_eq_getElem h]
    rfl
  | j + 1 =>
    rw [if_neg (by omega)]
    rfl
theorem pack_parse {X : List Int} (hA : AreB X) (hl : X.length = 128) (hM : X.take 4 = MARK) (hS : X = sealI (X.take 124)) (hf : fineS X) :
    Okay (beN (((X.take 124).drop 4).take 8)) (beN (((X.take 124).drop 12).take 4)) (bn X 16) (((X.take 124).drop 28).take (bn X 17).toNat) ∧ (((X.take 124).drop 28).take (bn X 17).toNat).length ≤ 96 ∧
    sealI (bodyP (beN (((X.take 124).drop 4).take 8)) (beN (((X.take 124).drop 12).take 4)) (bn X 16) (((X.take 124).drop 28).take (bn X 17).toNat)) = X := by
  obtain ⟨h17, hz1, hz2⟩ := hf
  have hb17 := bytes_of_mem hA 17
  have hb16 := bytes_of_mem hA 16
  obtain ⟨A, hAe⟩ : ∃ A, A = X.take 124 := ⟨_, rfl⟩
  have hAl : A.length = 124 := by rw [hAe, List.length_take]; omega
  have hAA : AreB A := by rw [hAe]; exact fun x hx => hA x (List.mem_of_mem_take hx)
  obtain ⟨n, hn⟩ := Int.eq_ofNat_of_zero_le hb17.1
  have e16 : bn A 16 = bn X 16 := by rw [hAe]; exact bn_take X 124 16 (by decide)
  have e17 : bn A 17 = (n : Int) := by rw [hAe, bn_take X 124 17 (by decide), hn]
  rw [← hAe] at hz1 hz2 hS ⊢
  rw [hn, Int.toNat_natCast] at hz2 ⊢
  have hn96 : n ≤ 96 := by omega
  have s8 : ((A.drop 4).take 8).length = 8 := by rw [List.length_take, List.length_drop]; omega
  have s4 : ((A.drop 12).take 4).length = 4 := by rw [List.length_take, List.length_drop]; omega
  have a8 : AreB ((A.drop 4).take 8) := fun x hx => hAA x (List.mem_of_mem_drop (List.mem_of_mem_take hx))
  have a4 : AreB ((A.drop 12).take 4) := fun x hx => hAA x (List.mem_of_mem_drop (List.mem_of_mem_take hx))
  have r8 := beN_range a8
  have r4 := beN_range a4
  rw [s8] at r8
  rw [s4] at r4
  have sd : ((A.drop 28).take n).length = n := by rw [List.length_take, List.length_drop]; omega
  refine ⟨⟨⟨r8.1, by have := r8.2; omega⟩, ⟨r4.1, by have := r4.2; omega⟩, ⟨hb16.1, by omega⟩, fun x hx => hAA x (List.mem_of_mem_drop (List.mem_of_mem_take hx))⟩, by omega, ?_⟩
  refine Eq.trans (congrArg sealI ?_) hS.symm
  unfold bodyP headP
  rw [sd, be_beN 8 _ s8 a8, be_beN 4 _ s4 a4]
  have hd16 : [bn X 16 % 256, (n : Int) % 256] = (A.drop 16).take 1 ++ (A.drop 17).take 1 := by
    rw [one_at A 16 (by omega), one_at A 17 (by omega), e16, e17, Int.emod_eq_of_lt hb16.1 (by omega), show (n : Int) % 256 = n by omega]
    rfl
  have hq1 : List.replicate 10 (0 : Int) = (A.drop 18).take 10 := (zeros_eq hz1 (by rw [List.length_take, List.length_drop]; omega)).symm
  have hq2 : List.replicate (96 - n) (0 : Int) = A.drop (28 + n) := by
    rw [← List.drop_drop]
    exact (zeros_eq hz2 (by rw [List.length_drop, List.length_drop]; omega)).symm
  have hmk : ([84, 66, 76, 75] : List Int) = A.take 4 := by
    rw [hAe, List.take_take]
    exact hM.symm
  rw [hd16, hq1, hq2, hmk]
  have c0 : A = A.take 4 ++ A.drop 4 := (List.take_append_drop 4 A).symm
  conv => rhs; rw [c0, cut A 4 8, cut A 12 4, cut A 16 1, cut A 17 1, cut A 18 10, cut A 28 n]
  simp only [List.append_assoc]
/-- Parse, whatever comes: what it answers, put, is what came; or nothing. -/
theorem parse_any {X : List Int} (hA : AreB X) : (∃ e : Int, e ≠ 0 ∧ ParseC.parseF X = some (0, 0, 0, [], e)) ∨ (∃ k s d l, ParseC.parseF X = some (k, s, d, l, 0) ∧ Okay k s d l ∧ l.length ≤ 96 ∧ sealI (bodyP k s d l) = X) := by
  by_cases hl : X.length = 128
  · by_cases hM : X.take 4 = MARK
    · by_cases hS : X = sealI (X.take 124)
      · by_cases hf : fineS X
        · right
          obtain ⟨h1, h2, h3⟩ := pack_parse hA hl hM hS hf
          refine ⟨_, _, _, _, ?_, h1, h2, h3⟩
          show Parse6.parseF _ = _
          unfold Parse6.parseF
          rw [if_pos hA, if_pos hl, if_pos hM, if_pos hS, if_pos hf]
        · left
          refine ⟨62, by decide, ?_⟩
          show Parse6.parseF _ = _
          unfold Parse6.parseF
          rw [if_pos hA, if_pos hl, if_pos hM, if_pos hS, if_neg hf]
      · left
        refine ⟨61, by decide, ?_⟩
        show Parse6.parseF _ = _
        unfold Parse6.parseF
        rw [if_pos hA, if_pos hl, if_pos hM, if_neg hS]
    · left
      refine ⟨60, by decide, ?_⟩
      show Parse6.parseF _ = _
      unfold Parse6.parseF
      rw [if_pos hA, if_pos hl, if_neg hM]
  · left
    refine ⟨6, by decide, ?_⟩
    show Parse6.parseF _ = _
    unfold Parse6.parseF
    rw [if_pos hA, if_neg hl]
end Go.Proofs.YthmcigdkopadjaaDoor.Back6
end

/- The document's Parse and Is in plain words: they are the program's. -/
section
namespace Go.Proofs.YthmcigdkopadjaaDoor.RParse6
open Go.Proofs.YthmcigdkopadjaaDoor Go.RowKit Go.Proofs.YthmcigdkopadjaaDoorW.PrintWords Go.Proofs.YthmcigdkopadjaaDoorW.PrintLast Go.Proofs.YthmcigdkopadjaaDoorW.PrintMore Go.Proofs.YthmcigdkopadjaaDoor.PBlockParses Go.Proofs.YthmcigdkopadjaaDoor.CrcPure Go.Proofs.YthmcigdkopadjaaDoor.Crc6 Go.Proofs.YthmcigdkopadjaaDoor.Byt Go.Proofs.YthmcigdkopadjaaDoor.Lay6 Go.Proofs.YthmcigdkopadjaaDoor.Pack6 Go.Proofs.YthmcigdkopadjaaDoor.Parse6 Go.Proofs.YthmcigdkopadjaaDoor.Block6 Go.Proofs.YthmcigdkopadjaaDoor.Back6
set_option linter.unusedVariables false
set_option linter.unusedSimpArgs false
theorem four_last (x : List Nat) (h : 4 ≤ x.length) : ∃ p a b c d, x = p ++ [a, b, c, d] ∧ p.length = x.length - 4 := by
  have hs : x.take (x.length - 4) ++ x.drop (x.length - 4) = x := List.take_append_drop _ _
  have hl : (x.drop (x.length - 4)).length = 4 := by rw [List.length_drop]; omega
  have ht : (x.take (x.length - 4)).length = x.length - 4 := by rw [List.length_take]; omega
  match hd : x.drop (x.length - 4), hl with
  | [a, b, c, d], _ => exact ⟨x.take (x.length - 4), a, b, c, d, by rw [← hd, hs], ht⟩

theorem rd_last (p : List Nat) (l : List Nat) (i : Nat) (n : Nat) (hn : n = p.length + i) : rd (ints (p ++ l)) (n : Int) = ((l.getD i 0 : Nat) : Int) := by
  subst hn
  rw [rd_ints, List.getD_eq_getElem?_getD, List.getElem?_append_right (by omega), List.getD_eq_getElem?_getD]
  congr 3; omega

theorem ropen_crc (x : List Nat) (hx : Small x) (h4 : 4 ≤ x.length) (hn : x.length ≤ 1000000) :
    tabularyref04_Open.f (ints x) = if x = sealN (x.take (x.length - 4)) then some (ints (x.take (x.length - 4)), true) else some ([], false) := by
  obtain ⟨p, a, b, c, d, rfl, hp⟩ := four_last x h4
  have hl : (p ++ [a, b, c, d]).length = p.length + 4 := by rw [List.length_append]; rfl
  have ht : (p ++ [a, b, c, d]).take ((p ++ [a, b, c, d]).length - 4) = p := by rw [hl, Nat.add_sub_cancel, List.take_append_of_le_length (Nat.le_refl _), List.take_length]
  have hsp : Small p := fun c hc => hx c (List.mem_append_left _ hc)
  rw [ht]
  show RefOpen.openF _ = _
  unfold RefOpen.openF RefOpen.tabularyref04_Open.f
  have e0 : wrap64 (((p.length + 4 : Nat) : Int) - 4) = ((p.length : Nat) : Int) := by rw [w64 ⟨by omega, by omega⟩]; omega
  have e1 : wrap64 (((p.length : Nat) : Int) + 1) = ((p.length + 1 : Nat) : Int) := by rw [w64 ⟨by omega, by omega⟩]; omega
  have e2 : wrap64 (((p.length : Nat) : Int) + 2) = ((p.length + 2 : Nat) : Int) := by rw [w64 ⟨by omega, by omega⟩]; omega
  have e3 : wrap64 (((p.length : Nat) : Int) + 3) = ((p.length + 3 : Nat) : Int) := by rw [w64 ⟨by omega, by omega⟩]; omega
  rw [ints_len, hl, e0, e1, e2, e3, if_neg (by omega), if_pos (by omega), if_pos (by omega), Int.toNat_natCast, ints_take, List.take_append_of_le_length (Nat.le_refl _), List.take_length]
  rw [RefSum.rsum p hsp (by omega) _ (by omega)]
  simp only [Option.bind_some]
  rw [rd_last p _ 0 p.length rfl, rd_last p _ 1 (p.length + 1) rfl, rd_last p _ 2 (p.length + 2) rfl, rd_last p _ 3 (p.length + 3) rfl]
  rw [if_pos (by omega), if_pos (by omega : (0 : Int) ≤ ((p.length + 1 : Nat) : Int)), if_pos (by omega : ((p.length + 1 : Nat) : Int) < ((p.length + 4 : Nat) : Int)), if_pos (by omega : (0 : Int) ≤ ((p.length + 2 : Nat) : Int)), if_pos (by omega : ((p.length + 2 : Nat) : Int) < ((p.length + 4 : Nat) : Int)), if_pos (by omega : (0 : Int) ≤ ((p.length + 3 : Nat) : Int)), if_pos (by omega : ((p.length + 3 : Nat) : Int) < ((p.length + 4 : Nat) : Int))]
  generalize hS : CrcMath.more 0 p = s
  have hseal : (p ++ [a, b, c, d] = sealN p) ↔ (a = s % 256 ∧ b = s / 256 % 256 ∧ c = s / 65536 % 256 ∧ d = s / 16777216 % 256) := by
    unfold sealN
    rw [hS, List.append_cancel_left_eq]
    unfold CrcMath.le4
    simp
  have f0 : ((([a, b, c, d].getD 0 0 : Nat) : Int) = (s : Int) % 256) ↔ a = s % 256 := by simp only [List.getD_cons_zero]; omega
  have f1 : ((([a, b, c, d].getD 1 0 : Nat) : Int) = (s : Int) / 256 % 256) ↔ b = s / 256 % 256 := by simp only [List.getD_cons_succ, List.getD_cons_zero]; omega
  have f2 : ((([a, b, c, d].getD 2 0 : Nat) : Int) = (s : Int) / 65536 % 256) ↔ c = s / 65536 % 256 := by simp only [List.getD_cons_succ, List.getD_cons_zero]; omega
  have f3 : ((([a, b, c, d].getD 3 0 : Nat) : Int) = (s : Int) / 16777216 % 256) ↔ d = s / 16777216 % 256 := by simp only [List.getD_cons_succ, List.getD_cons_zero]; omega
  by_cases h0 : a = s % 256
  · rw [if_pos (f0.mpr h0)]
    by_cases h1 : b = s / 256 % 256
    · rw [if_pos (f1.mpr h1)]
      by_cases h2 : c = s / 65536 % 256
      · rw [if_pos (f2.mpr h2)]
        by_cases h3 : d = s / 16777216 % 256
        · rw [if_pos (f3.mpr h3), if_pos (hseal.mpr ⟨h0, h1, h2, h3⟩)]
        · rw [if_neg (fun h => h3 (f3.mp h)), if_neg (fun h => h3 (hseal.mp h).2.2.2)]
      · rw [if_neg (fun h => h2 (f2.mp h)), if_neg (fun h => h2 (hseal.mp h).2.2.1)]
    · rw [if_neg (fun h => h1 (f1.mp h)), if_neg (fun h => h1 (hseal.mp h).2.1)]
  · rw [if_neg (fun h => h0 (f0.mp h)), if_neg (fun h => h0 (hseal.mp h).1)]

theorem ropen {X : List Int} (hB : AreB X) (hl : X.length = 128) : tabularyref04_Open.f X = if X = sealI (X.take 124) then some (X.take 124, true) else some ([], false) := by
  have ho := ropen_crc (nats X) (nats_small hB) (by simp [nats]; omega) (by simp [nats]; omega)
  have hn : (nats X).length = 128 := by simp [nats]; exact hl
  have ht : nats (X.take 124) = (nats X).take 124 := by unfold nats; rw [List.map_take]
  rw [ints_nats hB, hn, ← ht] at ho
  have hBt : AreB (X.take 124) := fun x hx => hB x (List.mem_of_mem_take hx)
  rw [ints_nats hBt] at ho
  have hiff : (nats X = Crc6.sealN (nats (X.take 124))) ↔ X = sealI (X.take 124) := by
    constructor
    · intro e
      have := congrArg CrcPure.ints e
      rw [ints_nats hB] at this
      exact this
    · intro e
      have := congrArg nats e
      unfold sealI at this
      rw [nats_ints] at this
      exact this
  by_cases hs : X = sealI (X.take 124)
  · rw [ho, if_pos (hiff.2 hs), if_pos hs]
  · rw [ho, if_neg (fun e => hs (hiff.1 e)), if_neg hs]
theorem rd_bn (l : List Int) (j : Nat) : rd l (j : Int) = bn l j := rfl
theorem rzero_go (l : List Int) (hm : l.length ≤ 1000) (d : Nat) : ∀ (k i : Nat), i + d = l.length → d < k → tabularyref06_zero.l0 k l (i : Int) = some (decide (∀ x ∈ l.drop i, x = 0)) := by
  induction d with
  | zero =>
    intro k i hi hk
    obtain ⟨k, rfl⟩ : ∃ m, k = m + 1 := ⟨k - 1, by omega⟩
    simp only [tabularyref06_zero.l0]
    rw [if_neg (by omega), List.drop_eq_nil_of_le (by omega)]
    simp
  | succ d ih =>
    intro k i hi hk
    obtain ⟨k, rfl⟩ : ∃ m, k = m + 1 := ⟨k - 1, by omega⟩
    simp only [tabularyref06_zero.l0]
    rw [if_pos (by omega), if_pos (by omega), rd_bn, List.drop_eq_getElem_cons (show i < l.length by omega)]
    have hb : bn l i = l[i] := by
      rw [bn_getD, List.getD_eq_getElem?_getD, List.getElem?_eq_getElem (by omega)]; rfl
    rw [hb]
    by_cases h : l[i] = 0
    · rw [if_pos h, show wrap64 ((i : Int) + 1) = ((i + 1 : Nat) : Int) by unfold wrap64; omega, ih k (i + 1) (by omega) (by omega)]
      refine congrArg some (decide_eq_decide.2 ?_)
      rw [List.forall_mem_cons]
      exact ⟨fun a => ⟨h, a⟩, fun a => a.2⟩
    · rw [if_neg h]
      refine congrArg some (decide_eq_false ?_).symm
      rw [List.forall_mem_cons]
      exact fun a => h a.1
theorem rzero (l : List Int) (hm : l.length ≤ 1000) (k : Nat) (hk : l.length < k) : tabularyref06_zero.f k l = some (decide (∀ x ∈ l, x = 0)) := by
  have := rzero_go l hm l.length k 0 (by omega) hk
  exact this
theorem rnum_go (l : List Int) (hA : AreB l) (hm : l.length ≤ 8) (d : Nat) : ∀ (k i : Nat), i + d = l.length → d < k → tabularyref06_number.l0 k l (beN (l.take i)) (i : Int) = some (beN l) := by
  induction d with
  | zero =>
    intro k i hi hk
    obtain ⟨k, rfl⟩ : ∃ m, k = m + 1 := ⟨k - 1, by omega⟩
    rw [tabularyref06_number.l0]
    rw [if_neg (by omega), List.take_of_length_le (by omega)]
  | succ d ih =>
    intro k i hi hk
    obtain ⟨k, rfl⟩ : ∃ m, k = m + 1 := ⟨k - 1, by omega⟩
    rw [tabularyref06_number.l0]
    have hb : bn l i = l[i] := by
      rw [bn_getD, List.getD_eq_getElem?_getD, List.getElem?_eq_getElem (by omega)]; rfl
    have hr := hA l[i] (List.getElem_mem (by omega))
    have hx := beN_range (l := l.take i) (fun x hx => hA x (List.mem_of_mem_take hx))
    have hli : (l.take i).length = i := by rw [List.length_take]; omega
    rw [hli] at hx
    have hpow : (256 : Int) ^ i ≤ 256 ^ 7 := by
      have : i = 0 ∨ i = 1 ∨ i = 2 ∨ i = 3 ∨ i = 4 ∨ i = 5 ∨ i = 6 ∨ i = 7 := by omega
      rcases this with h | h | h | h | h | h | h | h <;> (rw [h]; decide)
    have h7 : (256 : Int) ^ 7 = 72057594037927936 := by decide
    rw [if_pos (by omega), if_pos (by omega), rd_bn, hb]
    have w1 : IntKind.u64.wrap (beN (l.take i) * 256) = beN (l.take i) * 256 := by rw [IntKind.wrap_u64]; omega
    have w2 : IntKind.u64.wrap l[i] = l[i] := by rw [IntKind.wrap_u64]; omega
    rw [w1, w2, or_byte _ _ hx.1 (by omega) hr, ← beN_next, show wrap64 ((i : Int) + 1) = ((i + 1 : Nat) : Int) by unfold wrap64; omega]
    have ht : l.take i ++ [l[i]] = l.take (i + 1) := (List.take_succ_eq_append_getElem (by omega)).symm
    rw [ht]
    exact ih k (i + 1) (by omega) (by omega)
theorem rnum (l : List Int) (hA : AreB l) (hm : l.length ≤ 8) (k : Nat) (hk : l.length < k) : tabularyref06_number.f k l = some (beN l) := by
  have := rnum_go l hA hm l.length k 0 (by omega) hk
  exact this
theorem rparse {X : List Int} (hA : AreB X) (hm : X.length ≤ 100000) (k : Nat) (hk : 1000 < k) : tabularyref06_Parse.f k X = ParseC.parseF X := by
  obtain ⟨k, rfl⟩ : ∃ m, k = m + 1 := ⟨k - 1, by omega⟩
  show _ = Parse6.parseF X
  unfold tabularyref06_Parse.f Parse6.parseF
  rw [if_pos hA]
  by_cases hl : X.length = 128
  · rw [if_pos (by omega), if_pos hl, if_pos (by omega)]
    have hr17 := hA (bn X 17) (by rw [bn_getD, List.getD_eq_getElem?_getD, List.getElem?_eq_getElem (show 17 < X.length by omega)]; exact List.getElem_mem _)
    have j0t : tabularyref06_Parse.j0 (k + 1) X true = some (0, 0, 0, [], 60) := by rw [tabularyref06_Parse.j0, if_pos rfl]
    have j1t : tabularyref06_Parse.j1 k X (bn X 17) true = some (0, 0, 0, [], 62) := by
      obtain ⟨k, rfl⟩ : ∃ m, k = m + 1 := ⟨k - 1, by omega⟩
      rw [tabularyref06_Parse.j1, if_pos rfl]
    have w17 : wrap64 (bn X 17) = bn X 17 := by unfold wrap64; omega
    have j0f : tabularyref06_Parse.j0 (k + 1) X false = if X = sealI (X.take 124) then (if fineS X then some (beN (((X.take 124).drop 4).take 8), beN (((X.take 124).drop 12).take 4), bn X 16, ((X.take 124).drop 28).take (bn X 17).toNat, 0) else some (0, 0, 0, [], 62)) else some (0, 0, 0, [], 61) := by
      rw [tabularyref06_Parse.j0, if_neg (by decide), ropen hA hl]
      by_cases hs : X = sealI (X.take 124)
      · rw [if_pos hs, if_pos hs]
        simp only [Option.bind_some]
        rw [if_pos trivial, if_pos (by omega), show rd X 17 = bn X 17 from rfl, w17]
        by_cases h96 : bn X 17 > 96
        · rw [if_pos h96, j1t, if_neg (fun h => by have := h.1; omega)]
        · rw [if_neg h96, if_pos (by decide), if_pos (by omega), rzero _ (by simp; omega) k (by simp; omega)]
          simp only [Option.bind_some]
          have hz1 : ((X.take 28).drop 18) = ((X.take 124).drop 18).take 10 := by
            rw [List.drop_take, List.drop_take, List.take_take]
            rfl
          by_cases z1 : ∀ x ∈ (X.take 28).drop 18, x = 0
          · rw [decide_eq_true z1, if_pos rfl]
            have e28 : wrap64 (28 + bn X 17) = ((28 + (bn X 17).toNat : Nat) : Int) := by unfold wrap64; omega
            rw [e28, if_pos (by omega), if_pos (by omega), if_pos (by omega), Int.toNat_natCast, rzero _ (by simp; omega) k (by simp; omega)]
            simp only [Option.bind_some]
            have hz2 : ((X.take 124).drop (28 + (bn X 17).toNat)) = ((X.take 124).drop 28).drop (bn X 17).toNat := by rw [List.drop_drop]
            rw [hz2]
            by_cases z2 : ∀ x ∈ ((X.take 124).drop 28).drop (bn X 17).toNat, x = 0
            · rw [decide_eq_true z2, if_pos ⟨by omega, by rw [← hz1]; exact z1, z2⟩]
              obtain ⟨k, rfl⟩ : ∃ m, k = m + 1 := ⟨k - 1, by omega⟩
              have hb : ∀ a b : Nat, AreB ((X.take a).drop b) := fun a b x hx => hA x (List.mem_of_mem_take (List.mem_of_mem_drop hx))
              have s1 : (X.take 12).drop 4 = ((X.take 124).drop 4).take 8 := by rw [List.drop_take, List.drop_take, List.take_take]; rfl
              have s2 : (X.take 16).drop 12 = ((X.take 124).drop 12).take 4 := by rw [List.drop_take, List.drop_take, List.take_take]; rfl
              have s3 : (X.take (28 + (bn X 17).toNat)).drop 28 = ((X.take 124).drop 28).take (bn X 17).toNat := by
                rw [List.drop_take, List.drop_take, List.take_take]
                congr 1
                omega
              rw [tabularyref06_Parse.j1, if_neg (by decide), if_pos (by decide), if_pos (by omega), rnum _ (hb _ _) (by simp; omega) k (by simp; omega)]
              simp only [Option.bind_some]
              rw [if_pos (by decide), if_pos (by omega), rnum _ (hb _ _) (by simp; omega) k (by simp; omega)]
              simp only [Option.bind_some]
              rw [if_pos (by omega), e28, if_pos (by omega), if_pos (by omega), Int.toNat_natCast, s1, s2, s3, List.nil_append, if_pos (by simp; omega)]
              have hn4 := beN_range (l := ((X.take 124).drop 12).take 4) (fun x hx => hb 124 12 x (List.mem_of_mem_take hx))
              have hl4 : (((X.take 124).drop 12).take 4).length = 4 := by simp; omega
              rw [hl4] at hn4
              have h4 : (256 : Int) ^ 4 = 4294967296 := by decide
              rw [Int.emod_eq_of_lt hn4.1 (by omega)]
              rfl
            · rw [decide_eq_false z2, show (!false) = true from rfl, j1t, if_neg (fun h => z2 h.2.2)]
          · rw [decide_eq_false z1, if_neg (by decide), j1t, if_neg (fun h => z1 (by rw [hz1]; exact h.2.1))]
      · rw [if_neg hs, if_neg hs]
        simp only [Option.bind_some]
        rw [if_neg (by decide)]
    have hM : X.take 4 = MARK ↔ bn X 0 = 84 ∧ bn X 1 = 66 ∧ bn X 2 = 76 ∧ bn X 3 = 75 := by
      match X, hl with
      | a :: b :: c :: d :: t, _ => simp [MARK, bn, rd]
    rw [show rd X 0 = bn X 0 from rfl, show rd X 1 = bn X 1 from rfl, show rd X 2 = bn X 2 from rfl, show rd X 3 = bn X 3 from rfl]
    by_cases m0 : bn X 0 = 84
    · rw [if_pos m0, if_pos (by omega)]
      by_cases m1 : bn X 1 = 66
      · rw [if_pos m1, if_pos (by omega)]
        by_cases m2 : bn X 2 = 76
        · rw [if_pos m2, if_pos (by omega)]
          by_cases m3 : bn X 3 = 75
          · rw [show (bn X 3 != 75) = false by rw [m3]; rfl, j0f, if_pos (hM.2 ⟨m0, m1, m2, m3⟩)]
            by_cases hs : X = sealI (X.take 124)
            · rw [if_pos hs, if_pos hs]
              split <;> rfl
            · rw [if_neg hs, if_neg hs]
          · rw [show (bn X 3 != 75) = true by simpa using m3, j0t, if_neg (fun h => m3 (hM.1 h).2.2.2)]
        · rw [if_neg m2, j0t, if_neg (fun h => m2 (hM.1 h).2.2.1)]
      · rw [if_neg m1, j0t, if_neg (fun h => m1 (hM.1 h).2.1)]
    · rw [if_neg m0, j0t, if_neg (fun h => m0 (hM.1 h).1)]
  · rw [if_neg (by omega), if_neg hl]
theorem ris {X : List Int} (hA : AreB X) (hm : X.length ≤ 100000) (k : Nat) (hk : 1000 < k) (a b c : Int) : tabularyref06_Is.f k X a b c = block_Is.f X a b c := by
  unfold tabularyref06_Is.f block_Is.f
  rw [rparse hA hm k hk]
  rfl
end Go.Proofs.YthmcigdkopadjaaDoor.RParse6
end

/- Rows of bytes in memory of their own, written over and gone on with: what stays as it was. -/
section
namespace Go.Proofs.YthmcigdkopadjaaDoor.Own3
open Go Go.RowKit Go.Proofs.YthmcigdkopadjaaDoorW.PrintWords Go.Proofs.YthmcigdkopadjaaDoorW.PrintLast Go.Proofs.YthmcigdkopadjaaDoorW.PrintMore
set_option linter.unusedVariables false
set_option linter.unusedSimpArgs false
/-- A row's block: its room; nothing of it is frozen. -/
def ROOM (w : World) (g cap : Nat) : Prop := ∃ cur : Array Value, w.heap[g]? = some (.cells cur 5 (0, 0)) ∧ cur.size = cap ∧ cap ≤ maxLen
theorem ROOM.lt {w : World} {g cap : Nat} (h : ROOM w g cap) : g < w.heap.size := by
  obtain ⟨cur, h1, _⟩ := h
  exact blk_lt h1
theorem ROOM.max {w : World} {g cap : Nat} (h : ROOM w g cap) : cap ≤ maxLen := by
  obtain ⟨cur, _, _, h3⟩ := h
  exact h3
theorem ROOM.isSome {w : World} {g cap : Nat} (h : ROOM w g cap) (j : Nat) (hj : j < cap) : (w.cell? ⟨g, j, none⟩).isSome = true := by
  obtain ⟨cur, h1, h2, _⟩ := h
  rw [blk_cell h1, Array.getElem?_eq_getElem (by omega)]
  rfl
theorem ROOM.frozen {w : World} {g cap : Nat} (h : ROOM w g cap) (j : Nat) : w.frozen? ⟨g, j, none⟩ = false := by
  obtain ⟨cur, h1, _⟩ := h
  exact blk_frozen h1 j
theorem ROOM.of {w w' : World} {g cap : Nat} (h : ROOM w g cap) (e : w'.heap[g]? = w.heap[g]?) : ROOM w' g cap := by
  obtain ⟨cur, h1, h2⟩ := h
  exact ⟨cur, e.trans h1, h2⟩
theorem ROOM.set {w : World} {g cap : Nat} (h : ROOM w g cap) (g' j : Nat) (u : Value) : ROOM (w.setCell ⟨g', j, none⟩ u) g cap := by
  by_cases e : g = g'
  · subst e
    obtain ⟨cur, h1, h2, h3⟩ := h
    exact ⟨_, blk_set h1 j u, by rw [Array.size_setIfInBounds]; exact h2, h3⟩
  · exact h.of (Below.heap_setCell w _ _ _ e)
/-- The first n cells are bytes; the first k of them are x. -/
def PART (w : World) (g n k : Nat) (x : Int) : Prop := ∀ j, j < n → ∃ y, w.cell? ⟨g, j, none⟩ = some (.int .u8 y) ∧ (j < k → y = x)
theorem PART.zero {w : World} {g n : Nat} {x : Int} {k : Nat} (h : PART w g n k x) (x' : Int) : PART w g n 0 x' := fun j hj => by
  obtain ⟨y, h1, _⟩ := h j hj
  exact ⟨y, h1, fun h => absurd h (Nat.not_lt_zero _)⟩
theorem PART.full {w : World} {g n : Nat} {x : Int} (h : PART w g n n x) (j : Nat) (hj : j < n) : w.cell? ⟨g, j, none⟩ = some (.int .u8 x) := by
  obtain ⟨y, h1, h2⟩ := h j hj
  rw [h1, h2 hj]
theorem PART.step {w : World} {g n k : Nat} {x : Int} (h : PART w g n k x) (hk : k < n) : PART (w.setCell ⟨g, k, none⟩ (.int .u8 x)) g n (k + 1) x := fun j hj => by
  by_cases e : j = k
  · subst e
    obtain ⟨y, h1, _⟩ := h j hj
    exact ⟨x, World.cell?_setCell_same _ _ _ h1, fun _ => rfl⟩
  · obtain ⟨y, h1, h2⟩ := h j hj
    exact ⟨y, (World.cell?_setCell_other _ _ _ _ (by intro e'; injection e' with _ e' _; exact e e'.symm)).trans h1, fun h => h2 (by omega)⟩
theorem PART.far {w : World} {g n k : Nat} {x : Int} (h : PART w g n k x) {g' j' : Nat} (hg : g ≠ g') (u : Value) : PART (w.setCell ⟨g', j', none⟩ u) g n k x := fun j hj => by
  obtain ⟨y, h1, h2⟩ := h j hj
  exact ⟨y, (World.cell?_setCell_other _ _ _ _ (by intro e'; injection e' with e' _ _; exact hg e'.symm)).trans h1, h2⟩
theorem PART.of {w w' : World} {g n k : Nat} {x : Int} (h : PART w g n k x) (e : w'.heap[g]? = w.heap[g]?) : PART w' g n k x := fun j hj => by
  obtain ⟨y, h1, h2⟩ := h j hj
  exact ⟨y, (World.cell?_of_block (a := ⟨g, j, none⟩) e).trans h1, h2⟩
theorem PART.of_cells {w w' : World} {g n k : Nat} {x : Int} (h : PART w g n k x) (e : ∀ j, j < n → w'.cell? ⟨g, j, none⟩ = w.cell? ⟨g, j, none⟩) : PART w' g n k x := fun j hj => by
  obtain ⟨y, h1, h2⟩ := h j hj
  exact ⟨y, (e j hj).trans h1, h2⟩
/-- Out of an owned row. -/
theorem part_of_row {w : World} {base : Nat} {v : Value} {l : List Int} (h : Kd.R (Kd.int .u8) 5 w base (fun _ => True) v l) (hl : 0 < l.length) :
    ∃ g cap, v = .slice (some ⟨g, 0, none⟩) l.length cap ∧ base ≤ g ∧ l.length ≤ cap ∧ ROOM w g cap ∧ PART w g l.length 0 0 := by
  obtain ⟨A, c, e, hlc, hr⟩ := Kd.R_reads h
  obtain ⟨inner, ho⟩ := Kd.R_own h
  rcases ho.2 with ⟨_, h0⟩ | ⟨g, cap, cur, e2, hb, hg, h3, h4, h5, _⟩
  · omega
  · rw [e2] at e
    simp only [Value.slice.injEq] at e
    obtain ⟨rfl, _, rfl⟩ := e
    have h5' : cur.size = cap := by rw [h5]; exact Nat.mul_one _
    refine ⟨g, cap, e2, hb, h3, ⟨cur, hg, h5', h4⟩, fun j hj => ?_⟩
    obtain ⟨ad, c, e3, hc1, hc2, hc3⟩ := Kd.C_get hr 0 (j : Int) (Int.natCast_nonneg _) (by omega)
    cases e3
    have hc2' : c = [.int .u8 (l.getD j 0)] := hc2
    have := hc3 0 (.int .u8 (l.getD j 0)) (by rw [hc2']; rfl)
    refine ⟨l.getD j 0, ?_, fun h => absurd h (Nat.not_lt_zero _)⟩
    have hz : (Kd.int IntKind.u8).sz = 1 := rfl
    rw [hz, Int.toNat_natCast, Nat.mul_one, Nat.add_zero, Addr.add_lit, Nat.zero_add] at this
    exact this
/-- Three rows and the row of their slices. -/
structure ALL (w : World) (h n : Nat) (g cap : Nat → Nat) : Prop where
  row : ∃ cs : Array Value, w.heap[h]? = some (.cells cs 22 (0, 0)) ∧ ∀ r, r < 3 → cs[r]? = some (.slice (some ⟨g r, 0, none⟩) n (cap r))
  room : ∀ r, r < 3 → ROOM w (g r) (cap r)
  len : ∀ r, r < 3 → n ≤ cap r
  ne : ∀ r s, r < 3 → s < 3 → g r = g s → r = s
theorem ALL.at {w : World} {h n : Nat} {g cap : Nat → Nat} (H : ALL w h n g cap) (r : Nat) (hr : r < 3) : w.cell? ⟨h, r, none⟩ = some (.slice (some ⟨g r, 0, none⟩) n (cap r)) := by
  obtain ⟨cs, h1, h2⟩ := H.row
  rw [blk_cell h1]
  exact h2 r hr
theorem ALL.lt {w : World} {h n : Nat} {g cap : Nat → Nat} (H : ALL w h n g cap) : h < w.heap.size := by
  obtain ⟨cs, h1, _⟩ := H.row
  exact blk_lt h1
theorem ALL.far {w : World} {h n : Nat} {g cap : Nat → Nat} (H : ALL w h n g cap) (r : Nat) (hr : r < 3) : h ≠ g r := by
  obtain ⟨cs, h1, _⟩ := H.row
  obtain ⟨cur, h2, _⟩ := H.room r hr
  exact blk_ne h1 h2 (by decide)
theorem ALL.set {w : World} {h n : Nat} {g cap : Nat → Nat} (H : ALL w h n g cap) (r : Nat) (hr : r < 3) (j : Nat) (u : Value) : ALL (w.setCell ⟨g r, j, none⟩ u) h n g cap := by
  refine ⟨?_, fun s hs => (H.room s hs).set _ _ _, H.len, H.ne⟩
  obtain ⟨cs, h1, h2⟩ := H.row
  exact ⟨cs, (Below.heap_setCell w ⟨g r, j, none⟩ u h (H.far r hr)).trans h1, h2⟩
theorem ALL.of {w w' : World} {h n : Nat} {g cap : Nat → Nat} (H : ALL w h n g cap) (e : ∀ k, k < w.heap.size → w'.heap[k]? = w.heap[k]?) : ALL w' h n g cap := by
  refine ⟨?_, fun s hs => (H.room s hs).of (e _ (H.room s hs).lt), H.len, H.ne⟩
  obtain ⟨cs, h1, h2⟩ := H.row
  exact ⟨cs, (e h (blk_lt h1)).trans h1, h2⟩
/-- The rows below i hold their number, of row i the first k. -/
def FILL (w : World) (n : Nat) (g : Nat → Nat) (U : Nat → Int) (i k : Nat) : Prop := ∀ r, r < 3 → PART w (g r) n (if r < i then n else if r = i then k else 0) (U r)
theorem FILL.next {w : World} {n : Nat} {g : Nat → Nat} {U : Nat → Int} {i : Nat} (h : FILL w n g U i n) : FILL w n g U (i + 1) 0 := fun r hr => by
  have h1 := h r hr
  by_cases e1 : r < i
  · rw [if_pos e1] at h1
    rw [if_pos (by omega)]
    exact h1
  · rw [if_neg e1] at h1
    by_cases e2 : r = i
    · rw [if_pos e2] at h1
      rw [if_pos (by omega)]
      exact h1
    · rw [if_neg e2] at h1
      rw [if_neg (by omega)]
      have : (if r = i + 1 then 0 else 0) = 0 := by split <;> rfl
      rw [this]
      exact h1
theorem FILL.step {w : World} {h n : Nat} {g cap : Nat → Nat} (H : ALL w h n g cap) {U : Nat → Int} {i k : Nat} (hf : FILL w n g U i k) (hi : i < 3) (hk : k < n) : FILL (w.setCell ⟨g i, k, none⟩ (.int .u8 (U i))) n g U i (k + 1) := fun r hr => by
  have h1 := hf r hr
  by_cases e2 : r = i
  · subst e2
    rw [if_neg (Nat.lt_irrefl _), if_pos rfl] at h1 ⊢
    exact h1.step hk
  · have hne : g r ≠ g i := fun e => e2 (H.ne r i hr hi e)
    by_cases e1 : r < i
    · rw [if_pos e1] at h1 ⊢
      exact h1.far hne _
    · rw [if_neg e1, if_neg e2] at h1 ⊢
      exact h1.far hne _
theorem FILL.of {w w' : World} {n : Nat} {g : Nat → Nat} {U : Nat → Int} {i k : Nat} (hf : FILL w n g U i k) (hl : ∀ r, r < 3 → g r < w.heap.size) (e : ∀ k, k < w.heap.size → w'.heap[k]? = w.heap[k]?) : FILL w' n g U i k := fun r hr => (hf r hr).of (e _ (hl r hr))
theorem FILL.start {w : World} {n : Nat} {g : Nat → Nat} {U : Nat → Int} (h : ∀ r, r < 3 → PART w (g r) n 0 0) : FILL w n g U 0 0 := fun r hr => by
  rw [if_neg (Nat.not_lt_zero _)]
  have : (if r = 0 then 0 else 0) = 0 := by split <;> rfl
  rw [this]
  exact (h r hr).zero _
theorem FILL.cell {w : World} {n : Nat} {g : Nat → Nat} {U : Nat → Int} {i k : Nat} (hf : FILL w n g U i k) (r : Nat) (hr : r < 3) (j : Nat) (hj : j < n) : ∃ y, w.cell? ⟨g r, j, none⟩ = some (.int .u8 y) := by
  obtain ⟨y, h, _⟩ := hf r hr j hj
  exact ⟨y, h⟩
theorem FILL.done {w : World} {n : Nat} {g : Nat → Nat} {U : Nat → Int} (hf : FILL w n g U 3 0) (r : Nat) (hr : r < 3) (j : Nat) (hj : j < n) : w.cell? ⟨g r, j, none⟩ = some (.int .u8 (U r)) := by
  have h1 := hf r hr
  rw [if_pos hr] at h1
  exact h1.full j hj
/-! ### gone on with -/
abbrev byt (x : Int) : Value := .int .u8 x
/-- A row that is gone on with, as it came. -/
theorem came {w : World} {g n cap : Nat} {x : Int} (hr : ROOM w g cap) (hl : n ≤ cap) (hc : ∀ j, j < n → w.cell? ⟨g, j, none⟩ = some (byt x)) : Came w 1 (some ⟨g, 0, none⟩) g 0 n cap (List.replicate n (byt x)) := by
  refine ⟨hl, fun _ => rfl, fun _ => hr.lt, by simp, fun j u hu => ?_, fun j hj => ⟨?_, ?_⟩⟩
  · have hj : j < n := by have := (List.getElem?_eq_some_iff.1 hu).1; simpa using this
    rw [List.getElem?_replicate, if_pos hj] at hu
    rw [Nat.zero_add, hc j hj]
    exact hu
  · rw [Nat.zero_add, Nat.mul_one]
    rw [Nat.mul_one] at hj
    exact hr.isSome _ (by omega)
  · exact hr.frozen _
/-- What 20 appends leave. -/
structure GONE (W w : World) (g n cap m : Nat) (x y : Int) (v : Value) : Prop where
  val : ∃ b c, v = .slice (some ⟨b, 0, none⟩) (n + m) c ∧ n + m ≤ c ∧ (b = g ∨ W.heap.size ≤ b) ∧ (∃ cur, w.heap[b]? = some (.cells cur 5 (0, 0))) ∧ ∀ j, j < n + m → w.cell? ⟨b, j, none⟩ = some (byt (if j < n then x else y))
  block : ∀ k, k < W.heap.size → k ≠ g → w.heap[k]? = W.heap[k]?
  old : ∀ j, j < n → w.cell? ⟨g, j, none⟩ = W.cell? ⟨g, j, none⟩
theorem gone {W w : World} {g n cap m : Nat} {x y : Int} {v : Value} (hr : ROOM W g cap) (hl : n ≤ cap) (hm : 0 < m) (hc : ∀ j, j < n → W.cell? ⟨g, j, none⟩ = some (byt x))
    (h : Onto W 5 1 (some ⟨g, 0, none⟩) g 0 n cap (List.replicate n (byt x)) w v m (List.replicate m (byt y))) : GONE W w g n cap m x y v := by
  have hcm := came hr hl hc
  have hblk : ∀ k, k < W.heap.size → k ≠ g → w.heap[k]? = W.heap[k]? := fun k hk hne => h.kept.block hk (fun p hp e => by
    obtain ⟨j, _, _, rfl⟩ := hp
    exact hne e.symm)
  have hold : ∀ j, j < n → w.cell? ⟨g, j, none⟩ = W.cell? ⟨g, j, none⟩ := fun j hj => h.old hr.lt (fun j' _ _ ⟨_, e⟩ => by omega)
  refine ⟨?_, hblk, hold⟩
  have hat : ∀ j, j < n + m → (List.replicate n (byt x) ++ List.replicate m (byt y))[j]? = some (byt (if j < n then x else y)) := fun j hj => by
    by_cases e : j < n
    · rw [if_pos e, List.getElem?_append_left (by simpa using e), List.getElem?_replicate, if_pos e]
    · rw [if_neg e, List.getElem?_append_right (by simpa using e), List.getElem?_replicate, if_pos (by simp; omega)]
  obtain ⟨g', o', cap', hv, h1, h2, h3⟩ := h.value hcm hr.max (.inr hm)
  rcases h.val with ⟨hle, hv2⟩ | ⟨hgt, hown⟩
  · rw [hv2] at hv
    simp only [Value.slice.injEq, Option.some.injEq, Addr.mk.injEq] at hv
    obtain ⟨⟨rfl, rfl, _⟩, _, rfl⟩ := hv
    refine ⟨g, cap, hv2, h1, .inl rfl, ?_, fun j hj => ?_⟩
    · obtain ⟨cur, q1, q2, q3⟩ := hr
      have hw := h.kept.2.2 g (blk_lt q1)
      rw [q1] at hw
      rcases e : w.heap[g]? with _ | (⟨c', t', f'⟩ | _ | _ | _)
      · rw [e] at hw; cases hw
      · rw [e] at hw
        obtain ⟨rfl, rfl, _⟩ := hw
        exact ⟨c', rfl⟩
      all_goals (rw [e] at hw; cases hw)
    · have := h3 j (by omega)
      rw [Nat.zero_add] at this
      rw [this]
      exact hat j hj
  · rcases hown.2 with ⟨_, h0⟩ | ⟨b, c, cur, e2, hb, hg, q3, q4, q5, _⟩
    · omega
    · rw [e2] at hv
      simp only [Value.slice.injEq, Option.some.injEq, Addr.mk.injEq] at hv
      obtain ⟨⟨rfl, rfl, _⟩, _, rfl⟩ := hv
      refine ⟨b, c, e2, h1, .inr hb, ⟨cur, hg⟩, fun j hj => ?_⟩
      have := h3 j (by omega)
      rw [Nat.zero_add] at this
      rw [this]
      exact hat j hj

/-- A row of its own, out of its cells. -/
theorem owns_room {w : World} {B g n cap : Nat} {x : Int} (hr : ROOM w g cap) (hB : B ≤ g) (hl : n ≤ cap) (hc : ∀ j, j < n → w.cell? ⟨g, j, none⟩ = some (byt x)) : w.ownsRow B 5 1 (.slice (some ⟨g, 0, none⟩) n cap) n (List.replicate n (byt x)) := by
  obtain ⟨cur, h1, h2, h3⟩ := hr
  refine ⟨by simp, .inr ⟨g, cap, cur, rfl, hB, h1, hl, h3, by omega, ?_⟩⟩
  refine List.ext_getElem? fun j => ?_
  rw [Nat.mul_one, List.getElem?_take, List.getElem?_replicate]
  by_cases e : j < n
  · rw [if_pos e, if_pos e]
    have := hc j e
    rw [blk_cell h1] at this
    simpa using this
  · rw [if_neg e, if_neg e]
/-- One byte more: told both ways, with what else has turned. -/
theorem wpList_append_both {P : Program} (w : World) {ops : Array Oper} {rest : List Oper} {o : Oper} {a : Act} {Q : Exit → Act → World → Prop} (hgd : o.guard = none) (s x : Operand) (t : TypeId)
    (ho : o.op = .call { callee := .builtin .append, args := #[s, x], argTypes := #[t, t] })
    {W : World} {e : TypeId} {size : Nat} {ao : Option Addr} {b off len cap : Nat} {olds : List Value} (hc : Came W size ao b off len cap olds)
    (i : TypeInfo) (z : Value) (bytes : Nat) (ht : P.underlying t = some (.slice e)) (hi : P.info? e = some i) (hz : i.zero = some z) (hsize : i.size = size) (hby : i.bytes = bytes) (hzs : z.cells.size = size) (hsz : 0 < size)
    {v : Value} {m : Nat} {ks : List Value} (hs : a.eval s = v) (h : Onto W e size ao b off len cap olds w v m ks) (B : Nat) (hown : w.ownsRow B e size v (len + m) (olds ++ ks)) (hB : B ≤ w.heap.size)
    (ad : Addr) (c : Nat) (news : List Value) (hx : a.eval x = .slice (some ad) 1 c) (hl : news.length = 1 * size) (hnews : ∀ j u, news[j]? = some u → w.cell? (ad.add j) = some u) (h1 : ∀ u ∈ news, u.oneCell' = true)
    (h63 : len + m + 1 ≤ maxLen) (hbytes : (len + m + 1) * bytes ≤ 140737488355328)
    (hK : ∀ v' w', Onto W e size ao b off len cap olds w' v' (m + 1) (ks ++ news) → w'.ownsRow B e size v' (len + (m + 1)) (olds ++ (ks ++ news)) → w.grownBy w' v.ownBlock → wpList P ops Q rest (a.put o.dst v') w') : wpList P ops Q (o :: rest) a w := by
  refine wpList_plain hgd fun K hK' => ?_
  obtain ⟨v', w', hrun, r⟩ := run_append_onto (P := P) hc t o.type i z bytes ht hi hz hsize hby hzs hsz h ad c news hl hnews h1 h63 hbytes
  obtain ⟨v2, w2, hrun2, r2, r3, _⟩ := run_append_own (P := P) w B t o.type e i z size bytes ht hi hz hsize hby hzs hsz v (len + m) (olds ++ ks) hown ad 1 c news hl hnews h1 h63 hbytes hB
  rw [hrun] at hrun2
  injection hrun2 with e1 e2
  subst e1 e2
  unfold Oper.wp
  simp [execOp, ho, resolve, invoke, builtin, hs, hx, hrun, Result.andThen]
  exact hK' _ _ (hK v' w' r (by rw [← List.append_assoc]; exact r2) r3)
/-- The row of the slices, and the rooms of the rows from i on. -/
structure ALL3 (w : World) (h n : Nat) (g cap : Nat → Nat) (i : Nat) : Prop where
  row : ∃ cs : Array Value, w.heap[h]? = some (.cells cs 22 (0, 0)) ∧ ∀ r, r < 3 → cs[r]? = some (.slice (some ⟨g r, 0, none⟩) n (cap r))
  room : ∀ r, i ≤ r → r < 3 → ROOM w (g r) (cap r)
  lt : ∀ r, r < 3 → g r < w.heap.size
  far : ∀ r, r < 3 → h ≠ g r
  len : ∀ r, r < 3 → n ≤ cap r
  ne : ∀ r s, r < 3 → s < 3 → g r = g s → r = s
theorem ALL.three {w : World} {h n : Nat} {g cap : Nat → Nat} (H : ALL w h n g cap) : ALL3 w h n g cap 0 :=
  ⟨H.row, fun r _ hr => H.room r hr, fun r hr => (H.room r hr).lt, H.far, H.len, H.ne⟩
theorem ALL3.at {w : World} {h n i : Nat} {g cap : Nat → Nat} (H : ALL3 w h n g cap i) (r : Nat) (hr : r < 3) : w.cell? ⟨h, r, none⟩ = some (.slice (some ⟨g r, 0, none⟩) n (cap r)) := by
  obtain ⟨cs, h1, h2⟩ := H.row
  rw [blk_cell h1]
  exact h2 r hr
/-- The rows gone on with: i of them. -/
def LROW (w : World) (n m : Nat) (g : Nat → Nat) (U V : Nat → Int) (b c : Nat → Nat) (i : Nat) : Prop := ∀ r, r < i → n + m ≤ c r ∧ (∀ s, i ≤ s → s < 3 → b r ≠ g s) ∧ (∃ cur, w.heap[b r]? = some (.cells cur 5 (0, 0))) ∧ ∀ j, j < n + m → w.cell? ⟨b r, j, none⟩ = some (byt (if j < n then U r else V r))
def sls (n m : Nat) (b c : Nat → Nat) (i : Nat) : List Value := (List.range i).map fun r => Value.slice (some ⟨b r, 0, none⟩) (n + m) (c r)
def LONG (w : World) (B n m : Nat) (g : Nat → Nat) (U V : Nat → Int) (v : Value) (i : Nat) : Prop := ∃ (b c : Nat → Nat), w.ownsRow B 22 1 v i (sls n m b c i) ∧ LROW w n m g U V b c i
theorem LONG.start (w : World) (B n m : Nat) (g : Nat → Nat) (U V : Nat → Int) : LONG w B n m g U V (.slice none 0 0) 0 :=
  ⟨fun _ => 0, fun _ => 0, World.ownsRow_nil w _ _ _, fun r hr => absurd hr (Nat.not_lt_zero _)⟩
theorem GONE.owns {W w : World} {B g n cap m i : Nat} {x y : Int} {u v : Value} {xs : List Value} (G : GONE W w g n cap m x y u) (ho : W.ownsRow B 22 1 v i xs) (hg : g < B) : w.ownsRow B 22 1 v i xs :=
  own_move ho (fun k hk => G.block k (own_lt ho k hk) (by have := own_base ho k hk; omega))
theorem not_own {w : World} {B i b : Nat} {v : Value} {xs : List Value} {cur : Array Value} (ho : w.ownsRow B 22 1 v i xs) (hb : w.heap[b]? = some (.cells cur 5 (0, 0))) : some b ≠ v.ownBlock := fun e => by
  obtain ⟨cells, hc⟩ := own_typed ho b e.symm
  exact blk_ne hb hc (by decide) rfl
/-- A round: row i has been gone on with, and its slice is appended. -/
theorem LONG.step {W w w1 : World} {B h n m i : Nat} {g cap b c : Nat → Nat} {U V : Nat → Int} {v x v1 : Value} (hi : i < 3) (H : ALL3 W h n g cap i) (hF : FILL W n g U 3 0) (hO : W.ownsRow B 22 1 v i (sls n m b c i)) (hL : LROW W n m g U V b c i) (hB : B ≤ W.heap.size) (hh : h < B) (hg : ∀ r, r < 3 → g r < B)
    (G : GONE W w (g i) n (cap i) m (U i) (V i) x) (hsz : W.heap.size ≤ w.heap.size) (hgr : (w.alloc (.cells #[x] 22)).grownBy w1 v.ownBlock) (ho1 : w1.ownsRow B 22 1 v1 (i + 1) (sls n m b c i ++ [x])) :
    B ≤ w1.heap.size ∧ ALL3 w1 h n g cap (i + 1) ∧ FILL w1 n g U 3 0 ∧ LONG w1 B n m g U V v1 (i + 1) := by
  have hO2 := G.owns hO (hg i hi)
  have hs1 : w.heap.size ≤ w1.heap.size := by have := hgr.size; simp at this; omega
  have keep : ∀ k, k < w.heap.size → some k ≠ v.ownBlock → w1.heap[k]? = w.heap[k]? := fun k hk hne => (hgr.block k (by simp; omega) hne).trans (Below.heap_alloc w _ k hk)
  have under : ∀ k, k < B → w1.heap[k]? = w.heap[k]? := fun k hk => keep k (by omega) (fun e => by have := own_base hO k e.symm; omega)
  have two : ∀ k, k < B → k ≠ g i → w1.heap[k]? = W.heap[k]? := fun k hk hne => (under k hk).trans (G.block k (by omega) hne)
  refine ⟨by omega, ?_, ?_, ?_⟩
  · refine ⟨?_, fun r hr hr3 => (H.room r (by omega) hr3).of (two _ (hg r hr3) (fun e => by have := H.ne r i hr3 hi e; omega)), fun r hr => by have := H.lt r hr; omega, H.far, H.len, H.ne⟩
    obtain ⟨cs, h1, h2⟩ := H.row
    exact ⟨cs, (two h hh (H.far i hi)).trans h1, h2⟩
  · intro r hr
    by_cases e : r = i
    · subst e
      exact ((hF r hr).of_cells (w' := w) (fun j hj => G.old j hj)).of (under _ (hg r hr))
    · exact (hF r hr).of (two _ (hg r hr) (fun e' => e (H.ne r i hr hi e')))
  · obtain ⟨bi, ci, rfl, q1, q2, ⟨cur, q3⟩, q4⟩ := G.val
    refine ⟨fun r => if r = i then bi else b r, fun r => if r = i then ci else c r, ?_, ?_⟩
    · have e : sls n m (fun r => if r = i then bi else b r) (fun r => if r = i then ci else c r) (i + 1) = sls n m b c i ++ [.slice (some ⟨bi, 0, none⟩) (n + m) ci] := by
        unfold sls
        rw [List.range_succ, List.map_append, List.map_singleton]
        simp only [if_pos]
        congr 1
        refine List.map_congr_left fun r hr => ?_
        have hlt := List.mem_range.1 hr
        simp only [if_neg (show ¬ r = i by omega)]
      rw [e]
      exact ho1
    · intro r hr
      by_cases e : r = i
      · subst e
        simp only [if_pos]
        have hne := not_own hO2 q3
        have hk := keep bi (blk_lt q3) hne
        refine ⟨q1, fun s hs hs3 e' => ?_, ⟨cur, hk.trans q3⟩, fun j hj => (World.cell?_of_block (a := ⟨bi, j, none⟩) hk).trans (q4 j hj)⟩
        rcases q2 with q2 | q2
        · have := H.ne r s hi hs3 (q2.symm.trans e')
          omega
        · have := H.lt s hs3
          omega
      · simp only [if_neg e]
        obtain ⟨p1, p2, ⟨cur', p3⟩, p4⟩ := hL r (by omega)
        have hw := G.block (b r) (blk_lt p3) (p2 i (Nat.le_refl _) hi)
        have p3' := hw.trans p3
        have hk := keep (b r) (blk_lt p3') (not_own hO2 p3')
        exact ⟨p1, fun s hs hs3 => p2 s (by omega) hs3, ⟨cur', hk.trans p3'⟩, fun j hj => (World.cell?_of_block (a := ⟨b r, j, none⟩) (hk.trans hw)).trans (p4 j hj)⟩
/-- At the end: the row of the three. -/
theorem LONG.out {w : World} {B n m : Nat} {g : Nat → Nat} {U V : Nat → Int} {v : Value} (h : LONG w B n m g U V v 3) : ∃ (p cp : Nat) (b c : Nat → Nat), v = .slice (some ⟨p, 0, none⟩) 3 cp ∧ (∀ r, r < 3 → w.cell? ⟨p, r, none⟩ = some (.slice (some ⟨b r, 0, none⟩) (n + m) (c r))) ∧ ∀ r, r < 3 → n + m ≤ c r ∧ ∀ j, j < n + m → w.cell? ⟨b r, j, none⟩ = some (byt (if j < n then U r else V r)) := by
  obtain ⟨b, c, ho, hr⟩ := h
  have hl := ho.1
  rcases ho.2 with ⟨_, h0⟩ | ⟨p, cp, cur, rfl, _⟩
  · omega
  · refine ⟨p, cp, b, c, rfl, fun r h3 => ?_, fun r h3 => ⟨(hr r h3).1, (hr r h3).2.2.2⟩⟩
    have := ho.cells (g := p) rfl r (.slice (some ⟨b r, 0, none⟩) (n + m) (c r)) (by unfold sls; rw [List.getElem?_map, List.getElem?_range h3]; rfl)
    rw [Addr.add_lit, Nat.zero_add] at this
    exact this
end Go.Proofs.YthmcigdkopadjaaDoor.Own3
end

/- The document's Seal in plain words, and two blocks compared, over the print of BlockParses. -/
section
namespace Go.Proofs.YthmcigdkopadjaaDoor.RSeal6
open Go.Proofs.YthmcigdkopadjaaDoor Go.RowKit Go.Proofs.YthmcigdkopadjaaDoorW.PrintWords Go.Proofs.YthmcigdkopadjaaDoorW.PrintLast Go.Proofs.YthmcigdkopadjaaDoorW.PrintMore Go.Proofs.YthmcigdkopadjaaDoor.Byt Go.Proofs.YthmcigdkopadjaaDoor.Lay6 Go.Proofs.YthmcigdkopadjaaDoor.Pack6 Go.Proofs.YthmcigdkopadjaaDoor.Block6 Go.Proofs.YthmcigdkopadjaaDoor.PBlockParses Go.Proofs.YthmcigdkopadjaaDoor.CrcPure Go.Proofs.YthmcigdkopadjaaDoor.Crc6
set_option linter.unusedVariables false
set_option linter.unusedSimpArgs false
theorem rtake_l0 (d : Nat) : ∀ (k x i : Nat), i + d = 8 → d < k → x < 4294967296 → tabularyref04_take.l0 k (x : Int) (i : Int) = some ((CrcMath.shs d x : Nat) : Int) := by
  induction d with
  | zero =>
    intro k x i hi hk hx
    obtain ⟨k, rfl⟩ : ∃ m, k = m + 1 := ⟨k - 1, by omega⟩
    simp only [tabularyref04_take.l0]
    rw [if_neg (by omega)]
    rfl
  | succ d ih =>
    intro k x i hi hk hx
    obtain ⟨k, rfl⟩ : ∃ m, k = m + 1 := ⟨k - 1, by omega⟩
    simp only [tabularyref04_take.l0]
    have e2 : wrap64 ((i : Int) + 1) = ((i + 1 : Nat) : Int) := by rw [w64 ⟨by omega, by omega⟩]; omega
    have e1 : (x : Int) / 2 = ((x / 2 : Nat) : Int) := by omega
    have e3 : Go.bits .xor .u32 ((x / 2 : Nat) : Int) 2197175160 = ((x / 2 ^^^ 2197175160 : Nat) : Int) := xor32 (x / 2) 2197175160 (by omega) (by decide)
    rw [if_pos (by omega), e2, e1, e3, and1 x hx, CrcMath.shs_step]
    have hx2 := CrcMath.sh_lt hx
    by_cases hb : x % 2 = 1
    · have hs : CrcMath.sh x = x / 2 ^^^ 2197175160 := by
        unfold CrcMath.sh; rw [Nat.testBit_zero, hb]; rfl
      rw [if_pos (by omega), ← hs]
      exact ih k _ (i + 1) (by omega) (by omega) hx2
    · have hs : CrcMath.sh x = x / 2 := by
        unfold CrcMath.sh; rw [Nat.testBit_zero, show x % 2 = 0 by omega]; simp
      rw [if_neg (by omega), ← hs]
      exact ih k _ (i + 1) (by omega) (by omega) hx2

theorem rtake (x c : Nat) (hx : x < 4294967296) (hc : c < 256) (k : Nat) (hk : 10 < k) : tabularyref04_take.f k (x : Int) (c : Int) = some ((CrcMath.take x c : Nat) : Int) := by
  unfold tabularyref04_take.f
  have e : (c : Int) % 4294967296 = (c : Int) := by omega
  rw [e, xor32 x c hx (by omega)]
  exact rtake_l0 8 k _ 0 rfl (by omega) (Nat.xor_lt_two_pow (n := 32) hx (by omega))

theorem rmore_l0 (r : List Nat) : ∀ (k : Nat) (l : List Nat) (x i : Nat), r.length + 20 < k → l.length ≤ 1000000 → Small l → l.drop i = r → i ≤ l.length → x < 4294967296 →
    tabularyref04_More.l0 k (ints l) (x : Int) (i : Int) = some ((4294967295 ^^^ CrcMath.takes r x : Nat) : Int) := by
  induction r with
  | nil =>
    intro k l x i hk hl hs hd hi hx
    obtain ⟨k, rfl⟩ : ∃ m, k = m + 1 := ⟨k - 1, by omega⟩
    have : l.length ≤ i := by have := congrArg List.length hd; simp at this; omega
    simp only [tabularyref04_More.l0]
    rw [ints_len, if_neg (by omega)]
    have := xor32 4294967295 x (by decide) hx
    rw [show ((4294967295 : Nat) : Int) = 4294967295 from rfl] at this
    rw [this]; rfl
  | cons c r ih =>
    intro k l x i hk hl hs hd hi hx
    simp only [List.length_cons] at hk
    obtain ⟨k, rfl⟩ : ∃ m, k = m + 1 := ⟨k - 1, by omega⟩
    have hlt : i < l.length := by have := congrArg List.length hd; simp at this; omega
    have hc : l[i] = c := by rw [List.drop_eq_getElem_cons hlt] at hd; injection hd
    have hr : l.drop (i + 1) = r := by rw [List.drop_eq_getElem_cons hlt] at hd; injection hd
    have hcb : c < 256 := hs c (by rw [← hc]; exact List.getElem_mem hlt)
    have e2 : wrap64 ((i : Int) + 1) = ((i + 1 : Nat) : Int) := by rw [w64 ⟨by omega, by omega⟩]; omega
    have e3 : rd (ints l) (i : Int) = (c : Int) := by
      rw [rd_ints, List.getD_eq_getElem?_getD, List.getElem?_eq_getElem hlt, hc]; rfl
    simp only [tabularyref04_More.l0]
    rw [ints_len, if_pos (by omega), if_pos (by omega), e3, rtake x c hx hcb k (by omega), e2]
    simp only [Option.bind_some]
    exact ih k l _ (i + 1) (by omega) hl hs hr hlt (CrcMath.take_lt hx hcb)

theorem rmore (s : Nat) (l : List Nat) (hs : s < 4294967296) (hl : Small l) (hn : l.length ≤ 1000000) (k : Nat) (hk : l.length + 20 < k) :
    tabularyref04_More.f k (s : Int) (ints l) = some ((CrcMath.more s l : Nat) : Int) := by
  unfold tabularyref04_More.f
  have h1 := xor32 4294967295 s (by decide) hs
  rw [show ((4294967295 : Nat) : Int) = 4294967295 from rfl] at h1
  rw [h1]
  exact rmore_l0 l k l _ 0 (by omega) hn hl rfl (by omega) (Nat.xor_lt_two_pow (n := 32) (by decide) hs)

theorem rsum (l : List Nat) (hl : Small l) (hn : l.length ≤ 1000000) (k : Nat) (hk : l.length + 20 < k) : tabularyref04_Sum.f k (ints l) = some ((CrcMath.more 0 l : Nat) : Int) := by
  unfold tabularyref04_Sum.f
  have := rmore 0 l (by decide) hl hn k hk
  rw [show (0 : Int) = ((0 : Nat) : Int) from rfl, this]
  rfl
theorem rseal_crc (m : List Nat) (hm : Small m) (hn : m.length ≤ 1000000) (k : Nat) (hk : m.length + 20 < k) : tabularyref04_Seal.f k (ints m) = some (ints (sealN m)) := by
  unfold tabularyref04_Seal.f
  rw [rsum m hm hn k hk]
  simp only [Option.bind_some, List.nil_append]
  rw [le4_ints, ints_len, ints_len, if_pos (by show 0 + m.length < _; omega), if_pos (by show m.length + 4 < _; omega), ints_append]
  rfl

theorem rseal (l : List Int) (hA : AreB l) (hl : l.length ≤ 1000000) (k : Nat) (hk : l.length + 20 < k) : tabularyref04_Seal.f k l = some (sealI l) := by
  have := rseal_crc (nats l) (nats_small hA) (by simp [nats]; exact hl) k (by simp [nats]; exact hk)
  rw [ints_nats hA] at this
  exact this
theorem same_f (k1 s1 d1 : Int) (l1 : List Int) (k2 s2 d2 : Int) (l2 : List Int) (h1 : AreB l1) (h2 : AreB l2) : tabularyref06_Same.f k1 s1 d1 l1 k2 s2 d2 l2 = some (decide (k1 = k2 ∧ s1 = s2 ∧ d1 = d2 ∧ l1 = l2)) := by
  unfold tabularyref06_Same.f
  rw [str_beq l1 l2 h1 h2]
  by_cases a : k1 = k2
  · by_cases b : s1 = s2
    · by_cases c : d1 = d2
      · rw [if_pos a, if_pos b, if_pos c]
        exact congrArg some (decide_eq_decide.2 ⟨fun h => ⟨a, b, c, h⟩, fun h => h.2.2.2⟩)
      · rw [if_pos a, if_pos b, if_neg c]
        exact congrArg some (decide_eq_false (fun h => c h.2.2.1)).symm
    · rw [if_pos a, if_neg b]
      exact congrArg some (decide_eq_false (fun h => b h.2.1)).symm
  · rw [if_neg a]
    exact congrArg some (decide_eq_false (fun h => a h.1)).symm
abbrev BX (k s d : Int) (A : Option Addr) (n c : Nat) : Array Value := #[.int .u64 k, .int .u32 s, .int .u8 d, .slice A n c]
theorem same_at (k1 s1 d1 : Int) (A1 : Option Addr) (n1 c1 : Nat) (l1 : List Int) (k2 s2 d2 : Int) (A2 : Option Addr) (n2 c2 : Nat) (l2 : List Int) (w : World) (h1 : RC w A1 l1) (e1 : n1 = l1.length) (g1 : n1 ≤ c1) (b1 : AreB l1) (h2 : RC w A2 l2) (e2 : n2 = l2.length) (g2 : n2 ≤ c2) (b2 : AreB l2) (m1 : l1.length ≤ 1000000) (m2 : l2.length ≤ 1000000) (R : Bool) (hR : R = decide (k1 = k2 ∧ s1 = s2 ∧ d1 = d2 ∧ l1 = l2)) :
    Calls Tryd.prog 15 #[.agg (BX k1 s1 d1 A1 n1 c1), .agg (BX k2 s2 d2 A2 n2 c2)] w fun e w' => e = .returned (.bool R) ∧ Below w.heap.size w w' := by
  subst e1 e2 hR
  refine (tabularyref06_Same.calls k1 s1 d1 A1 c1 l1 k2 s2 d2 A2 c2 l2 _ w (h1.to_C (by omega)) g1 (h2.to_C (by omega)) g2 (same_f k1 s1 d1 l1 k2 s2 d2 l2 b1 b2)).mono ?_
  rintro e w' ⟨he, hw⟩
  first
  | exact ⟨he, hw⟩
  | (obtain ⟨nd, rfl⟩ := hw; exact ⟨he, pw_below_drewN (Below.refl _ _) nd⟩)
theorem seal_at (A : Option Addr) (c : Nat) (l : List Int) (w : World) (hl : l.length = 124) (hr : RC w A l) (hc : 124 ≤ c) (hB : AreB l) (X : List Int) (hX : X = sealI l) :
    Calls Tryd.prog 11 #[.slice A 124 c] w fun e w' => ∃ A' c', e = .returned (.slice A' 128 c') ∧ 128 ≤ c' ∧ RC w' A' X ∧ Below w.heap.size w w' := by
  have := tabularyref04_Seal.calls 1000 A c l (sealI l) w (hr.to_C (by omega)) (by omega) (rseal l hB (by omega) 1000 (by omega))
  rw [hl] at this
  subst hX
  refine this.mono ?_
  rintro e w' ⟨v, he, ho, hb⟩
  obtain ⟨A', c', rfl, hc', hr, _⟩ := OWN.form (w := w') (v := v) ho
  have hl2 : (sealI l).length = 128 := by rw [seal_len, hl]
  rw [hl2] at he hc'
  exact ⟨A', c', he, hc', hr, hb⟩
theorem areB_nil : AreB [] := fun x hx => by cases hx
end Go.Proofs.YthmcigdkopadjaaDoor.RSeal6
end
