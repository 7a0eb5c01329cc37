/- Texts of this claim, laid together by wip/tools/squash.py: WalkBlockBack, Opn. -/
import Derived.Test.YthmcigdkopadjaaDoorQBlockBack5
import Derived.Test.YthmcigdkopadjaaDoorWMore
import Derived.Test.YthmcigdkopadjaaDoorWArr
import Derived.ChangeArms
import Derived.DataElems
import Derived.DataReads
import Derived.OpenShut
import Derived.SizedLaws

/- BlockBack: a block's bytes are read as it, and what is read is written as the same bytes. -/
section
namespace Go.Proofs.YthmcigdkopadjaaDoor.WalkBlockBack
open Go.Proofs.YthmcigdkopadjaaDoor Go.RowKit Go.Proofs.YthmcigdkopadjaaDoorW.PrintWords Go.Proofs.YthmcigdkopadjaaDoorW.PrintLast Go.Proofs.YthmcigdkopadjaaDoorW.PrintMore Go.Proofs.YthmcigdkopadjaaDoor.Byt Go.Proofs.YthmcigdkopadjaaDoor.Lay6 Go.Proofs.YthmcigdkopadjaaDoor.Pack6 Go.Proofs.YthmcigdkopadjaaDoor.Parse6 Go.Proofs.YthmcigdkopadjaaDoor.Block6 Go.Proofs.YthmcigdkopadjaaDoor.Back6
set_option linter.unusedVariables false
set_option linter.unusedSimpArgs false
abbrev BX (k s d : Int) (A : Option Addr) (n c : Nat) : Array Value := #[.int .u64 k, .int .u32 s, .int .u8 d, .slice A n c]
theorem same_at (k1 s1 d1 : Int) (A1 : Option Addr) (n1 c1 : Nat) (l1 : List Int) (k2 s2 d2 : Int) (A2 : Option Addr) (n2 c2 : Nat) (l2 : List Int) (w : World) (h1 : RC w A1 l1) (e1 : n1 = l1.length) (g1 : n1 ≤ c1) (b1 : AreB l1) (h2 : RC w A2 l2) (e2 : n2 = l2.length) (g2 : n2 ≤ c2) (b2 : AreB l2) (m1 : l1.length ≤ 1000000) (m2 : l2.length ≤ 1000000) (R : Bool) (hR : R = decide (k1 = k2 ∧ s1 = s2 ∧ d1 = d2 ∧ l1 = l2)) :
    Calls Tryd.prog 15 #[.agg (BX k1 s1 d1 A1 n1 c1), .agg (BX k2 s2 d2 A2 n2 c2)] w fun e w' => e = .returned (.bool R) ∧ Below w.heap.size w w' := by
  subst e1 e2 hR
  refine (PBlockUnlike.tabularyref06_Same.calls k1 s1 d1 A1 c1 l1 k2 s2 d2 A2 c2 l2 _ w (h1.to_C (by omega)) g1 (h2.to_C (by omega)) g2 (WalkBlockUnlike.same_f k1 s1 d1 l1 k2 s2 d2 l2 b1 b2)).mono ?_
  rintro e w' ⟨he, hw⟩
  first
  | exact ⟨he, hw⟩
  | (obtain ⟨nd, rfl⟩ := hw; exact ⟨he, pw_below_drewN (Below.refl _ _) nd⟩)
theorem pack_any (k s d : Int) (A : Option Addr) (n c : Nat) (l : List Int) (w : World) (h : RC w A l) (e : n = l.length) (hc : n ≤ c) (o : Okay k s d l) (hl : l.length ≤ 96) (X : List Int) (hX : sealI (bodyP k s d l) = X) :
    Calls Tryd.prog 9 #[.agg (BX k s d A n c)] w fun e w' => ∃ A' c', e = .returned (.tuple #[.slice A' 128 c', .int .i64 0]) ∧ 128 ≤ c' ∧ RC w' A' X ∧ Below w.heap.size w w' := by
  subst e hX
  refine (ParseC.pack_calls k s d A c l _ 0 w (h.to_C (by omega)) hc (by rw [pack_ok o, if_neg (by omega)])).mono ?_
  rintro e w' ⟨v, he, ho, hb⟩
  obtain ⟨A', c', rfl, hc', hr, _⟩ := OWN.form (w := w') (v := v) ho
  have hl2 : (sealI (bodyP k s d l)).length = 128 := by rw [seal_len, bodyP_len k s d hl]
  rw [hl2] at he hc'
  exact ⟨A', c', he, hc', hr, hb⟩
theorem pack_big (k s d : Int) (A : Option Addr) (n c : Nat) (l : List Int) (w : World) (h : RC w A l) (e : n = l.length) (hc : n ≤ c) (o : Okay k s d l) (hl : 96 < l.length) (hm : l.length ≤ 1000000) :
    Calls Tryd.prog 9 #[.agg (BX k s d A n c)] w fun e w' => ∃ A' c', e = .returned (.tuple #[.slice A' 0 c', .int .i64 2]) ∧ Below w.heap.size w w' := by
  subst e
  refine (ParseC.pack_calls k s d A c l _ 2 w (h.to_C (by omega)) hc (by rw [pack_ok o, if_pos hl])).mono ?_
  rintro e w' ⟨v, he, ho, hb⟩
  obtain ⟨A', c', rfl, hc', hr, _⟩ := OWN.form (w := w') (v := v) ho
  exact ⟨A', c', he, hb⟩
theorem parse_at (A : Option Addr) (n c : Nat) (l : List Int) (w : World) (h : RC w A l) (e : n = l.length) (hc : n ≤ c) (hm : l.length ≤ 1000000) (r1 r2 r3 : Int) (r4 : List Int) (r5 : Int) (hp : ParseC.parseF l = some (r1, r2, r3, r4, r5)) :
    Calls Tryd.prog 12 #[.slice A n c] w fun e w' => ∃ A' c', e = .returned (.tuple #[.agg (BX r1 r2 r3 A' r4.length c'), .int .i64 r5]) ∧ r4.length ≤ c' ∧ RC w' A' r4 ∧ Below w.heap.size w w' := by
  subst e
  refine (ParseC.parse_calls A c l r1 r2 r3 r4 r5 w (h.to_C (by omega)) hc hp).mono ?_
  rintro e w' ⟨v, he, ho, hb⟩
  obtain ⟨A', c', rfl, hc', hr, _⟩ := OWN.form (w := w') (v := v) ho
  exact ⟨A', c', he, hc', hr, hb⟩
theorem is_at (A : Option Addr) (c : Nat) (b : List Int) (k s d : Int) (w : World) (hl : b.length = 128) (hr : RC w A b) (hc : 128 ≤ c) (h : PIs.block_Is.f b k s d = some true) :
    Calls Tryd.prog 13 #[.slice A 128 c, .int .u64 k, .int .u32 s, .int .u8 d] w fun e w' => e = .returned (.bool true) ∧ Below w.heap.size w w' := by
  have := PIs.block_Is.calls A c b k s d true w (hr.to_C (by omega)) (by omega) h
  rw [hl] at this
  exact this
theorem seal_at (A : Option Addr) (c : Nat) (l : List Int) (w : World) (hl : l.length = 124) (hr : RC w A l) (hc : 124 ≤ c) (hB : AreB l) (X : List Int) (hX : X = sealI l) :
    Calls Tryd.prog 11 #[.slice A 124 c] w fun e w' => ∃ A' c', e = .returned (.slice A' 128 c') ∧ 128 ≤ c' ∧ RC w' A' X ∧ Below w.heap.size w w' := by
  have := PBlockPacks.tabularyref04_Seal.calls 1000 A c l (sealI l) w (hr.to_C (by omega)) (by omega) (WalkBlockPacks.rseal l hB (by omega) 1000 (by omega))
  rw [hl] at this
  subst hX
  refine this.mono ?_
  rintro e w' ⟨v, he, ho, hb⟩
  obtain ⟨A', c', rfl, hc', hr, _⟩ := OWN.form (w := w') (v := v) ho
  have hl2 : (sealI l).length = 128 := by rw [seal_len, hl]
  rw [hl2] at he hc'
  exact ⟨A', c', he, hc', hr, hb⟩
set_option maxRecDepth 100000 in
set_option maxHeartbeats 4000000 in
theorem long0 (k s d : Int) (A0 : Option Addr) (c0 : Nat) (l0 : List Int) (A1 : Option Addr) (c1 : Nat) (l1 : List Int) (W : World) (h : 4096 < l0.length) :
    Calls Tryd.prog 5 #[.agg (BX k s d A0 l0.length c0), .slice A1 l1.length c1] W fun e w' => e = .returned (.bool true) ∧ Below W.heap.size W w' := by
  have hg : (l0.length : Int) > 4096 := by omega
  clear h
  go_enter Tryd.func5, Tryd.ntmps5
  go_wp2_with (go_at_call 8; go_loud ((with_reducible refine (Wakes6.wakes_at _).mono ?_); rintro e w1 ⟨rfl, hb⟩; have HB := Lib.hid (((Below.refl W.heap.size W).alloc (Nat.le_refl _) (.cells (BX k s d A0 l0.length c0) TP)).trans (hb.mono (by simp))); clear hb))
  go_ret
  exact ⟨rfl, HB.out⟩
set_option maxRecDepth 100000 in
set_option maxHeartbeats 4000000 in
theorem long1 (k s d : Int) (A0 : Option Addr) (c0 : Nat) (l0 : List Int) (A1 : Option Addr) (c1 : Nat) (l1 : List Int) (W : World) (h : ¬ 4096 < l0.length) (h1 : 4096 < l1.length) :
    Calls Tryd.prog 5 #[.agg (BX k s d A0 l0.length c0), .slice A1 l1.length c1] W fun e w' => e = .returned (.bool true) ∧ Below W.heap.size W w' := by
  have hg : ¬ (l0.length : Int) > 4096 := by omega
  have hg1 : (l1.length : Int) > 4096 := by omega
  clear h h1
  go_enter Tryd.func5, Tryd.ntmps5
  go_wp2_with (go_at_call 8; go_loud ((with_reducible refine (Wakes6.wakes_at _).mono ?_); rintro e w1 ⟨rfl, hb⟩; have HB := Lib.hid (((Below.refl W.heap.size W).alloc (Nat.le_refl _) (.cells (BX k s d A0 l0.length c0) TP)).trans (hb.mono (by simp))); clear hb))
  go_ret
  exact ⟨rfl, HB.out⟩
set_option maxRecDepth 100000 in
set_option maxHeartbeats 4000000 in
theorem big (k s d : Int) (A0 : Option Addr) (c0 : Nat) (l0 : List Int) (A1 : Option Addr) (c1 : Nat) (l1 : List Int) (W : World) (h : ¬ 4096 < l0.length) (h1 : ¬ 4096 < l1.length) (h2 : 96 < l0.length) (hr : RC W A0 l0) (hc : l0.length ≤ c0) (ok : Okay k s d l0) :
    Calls Tryd.prog 5 #[.agg (BX k s d A0 l0.length c0), .slice A1 l1.length c1] W fun e w' => e = .returned (.bool true) ∧ Below W.heap.size W w' := by
  have hg : ¬ (l0.length : Int) > 4096 := by omega
  have hg1 : ¬ (l1.length : Int) > 4096 := by omega
  have hg2 : (l0.length : Int) > 96 := by omega
  have HP := Lib.hid (pack_big k s d A0 l0.length c0 l0 (W.alloc (.cells (BX k s d A0 l0.length c0) TP)) (hr.below ((Below.refl W.heap.size W).alloc (Nat.le_refl _) _)) rfl hc ok h2 (by omega))
  clear h h1 h2 hr hc ok
  go_enter Tryd.func5, Tryd.ntmps5
  go_wp2_with (first
    | ((with_reducible refine gate_dst (N := 24) rfl ?_); refine wpList_load_row rfl TP (.tmp 2) rfl W.heap.size rfl TP _ (0, 0) _ (blk_new W _) Tryd.underlying26 rfl (by kernel_rfl) ?_)
    | (go_at_call 9; go_loud ((with_reducible refine HP.out.mono ?_); rintro e w1 ⟨A', c', rfl, hb⟩; have HB1 := Lib.hid (((Below.refl W.heap.size W).alloc (Nat.le_refl _) (.cells (BX k s d A0 l0.length c0) TP)).trans (hb.mono (by simp))); have bx1 := (hb.block W.heap.size (by simp)).trans (blk_new W (.cells (BX k s d A0 l0.length c0) TP)); have hx1 : w1.cell? ⟨W.heap.size, 3, none⟩ = some (.slice A0 l0.length c0) := (by rw [blk_cell bx1]; rfl); clear hb bx1))
    | (go_at_call 8; go_loud ((with_reducible refine (Wakes6.wakes_at _).mono ?_); rintro e w2 ⟨rfl, hb⟩; have HB2 := Lib.hid (HB1.out.trans (hb.mono HB1.out.size)); clear hb)))
  go_ret
  exact ⟨rfl, HB2.out⟩
/- GOOD -/
theorem areB_nil : AreB [] := fun x hx => by cases hx
theorem str_at {A : Option Addr} {c : Nat} {l : List Int} {w : World} (h : RC w A l) (hl : l.length = 128) : (convert TB 9 (.slice A 128 c)).run Tryd.prog w = .ok (.string (strOfNums l)) w := by
  have := Kd.C_string (P := Tryd.prog) (c := c) Tryd.underlying24 Tryd.underlying5 Tryd.underlying9 (h.to_C (by omega))
  rw [hl] at this
  exact this
theorem WalkBlockUnlike_is {k s d : Int} {l : List Int} (h : Okay k s d l) (hl : l.length ≤ 96) (k2 s2 d2 : Int) : PIs.block_Is.f (sealI (bodyP k s d l)) k2 s2 d2 = some (decide (k = k2 ∧ s = s2 ∧ d = d2)) := WalkBlockUnlike.is_f h hl k2 s2 d2
set_option maxRecDepth 100000 in
set_option maxHeartbeats 8000000 in
theorem other (k s d : Int) (A0 : Option Addr) (c0 : Nat) (l0 : List Int) (A1 : Option Addr) (c1 : Nat) (l1 : List Int) (W : World) (h : l0.length ≤ 96) (h1 : ¬ 4096 < l1.length) (hr : RC W A0 l0) (hc : l0.length ≤ c0) (ok : Okay k s d l0) (hr1 : RC W A1 l1) (hc1 : l1.length ≤ c1) (hA1 : AreB l1) (hne : l1.length ≠ 128) :
    Calls Tryd.prog 5 #[.agg (BX k s d A0 l0.length c0), .slice A1 l1.length c1] W fun e w' => e = .returned (.bool true) ∧ Below W.heap.size W w' := by
  have hg : ¬ (l0.length : Int) > 4096 := by omega
  have hg1 : ¬ (l1.length : Int) > 4096 := by omega
  have hg2 : ¬ (l0.length : Int) > 96 := by omega
  have hb0 := (Below.refl W.heap.size W).alloc (Nat.le_refl _) (.cells (BX k s d A0 l0.length c0) TP)
  obtain ⟨X, hX⟩ : ∃ X, X = sealI (bodyP k s d l0) := ⟨_, rfl⟩
  have HXL := Lib.hid (show X.length = 128 by rw [hX, seal_len, bodyP_len k s d h])
  have HP := Lib.hid (pack_any k s d A0 l0.length c0 l0 (W.alloc (.cells (BX k s d A0 l0.length c0) TP)) (hr.below hb0) rfl hc ok h X hX.symm)
  have HPS := Lib.hid (show ParseC.parseF X = some (k, s, d, l0, 0) by rw [hX]; exact parse_pack ok h)
  have HIS := Lib.hid (show PIs.block_Is.f X k s d = some true by
    have := WalkBlockUnlike_is ok h k s d
    rw [hX, this]; simp)
  have HR0 := Lib.hid (hr.below hb0)
  have HR1 := Lib.hid (hr1.below hb0)
  have HOK := Lib.hid ok.data
  have HA1 := Lib.hid hA1
  have HC := Lib.hid hc
  have HN := Lib.hid h
  have tk0 : True := trivial
  have W0 := Lib.hid (rfl : W = W)
  have hn128 : ((l1.length : Int) == 128) = false := by simp; omega
  have HL1 := Lib.hid (show l1.length ≤ 1000000 by omega)
  have HPP := Lib.hid (show ParseC.parseF l1 = some (0, 0, 0, [], 6) by
    show Parse6.parseF _ = _
    unfold Parse6.parseF
    rw [if_pos hA1, if_neg hne])
  have HC1 := Lib.hid hc1
  clear hne
  clear h h1 hr ok hr1 hA1 hX hb0
  go_enter Tryd.func5, Tryd.ntmps5
  go_wp2_with (first
    | ((with_reducible refine gate_dst (N := 24) rfl ?_); refine wpList_load_row rfl TP (.tmp 2) rfl W.heap.size rfl TP _ (0, 0) _ (blk_new W _) Tryd.underlying26 rfl (by kernel_rfl) ?_)
    | (go_at_call 9; have _tk := tk0; go_loud ((with_reducible refine HP.out.mono ?_); rintro e w1 ⟨Ax, cx, rfl, hcx, hrx, hb⟩; have HB1 := Lib.hid hb; have HCX := Lib.hid hcx; have HX1 := Lib.hid hrx; have BX1 := Lib.hid ((hb.block W.heap.size (by simp)).trans (blk_new W (.cells (BX k s d A0 l0.length c0) TP))); have hx1 : w1.cell? ⟨W.heap.size, 3, none⟩ = some (.slice A0 l0.length c0) := (by rw [blk_cell BX1.out]; rfl); have tk1 : True := trivial; clear hb hcx hrx tk0 _tk))
    | (go_at_call 12; have _tk := tk1; go_loud ((with_reducible refine (parse_at Ax 128 cx X _ HX1.out HXL.out.symm HCX.out (by rw [HXL.out]; decide) k s d l0 0 HPS.out).mono ?_); rintro e w2 ⟨A2, c2, rfl, hc2, hr2, hb⟩; have HB2 := Lib.hid (HB1.out.trans (hb.mono HB1.out.size)); have hq := (Below.refl w2.heap.size w2).alloc (Nat.le_refl _) (.cells (BX k s d A2 l0.length c2) TP); have HC2 := Lib.hid hc2; have HR2 := Lib.hid (hr2.below hq); have HX2 := Lib.hid ((HX1.out.below hb).below hq); have BX2 := Lib.hid (blk_alloc ((hb.block W.heap.size (blk_lt BX1.out)).trans BX1.out) (.cells (BX k s d A2 l0.length c2) TP)); have BY2 := Lib.hid (blk_new w2 (.cells (BX k s d A2 l0.length c2) TP)); have HB2q := Lib.hid (HB2.out.alloc HB2.out.size (.cells (BX k s d A2 l0.length c2) TP)); have HR02 := Lib.hid (HR0.out.below HB2q.out); have tk2 : True := trivial; clear hb hc2 hr2 hq tk1 _tk))
    | ((with_reducible refine gate_dst (N := 54) rfl ?_); refine gate_guard (by rfl) ?_; dsimp only; refine wpList_load_row rfl TP (.tmp 2) rfl W.heap.size rfl TP _ (0, 0) _ BX2.out Tryd.underlying26 rfl (by kernel_rfl) ?_)
    | ((with_reducible refine gate_dst (N := 55) rfl ?_); refine gate_guard (by rfl) ?_; dsimp only; refine wpList_load_row rfl TP (.tmp 7) rfl w2.heap.size rfl TP _ (0, 0) _ BY2.out Tryd.underlying26 rfl (by kernel_rfl) ?_)
    | (go_at_call 15; have _tk := tk2; go_loud ((with_reducible refine (same_at k s d A0 l0.length c0 l0 k s d A2 l0.length c2 l0 _ HR02.out rfl HC.out HOK.out HR2.out rfl HC2.out HOK.out (by have := HN.out; omega) (by have := HN.out; omega) true (by simp)).mono ?_); rintro e w3 ⟨rfl, hb⟩; have HB3 := Lib.hid (HB2q.out.trans (hb.mono HB2q.out.size)); have HX3 := Lib.hid (HX2.out.below hb); have BX3 := Lib.hid ((hb.block W.heap.size (blk_lt BX2.out)).trans BX2.out); have hx30 : w3.cell? ⟨W.heap.size, 0, none⟩ = some (.int .u64 k) := (by rw [blk_cell BX3.out]; rfl); have hx31 : w3.cell? ⟨W.heap.size, 1, none⟩ = some (.int .u32 s) := (by rw [blk_cell BX3.out]; rfl); have hx32 : w3.cell? ⟨W.heap.size, 2, none⟩ = some (.int .u8 d) := (by rw [blk_cell BX3.out]; rfl); have tk3 : True := trivial; clear hb tk2 _tk))
    | (go_at_call 13; have _tk := tk3; go_loud ((with_reducible refine (is_at Ax cx X k s d _ HXL.out HX3.out HCX.out HIS.out).mono ?_); rintro e w4 ⟨rfl, hb⟩; have HB4 := Lib.hid (HB3.out.trans (hb.mono HB3.out.size)); have HR14 := Lib.hid (HR1.out.below HB4.out); have tk4 : True := trivial; clear hb tk3 _tk))
    | (go_at_call 12; have _tk := tk4; go_loud ((with_reducible refine (parse_at A1 l1.length c1 l1 _ HR14.out rfl HC1.out HL1.out 0 0 0 [] 6 HPP.out).mono ?_); rintro e w6 ⟨A6, c6, rfl, hc6, hr6, hb⟩; have hl6 : ([] : List Int).length = 0 := rfl; rw [hl6]; rw [hl6] at hc6; have HB6 := Lib.hid (HB4.out.trans (hb.mono HB4.out.size)); have HB6q := Lib.hid (HB6.out.alloc HB6.out.size (.cells (BX 0 0 0 A6 0 c6) TP)); have BZ6 := Lib.hid (blk_new w6 (.cells (BX 0 0 0 A6 0 c6) TP)); have tk5 : True := trivial; clear hb hr6 hc6 tk4 _tk))
    | ((with_reducible refine gate_dst (N := 83) rfl ?_); refine wpList_load_row rfl TP (.tmp 9) rfl w6.heap.size rfl TP _ (0, 0) _ BZ6.out Tryd.underlying26 rfl (by kernel_rfl) ?_)
    | (go_at_call 15; have _tk := tk5; go_loud ((with_reducible refine (same_at 0 0 0 A6 0 c6 [] 0 0 0 none 0 0 [] _ (RC.nil _ _) rfl (Nat.zero_le _) areB_nil (RC.nil _ _) rfl (Nat.zero_le _) areB_nil (by decide) (by decide) true (by simp)).mono ?_); rintro e w7 ⟨rfl, hb⟩; have HB7 := Lib.hid (HB6q.out.trans (hb.mono HB6q.out.size)); have tk6 : True := trivial; clear hb tk5 _tk))
    | (go_at_call 8; have _tk := tk6; go_loud ((with_reducible refine (Wakes6.wakes_at _).mono ?_); rintro e w8 ⟨rfl, hb⟩; have HB8 := Lib.hid (HB7.out.trans (hb.mono HB7.out.size)); clear hb tk6 _tk)))
  go_ret
  exact ⟨rfl, ((Below.refl W.heap.size W).alloc (Nat.le_refl _) (.cells (BX k s d A0 l0.length c0) TP)).trans (HB8.out.mono (by simp))⟩
set_option maxRecDepth 100000 in
set_option maxHeartbeats 8000000 in
theorem nothing (k s d : Int) (A0 : Option Addr) (c0 : Nat) (l0 : List Int) (A1 : Option Addr) (c1 : Nat) (l1 : List Int) (W : World) (h : l0.length ≤ 96) (h1 : ¬ 4096 < l1.length) (hr : RC W A0 l0) (hc : l0.length ≤ c0) (ok : Okay k s d l0) (hr1 : RC W A1 l1) (hc1 : l1.length ≤ c1) (hA1 : AreB l1) (heq : l1.length = 128) (Y : List Int) (hY : Y = sealI (l1.take 124)) (E : Int) (hE : E ≠ 0) (hp : ParseC.parseF Y = some (0, 0, 0, [], E)) :
    Calls Tryd.prog 5 #[.agg (BX k s d A0 l0.length c0), .slice A1 l1.length c1] W fun e w' => e = .returned (.bool true) ∧ Below W.heap.size W w' := by
  have hg : ¬ (l0.length : Int) > 4096 := by omega
  have hg1 : ¬ (l1.length : Int) > 4096 := by omega
  have hg2 : ¬ (l0.length : Int) > 96 := by omega
  have hb0 := (Below.refl W.heap.size W).alloc (Nat.le_refl _) (.cells (BX k s d A0 l0.length c0) TP)
  obtain ⟨X, hX⟩ : ∃ X, X = sealI (bodyP k s d l0) := ⟨_, rfl⟩
  have HXL := Lib.hid (show X.length = 128 by rw [hX, seal_len, bodyP_len k s d h])
  have HP := Lib.hid (pack_any k s d A0 l0.length c0 l0 (W.alloc (.cells (BX k s d A0 l0.length c0) TP)) (hr.below hb0) rfl hc ok h X hX.symm)
  have HPS := Lib.hid (show ParseC.parseF X = some (k, s, d, l0, 0) by rw [hX]; exact parse_pack ok h)
  have HIS := Lib.hid (show PIs.block_Is.f X k s d = some true by
    have := WalkBlockUnlike_is ok h k s d
    rw [hX, this]; simp)
  have HR0 := Lib.hid (hr.below hb0)
  have HR1 := Lib.hid (hr1.below hb0)
  have HOK := Lib.hid ok.data
  have HA1 := Lib.hid hA1
  have HC := Lib.hid hc
  have HN := Lib.hid h
  have tk0 : True := trivial
  have W0 := Lib.hid (rfl : W = W)
  have hn128 : ((l1.length : Int) == 128) = true := by simp; omega
  have HT := Lib.hid (show (l1.take 124).length = 124 by rw [List.length_take]; omega)
  have HTA := Lib.hid (show AreB (l1.take 124) from fun x hx => hA1 x (List.mem_of_mem_take hx))
  have HYL := Lib.hid (show Y.length = 128 by rw [hY, seal_len, HT.out])
  have HY := Lib.hid hY
  have hc124 : 124 ≤ c1 := by omega
  have hl128 : (128 : Int) == 128 := rfl
  have hl1 : l1.length = 128 := heq
  clear heq hY
  have HPP := Lib.hid hp
  have hE2 : (E != 0) = true := by simpa using hE
  clear hp hE
  clear h h1 hr ok hr1 hA1 hX hb0
  go_enter Tryd.func5, Tryd.ntmps5
  go_wp2_with (first
    | ((with_reducible refine gate_dst (N := 24) rfl ?_); refine wpList_load_row rfl TP (.tmp 2) rfl W.heap.size rfl TP _ (0, 0) _ (blk_new W _) Tryd.underlying26 rfl (by kernel_rfl) ?_)
    | (go_at_call 9; have _tk := tk0; go_loud ((with_reducible refine HP.out.mono ?_); rintro e w1 ⟨Ax, cx, rfl, hcx, hrx, hb⟩; have HB1 := Lib.hid hb; have HCX := Lib.hid hcx; have HX1 := Lib.hid hrx; have BX1 := Lib.hid ((hb.block W.heap.size (by simp)).trans (blk_new W (.cells (BX k s d A0 l0.length c0) TP))); have hx1 : w1.cell? ⟨W.heap.size, 3, none⟩ = some (.slice A0 l0.length c0) := (by rw [blk_cell BX1.out]; rfl); have tk1 : True := trivial; clear hb hcx hrx tk0 _tk))
    | (go_at_call 12; have _tk := tk1; go_loud ((with_reducible refine (parse_at Ax 128 cx X _ HX1.out HXL.out.symm HCX.out (by rw [HXL.out]; decide) k s d l0 0 HPS.out).mono ?_); rintro e w2 ⟨A2, c2, rfl, hc2, hr2, hb⟩; have HB2 := Lib.hid (HB1.out.trans (hb.mono HB1.out.size)); have hq := (Below.refl w2.heap.size w2).alloc (Nat.le_refl _) (.cells (BX k s d A2 l0.length c2) TP); have HC2 := Lib.hid hc2; have HR2 := Lib.hid (hr2.below hq); have HX2 := Lib.hid ((HX1.out.below hb).below hq); have BX2 := Lib.hid (blk_alloc ((hb.block W.heap.size (blk_lt BX1.out)).trans BX1.out) (.cells (BX k s d A2 l0.length c2) TP)); have BY2 := Lib.hid (blk_new w2 (.cells (BX k s d A2 l0.length c2) TP)); have HB2q := Lib.hid (HB2.out.alloc HB2.out.size (.cells (BX k s d A2 l0.length c2) TP)); have HR02 := Lib.hid (HR0.out.below HB2q.out); have tk2 : True := trivial; clear hb hc2 hr2 hq tk1 _tk))
    | ((with_reducible refine gate_dst (N := 54) rfl ?_); refine gate_guard (by rfl) ?_; dsimp only; refine wpList_load_row rfl TP (.tmp 2) rfl W.heap.size rfl TP _ (0, 0) _ BX2.out Tryd.underlying26 rfl (by kernel_rfl) ?_)
    | ((with_reducible refine gate_dst (N := 55) rfl ?_); refine gate_guard (by rfl) ?_; dsimp only; refine wpList_load_row rfl TP (.tmp 7) rfl w2.heap.size rfl TP _ (0, 0) _ BY2.out Tryd.underlying26 rfl (by kernel_rfl) ?_)
    | (go_at_call 15; have _tk := tk2; go_loud ((with_reducible refine (same_at k s d A0 l0.length c0 l0 k s d A2 l0.length c2 l0 _ HR02.out rfl HC.out HOK.out HR2.out rfl HC2.out HOK.out (by have := HN.out; omega) (by have := HN.out; omega) true (by simp)).mono ?_); rintro e w3 ⟨rfl, hb⟩; have HB3 := Lib.hid (HB2q.out.trans (hb.mono HB2q.out.size)); have HX3 := Lib.hid (HX2.out.below hb); have BX3 := Lib.hid ((hb.block W.heap.size (blk_lt BX2.out)).trans BX2.out); have hx30 : w3.cell? ⟨W.heap.size, 0, none⟩ = some (.int .u64 k) := (by rw [blk_cell BX3.out]; rfl); have hx31 : w3.cell? ⟨W.heap.size, 1, none⟩ = some (.int .u32 s) := (by rw [blk_cell BX3.out]; rfl); have hx32 : w3.cell? ⟨W.heap.size, 2, none⟩ = some (.int .u8 d) := (by rw [blk_cell BX3.out]; rfl); have tk3 : True := trivial; clear hb tk2 _tk))
    | (go_at_call 13; have _tk := tk3; go_loud ((with_reducible refine (is_at Ax cx X k s d _ HXL.out HX3.out HCX.out HIS.out).mono ?_); rintro e w4 ⟨rfl, hb⟩; have HB4 := Lib.hid (HB3.out.trans (hb.mono HB3.out.size)); have HR14 := Lib.hid (HR1.out.below HB4.out); have tk4 : True := trivial; clear hb tk3 _tk))
    | (go_at_call 11; have _tk := tk4; go_loud ((with_reducible refine (seal_at A1 c1 (l1.take 124) _ HT.out (HR14.out.take 124) hc124 HTA.out Y HY.out).mono ?_); rintro e w5 ⟨A5, c5, rfl, hc5, hr5, hb⟩; have HB5 := Lib.hid (HB4.out.trans (hb.mono HB4.out.size)); have HR5 := Lib.hid hr5; have HC5 := Lib.hid hc5; have tk4b : True := trivial; clear hb hr5 hc5 tk4 _tk))
    | (go_at_call 12; have _tk := tk4b; go_loud ((with_reducible refine (parse_at A5 128 c5 Y _ HR5.out HYL.out.symm HC5.out (by rw [HYL.out]; decide) 0 0 0 [] E HPP.out).mono ?_); rintro e w6 ⟨A6, c6, rfl, hc6, hr6, hb⟩; have hl6 : ([] : List Int).length = 0 := rfl; rw [hl6]; rw [hl6] at hc6; have HB6 := Lib.hid (HB5.out.trans (hb.mono HB5.out.size)); have HB6q := Lib.hid (HB6.out.alloc HB6.out.size (.cells (BX 0 0 0 A6 0 c6) TP)); have BZ6 := Lib.hid (blk_new w6 (.cells (BX 0 0 0 A6 0 c6) TP)); have tk5 : True := trivial; clear hb hr6 hc6 tk4b _tk))
    | ((with_reducible refine gate_dst (N := 83) rfl ?_); refine wpList_load_row rfl TP (.tmp 9) rfl w6.heap.size rfl TP _ (0, 0) _ BZ6.out Tryd.underlying26 rfl (by kernel_rfl) ?_)
    | (go_at_call 15; have _tk := tk5; go_loud ((with_reducible refine (same_at 0 0 0 A6 0 c6 [] 0 0 0 none 0 0 [] _ (RC.nil _ _) rfl (Nat.zero_le _) areB_nil (RC.nil _ _) rfl (Nat.zero_le _) areB_nil (by decide) (by decide) true (by simp)).mono ?_); rintro e w7 ⟨rfl, hb⟩; have HB7 := Lib.hid (HB6q.out.trans (hb.mono HB6q.out.size)); have tk6 : True := trivial; clear hb tk5 _tk))
    | (go_at_call 8; have _tk := tk6; go_loud ((with_reducible refine (Wakes6.wakes_at _).mono ?_); rintro e w8 ⟨rfl, hb⟩; have HB8 := Lib.hid (HB7.out.trans (hb.mono HB7.out.size)); clear hb tk6 _tk)))
  go_ret
  exact ⟨rfl, ((Below.refl W.heap.size W).alloc (Nat.le_refl _) (.cells (BX k s d A0 l0.length c0) TP)).trans (HB8.out.mono (by simp))⟩
set_option maxRecDepth 100000 in
set_option maxHeartbeats 8000000 in
theorem some_ (k s d : Int) (A0 : Option Addr) (c0 : Nat) (l0 : List Int) (A1 : Option Addr) (c1 : Nat) (l1 : List Int) (W : World) (h : l0.length ≤ 96) (h1 : ¬ 4096 < l1.length) (hr : RC W A0 l0) (hc : l0.length ≤ c0) (ok : Okay k s d l0) (hr1 : RC W A1 l1) (hc1 : l1.length ≤ c1) (hA1 : AreB l1) (heq : l1.length = 128) (Y : List Int) (hY : Y = sealI (l1.take 124)) (k2 s2 d2 : Int) (l2 : List Int) (hp : ParseC.parseF Y = some (k2, s2, d2, l2, 0)) (ok2 : Okay k2 s2 d2 l2) (hl2 : l2.length ≤ 96) (hq2 : sealI (bodyP k2 s2 d2 l2) = Y) :
    Calls Tryd.prog 5 #[.agg (BX k s d A0 l0.length c0), .slice A1 l1.length c1] W fun e w' => e = .returned (.bool true) ∧ Below W.heap.size W w' := by
  have hg : ¬ (l0.length : Int) > 4096 := by omega
  have hg1 : ¬ (l1.length : Int) > 4096 := by omega
  have hg2 : ¬ (l0.length : Int) > 96 := by omega
  have hb0 := (Below.refl W.heap.size W).alloc (Nat.le_refl _) (.cells (BX k s d A0 l0.length c0) TP)
  obtain ⟨X, hX⟩ : ∃ X, X = sealI (bodyP k s d l0) := ⟨_, rfl⟩
  have HXL := Lib.hid (show X.length = 128 by rw [hX, seal_len, bodyP_len k s d h])
  have HP := Lib.hid (pack_any k s d A0 l0.length c0 l0 (W.alloc (.cells (BX k s d A0 l0.length c0) TP)) (hr.below hb0) rfl hc ok h X hX.symm)
  have HPS := Lib.hid (show ParseC.parseF X = some (k, s, d, l0, 0) by rw [hX]; exact parse_pack ok h)
  have HIS := Lib.hid (show PIs.block_Is.f X k s d = some true by
    have := WalkBlockUnlike_is ok h k s d
    rw [hX, this]; simp)
  have HR0 := Lib.hid (hr.below hb0)
  have HR1 := Lib.hid (hr1.below hb0)
  have HOK := Lib.hid ok.data
  have HA1 := Lib.hid hA1
  have HC := Lib.hid hc
  have HN := Lib.hid h
  have tk0 : True := trivial
  have W0 := Lib.hid (rfl : W = W)
  have hn128 : ((l1.length : Int) == 128) = true := by simp; omega
  have HT := Lib.hid (show (l1.take 124).length = 124 by rw [List.length_take]; omega)
  have HTA := Lib.hid (show AreB (l1.take 124) from fun x hx => hA1 x (List.mem_of_mem_take hx))
  have HYL := Lib.hid (show Y.length = 128 by rw [hY, seal_len, HT.out])
  have HY := Lib.hid hY
  have hc124 : 124 ≤ c1 := by omega
  have hl128 : (128 : Int) == 128 := rfl
  have hl1 : l1.length = 128 := heq
  clear heq hY
  have HPP := Lib.hid hp
  have HOK2 := Lib.hid ok2
  have HL2 := Lib.hid hl2
  have HQ2 := Lib.hid hq2
  have hbeq : ((strOfNums Y).toList == (strOfNums Y).toList) = true := beq_self_eq_true _
  clear hp ok2 hl2 hq2
  clear h h1 hr ok hr1 hA1 hX hb0
  go_enter Tryd.func5, Tryd.ntmps5
  go_wp2_with (first
    | ((with_reducible refine gate_dst (N := 24) rfl ?_); refine wpList_load_row rfl TP (.tmp 2) rfl W.heap.size rfl TP _ (0, 0) _ (blk_new W _) Tryd.underlying26 rfl (by kernel_rfl) ?_)
    | (go_at_call 9; have _tk := tk0; go_loud ((with_reducible refine HP.out.mono ?_); rintro e w1 ⟨Ax, cx, rfl, hcx, hrx, hb⟩; have HB1 := Lib.hid hb; have HCX := Lib.hid hcx; have HX1 := Lib.hid hrx; have BX1 := Lib.hid ((hb.block W.heap.size (by simp)).trans (blk_new W (.cells (BX k s d A0 l0.length c0) TP))); have hx1 : w1.cell? ⟨W.heap.size, 3, none⟩ = some (.slice A0 l0.length c0) := (by rw [blk_cell BX1.out]; rfl); have tk1 : True := trivial; clear hb hcx hrx tk0 _tk))
    | (go_at_call 12; have _tk := tk1; go_loud ((with_reducible refine (parse_at Ax 128 cx X _ HX1.out HXL.out.symm HCX.out (by rw [HXL.out]; decide) k s d l0 0 HPS.out).mono ?_); rintro e w2 ⟨A2, c2, rfl, hc2, hr2, hb⟩; have HB2 := Lib.hid (HB1.out.trans (hb.mono HB1.out.size)); have hq := (Below.refl w2.heap.size w2).alloc (Nat.le_refl _) (.cells (BX k s d A2 l0.length c2) TP); have HC2 := Lib.hid hc2; have HR2 := Lib.hid (hr2.below hq); have HX2 := Lib.hid ((HX1.out.below hb).below hq); have BX2 := Lib.hid (blk_alloc ((hb.block W.heap.size (blk_lt BX1.out)).trans BX1.out) (.cells (BX k s d A2 l0.length c2) TP)); have BY2 := Lib.hid (blk_new w2 (.cells (BX k s d A2 l0.length c2) TP)); have HB2q := Lib.hid (HB2.out.alloc HB2.out.size (.cells (BX k s d A2 l0.length c2) TP)); have HR02 := Lib.hid (HR0.out.below HB2q.out); have tk2 : True := trivial; clear hb hc2 hr2 hq tk1 _tk))
    | ((with_reducible refine gate_dst (N := 54) rfl ?_); refine gate_guard (by rfl) ?_; dsimp only; refine wpList_load_row rfl TP (.tmp 2) rfl W.heap.size rfl TP _ (0, 0) _ BX2.out Tryd.underlying26 rfl (by kernel_rfl) ?_)
    | ((with_reducible refine gate_dst (N := 55) rfl ?_); refine gate_guard (by rfl) ?_; dsimp only; refine wpList_load_row rfl TP (.tmp 7) rfl w2.heap.size rfl TP _ (0, 0) _ BY2.out Tryd.underlying26 rfl (by kernel_rfl) ?_)
    | (go_at_call 15; have _tk := tk2; go_loud ((with_reducible refine (same_at k s d A0 l0.length c0 l0 k s d A2 l0.length c2 l0 _ HR02.out rfl HC.out HOK.out HR2.out rfl HC2.out HOK.out (by have := HN.out; omega) (by have := HN.out; omega) true (by simp)).mono ?_); rintro e w3 ⟨rfl, hb⟩; have HB3 := Lib.hid (HB2q.out.trans (hb.mono HB2q.out.size)); have HX3 := Lib.hid (HX2.out.below hb); have BX3 := Lib.hid ((hb.block W.heap.size (blk_lt BX2.out)).trans BX2.out); have hx30 : w3.cell? ⟨W.heap.size, 0, none⟩ = some (.int .u64 k) := (by rw [blk_cell BX3.out]; rfl); have hx31 : w3.cell? ⟨W.heap.size, 1, none⟩ = some (.int .u32 s) := (by rw [blk_cell BX3.out]; rfl); have hx32 : w3.cell? ⟨W.heap.size, 2, none⟩ = some (.int .u8 d) := (by rw [blk_cell BX3.out]; rfl); have tk3 : True := trivial; clear hb tk2 _tk))
    | (go_at_call 13; have _tk := tk3; go_loud ((with_reducible refine (is_at Ax cx X k s d _ HXL.out HX3.out HCX.out HIS.out).mono ?_); rintro e w4 ⟨rfl, hb⟩; have HB4 := Lib.hid (HB3.out.trans (hb.mono HB3.out.size)); have HR14 := Lib.hid (HR1.out.below HB4.out); have tk4 : True := trivial; clear hb tk3 _tk))
    | (go_at_call 11; have _tk := tk4; go_loud ((with_reducible refine (seal_at A1 c1 (l1.take 124) _ HT.out (HR14.out.take 124) hc124 HTA.out Y HY.out).mono ?_); rintro e w5 ⟨A5, c5, rfl, hc5, hr5, hb⟩; have HB5 := Lib.hid (HB4.out.trans (hb.mono HB4.out.size)); have HR5 := Lib.hid hr5; have HC5 := Lib.hid hc5; have tk4b : True := trivial; clear hb hr5 hc5 tk4 _tk))
    | (go_at_call 12; have _tk := tk4b; go_loud ((with_reducible refine (parse_at A5 128 c5 Y _ HR5.out HYL.out.symm HC5.out (by rw [HYL.out]; decide) k2 s2 d2 l2 0 HPP.out).mono ?_); rintro e w6 ⟨A6, c6, rfl, hc6, hr6, hb⟩; have hq := (Below.refl w6.heap.size w6).alloc (Nat.le_refl _) (.cells (BX k2 s2 d2 A6 l2.length c6) TP); have HB6 := Lib.hid (HB5.out.trans (hb.mono HB5.out.size)); have HB6q := Lib.hid (HB6.out.alloc HB6.out.size (.cells (BX k2 s2 d2 A6 l2.length c6) TP)); have BZ6 := Lib.hid (blk_new w6 (.cells (BX k2 s2 d2 A6 l2.length c6) TP)); have HR6 := Lib.hid (hr6.below hq); have HC6 := Lib.hid hc6; have HR56 := Lib.hid ((HR5.out.below hb).below hq); have tk5 : True := trivial; clear hb hr6 hc6 hq tk4b _tk))
    | ((with_reducible refine gate_dst (N := 90) rfl ?_); refine wpList_load_row rfl TP (.tmp 9) rfl w6.heap.size rfl TP _ (0, 0) _ BZ6.out Tryd.underlying26 rfl (by kernel_rfl) ?_)
    | (go_at_call 9; have _tk := tk5; go_loud ((with_reducible refine (pack_any k2 s2 d2 A6 l2.length c6 l2 _ HR6.out rfl HC6.out HOK2.out HL2.out Y HQ2.out).mono ?_); rintro e w7 ⟨A7, c7, rfl, hc7, hr7, hb⟩; have HB7 := Lib.hid (HB6q.out.trans (hb.mono HB6q.out.size)); have hcv1 := str_at (c := c7) hr7 HYL.out; have hcv2 := str_at (c := c5) (HR56.out.below hb) HYL.out; have tk6 : True := trivial; clear hb hr7 hc7 tk5 _tk))
    | (go_at_call 8; have _tk := tk6; go_loud ((with_reducible refine (Wakes6.wakes_at _).mono ?_); rintro e w8 ⟨rfl, hb⟩; have HB8 := Lib.hid (HB7.out.trans (hb.mono HB7.out.size)); clear hb tk6 _tk)))
  go_ret
  exact ⟨rfl, ((Below.refl W.heap.size W).alloc (Nat.le_refl _) (.cells (BX k s d A0 l0.length c0) TP)).trans (HB8.out.mono (by simp))⟩
theorem walk (k s d : Int) (A0 : Option Addr) (c0 : Nat) (l0 : List Int) (A1 : Option Addr) (c1 : Nat) (l1 : List Int) (W : World) (hr : RC W A0 l0) (hc : l0.length ≤ c0) (ok : Okay k s d l0) (hr1 : RC W A1 l1) (hc1 : l1.length ≤ c1) (hA1 : AreB l1) :
    Calls Tryd.prog 5 #[.agg #[.int .u64 k, .int .u32 s, .int .u8 d, .slice A0 l0.length c0], .slice A1 l1.length c1] W fun e w' => e = .returned (.bool true) ∧ Below W.heap.size W w' := by
  by_cases h0 : 4096 < l0.length
  · exact long0 k s d A0 c0 l0 A1 c1 l1 W h0
  by_cases h1 : 4096 < l1.length
  · exact long1 k s d A0 c0 l0 A1 c1 l1 W h0 h1
  by_cases h2 : 96 < l0.length
  · exact big k s d A0 c0 l0 A1 c1 l1 W h0 h1 h2 hr hc ok
  by_cases h3 : l1.length = 128
  · obtain ⟨Y, hY⟩ : ∃ Y, Y = sealI (l1.take 124) := ⟨_, rfl⟩
    have hYA : AreB Y := by rw [hY]; exact seal_bytes (fun x hx => hA1 x (List.mem_of_mem_take hx))
    rcases parse_any hYA with ⟨E, hE, hp⟩ | ⟨k2, s2, d2, l2, hp, ok2, hl2, hq2⟩
    · exact nothing k s d A0 c0 l0 A1 c1 l1 W (by omega) h1 hr hc ok hr1 hc1 hA1 h3 Y hY E hE hp
    · exact some_ k s d A0 c0 l0 A1 c1 l1 W (by omega) h1 hr hc ok hr1 hc1 hA1 h3 Y hY k2 s2 d2 l2 hp ok2 hl2 hq2
  · exact other k s d A0 c0 l0 A1 c1 l1 W (by omega) h1 hr hc ok hr1 hc1 hA1 h3
end Go.Proofs.YthmcigdkopadjaaDoor.WalkBlockBack
end

/- What came in, laid open, with how much it is: whole numbers, bools, texts, rows, arrays, in whatever nesting. -/
section
namespace Go.Proofs.YthmcigdkopadjaaDoor.Opn
open Go Go.RowKit Go.Proofs.YthmcigdkopadjaaDoorW.PrintWords Go.Proofs.YthmcigdkopadjaaDoorW.PrintLast Go.Proofs.YthmcigdkopadjaaDoorW.PrintMore
set_option linter.unusedVariables false

/-- Each reading at the type t that is no more than there may be gives a value of which K and W hold. -/
def Opn (P : Program) {α : Type} (K : World → α → List Value → Prop) (t : TypeId) (W : α → Prop) : Prop :=
  ∀ (H : Type) (enc : TypeId × Value → H) (w : World) (sp : Nat → Bool) (held : Bool) (fuel : Nat) (cs : List Value) (x : DataW H × List MemPlace),
    DataW.trod enc P w 0 sp held fuel t cs = some x → (x.1.weights P t).all (· ≤ reachBytes) = true → ∃ a, K w a cs ∧ W a

theorem Opn.weak {P : Program} {α : Type} {K : World → α → List Value → Prop} {t : TypeId} {W W' : α → Prop} (h : Opn P K t W) (hw : ∀ a, W a → W' a) : Opn P K t W' := fun H enc w sp held fuel cs x h1 h2 => by
  obtain ⟨a, ha, hb⟩ := h H enc w sp held fuel cs x h1 h2
  exact ⟨a, ha, hw a hb⟩
theorem of_int {P : Program} {t : TypeId} {k : IntKind} (ht : P.underlying t = some (.int k)) : Opn P (Kd.int k).K t (fun n => (Lit.int k n).wf = true) := by
  intro H enc w sp held fuel cs x h _
  obtain ⟨n, rfl, _, hw⟩ := DataW.trod_int ht h
  exact ⟨n, rfl, hw⟩
theorem of_bool {P : Program} {t : TypeId} (ht : P.underlying t = some .bool) : Opn P Kd.bool.K t (fun _ => True) := by
  intro H enc w sp held fuel cs x h _
  cases fuel with
  | zero => simp [DataW.trod] at h
  | succ n =>
    unfold DataW.trod at h
    rw [ht] at h
    split at h <;> first | (exact ⟨_, rfl, trivial⟩) | simp_all
theorem of_string {P : Program} {t : TypeId} (ht : P.underlying t = some .string) : Opn P Kd.string.K t (fun s => s.size ≤ 140737488351232) := by
  intro H enc w sp held fuel cs x h hw
  obtain ⟨s, rfl, rfl, _⟩ := DataW.trod_string ht h
  refine ⟨s, rfl, ?_⟩
  simp only [DataW.weights, List.all_cons, List.all_nil, Bool.and_true, decide_eq_true_eq] at hw
  simpa [reachBytes] using hw

theorem cells_at {w : World} {a : Addr} {n : Nat} {cs : List Value} (h : w.cells? 0 a n = some cs) : cs.length = n ∧ ∀ i u, cs[i]? = some u → w.cell? (a.add i) = some u := by
  obtain ⟨_, hl, hc⟩ := World.cells?_some h
  refine ⟨hl, fun i u hu => ?_⟩
  have hi : i < n := by rw [← hl]; exact (List.getElem?_eq_some_iff.1 hu).1
  rw [hc i hi, hu]
/-- One value for each place. -/
theorem choose_row {α : Type} {p : Nat → α → Prop} (n : Nat) (h : ∀ i, i < n → ∃ x, p i x) : ∃ xs : List α, xs.length = n ∧ ∀ i x, xs[i]? = some x → p i x := by
  induction n with
  | zero => exact ⟨[], rfl, fun i x hx => by simp at hx⟩
  | succ n ih =>
    obtain ⟨xs, hl, hp⟩ := ih (fun i hi => h i (by omega))
    obtain ⟨x, hx⟩ := h n (by omega)
    refine ⟨xs ++ [x], by simp [hl], fun i y hy => ?_⟩
    by_cases hi : i < xs.length
    · rw [List.getElem?_append_left hi] at hy
      exact hp i y hy
    · rw [List.getElem?_append_right (by omega)] at hy
      have : i = n := by
        have := (List.getElem?_eq_some_iff.1 hy).1
        simp at this; omega
      subst this
      rw [hl, Nat.sub_self] at hy
      simp at hy
      rw [← hy]; exact hx
theorem weights_all {H : Type} {P : Program} {e : TypeId} : ∀ {ds : List (DataW H)} {d : DataW H}, d ∈ ds → ∀ n ∈ d.weights P e, n ∈ DataW.weightsAll P e ds
  | d0 :: ds, d, hd, n, hn => by
    simp only [DataW.weightsAll, List.mem_append]
    rcases List.mem_cons.1 hd with rfl | hd
    · exact .inl hn
    · exact .inr (weights_all hd n hn)

theorem of_slice {P : Program} {α : Type} {d : Kd α} {t e : TypeId} {W : α → Prop} (ht : P.underlying t = some (.slice e)) (hc : P.cellsOf e = d.sz) {B : Nat} (hB : P.bytesOf e = B) (he : Opn P d.K e W) :
    Opn P (Kd.slice e d).K t (fun l => l.length * B ≤ 140737488351232 ∧ l.length ≤ maxLen ∧ ∀ x ∈ l, W x) := by
  intro H enc w sp held fuel cs x h hw
  rcases DataW.trod_slice ht h with ⟨rfl, _⟩ | ⟨a, len, cap, elems, rest, n, _, rfl, hx, _, hlc, hcm, hlen, hel, _⟩
  · exact ⟨[], ⟨none, 0, rfl, Nat.le_refl _, rfl, Nat.zero_le _, fun h => absurd h (by simp)⟩, by simp, by simp [maxLen], fun x hx => by simp at hx⟩
  · subst hx
    have hall := List.all_eq_true.1 hw
    simp only [DataW.weights, ht] at hall
    have h0 : (elems.length + rest.length) * B ≤ 140737488351232 := by
      have := hall ((elems.length + rest.length) * P.bytesOf e) (by simp)
      rw [hB] at this
      have h2 := of_decide_eq_true this
      simpa [reachBytes] using h2
    have hx : ∀ i, i < len → ∃ y, (∃ c, c.length = d.sz ∧ d.K w y c ∧ ∀ j u, c[j]? = some u → w.cell? (a.add (i * d.sz + j)) = some u) ∧ W y := by
      intro i hi
      have hE := hel i hi
      rw [List.getElem?_eq_getElem (by omega)] at hE
      obtain ⟨c, hcc, hy⟩ := Option.bind_eq_some_iff.mp hE
      have hwt : ((elems[i]'(by omega)).1.weights P e).all (· ≤ reachBytes) = true := List.all_eq_true.2 fun n hn => hall n (by
        refine List.mem_cons_of_mem _ (List.mem_append_left _ (weights_all (d := (elems[i]'(by omega)).1) ?_ n hn))
        exact List.mem_map_of_mem (List.getElem_mem _))
      obtain ⟨y, hy, hw⟩ := he H enc w sp held n c _ hy hwt
      obtain ⟨hl, hcell⟩ := cells_at hcc
      refine ⟨y, ⟨c, by rw [hl, hc], hy, fun j u hu => ?_⟩, hw⟩
      have := hcell j u hu
      rw [Addr.add_add, hc] at this
      exact this
    obtain ⟨xs, hl, hp⟩ := choose_row len hx
    have hmx : maxLen ≤ 9223372036854775807 := by decide
    refine ⟨xs, ⟨some a, cap, by rw [hl], by omega, rfl, by omega, fun _ => ⟨a, rfl, fun j p hj => (hp j p hj).1⟩⟩, ?_, by omega, fun x hx => ?_⟩
    · have : len * B ≤ (elems.length + rest.length) * B := Nat.mul_le_mul_right _ (by omega)
      rw [hl]; omega
    · obtain ⟨i, hi, rfl⟩ := List.mem_iff_getElem.mp hx
      exact (hp i _ (List.getElem?_eq_getElem hi)).2

/-- An array's cells are one behind the other. -/
theorem of_ints_array {P : Program} {n : Nat} {t e : TypeId} {k : IntKind} (ht : P.underlying t = some (.array n e)) (he : P.underlying e = some (.int k)) (hc : P.cellsOf e = 1) (hn : P.cellsOf t = n) :
    Opn P (fun _ (l : List Int) cs => l.length = n ∧ cs = l.map (Value.int k)) t (fun l => ∀ m ∈ l, (Lit.int k m).wf = true) := by
  intro H enc w sp held fuel cs x h _
  obtain ⟨xs, m, _, _, hl, hxl, hel⟩ := DataW.trod_array ht h
  have hx : ∀ i, i < n → ∃ y, cs[i]? = some (.int k y) ∧ (Lit.int k y).wf = true := by
    intro i hi
    have hE := hel i hi
    rw [List.getElem?_eq_getElem (by omega), hc, Nat.mul_one] at hE
    obtain ⟨y, hy, _, hw⟩ := DataW.trod_int he hE
    refine ⟨y, ?_, hw⟩
    have hlt : i < cs.length := by omega
    have h0 := congrArg (fun z => z[0]?) hy
    simp only [List.getElem?_take, List.getElem?_drop, Nat.add_zero, List.getElem?_cons_zero] at h0
    simpa using h0
  obtain ⟨l, hll, hp⟩ := choose_row n hx
  refine ⟨l, ⟨hll, ?_⟩, fun m hm => ?_⟩
  · apply List.ext_getElem?
    intro i
    rw [List.getElem?_map]
    cases hi : l[i]? with
    | none =>
      have : l.length ≤ i := List.getElem?_eq_none_iff.mp hi
      rw [List.getElem?_eq_none (by omega)]; rfl
    | some y => rw [(hp i y hi).1]; rfl
  · obtain ⟨i, hi, rfl⟩ := List.mem_iff_getElem.mp hm
    exact (hp i _ (List.getElem?_eq_getElem hi)).2

/-- A state's fields, each read where it lies. -/
theorem fields {P : Program} {H : Type} {enc : TypeId × Value → H} {w : World} {sp : Nat → Bool} {held : Bool} {fuel : Nat} {t : TypeId} {fs : Array Field} {cs : List Value} {x : DataW H × List MemPlace} (ht : P.underlying t = some (.struct fs))
    (h : DataW.trod enc P w 0 sp held fuel t cs = some x) (hw : (x.1.weights P t).all (· ≤ reachBytes) = true) :
    cs.length = P.cellsOf t ∧ ∀ (i : Nat) (f : Field) {α : Type} (K : World → α → List Value → Prop) (W : α → Prop), fs[i]? = some f → Opn P K f.type W → ∃ a, K w a ((cs.drop f.offset).take (P.cellsOf f.type)) ∧ W a := by
  obtain ⟨xs, n, _, rfl, hl, hxl, hf⟩ := DataW.trod_struct ht h
  refine ⟨hl, fun i f α K W hi ho => ?_⟩
  have hif : i < fs.size := (Array.getElem?_eq_some_iff.1 hi).1
  have hq := hf i f hi
  rw [List.getElem?_eq_getElem (by omega)] at hq
  refine ho H enc w sp held n _ _ hq ?_
  have hall := List.all_eq_true.1 hw
  simp only [DataW.weights, ht] at hall
  refine List.all_eq_true.2 fun m hm => hall m ?_
  refine DataW.weights_mem_each (j := i) (t := f.type) (d := (xs[i]'(by omega)).1) ?_ ?_ m hm
  · simp [hi]
  · simp [List.getElem?_eq_getElem (show i < xs.length by omega)]
theorem split_at (cs : List Value) (o s : Nat) : (cs.drop o).take s ++ cs.drop (o + s) = cs.drop o := by
  have := List.take_append_drop s (cs.drop o)
  rwa [List.drop_drop] at this
theorem split_end (cs : List Value) (o s : Nat) (h : cs.length = o + s) : (cs.drop o).take s = cs.drop o := List.take_of_length_le (by rw [List.length_drop]; omega)
/-- A row's data, each no more than there may be. -/
theorem sized_at {H : Type} {P : Program} {ts : List TypeId} {ds : List (DataW H)} (h : (DataW.weightsEach P ts ds).all (· ≤ reachBytes) = true) (j : Nat) {t : TypeId} {d : DataW H} (ht : ts[j]? = some t) (hd : ds[j]? = some d) : (d.weights P t).all (· ≤ reachBytes) = true :=
  List.all_eq_true.2 fun n hn => List.all_eq_true.1 h n (DataW.weights_mem_each ht hd n hn)
end Go.Proofs.YthmcigdkopadjaaDoor.Opn
end
