/- Texts of this claim, laid together by wip/tools/squash.py: MCopy, MRank, MInverse, MPlug, MPure. -/
import Derived.Test.YtjkmaobfpgfdnaaQB4
import Derived.Laws.CopyRow

/- The builtin copy of a row into a row of a table; matrix.Rank. -/
section
namespace Go.Proofs.Ytjkmaobfpgfdnaa.MCopy
open Go.Proofs.Ytjkmaobfpgfdnaa Go.RowKit Go.Proofs.YtjkmaobfpgfdnaaW.PrintWords Go.Proofs.YtjkmaobfpgfdnaaW.PrintLast Go.Proofs.YtjkmaobfpgfdnaaW.PrintMore Go.Proofs.Ytjkmaobfpgfdnaa.Byt Go.Proofs.Ytjkmaobfpgfdnaa.Lin Go.Proofs.Ytjkmaobfpgfdnaa.Lin.G Go.Proofs.Ytjkmaobfpgfdnaa.Elim Go.Proofs.Ytjkmaobfpgfdnaa.Tab Go.Proofs.Ytjkmaobfpgfdnaa.MBad Go.Proofs.Ytjkmaobfpgfdnaa.MAdd Go.Proofs.Ytjkmaobfpgfdnaa.MTable Go.Proofs.Ytjkmaobfpgfdnaa.MMul
set_option linter.unusedVariables false
set_option linter.unusedSimpArgs false
def jOf : Value → Int
  | .int _ x => x
  | _ => 0
theorem copy_none (w : World) (a : Addr) (dLen dCap sCap : Nat) : (Builtin.copy_ #[38, 38] 3 #[.slice (some a) dLen dCap, .slice none 0 sCap]).run Try.prog w = .ok (.int .i64 0) w := by
  have hs : ((Try.prog.info? 5).map (·.size)).isSome = true := by kernel_rfl
  have hu := Try.underlying38
  cases hq : Try.prog.info? 5 with
  | none => simp [hq] at hs
  | some i => simp [Builtin.copy_, run_underlying hu, Builtin.lenOf, Builtin.firstCells, sizeOf, typeInfo, hq, storeCells, goInt]
theorem copy_blk {w : World} {g N : Nat} {D : Nat → G} (hD : BLK w g N D) (o dLen dCap sCap : Nat) (A : Option Addr) (l : List Int) (hA : RC w A l) (hb : Bytes l) (hl : l.length ≤ dLen) (hfit : o + l.length ≤ N) :
    ∃ w', (Builtin.copy_ #[38, 38] 3 #[.slice (some ⟨g, o, none⟩) dLen dCap, .slice A l.length sCap]).run Try.prog w = .ok (.int .i64 (l.length : Nat)) w' ∧ BLK w' g N (fun x => if o ≤ x ∧ x < o + l.length then gv (bn l (x - o)) else D x) ∧ Wrote g w w' := by
  cases A with
  | none =>
    have hl0 : l = [] := by
      by_cases h : l = []
      · exact h
      · obtain ⟨a, e, _⟩ := hA h
        cases e
    subst hl0
    exact ⟨w, copy_none w _ dLen dCap sCap, hD.congr fun x _ => (if_neg (by simp only [List.length_nil]; omega)).symm, Wrote.refl _ _⟩
  | some a =>
    obtain ⟨cur, hc, hn, hv⟩ := hD
    have hcs : (nums .u8 l).length = l.length := by simp [nums]
    have hrun := run_copy_row (P := Try.prog) w 38 38 3 5 g o dLen dCap a l.length sCap cur 5 (nums .u8 l) Try.underlying38 Byt.info1 hc (by rw [hcs]; exact (Nat.min_eq_left hl).symm) (cells_of_RC hA) (by rw [hcs, hn]; exact hfit) (fun v hvm => by
      obtain ⟨x, _, rfl⟩ := List.mem_map.1 hvm
      rfl)
    rw [hcs] at hrun
    refine ⟨_, hrun, ⟨_, setRow_heap w g cur _ 5 (0, 0) hc, ?_, fun i hi => ?_⟩, ?_⟩
    · simp only [List.size_toArray, List.length_append, List.length_take, List.length_drop, hcs, Array.length_toList, hn]
      omega
    · have hget : ∀ k, cur.toList[k]? = cur[k]? := fun k => Array.getElem?_toList
      rw [List.getElem?_toArray]
      have ht : (cur.toList.take o).length = o := by rw [List.length_take, Array.length_toList, hn]; omega
      show _ = some (U (if o ≤ i ∧ i < o + l.length then gv (bn l (i - o)) else D i))
      by_cases h1 : i < o
      · rw [List.append_assoc, List.getElem?_append_left (by omega), List.getElem?_take_of_lt h1, hget, hv i hi, if_neg (by omega)]
      · by_cases h2 : i < o + l.length
        · rw [List.append_assoc, List.getElem?_append_right (by omega), ht, List.getElem?_append_left (by omega), if_pos ⟨by omega, h2⟩]
          simp only [nums, List.getElem?_map]
          rw [List.getElem?_eq_getElem (by omega)]
          have e : l[i - o] = bn l (i - o) := by rw [bn_getD, List.getD_eq_getElem?_getD, List.getElem?_eq_getElem (by omega)]; rfl
          rw [e]
          show some (Value.int .u8 _) = some (Value.int .u8 _)
          rw [gv_v (hb (i - o))]
        · rw [List.getElem?_append_right (by rw [List.length_append, ht, hcs]; omega), List.length_append, ht, hcs, List.getElem?_drop, hget, show o + l.length + (i - (o + l.length)) = i by omega, hv i hi, if_neg (by omega)]
    · exact ⟨rfl, rfl, rfl, by simp [World.setRow], fun k _ hk => setRow_other w g k _ hk⟩
theorem tab_copy {w : World} {h g n m : Nat} {off : Nat → Nat} {T : Tb} (t : TAB w h g n m off T) (i : Nat) (hi : i < n) (p dLen dCap sCap : Nat) (A : Option Addr) (l : List Int) (b : Nat → G) (hA : RC w A l) (hbn : ∀ j, bn l j = ((b j).v : Int)) (hlp : l.length = p) (hl : p ≤ m) (hd : p ≤ dLen) :
    ∃ w', (Builtin.copy_ #[38, 38] 3 #[.slice (some ⟨g, off i, none⟩) dLen dCap, .slice A p sCap]).run Try.prog w = .ok (.int .i64 (p : Nat)) w' ∧ TAB w' h g n m off (fun a j => if a = i ∧ j < p then b j else T a j) ∧ Wrote g w w' := by
  subst hlp
  obtain ⟨D, hD, e0⟩ := t.data
  have hin := t.shp.inn i hi
  obtain ⟨w', hr, hb', hw⟩ := copy_blk hD (off i) dLen dCap sCap A l hA (fun j => by rw [hbn j]; exact v_range _) hd (by omega)
  refine ⟨w', hr, ⟨t.ne, World.rowIs.of_block t.head (hw.block h t.hlt t.ne), t.shp, _, hb', fun a j ha hj => ?_⟩, hw⟩
  by_cases hai : a = i
  · subst hai
    by_cases hjl : j < l.length
    · simp only [if_pos (show off a ≤ off a + j ∧ off a + j < off a + l.length by omega), true_and, if_pos hjl]
      rw [show off a + j - off a = j by omega, hbn j, gv_val]
    · simp only [if_neg (show ¬ (off a ≤ off a + j ∧ off a + j < off a + l.length) by omega), true_and, if_neg hjl]
      exact e0 a j ha hj
  · have := t.shp.apart a i ha hi hai
    simp only [if_neg (show ¬ (off i ≤ off a + j ∧ off a + j < off i + l.length) by omega), if_neg (show ¬ (a = i ∧ j < l.length) by omega)]
    exact e0 a j ha hj
end Go.Proofs.Ytjkmaobfpgfdnaa.MCopy
end

/- matrix.Rank. -/
section
namespace Go.Proofs.Ytjkmaobfpgfdnaa.MRank
open Go.Proofs.Ytjkmaobfpgfdnaa Go.RowKit Go.Proofs.YtjkmaobfpgfdnaaW.PrintWords Go.Proofs.YtjkmaobfpgfdnaaW.PrintLast Go.Proofs.YtjkmaobfpgfdnaaW.PrintMore Go.Proofs.Ytjkmaobfpgfdnaa.Byt Go.Proofs.Ytjkmaobfpgfdnaa.Lin Go.Proofs.Ytjkmaobfpgfdnaa.Lin.G Go.Proofs.Ytjkmaobfpgfdnaa.Elim Go.Proofs.Ytjkmaobfpgfdnaa.Tab Go.Proofs.Ytjkmaobfpgfdnaa.MBad Go.Proofs.Ytjkmaobfpgfdnaa.MAdd Go.Proofs.Ytjkmaobfpgfdnaa.MTable Go.Proofs.Ytjkmaobfpgfdnaa.MMul Go.Proofs.Ytjkmaobfpgfdnaa.MSteps Go.Proofs.Ytjkmaobfpgfdnaa.MCopy
set_option linter.unusedVariables false
set_option linter.unusedSimpArgs false
set_option maxRecDepth 100000 in
set_option maxHeartbeats 16000000 in
theorem rank_ok (A : Option Addr) (ca n p : Nat) (X : List (List Int)) (W : World) (hX : GM W A n p X) (hca : n ≤ ca) :
    Calls Try.prog 21 #[.slice A n ca] W fun e w' => e = .returned (.tuple #[.int .i64 ((stps n (tb X) p).2 : Nat), .int .i64 0]) ∧ Below W.heap.size W w' := by
  have HX := Lib.hid hX
  have ln := hX.n_le
  have lp := hX.p_le
  clear hX
  go_enter Try.func21, Try.ntmps21
  go_wp2_with (first
    | (go_at_call 30; with_reducible refine (HX.out.bad_at ca).mono ?_; rintro e w1 ⟨rfl, hb1⟩; have HB1 := Lib.hid hb1; clear hb1; have HX1 := Lib.hid (HX.out.below HB1.out))
    | (go_at_call 31; with_reducible refine (HX1.out.columns_at hca).mono ?_; rintro e w3 ⟨rfl, hd3⟩; have HB3 := Lib.hid (HB1.out.trans (hd3.below.mono HB1.out.size)); clear hd3)
    | (go_at_call 32; with_reducible refine (table_any n p (by omega) (by omega) _).mono ?_; rintro e w5 ⟨h, g, rfl, hh, hg, ht, hb⟩; have HT := Lib.hid ht; have HB5 := Lib.hid (HB3.out.trans (hb.mono HB3.out.size)); have HH := Lib.hid (Nat.le_trans HB3.out.size hh); have HG := Lib.hid (Nat.le_trans HB3.out.size hg); clear hb ht hh hg))
  go_loopw [20] (fun v20 wr => ∃ i : Nat, i ≤ n ∧ v20 = .int .i64 i ∧ TAB wr h g n p (fun i => i * p) (fun a b => if a < i then tb X a b else 0) ∧ Below W.heap.size W wr) (fun v20 _ => n - (jOf v20).toNat)
  case atStart => exact ⟨0, by omega, rfl, HT.out.congr fun a b _ _ => (if_neg (by omega)).symm, HB5.out⟩
  case round =>
    obtain ⟨i, hi, rfl, ht, hb⟩ := hrel
    have HTi := Lib.hid ht
    have HBi := Lib.hid hb
    clear ht hb
    by_cases hlt : i < n
    · obtain ⟨ad, Ai, ci, rfl, hx0, hci, hrc⟩ := HX.out.row hlt
      have hx := pw_cell_below HBi.out hx0
      have hxh := HTi.out.hcell hlt
      obtain ⟨wc, hcp, htc, hwc⟩ := tab_copy HTi.out i hlt p p p ci Ai (rw_ X i) (tb X i) (hrc.below HBi.out) (HX.out.bn hlt) (HX.out.rowlen hlt) (Nat.le_refl _) (Nat.le_refl _)
      try dsimp only at hcp
      have HTC := Lib.hid htc
      have HBC := Lib.hid (HBi.out.trans (hwc.below HG.out HBi.out.size))
      clear htc hwc hrc hx0
      go_wp2
      go_roundw
      case rel =>
        refine ⟨i + 1, by omega, by go_num, HTC.out.congr fun a b ha hb => ?_, HBC.out⟩
        by_cases hai : a = i
        · subst hai
          rw [if_pos ⟨rfl, hb⟩, if_pos (by omega)]
        · rw [if_neg (fun hh => hai hh.1)]
          by_cases hl : a < i
          · rw [if_pos hl, if_pos (by omega)]
          · rw [if_neg hl, if_neg (by omega)]
      case measure => simp [jOf]; omega
    · obtain rfl : i = n := by omega
      have HTn := Lib.hid (HTi.out.congr (T' := tb X) fun a b ha hb => if_pos ha)
      have HXn := Lib.hid (HX.out.below HBi.out)
      go_wp2_with (first
        | (go_at_call 31; with_reducible refine (HXn.out.columns_at hca).mono ?_; rintro e w6 ⟨rfl, hd6⟩; have HB6 := Lib.hid (HBi.out.trans (hd6.below.mono HBi.out.size)); have HT6 := Lib.hid (HTn.out.below hd6.below); clear hd6)
        | (go_at_call 36; with_reducible refine (steps_any W.heap.size h g i p p (fun i => i * p) (tb X) W _ HT6.out (Nat.le_refl _) (by omega) (by omega) HB6.out HH.out HG.out HB6.out.size).mono ?_; rintro e w7 ⟨off', rfl, ht7, hb7⟩; have HB7 := Lib.hid hb7; clear hb7 ht7))
      go_ret2
      exact ⟨rfl, HB7.out⟩
set_option maxRecDepth 100000 in
set_option maxHeartbeats 16000000 in
theorem rank_no (A : Option Addr) (ca n : Nat) (X : List (List Int)) (W : World) (hX : KM.C W A n X) (E : Int) (hE : E = badS X) (h0 : E ≠ 0) :
    Calls Try.prog 21 #[.slice A n ca] W fun e w' => e = .returned (.tuple #[.int .i64 0, .int .i64 E]) ∧ Below W.heap.size W w' := by
  have H1 := Lib.hid (hE ▸ bad_at A ca n X W hX : Calls Try.prog 30 #[.slice A n ca] W fun e w' => e = .returned (.int .i64 E) ∧ Below W.heap.size W w')
  have hxb : (E == 0) = false := by simpa using h0
  clear hX hE
  go_enter Try.func21, Try.ntmps21
  go_wp2_with (go_at_call 30; with_reducible refine H1.out.mono ?_; rintro e w1 ⟨rfl, hb1⟩; have HB1 := Lib.hid hb1; clear hb1)
  go_ret2
  exact ⟨rfl, HB1.out⟩
end Go.Proofs.Ytjkmaobfpgfdnaa.MRank
end

/- matrix.Inverse. -/
section
namespace Go.Proofs.Ytjkmaobfpgfdnaa.MInverse
open Go.Proofs.Ytjkmaobfpgfdnaa Go.RowKit Go.Proofs.YtjkmaobfpgfdnaaW.PrintWords Go.Proofs.YtjkmaobfpgfdnaaW.PrintLast Go.Proofs.YtjkmaobfpgfdnaaW.PrintMore Go.Proofs.Ytjkmaobfpgfdnaa.Byt Go.Proofs.Ytjkmaobfpgfdnaa.Lin Go.Proofs.Ytjkmaobfpgfdnaa.Lin.G Go.Proofs.Ytjkmaobfpgfdnaa.Elim Go.Proofs.Ytjkmaobfpgfdnaa.Tab Go.Proofs.Ytjkmaobfpgfdnaa.MBad Go.Proofs.Ytjkmaobfpgfdnaa.MAdd Go.Proofs.Ytjkmaobfpgfdnaa.MTable Go.Proofs.Ytjkmaobfpgfdnaa.MMul Go.Proofs.Ytjkmaobfpgfdnaa.MSteps Go.Proofs.Ytjkmaobfpgfdnaa.MCopy
set_option linter.unusedVariables false
set_option linter.unusedSimpArgs false
/-- The matrix with the one behind it, i rows being done. -/
def WP (n : Nat) (A : Tb) (i : Nat) : Tb := fun a b => if a < i then wide n A a b else 0
set_option maxRecDepth 100000 in
set_option maxHeartbeats 16000000 in
theorem inverse_ok (A : Option Addr) (ca n : Nat) (X : List (List Int)) (W : World) (hX : GM W A n n X) (hca : n ≤ ca) (S : Tb) (s : Nat) (hS : stps n (wide n (tb X)) n = (S, s)) :
    Calls Try.prog 20 #[.slice A n ca] W fun e w' => ((s < n ∧ e = .returned (.tuple #[.slice none 0 0, .int .i64 20])) ∨ (s = n ∧ ∃ h g, e = .returned (.tuple #[.slice (some ⟨h, 0, none⟩) n n, .int .i64 0]) ∧ W.heap.size ≤ h ∧ W.heap.size ≤ g ∧ TAB w' h g n n (fun i => i * n) (fun a b => S a (n + b)))) ∧ Below W.heap.size W w' := by
  have HX := Lib.hid hX
  have ln := hX.n_le
  have HS := Lib.hid hS
  have hsn : s ≤ n := by have := stps_le n (wide n (tb X)) n; rw [hS] at this; exact this
  obtain ⟨m, hm⟩ : ∃ m, m = 2 * n := ⟨_, rfl⟩
  have HM := Lib.hid hm
  have lm : m ≤ 64 := by omega
  have hw2 : IntKind.i64.wrap (2 * (n : Int)) = ((m : Nat) : Int) := by rw [IntKind.wrap_i64]; omega
  clear hX hS hm
  go_enter Try.func20, Try.ntmps20
  go_wp2_with (first
    | (go_at_call 30; with_reducible refine (HX.out.bad_at ca).mono ?_; rintro e w1 ⟨rfl, hb1⟩; have HB1 := Lib.hid hb1; clear hb1; have HX1 := Lib.hid (HX.out.below HB1.out))
    | (go_at_call 31; with_reducible refine (HX1.out.columns_at hca).mono ?_; rintro e w3 ⟨rfl, hd3⟩; have HB3 := Lib.hid (HB1.out.trans (hd3.below.mono HB1.out.size)); clear hd3)
    | (go_at_call 32; with_reducible refine (table_any n m (by omega) (by omega) _).mono ?_; rintro e w5 ⟨h, g, rfl, hh, hg, ht, hb⟩; have HT := Lib.hid ht; have HB5 := Lib.hid (HB3.out.trans (hb.mono HB3.out.size)); have HH := Lib.hid (Nat.le_trans HB3.out.size hh); have HG := Lib.hid (Nat.le_trans HB3.out.size hg); clear hb ht hh hg))
  go_loopw [29] (fun v29 wr => ∃ i : Nat, i ≤ n ∧ v29 = .int .i64 i ∧ TAB wr h g n m (fun i => i * m) (WP n (tb X) i) ∧ Below W.heap.size W wr) (fun v29 _ => n - (jOf v29).toNat)
  case atStart => exact ⟨0, by omega, rfl, HT.out.congr fun a b _ _ => (if_neg (by omega)).symm, HB5.out⟩
  case round =>
    obtain ⟨i, hi, rfl, ht, hb⟩ := hrel
    have HTi := Lib.hid ht
    have HBi := Lib.hid hb
    clear ht hb
    by_cases hlt : i < n
    · obtain ⟨ad, Ai, ci, rfl, hx0, hci, hrc⟩ := HX.out.row hlt
      have hx := pw_cell_below HBi.out hx0
      have hxh := HTi.out.hcell hlt
      obtain ⟨wc, hcp, htc, hwc⟩ := tab_copy HTi.out i hlt n m m ci Ai (rw_ X i) (tb X i) (hrc.below HBi.out) (HX.out.bn hlt) (HX.out.rowlen hlt) (by have := HM.out; omega) (by have := HM.out; omega)
      try dsimp only at hcp
      have hjm : n + i < m := by have := HM.out; omega
      have HTC := Lib.hid htc
      have HBC := Lib.hid (HBi.out.trans (hwc.below HG.out HBi.out.size))
      have hxc := htc.hcell hlt
      have hxn := htc.cell hlt hjm
      have hfn := htc.gfrozen (i * m + (n + i))
      have hwn : IntKind.i64.wrap ((n : Int) + (i : Int)) = ((n + i : Nat) : Int) := by rw [IntKind.wrap_i64]; omega
      clear htc hwc hrc hx0
      go_wp2
      go_roundw
      case rel =>
        refine ⟨i + 1, by omega, by go_num, (HTC.out.set hlt hjm 1).congr fun a b ha hb => ?_, HBC.out.setCell HG.out _⟩
        unfold WP wide
        by_cases hai : a = i
        · subst hai
          by_cases hbn : b = n + a
          · rw [if_pos ⟨rfl, hbn⟩, if_pos (by omega), if_neg (by omega), hbn, show n + a - n = a by omega, I_same]
          · rw [if_neg (fun hh => hbn hh.2)]
            by_cases hb2 : b < n
            · rw [if_pos ⟨rfl, hb2⟩, if_pos (by omega), if_pos hb2]
            · rw [if_neg (fun hh => hb2 hh.2), if_neg (by omega), if_pos (by omega), if_neg hb2, I_diff (by omega)]
        · rw [if_neg (fun hh => hai hh.1), if_neg (fun hh => hai hh.1)]
          by_cases hl : a < i
          · rw [if_pos hl, if_pos (show a < i + 1 by omega)]
          · rw [if_neg hl, if_neg (show ¬ a < i + 1 by omega)]
      case measure => simp [jOf]; omega
    · obtain rfl : i = n := by omega
      have HTn := Lib.hid (HTi.out.congr (T' := wide i (tb X)) fun a b ha hb => if_pos ha)
      have hst := steps_any W.heap.size h g i m i (fun a => a * m) (wide i (tb X)) W wr HTn.out (by have := HM.out; omega) (by omega) (by omega) HBi.out HH.out HG.out HBi.out.size
      rw [HS.out] at hst
      have HST := Lib.hid hst
      clear hst
      by_cases hs2 : s < i
      · have hs2I : (s : Int) < i := by omega
        go_wp2_with (go_at_call 36; with_reducible refine HST.out.mono ?_; rintro e w7 ⟨off', rfl, ht7, hb7⟩; have HB7 := Lib.hid hb7; clear hb7 ht7)
        go_ret2
        exact ⟨.inl ⟨hs2, rfl⟩, HB7.out⟩
      · have hs2I : ¬ ((s : Int) < i) := by omega
        go_wp2_with (first
          | (go_at_call 36; with_reducible refine HST.out.mono ?_; rintro e w7 ⟨off', rfl, ht7, hb7⟩; have HB7 := Lib.hid hb7; have HT7 := Lib.hid ht7; clear hb7 ht7)
          | (go_at_call 32; with_reducible refine (table_any i i (by omega) (by omega) _).mono ?_; rintro e w8 ⟨h2, g2, rfl, hh, hg, ht, hb⟩; have HT8 := Lib.hid ht; have HTW := Lib.hid (HT7.out.below hb); have HN2 := Lib.hid (show h < h2 ∧ g < h2 ∧ h < g2 ∧ g < g2 by have := HT7.out.hlt; have := HT7.out.glt; omega); have HB8 := Lib.hid (HB7.out.trans (hb.mono HB7.out.size)); have HH2 := Lib.hid (Nat.le_trans HB7.out.size hh); have HG2 := Lib.hid (Nat.le_trans HB7.out.size hg); clear hb ht hh hg))
        go_loopw [59] (fun v59 wq => ∃ k : Nat, k ≤ i ∧ v59 = .int .i64 k ∧ TAB wq h2 g2 i i (fun a => a * i) (fun a b => if a < k then S a (i + b) else 0) ∧ TAB wq h g i m off' S ∧ Below W.heap.size W wq) (fun v59 _ => i - (jOf v59).toNat)
        case atStart => exact ⟨0, by omega, rfl, HT8.out.congr fun a b _ _ => (if_neg (by omega)).symm, HTW.out, HB8.out⟩
        case round =>
          obtain ⟨k, hk, rfl, ht, htw, hb⟩ := hrel
          have HTk := Lib.hid ht
          have HTWk := Lib.hid htw
          have HBk := Lib.hid hb
          clear ht htw hb
          by_cases hltk : k < i
          · have hx := HTWk.out.hcell hltk
            have hxo := HTk.out.hcell hltk
            have him : i ≤ m := by have := HM.out; omega
            have hmi : m - i = i := by have := HM.out; omega
            have hi0 : m ≠ i := by omega
            have hrc := HTWk.out.rc hltk
            have hrc2 := hrc.drop i
            rw [Addr.add_mid] at hrc2
            obtain ⟨wc, hcp, htc, hwc⟩ := tab_copy HTk.out.drew k hltk i i i (m - i) (some ⟨g, off' k + i, none⟩) ((row m (S k)).drop i) (fun b => gv (bn ((row m (S k)).drop i) b)) hrc2 (fun b => (gv_v (bytes_drop (row_bytes m (S k)) i b)).symm) (by rw [List.length_drop, row_len]; exact hmi) (Nat.le_refl _) (Nat.le_refl _)
            have HTC := Lib.hid htc
            have HWC := Lib.hid hwc
            rw [hmi] at hcp
            clear htc hwc hrc hrc2
            go_wp2
            go_still_tail 7, (by kernel_rfl)
            change wpList _ _ _ _ _ wr.drew
            go_wp2
            go_roundw
            case rel =>
              have hN := HN2.out
              refine ⟨k + 1, by omega, by go_num, HTC.out.congr fun a b ha hb => ?_, HTWk.out.drew.of_blocks (HWC.out.block h HTWk.out.hlt (by omega)) (HWC.out.block g HTWk.out.glt (by omega)), HBk.out.drew.trans (HWC.out.below HG2.out HBk.out.drew.size)⟩
              by_cases hak : a = k
              · subst hak
                rw [if_pos ⟨rfl, hb⟩, if_pos (show a < a + 1 by omega), bn_drop, row_bn (by omega), gv_val]
              · rw [if_neg (fun hh => hak hh.1)]
                by_cases hl : a < k
                · rw [if_pos hl, if_pos (show a < k + 1 by omega)]
                · rw [if_neg hl, if_neg (show ¬ a < k + 1 by omega)]
            case measure => simp [jOf]; omega
          · obtain rfl : k = i := by omega
            go_wp2
            go_ret2
            exact ⟨.inr ⟨by omega, h2, g2, rfl, HH2.out, HG2.out, HTk.out.congr fun a b ha hb => if_pos ha⟩, HBk.out⟩
/-- What is wrong with a matrix that is to be taken back. -/
def invE (X : List (List Int)) : Int := if badS X = 0 then (if X.length = colS X then 0 else 6) else badS X
set_option maxRecDepth 100000 in
set_option maxHeartbeats 16000000 in
theorem inverse_no (A : Option Addr) (ca n : Nat) (X : List (List Int)) (W : World) (hX : KM.C W A n X) (hca : n ≤ ca) (E : Int) (hE : E = invE X) (h0 : E ≠ 0) :
    Calls Try.prog 20 #[.slice A n ca] W fun e w' => e = .returned (.tuple #[.slice none 0 0, .int .i64 E]) ∧ Below W.heap.size W w' := by
  have HX := Lib.hid hX
  have hl : X.length = n := hX.1
  clear hX
  unfold invE at hE
  obtain ⟨x, hx⟩ : ∃ x, x = badS X := ⟨_, rfl⟩
  have H1 := Lib.hid (hx ▸ bad_at A ca n X W HX.out : Calls Try.prog 30 #[.slice A n ca] W fun e w' => e = .returned (.int .i64 x) ∧ Below W.heap.size W w')
  rw [← hx, hl] at hE
  clear hx
  by_cases hx0 : x = 0
  · subst hx0
    rw [if_pos rfl] at hE
    obtain ⟨q, hq⟩ : ∃ q, q = colS X := ⟨_, rfl⟩
    have H3 := Lib.hid (fun w (h : KM.C w A n X) => (hq ▸ columns_at A ca n X w h hca : Calls Try.prog 31 #[.slice A n ca] w fun e w' => e = .returned (.int .i64 q) ∧ Drawn0 w w'))
    rw [← hq] at hE
    clear hq
    by_cases hc : n = q
    · rw [if_pos hc] at hE
      exact absurd hE h0
    · rw [if_neg hc] at hE
      subst hE
      have c2 : ((n : Int) != (q : Int)) = true := by simp; omega
      go_enter Try.func20, Try.ntmps20
      go_wp2_with (first
        | (go_at_call 30; with_reducible refine H1.out.mono ?_; rintro e w1 ⟨rfl, hb1⟩; have HB1 := Lib.hid hb1; clear hb1; have HX1 := Lib.hid (Kd.C_below HX.out HB1.out))
        | (go_at_call 31; with_reducible refine (H3.out _ HX1.out).mono ?_; rintro e w3 ⟨rfl, hd3⟩; have HB3 := Lib.hid (HB1.out.trans (hd3.below.mono HB1.out.size)); clear hd3))
      go_ret2
      exact ⟨rfl, HB3.out⟩
  · rw [if_neg hx0] at hE
    subst hE
    have hxb : (E == 0) = false := by simpa using hx0
    go_enter Try.func20, Try.ntmps20
    go_wp2_with (go_at_call 30; with_reducible refine H1.out.mono ?_; rintro e w1 ⟨rfl, hb1⟩; have HB1 := Lib.hid hb1; clear hb1)
    go_ret2
    exact ⟨rfl, HB1.out⟩
end Go.Proofs.Ytjkmaobfpgfdnaa.MInverse
end

/- The package matrix in one word each: what the print takes as printed. -/
section
namespace Go.Proofs.Ytjkmaobfpgfdnaa.MPlug
open Go.Proofs.Ytjkmaobfpgfdnaa Go.RowKit Go.Proofs.YtjkmaobfpgfdnaaW.PrintWords Go.Proofs.YtjkmaobfpgfdnaaW.PrintLast Go.Proofs.YtjkmaobfpgfdnaaW.PrintMore Go.Proofs.Ytjkmaobfpgfdnaa.Byt Go.Proofs.Ytjkmaobfpgfdnaa.Lin Go.Proofs.Ytjkmaobfpgfdnaa.Lin.G Go.Proofs.Ytjkmaobfpgfdnaa.Elim Go.Proofs.Ytjkmaobfpgfdnaa.Tab Go.Proofs.Ytjkmaobfpgfdnaa.MBad Go.Proofs.Ytjkmaobfpgfdnaa.MTable Go.Proofs.Ytjkmaobfpgfdnaa.MMul Go.Proofs.Ytjkmaobfpgfdnaa.MOne Go.Proofs.Ytjkmaobfpgfdnaa.MTurned Go.Proofs.Ytjkmaobfpgfdnaa.MSteps Go.Proofs.Ytjkmaobfpgfdnaa.MRank Go.Proofs.Ytjkmaobfpgfdnaa.MInverse
set_option linter.unusedVariables false
set_option linter.unusedSimpArgs false
/-- All its numbers are bytes (and this can be asked). -/
abbrev AMB (X : List (List Int)) : Prop := ∀ r ∈ X, ∀ x ∈ r, 0 ≤ x ∧ x ≤ 255
theorem mb_of {X : List (List Int)} (h : AMB X) : MB X := fun i hi => bytes_of_mem (h _ (by
  unfold rw_
  rw [List.getD_eq_getElem?_getD, List.getElem?_eq_getElem hi]
  exact List.getElem_mem hi))
theorem tabl_get {n m : Nat} {T : Tb} {j : Nat} {p : List Int} (h : (tabl n m T)[j]? = some p) : j < n ∧ p = row m (T j) := by
  unfold tabl at h
  rw [List.getElem?_map] at h
  by_cases hj : j < n
  · rw [List.getElem?_range hj] at h
    cases h
    exact ⟨hj, rfl⟩
  · rw [List.getElem?_eq_none (by simpa using hj)] at h
    cases h
theorem amb_tabl (n m : Nat) (T : Tb) : AMB (tabl n m T) := fun r hr x hx => by
  obtain ⟨i, _, rfl⟩ := List.mem_map.1 hr
  obtain ⟨j, _, rfl⟩ := List.mem_map.1 hx
  exact v_range _
theorem tab_C {w : World} {h g n m : Nat} {off : Nat → Nat} {T : Tb} (t : TAB w h g n m off T) (hn : n ≤ 9223372036854775807) (hm : m ≤ 9223372036854775807) : KM.C w (some ⟨h, 0, none⟩) n (tabl n m T) := by
  refine ⟨tabl_len n m T, hn, fun _ => ⟨_, rfl, fun j p hp => ?_⟩⟩
  obtain ⟨hj, rfl⟩ := tabl_get hp
  have hl := row_len m (T j)
  refine ⟨[.slice (some ⟨g, off j, none⟩) m m], rfl, ⟨some ⟨g, off j, none⟩, m, by rw [hl], by rw [hl]; exact Nat.le_refl _, (t.rc hj).to_C (by rw [hl]; exact hm)⟩, fun i u hu => ?_⟩
  have hi : i = 0 := by
    cases i with
    | zero => rfl
    | succ i => simp at hu
  subst hi
  cases hu
  show w.cell? ((⟨h, 0, none⟩ : Addr).add (j * 1 + 0)) = _
  rw [add_plain, Nat.mul_one, Nat.add_zero]
  exact t.hcell hj
theorem tab_V {w : World} {h g n m B : Nat} {off : Nat → Nat} {T : Tb} (t : TAB w h g n m off T) (hn : n ≤ 9223372036854775807) (hm : m ≤ 9223372036854775807) (Bh : B ≤ h) (Bg : B ≤ g) : Kd.V KM 38 w B (fun k_ => B ≤ k_) (.slice (some ⟨h, 0, none⟩) n n) (tabl n m T) := by
  have hl := tabl_len n m T
  have hf : Kd.F KM w (fun k_ => B ≤ k_) (some ⟨h, 0, none⟩) n (tabl n m T) := fun W' hW => tab_C (t.of_blocks (hW h Bh t.hlt) (hW g Bg t.glt)) hn hm
  have hv := Kd.V_mk (d := KM) (e := 38) (W := w) (base := B) (ok := fun k_ => B ≤ k_) (A := some ⟨h, 0, none⟩) (xs := tabl n m T) (c := n) (by rw [hl]; exact Nat.le_refl _) (by rw [hl]; exact hf)
  rw [hl] at hv
  exact hv
theorem gm_of {w : World} {A : Option Addr} {X : List (List Int)} (h : KM.C w A X.length X) (hb : badS X = 0) (hm : AMB X) : GM w A X.length (colS X) X := ⟨h, hb, rfl, rfl, mb_of hm⟩
/-- Mul. -/
def mulF (X Y : List (List Int)) : Option (List (List Int) × Int) := if AMB X ∧ AMB Y then (if mulE X Y = 0 then some (tabl X.length (colS Y) (mm Y.length (tb X) (tb Y)), 0) else some ([], mulE X Y)) else none
theorem mulE_zero {X Y : List (List Int)} (h : mulE X Y = 0) : badS X = 0 ∧ badS Y = 0 ∧ colS X = Y.length := by
  unfold mulE at h
  split at h
  · rename_i h1
    split at h
    · rename_i h2
      split at h
      · rename_i h3
        exact ⟨h1, h2, h3⟩
      · cases h
    · rename_i h2
      exact absurd h h2
  · rename_i h1
    exact absurd h h1
theorem mul_calls (A0 : Option Addr) (c0 : Nat) (l0 : List (List Int)) (A1 : Option Addr) (c1 : Nat) (l1 : List (List Int)) (r1 : List (List Int)) (r2 : Int) (w : World) (hr0 : KM.C w A0 l0.length l0) (hc0 : l0.length ≤ c0) (hr1 : KM.C w A1 l1.length l1) (hc1 : l1.length ≤ c1) (h : mulF l0 l1 = some (r1, r2)) :
    Calls Try.prog 13 #[.slice A0 l0.length c0, .slice A1 l1.length c1] w fun e w' => ∃ v0_ : Value, e = .returned (.tuple #[v0_, .int .i64 r2]) ∧ Kd.V KM 38 w' w.heap.size (fun k_ => (w.heap.size ≤ k_)) v0_ r1 ∧ Below w.heap.size w w' := by
  unfold mulF at h
  split at h
  · rename_i hb
    split at h
    · rename_i h0
      obtain ⟨b0, b1, hc⟩ := mulE_zero h0
      cases h
      have g0 := gm_of hr0 b0 hb.1
      rw [hc] at g0
      have g1 := gm_of hr1 b1 hb.2
      refine (mul_ok A0 A1 c0 c1 l0.length l1.length (colS l1) l0 l1 w g0 hc0 g1 hc1).mono fun e w' hh => ?_
      obtain ⟨h, g, he, hh, hg, ht, hbl⟩ := hh
      exact ⟨_, he, tab_V ht (by have := g0.n_le; omega) (by have := g1.p_le; omega) hh hg, hbl⟩
    · rename_i h0
      cases h
      refine (mul_no A0 A1 c0 c1 l0.length l1.length l0 l1 w hr0 hc0 hr1 hc1 _ rfl h0).mono fun e w' hh => ?_
      exact ⟨_, hh.1, Kd.V_nil _ _ _ _ _, hh.2⟩
  · cases h
/-- One. -/
def oneF (n : Int) : Option (List (List Int) × Int) := if n < 0 then some ([], 1) else if 32 < n then some ([], 2) else some (tabl n.toNat n.toNat I, 0)
theorem one_calls (a0 : Int) (r1 : List (List Int)) (r2 : Int) (w : World) (h : oneF a0 = some (r1, r2)) :
    Calls Try.prog 18 #[.int .i64 a0] w fun e w' => ∃ v0_ : Value, e = .returned (.tuple #[v0_, .int .i64 r2]) ∧ Kd.V KM 38 w' w.heap.size (fun k_ => (w.heap.size ≤ k_)) v0_ r1 ∧ Below w.heap.size w w' := by
  unfold oneF at h
  split at h
  · rename_i h1
    cases h
    exact (one_no a0 1 (.inl ⟨h1, rfl⟩) w).mono fun e w' hh => ⟨_, hh.1, Kd.V_nil _ _ _ _ _, hh.2⟩
  · split at h
    · rename_i h1
      cases h
      exact (one_no a0 2 (.inr ⟨h1, rfl⟩) w).mono fun e w' hh => ⟨_, hh.1, Kd.V_nil _ _ _ _ _, hh.2⟩
    · rename_i h1 h2
      cases h
      obtain ⟨n, rfl⟩ : ∃ n : Nat, a0 = n := ⟨a0.toNat, by omega⟩
      rw [Int.toNat_natCast]
      refine (one_ok n (by omega) w).mono fun e w' hh => ?_
      obtain ⟨h, g, he, hh, hg, ht, hbl⟩ := hh
      exact ⟨_, he, tab_V ht (by omega) (by omega) hh hg, hbl⟩
/-- Turned. -/
def turnF (X : List (List Int)) : Option (List (List Int) × Int) := if AMB X then (if turnE X = 0 then some (tabl (colS X) X.length (fun a b => tb X b a), 0) else some ([], turnE X)) else none
theorem turnE_zero {X : List (List Int)} (h : turnE X = 0) : badS X = 0 ∧ colS X ≤ 32 := by
  unfold turnE at h
  split at h
  · rename_i h1
    split at h
    · cases h
    · exact ⟨h1, by omega⟩
  · rename_i h1
    exact absurd h h1
theorem turn_calls (A0 : Option Addr) (c0 : Nat) (l0 : List (List Int)) (r1 : List (List Int)) (r2 : Int) (w : World) (hr0 : KM.C w A0 l0.length l0) (hc0 : l0.length ≤ c0) (h : turnF l0 = some (r1, r2)) :
    Calls Try.prog 22 #[.slice A0 l0.length c0] w fun e w' => ∃ v0_ : Value, e = .returned (.tuple #[v0_, .int .i64 r2]) ∧ Kd.V KM 38 w' w.heap.size (fun k_ => (w.heap.size ≤ k_)) v0_ r1 ∧ Below w.heap.size w w' := by
  unfold turnF at h
  split at h
  · rename_i hb
    split at h
    · rename_i h0
      obtain ⟨b0, hc⟩ := turnE_zero h0
      cases h
      have g0 := gm_of hr0 b0 hb
      refine (turned_ok A0 c0 l0.length (colS l0) l0 w g0 hc0 hc).mono fun e w' hh => ?_
      obtain ⟨h, g, he, hh, hg, ht, hbl⟩ := hh
      exact ⟨_, he, tab_V ht (by omega) (by have := g0.n_le; omega) hh hg, hbl⟩
    · rename_i h0
      cases h
      exact (turned_no A0 c0 l0.length l0 w hr0 hc0 _ rfl h0).mono fun e w' hh => ⟨_, hh.1, Kd.V_nil _ _ _ _ _, hh.2⟩
  · cases h
/-- Rank. -/
def rankF (X : List (List Int)) : Option (Int × Int) := if AMB X then (if badS X = 0 then some (((stps X.length (tb X) (colS X)).2 : Nat), 0) else some (0, badS X)) else none
theorem rank_calls (A0 : Option Addr) (c0 : Nat) (l0 : List (List Int)) (r1 : Int) (r2 : Int) (w : World) (hr0 : KM.C w A0 l0.length l0) (hc0 : l0.length ≤ c0) (h : rankF l0 = some (r1, r2)) :
    Calls Try.prog 21 #[.slice A0 l0.length c0] w fun e w' => e = .returned (.tuple #[.int .i64 r1, .int .i64 r2]) ∧ Below w.heap.size w w' := by
  unfold rankF at h
  split at h
  · rename_i hb
    split at h
    · rename_i h0
      cases h
      exact rank_ok A0 c0 l0.length (colS l0) l0 w (gm_of hr0 h0 hb) hc0
    · rename_i h0
      cases h
      exact rank_no A0 c0 l0.length l0 w hr0 _ rfl h0
  · cases h
/-- Inverse. -/
def minvF (X : List (List Int)) : Option (List (List Int) × Int) := if AMB X then (if invE X = 0 then (if (stps X.length (wide X.length (tb X)) X.length).2 < X.length then some ([], 20) else some (tabl X.length X.length (fun a b => (stps X.length (wide X.length (tb X)) X.length).1 a (X.length + b)), 0)) else some ([], invE X)) else none
theorem invE_zero {X : List (List Int)} (h : invE X = 0) : badS X = 0 ∧ X.length = colS X := by
  unfold invE at h
  split at h
  · rename_i h1
    split at h
    · rename_i h2
      exact ⟨h1, h2⟩
    · cases h
  · rename_i h1
    exact absurd h h1
theorem minv_calls (A0 : Option Addr) (c0 : Nat) (l0 : List (List Int)) (r1 : List (List Int)) (r2 : Int) (w : World) (hr0 : KM.C w A0 l0.length l0) (hc0 : l0.length ≤ c0) (h : minvF l0 = some (r1, r2)) :
    Calls Try.prog 20 #[.slice A0 l0.length c0] w fun e w' => ∃ v0_ : Value, e = .returned (.tuple #[v0_, .int .i64 r2]) ∧ Kd.V KM 38 w' w.heap.size (fun k_ => (w.heap.size ≤ k_)) v0_ r1 ∧ Below w.heap.size w w' := by
  unfold minvF at h
  split at h
  · rename_i hb
    split at h
    · rename_i h0
      obtain ⟨b0, hc⟩ := invE_zero h0
      have g0 := gm_of hr0 b0 hb
      rw [← hc] at g0
      refine (inverse_ok A0 c0 l0.length l0 w g0 hc0 _ _ rfl).mono fun e w' hh => ?_
      obtain ⟨hh, hbl⟩ := hh
      split at h
      · rename_i h1
        cases h
        rcases hh with ⟨_, he⟩ | ⟨he, _⟩
        · exact ⟨_, he, Kd.V_nil _ _ _ _ _, hbl⟩
        · omega
      · rename_i h1
        cases h
        rcases hh with ⟨he, _⟩ | ⟨_, h, g, he, hh, hg, ht⟩
        · exact absurd he h1
        · exact ⟨_, he, tab_V ht (by have := g0.n_le; omega) (by have := g0.n_le; omega) hh hg, hbl⟩
    · rename_i h0
      cases h
      exact (inverse_no A0 c0 l0.length l0 w hr0 hc0 _ rfl h0).mono fun e w' hh => ⟨_, hh.1, Kd.V_nil _ _ _ _ _, hh.2⟩
  · cases h
end Go.Proofs.Ytjkmaobfpgfdnaa.MPlug
end

/- The package matrix in one word each: its laws, with no program in sight. -/
section
namespace Go.Proofs.Ytjkmaobfpgfdnaa.MPure
open Go.Proofs.Ytjkmaobfpgfdnaa Go.RowKit Go.Proofs.Ytjkmaobfpgfdnaa.Byt Go.Proofs.Ytjkmaobfpgfdnaa.Lin Go.Proofs.Ytjkmaobfpgfdnaa.Lin.G Go.Proofs.Ytjkmaobfpgfdnaa.Elim Go.Proofs.Ytjkmaobfpgfdnaa.Tab Go.Proofs.Ytjkmaobfpgfdnaa.MBad Go.Proofs.Ytjkmaobfpgfdnaa.MMul Go.Proofs.Ytjkmaobfpgfdnaa.MTurned Go.Proofs.Ytjkmaobfpgfdnaa.MInverse Go.Proofs.Ytjkmaobfpgfdnaa.MPlug
set_option linter.unusedVariables false
set_option linter.unusedSimpArgs false
theorem rw_tabl {n m : Nat} {T : Tb} {i : Nat} (h : i < n) : rw_ (tabl n m T) i = row m (T i) := by
  unfold rw_ tabl
  rw [List.getD_eq_getElem?_getD, List.getElem?_map, List.getElem?_range h]
  rfl
theorem rw_out {X : List (List Int)} {i : Nat} (h : X.length ≤ i) : rw_ X i = [] := by
  unfold rw_
  rw [List.getD_eq_getElem?_getD, List.getElem?_eq_none h]; rfl
theorem bn_out {l : List Int} {j : Nat} (h : l.length ≤ j) : bn l j = 0 := by
  rw [bn_getD, List.getD_eq_getElem?_getD, List.getElem?_eq_none h]; rfl
theorem tb_tabl {n m : Nat} {T : Tb} {i j : Nat} (hi : i < n) (hj : j < m) : tb (tabl n m T) i j = T i j := by
  unfold tb
  rw [rw_tabl hi, row_bn hj, gv_val]
theorem gv_zero : gv 0 = 0 := rfl
theorem tb_out {X : List (List Int)} {i : Nat} (h : X.length ≤ i) (j : Nat) : tb X i j = 0 := by
  unfold tb
  rw [rw_out h, bn_out (by simp), gv_zero]
theorem colS_zero {X : List (List Int)} (h : X.length = 0) : colS X = 0 := if_pos h
theorem colS_tabl {n m : Nat} {T : Tb} (h : 0 < n) : colS (tabl n m T) = m := by
  unfold colS
  rw [if_neg (by rw [tabl_len]; omega), rw_tabl h, row_len]
theorem badS_tabl {n m : Nat} {T : Tb} (hn : n ≤ 32) (hm : m ≤ 131072) : badS (tabl n m T) = 0 := by
  unfold badS
  rw [tabl_len, if_neg (by omega)]
  have h1 : (List.range n).any (fun i => decide (131072 < (rw_ (tabl n m T) i).length)) = false := by
    rw [List.any_eq_false]
    intro i hi
    rw [rw_tabl (List.mem_range.1 hi), row_len]
    simp; omega
  have h2 : (List.range n).any (fun i => decide ((rw_ (tabl n m T) i).length ≠ (rw_ (tabl n m T) 0).length)) = false := by
    rw [List.any_eq_false]
    intro i hi
    have hi := List.mem_range.1 hi
    rw [rw_tabl hi, rw_tabl (show 0 < n by omega), row_len, row_len]
    simp
  rw [h1, h2]
  rfl
theorem tabl_tb {X : List (List Int)} (hA : AMB X) (hb : badS X = 0) : X = tabl X.length (colS X) (tb X) := by
  obtain ⟨_, hr, _⟩ := bad_ok hb
  refine List.ext_getElem (by rw [tabl_len]) fun i h1 h2 => ?_
  have e1 : X[i] = rw_ X i := by unfold rw_; rw [List.getD_eq_getElem?_getD, List.getElem?_eq_getElem h1]; rfl
  have e2 : (tabl X.length (colS X) (tb X))[i] = row (colS X) (tb X i) := by simp [tabl]
  rw [e1, e2, ← hr i h1]
  exact tb_row (mb_of hA) h1
theorem X_nil {X : List (List Int)} (h : X.length = 0) : X = [] := List.length_eq_zero_iff.1 h
/-! ### Turned -/
theorem turn_one {X : List (List Int)} (hA : AMB X) (h : turnE X = 0) : turnF X = some (tabl (colS X) X.length (fun a b => tb X b a), 0) := by
  unfold turnF
  rw [if_pos hA, if_pos h]
theorem turn_no {X : List (List Int)} (hA : AMB X) (h : turnE X ≠ 0) : turnF X = some ([], turnE X) := by
  unfold turnF
  rw [if_pos hA, if_neg h]
theorem rank_one {X : List (List Int)} (hA : AMB X) (h : badS X = 0) : rankF X = some ((((stps X.length (tb X) (colS X)).2 : Nat) : Int), 0) := by
  unfold rankF
  rw [if_pos hA, if_pos h]
theorem turn_two {X : List (List Int)} (hA : AMB X) (h : turnE X = 0) (h0 : colS X ≠ 0) : turnF (tabl (colS X) X.length (fun a b => tb X b a)) = some (X, 0) := by
  obtain ⟨hb, hc⟩ := turnE_zero h
  obtain ⟨hn, _, _⟩ := bad_ok hb
  have c2 : colS (tabl (colS X) X.length (fun a b => tb X b a)) = X.length := colS_tabl (by omega)
  have b2 : badS (tabl (colS X) X.length (fun a b => tb X b a)) = 0 := badS_tabl hc (by omega)
  rw [turn_one (amb_tabl _ _ _) (by unfold turnE; rw [if_pos b2, c2, if_neg (by omega)]), c2, tabl_len]
  congr 2
  refine Eq.trans ?_ (tabl_tb hA hb).symm
  exact tabl_ext fun i j hi hj => tb_tabl hj hi
theorem turn_rank {X : List (List Int)} (hA : AMB X) (h : turnE X = 0) (h0 : colS X ≠ 0) : rankF (tabl (colS X) X.length (fun a b => tb X b a)) = rankF X := by
  obtain ⟨hb, hc⟩ := turnE_zero h
  obtain ⟨hn, _, _⟩ := bad_ok hb
  have c2 : colS (tabl (colS X) X.length (fun a b => tb X b a)) = X.length := colS_tabl (by omega)
  have b2 : badS (tabl (colS X) X.length (fun a b => tb X b a)) = 0 := badS_tabl hc (by omega)
  rw [rank_one (amb_tabl _ _ _) b2, rank_one hA hb, c2, tabl_len]
  have e := (stps_congr (m := colS X) (A := tb (tabl (colS X) X.length (fun a b => tb X b a))) (B := fun a b => tb X b a) X.length (fun i t ht => by
    by_cases hi : i < colS X
    · exact tb_tabl hi ht
    · rw [tb_out (by rw [tabl_len]; omega)]
      show (0 : G) = tb X t i
      unfold tb
      rw [bn_out (by rw [(bad_ok hb).2.1 t ht]; omega), gv_zero]) X.length (Nat.le_refl _)).1
  rw [e, rank_turned (m := X.length) (c := colS X) (tb X)]
/-! ### Mul -/
theorem mul_one' {X Y : List (List Int)} (hX : AMB X) (hY : AMB Y) (h : mulE X Y = 0) : mulF X Y = some (tabl X.length (colS Y) (mm Y.length (tb X) (tb Y)), 0) := by
  unfold mulF
  rw [if_pos ⟨hX, hY⟩, if_pos h]
theorem mul_two {X Y : List (List Int)} (hX : AMB X) (hY : AMB Y) (h : mulE X Y ≠ 0) : mulF X Y = some ([], mulE X Y) := by
  unfold mulF
  rw [if_pos ⟨hX, hY⟩, if_neg h]
theorem mulE_of {X Y : List (List Int)} (hX : badS X = 0) (hY : badS Y = 0) (h : colS X = Y.length) : mulE X Y = 0 := by
  unfold mulE
  rw [if_pos hX, if_pos hY, if_pos h]
/-- Both ways of brackets are taken, and come to one if there is anything in the middle. -/
theorem chains {A B C : List (List Int)} (hA : AMB A) (hB : AMB B) (hC : AMB C) (h1 : mulE A B = 0) (h2 : mulE B C = 0) :
    mulE (tabl A.length (colS B) (mm B.length (tb A) (tb B))) C = 0 ∧ mulE A (tabl B.length (colS C) (mm C.length (tb B) (tb C))) = 0 ∧
    (B.length ≠ 0 → A.length ≠ 0 → tabl (tabl A.length (colS B) (mm B.length (tb A) (tb B))).length (colS C) (mm C.length (tb (tabl A.length (colS B) (mm B.length (tb A) (tb B)))) (tb C)) =
      tabl A.length (colS (tabl B.length (colS C) (mm C.length (tb B) (tb C)))) (mm (tabl B.length (colS C) (mm C.length (tb B) (tb C))).length (tb A) (tb (tabl B.length (colS C) (mm C.length (tb B) (tb C)))))) := by
  obtain ⟨bA, bB, cA⟩ := mulE_zero h1
  obtain ⟨_, bC, cB⟩ := mulE_zero h2
  obtain ⟨nA, _, kA⟩ := bad_ok bA
  obtain ⟨nB, _, kB⟩ := bad_ok bB
  obtain ⟨nC, _, kC⟩ := bad_ok bC
  refine ⟨mulE_of (badS_tabl nA kB) bC ?_, mulE_of bA (badS_tabl nB kC) (by rw [tabl_len]; exact cA), fun b0 a0 => ?_⟩
  · by_cases a0 : A.length = 0
    · have : B.length = 0 := by rw [← cA]; exact colS_zero a0
      have hc : C.length = 0 := by rw [← cB]; exact colS_zero this
      rw [colS_zero (by rw [tabl_len]; exact a0), hc]
    · rw [colS_tabl (by omega), cB]
  · rw [tabl_len, tabl_len, colS_tabl (by omega)]
    refine tabl_ext fun i j hi hj => ?_
    have e1 : mm C.length (tb (tabl A.length (colS B) (mm B.length (tb A) (tb B)))) (tb C) i j = mm C.length (mm B.length (tb A) (tb B)) (tb C) i j := mm_congr i j (fun t ht => tb_tabl hi (by rw [cB]; exact ht)) (fun _ _ => rfl)
    have e2 : mm B.length (tb A) (tb (tabl B.length (colS C) (mm C.length (tb B) (tb C)))) i j = mm B.length (tb A) (mm C.length (tb B) (tb C)) i j := mm_congr i j (fun _ _ => rfl) (fun t ht => tb_tabl ht hj)
    rw [e1, e2]
    exact mm_assoc _ _ _ _ _ _ _
/-! ### Inverse -/
theorem badS_cases (X : List (List Int)) : badS X = 0 ∨ badS X = 2 ∨ badS X = 6 := by
  unfold badS
  split
  · exact .inr (.inl rfl)
  · split
    · exact .inr (.inl rfl)
    · split
      · exact .inr (.inr rfl)
      · exact .inl rfl
theorem invE_cases (X : List (List Int)) : invE X = 0 ∨ invE X = 2 ∨ invE X = 6 := by
  unfold invE
  split
  · split
    · exact .inl rfl
    · exact .inr (.inr rfl)
  · exact badS_cases X
theorem minv_no {X : List (List Int)} (hA : AMB X) (h : invE X ≠ 0) : minvF X = some ([], invE X) := by
  unfold minvF
  rw [if_pos hA, if_neg h]
theorem minv_sing {X : List (List Int)} (hA : AMB X) (h : invE X = 0) (hs : (stps X.length (wide X.length (tb X)) X.length).2 < X.length) : minvF X = some ([], 20) := by
  unfold minvF
  rw [if_pos hA, if_pos h, if_pos hs]
theorem minv_one {X : List (List Int)} (hA : AMB X) (h : invE X = 0) (hs : (stps X.length (wide X.length (tb X)) X.length).2 = X.length) : minvF X = some (tabl X.length X.length (fun a b => (stps X.length (wide X.length (tb X)) X.length).1 a (X.length + b)), 0) := by
  unfold minvF
  rw [if_pos hA, if_pos h, if_neg (by omega)]
theorem rank_wide {X : List (List Int)} (h : invE X = 0) : (stps X.length (wide X.length (tb X)) X.length).2 = (stps X.length (tb X) (colS X)).2 := by
  obtain ⟨_, hc⟩ := invE_zero h
  rw [← hc]
  exact (stps_congr X.length (fun i t ht => wide_l (tb X) i ht) X.length (Nat.le_refl _)).1
theorem colS_sq (n : Nat) (T : Tb) : colS (tabl n n T) = n := by
  by_cases h : n = 0
  · rw [colS_zero (by rw [tabl_len]; exact h), h]
  · exact colS_tabl (by omega)
theorem one_at {n : Nat} (h : n ≤ 32) : oneF (n : Int) = some (tabl n n I, 0) := by
  unfold oneF
  rw [if_neg (by omega), if_neg (by omega), Int.toNat_natCast]
theorem back {X : List (List Int)} (hA : AMB X) (h : invE X = 0) (hs : (stps X.length (wide X.length (tb X)) X.length).2 = X.length) :
    ∃ Y, minvF X = some (Y, 0) ∧ Y.length = X.length ∧ mulF X Y = some (tabl X.length X.length I, 0) ∧ mulF Y X = some (tabl X.length X.length I, 0) ∧ minvF Y = some (X, 0) := by
  obtain ⟨hb, hc⟩ := invE_zero h
  obtain ⟨hn, _, _⟩ := bad_ok hb
  obtain ⟨n, hnn⟩ : ∃ n, n = X.length := ⟨_, rfl⟩
  have h1 := minv_one hA h hs
  rw [← hnn] at hs hn hc h1 ⊢
  obtain ⟨i1, i2⟩ := inverse_right hs
  obtain ⟨R, hR⟩ : ∃ R, R = fun a b => (stps n (wide n (tb X)) n).1 a (n + b) := ⟨_, rfl⟩
  rw [← hR] at h1 i1 i2
  have bY : badS (tabl n n R) = 0 := badS_tabl hn (by omega)
  have cY := colS_sq n R
  have aY := amb_tabl n n R
  have j1 : ∀ i t, i < n → t < n → mm n (tb (tabl n n R)) (tb X) i t = I i t := fun i t hi ht => (mm_congr i t (fun s hs => tb_tabl hi hs) (fun _ _ => rfl)).trans (i1 i t hi ht)
  have j2 : ∀ i t, i < n → t < n → mm n (tb X) (tb (tabl n n R)) i t = I i t := fun i t hi ht => (mm_congr i t (fun _ _ => rfl) (fun s hs => tb_tabl hs ht)).trans (i2 i t hi ht)
  have eY : invE (tabl n n R) = 0 := by unfold invE; rw [if_pos bY, tabl_len, cY, if_pos rfl]
  have sY := steps_of_inverse j1
  refine ⟨tabl n n R, h1, tabl_len _ _ _, ?_, ?_, ?_⟩
  · rw [mul_one' hA aY (mulE_of hb bY (by rw [tabl_len]; exact hc.symm)), tabl_len, cY, ← hnn]
    congr 2
    exact tabl_ext j2
  · rw [mul_one' aY hA (mulE_of bY hb (by rw [cY, hnn])), tabl_len, ← hc, ← hnn]
    congr 2
    exact tabl_ext j1
  · have hm := minv_one aY eY (by rw [tabl_len]; exact sY)
    rw [tabl_len] at hm
    rw [hm]
    congr 2
    refine Eq.trans ?_ (tabl_tb hA hb).symm
    rw [← hc, ← hnn]
    exact tabl_ext (inverse_unique j1 (inverse_right sY).1)
end Go.Proofs.Ytjkmaobfpgfdnaa.MPure
end
