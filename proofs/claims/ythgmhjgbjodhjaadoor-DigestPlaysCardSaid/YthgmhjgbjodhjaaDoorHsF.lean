/- A digest written to and twinned: what it holds besides lies in new memory. -/
import Derived.Test.YthgmhjgbjodhjaaDoorHs
namespace Go.Proofs.YthgmhjgbjodhjaaDoor.HsF
open Go.Proofs.YthgmhjgbjodhjaaDoor Go.RowKit Go.Proofs.YthgmhjgbjodhjaaDoorW.PrintWords Go.Proofs.YthgmhjgbjodhjaaDoorW.PrintLast Go.Proofs.YthgmhjgbjodhjaaDoorW.PrintMore Go.Proofs.YthgmhjgbjodhjaaDoor.Sha Go.Proofs.YthgmhjgbjodhjaaDoor.Sha2 Go.Proofs.YthgmhjgbjodhjaaDoor.Sha3 Go.Proofs.YthgmhjgbjodhjaaDoor.Own Go.Proofs.YthgmhjgbjodhjaaDoor.Sha4 Go.Proofs.YthgmhjgbjodhjaaDoor.Sha5 Go.Proofs.YthgmhjgbjodhjaaDoor.Sha7 Go.Proofs.YthgmhjgbjodhjaaDoor.ShaPure Go.Proofs.YthgmhjgbjodhjaaDoor.Sha8 Go.Proofs.YthgmhjgbjodhjaaDoor.Hs
set_option linter.unusedVariables false
set_option linter.unusedSimpArgs false
def HF (w : World) (g : Nat) (st rest : List Int) (n F : Nat) : Prop := ∃ A c, HB w g st (.slice A rest.length c) (n : Int) ∧ rest.length ≤ c ∧ RC w A rest ∧ Off g A ∧ ∀ a, A = some a → F ≤ a.block
set_option maxHeartbeats 8000000 in
set_option maxRecDepth 100000 in
theorem write_anyF (g : Nat) (st rest l : List Int) (n : Nat) (B : Option Addr) (cb : Nat) (W : World) (hst : st.length = 8) (hr : Bytes rest) (hl : Bytes l) (hrl : rest.length ≤ 1000) (hll : l.length ≤ 10000000) (hn : n ≤ 1000000000000)
    (hg : 0 < g) (hK : KB W) (hh : H W g st rest n) (hB : RC W B l) (hOB : l ≠ [] → Off g B) (hcb : l.length ≤ cb) :
    Calls Tryd.prog 15 #[.pointer (some ⟨g, 0, none⟩), .slice B l.length cb] W fun e w' => e = .returned (.tuple #[]) ∧ HF w' g (eaten st (rest ++ l)) (left (rest ++ l)) (n + l.length) W.heap.size ∧ Wrote g W w' := by
  obtain ⟨A, c, hh, hrc, hA, hOA⟩ := hh
  have HST := Lib.hid hst
  have HR := Lib.hid hr
  have HL := Lib.hid hl
  have HK := Lib.hid hK
  have HH := Lib.hid hh
  have HA := Lib.hid hA
  have HOA := Lib.hid hOA
  have HBB := Lib.hid hB
  have HOB := Lib.hid hOB
  have xn := hb_n hh hst
  have xr := hb_rest hh hst
  have xf := blk_frozen hh 9
  have hgl := blk_lt hh
  clear hst hr hl hK hh hA hOA hB hOB
  go_enter Tryd.func15, Tryd.ntmps15
  go_wp2
  have hw1 : Wrote g W (W.setCell ⟨g, 9, none⟩ (.int .i64 ((n : Int) + (l.length : Int)))) := wrote_setCell (Wrote.refl g W) 9 _
  have h1 := hb_set_n HH.out HST.out ((n : Int) + (l.length : Int))
  generalize W.setCell ⟨g, 9, none⟩ (.int .i64 ((n : Int) + (l.length : Int))) = W1 at hw1 h1 ⊢
  have yr := hb_rest h1 HST.out
  have H1 := Lib.hid h1
  have HA1 := Lib.hid (HA.out.wrote HOA.out hw1)
  have HB1 := Lib.hid (HBB.out.wrote' HOB.out hw1)
  have HW1 := Lib.hid hw1
  clear xn xr xf hw1 h1
  go_still_tail 16, (by kernel_rfl)
  change wpList _ _ _ _ _ W1.drew
  have HA2 := Lib.hid (HA1.out.below (below_drew1 (Below.refl _ _)))
  have HB2 := Lib.hid (HB1.out.below (below_drew1 (Below.refl _ _)))
  have HW2 := Lib.hid (HW1.out.drew)
  have H2 := Lib.hid (show HB W1.drew g st _ _ from H1.out)
  clear HA1 HB1 HW1 H1 yr
  generalize W1.drew = W2 at HA2 HB2 HW2 H2 ⊢
  go_wp2_with ((with_reducible refine gate_builtin (b := .append) (xs := #[.tmp 30, .tmp 31]) rfl ?_); refine wpList_append_full rfl (.tmp 30) (.tmp 31) rfl A B cb rest l rfl rfl HA2.out HB2.out (by omega) ?_; intro A' c' w2 hrc2 hc2 hb2 ho2; have HC2 := Lib.hid hrc2; have HBe := Lib.hid hb2; have HO2 := Lib.hid ho2; clear hrc2 hb2 ho2)
  obtain ⟨all, hall⟩ : ∃ all : List Int, all = rest ++ l := ⟨_, rfl⟩
  obtain ⟨N, hN⟩ : ∃ N : Nat, N = rest.length + l.length := ⟨_, rfl⟩
  have hNl : all.length = N := by rw [hall, hN, List.length_append]
  have HNL := Lib.hid hNl
  have HN := Lib.hid hN
  have hN1 : N ≤ 10001000 := by omega
  have HOff : Off g A' := by
    rcases HO2.out with e | e
    · rw [e]; exact HOA.out
    · rw [e]; intro a ha; cases ha; have := HW2.out.size; show W2.heap.size ≠ g; omega
  have hh2 : HB w2 g st (.slice A rest.length c) ((n : Int) + (l.length : Int)) := (HBe.out.block g (Nat.lt_of_lt_of_le hgl HW2.out.size)).trans H2.out
  have H3 := Lib.hid hh2
  have HW3 := Lib.hid (HW2.out.trans (Wrote.of_below (g := g) HBe.out))
  have hrc3 := HC2.out
  have hbys := bytes_append HR.out HL.out
  rw [← hall] at hrc3 hbys
  have HC3 := Lib.hid hrc3
  have HBY := Lib.hid hbys
  have HALL := Lib.hid hall
  have HOFF := Lib.hid HOff
  have ES : Aside0 (eaten st all = eats st all (N / 64) ∧ left all = all.drop (64 * (N / 64))) := ⟨by unfold eaten left; rw [hNl]; exact ⟨rfl, rfl⟩⟩
  clear hh2 hrc3 hbys HOff HC2 H2 HW2 HBe HA2 HB2 HO2 hall hNl
  rw [← hN] at hc2 ⊢
  clear hN
  go_loopw [4] (fun v4 wr => ∃ (j : Nat) (Aj : Option Addr) (m cj : Nat), m + 64 * j = N ∧ m ≤ cj ∧ v4 = .slice Aj m cj ∧ RC wr Aj (all.drop (64 * j)) ∧ Off g Aj ∧ HB wr g (eats st all j) (.slice A rest.length c) ((n : Int) + (l.length : Int)) ∧ Wrote g W wr) (fun v4 _ => slen v4)
  case atStart => exact ⟨0, A', N, c', by omega, hc2, rfl, HC3.out, HOFF.out, H3.out, HW3.out⟩
  case round =>
    obtain ⟨j, Aj, m, cj, hm, hmc, rfl, hrc, hoff, hhb, hw⟩ := hrel
    have HM := Lib.hid hm
    have HRC := Lib.hid hrc
    have HOJ := Lib.hid hoff
    have HHB := Lib.hid hhb
    have HWJ := Lib.hid hw
    have hdl : (all.drop (64 * j)).length = m := by rw [List.length_drop, HNL.out]; omega
    by_cases hlt : 64 ≤ m
    · obtain ⟨ad, hAj, _, _⟩ := hrc (by intro e; rw [e] at hdl; simp at hdl; omega)
      subst hAj
      have htl : ((all.drop (64 * j)).take 64).length = 64 := by rw [List.length_take, hdl]; omega
      have HT := Lib.hid htl
      have HCT := Lib.hid ((hrc.take 64).to_C (by rw [htl]; decide))
      have HBT := Lib.hid (bytes_take (bytes_drop HBY.out (64 * j)) 64)
      have HEL := Lib.hid (eats_len all HST.out j)
      have hm64 : ¬ m < 64 := by omega
      have hcj : 64 ≤ cj := by omega
      clear hm hrc hoff hhb hw hdl htl
      by_cases hc64 : cj = 64
      · subst hc64
        have HM64 := Lib.hid (show m = 64 by omega)
        clear hcj
        go_wp2_with (first
          | (go_at_call 21; (with_reducible refine (words_any _ _ ((all.drop (64 * j)).take 64) _ HT.out HCT.out (by rw [HT.out]; omega) HBT.out).mono ?_); rintro e w4 ⟨rfl, hb4⟩; have HBL := Lib.hid hb4; clear hb4; have HHB4 := Lib.hid (show HB w4 g _ _ _ from (HBL.out.block g (Nat.lt_of_lt_of_le hgl HWJ.out.size)).trans HHB.out); have HWJ4 := Lib.hid (HWJ.out.trans (Wrote.of_below (g := g) HBL.out)); have HRC4 := Lib.hid (HRC.out.below HBL.out))
          | (go_at_call 20; (with_reducible refine (take_any g _ _ _ _ _ HEL.out (wds_len _ 64) hg (HK.out.wrote HWJ4.out hg) HHB4.out).mono ?_); rintro e w5 ⟨rfl, hh5, hw5⟩; have HHB5 := Lib.hid hh5; have HW5 := Lib.hid (HWJ4.out.trans hw5); have HRC5 := Lib.hid (HRC4.out.wrote HOJ.out hw5); clear hh5 hw5))
        go_roundw
        case rel =>
          refine ⟨j + 1, some ad, 0, 0, by have := HM.out; have := HM64.out; omega, by omega, rfl, ?_, HOJ.out, HHB5.out, HW5.out⟩
          have e : all.drop (64 * (j + 1)) = [] := List.drop_eq_nil_of_le (by have := HM.out; have := HNL.out; have := HM64.out; omega)
          rw [e]; exact RC.nil _ _
        case measure => simp [slen]; omega
      · go_wp2_with (first
          | (go_at_call 21; (with_reducible refine (words_any _ _ ((all.drop (64 * j)).take 64) _ HT.out HCT.out (by rw [HT.out]; omega) HBT.out).mono ?_); rintro e w4 ⟨rfl, hb4⟩; have HBL := Lib.hid hb4; clear hb4; have HHB4 := Lib.hid (show HB w4 g _ _ _ from (HBL.out.block g (Nat.lt_of_lt_of_le hgl HWJ.out.size)).trans HHB.out); have HWJ4 := Lib.hid (HWJ.out.trans (Wrote.of_below (g := g) HBL.out)); have HRC4 := Lib.hid (HRC.out.below HBL.out))
          | (go_at_call 20; (with_reducible refine (take_any g _ _ _ _ _ HEL.out (wds_len _ 64) hg (HK.out.wrote HWJ4.out hg) HHB4.out).mono ?_); rintro e w5 ⟨rfl, hh5, hw5⟩; have HHB5 := Lib.hid hh5; have HW5 := Lib.hid (HWJ4.out.trans hw5); have HRC5 := Lib.hid (HRC4.out.wrote HOJ.out hw5); clear hh5 hw5))
        go_roundw
        case rel =>
          refine ⟨j + 1, some (ad.add 64), m - 64, cj - 64, by have := HM.out; omega, by omega, rfl, ?_, ?_, HHB5.out, HW5.out⟩
          · have := HRC5.out.drop 64
            rw [List.drop_drop] at this
            exact this
          · intro a ha; cases ha; rw [Sha3.add_block]; exact HOJ.out ad rfl
        case measure => simp [slen]; omega
    · have hm2 : ¬ 64 ≤ (m : Int) := by omega
      have hcl := clone_rc Aj cj (all.drop (64 * j)) wr hrc (by omega) (by omega)
      rw [hdl] at hcl
      have HCL := Lib.hid hcl
      have HDL := Lib.hid hdl
      clear hm hrc hoff hhb hw hdl hcl
      go_wp2_with (go_at_call 22; (with_reducible refine HCL.out.mono ?_); rintro e w7 ⟨A7, c7, rfl, hc7, hr7, hg7, hb7⟩; have HHB7 := Lib.hid (show HB w7 g _ _ _ from (hb7.block g (Nat.lt_of_lt_of_le hgl HWJ.out.size)).trans HHB.out); have HRC7 := Lib.hid hr7; have HW7 := Lib.hid (HWJ.out.trans (Wrote.of_below (g := g) hb7)); have HG7 := Lib.hid hg7; have x8 := hb_rest HHB7.out (eats_len all HST.out j); have f8 := blk_frozen HHB7.out 8; clear hr7 hg7 hb7)
      go_end0
      have hj : j = N / 64 := by have := HM.out; omega
      have hes := ES.out
      rw [← hj] at hes
      rw [← HALL.out, hes.1, hes.2]
      refine ⟨rfl, ⟨A7, c7, ?_, ?_, ?_, ?_, ?_⟩, ?_⟩
      · rw [HDL.out]; exact hb_set_rest HHB7.out (eats_len all HST.out j) _
      · rw [HDL.out]; exact hc7
      · exact HRC7.out.wrote (g := g) (fun a ha => by have := HG7.out a ha; have := HWJ.out.size; omega) (wrote_setCell (Wrote.refl g _) 8 _)
      · intro a ha; have := HG7.out a ha; have := HWJ.out.size; omega
      · intro a ha; have := HG7.out a ha; have := HWJ.out.size; omega
      · exact wrote_setCell HW7.out 8 _
set_option maxHeartbeats 4000000 in
set_option maxRecDepth 100000 in
theorem twin_anyF (g : Nat) (st rest : List Int) (n : Nat) (W : World) (hst : st.length = 8) (hrl : rest.length ≤ 1000) (hh : H W g st rest n) :
    Calls Tryd.prog 18 #[.pointer (some ⟨g, 0, none⟩)] W fun e w' => ∃ g', e = .returned (.pointer (some ⟨g', 0, none⟩)) ∧ W.heap.size ≤ g' ∧ HF w' g' st rest n W.heap.size ∧ Below W.heap.size W w' := by
  obtain ⟨A, c, hh, hrc, hA, hOA⟩ := hh
  obtain ⟨a0, a1, a2, a3, a4, a5, a6, a7, rfl⟩ := eight hst
  have HH := Lib.hid hh
  have HA := Lib.hid hA
  have hgl := blk_lt hh
  have H8 := Lib.hid (fun w (h : HB w g [a0, a1, a2, a3, a4, a5, a6, a7] (.slice A rest.length c) (n : Int)) => hb_eight h)
  clear hst hh hA hOA
  go_enter Tryd.func18, Tryd.ntmps18
  go_wp2
  obtain ⟨p0, p1, p2, p3, p4, p5, p6, p7, p8, p9⟩ := H8.out _ (show HB W.drew g [a0, a1, a2, a3, a4, a5, a6, a7] (.slice A rest.length c) (n : Int) from HH.out)
  refine start_ (n := 16) (S := fun w' => w'.cell? ⟨g, 0, none⟩ = some (.int .u32 a0) ∧ w'.cell? ⟨g, 1, none⟩ = some (.int .u32 a1) ∧ w'.cell? ⟨g, 2, none⟩ = some (.int .u32 a2) ∧ w'.cell? ⟨g, 3, none⟩ = some (.int .u32 a3) ∧ w'.cell? ⟨g, 4, none⟩ = some (.int .u32 a4) ∧ w'.cell? ⟨g, 5, none⟩ = some (.int .u32 a5) ∧ w'.cell? ⟨g, 6, none⟩ = some (.int .u32 a6) ∧ w'.cell? ⟨g, 7, none⟩ = some (.int .u32 a7) ∧ w'.cell? ⟨g, 8, none⟩ = some (.slice A rest.length c) ∧ w'.cell? ⟨g, 9, none⟩ = some (.int .i64 (n : Int))) (ds := []) #[false, false, false, false, false, false, false, false, false, false, false, false, false, false, false, false] (by kernel_rfl) rfl rfl ⟨p0, p1, p2, p3, p4, p5, p6, p7, p8, p9⟩ (fun hHeld => ?_)
  refine pure_ (i := 0) (N := some 5) (v := ?_) (a' := ?_) #[true, false, false, false, false, false, false, false, false, false, false, false, false, false, false, false] rfl rfl (by kernel_rfl) (fun _ _ _ h => h) (Or.inl ⟨by rfl, ?_⟩) ?_ ?_
  rotate_left
  · intro w'
    go_simp
    (first | (with_reducible rfl) | ((try simp only [*]); (with_reducible rfl)))
  rotate_left
  · simp only [Act.put, List.setIfInBounds_toArray, List.set_cons_zero, List.set_cons_succ, i64_w, i32_w]
    rfl
  refine pure_ (i := 1) (N := some 6) (v := ?_) (a' := ?_) #[true, true, false, false, false, false, false, false, false, false, false, false, false, false, false, false] rfl rfl (by kernel_rfl) (fun _ _ _ h => h) (Or.inl ⟨by rfl, ?_⟩) ?_ ?_
  rotate_left
  · intro w'
    go_simp
    (first | (with_reducible rfl) | ((try simp only [*]); (with_reducible rfl)))
  rotate_left
  · simp only [Act.put, List.setIfInBounds_toArray, List.set_cons_zero, List.set_cons_succ, i64_w, i32_w]
    rfl
  refine pure_ (i := 2) (N := some 7) (v := ?_) (a' := ?_) #[true, true, true, false, false, false, false, false, false, false, false, false, false, false, false, false] rfl rfl (by kernel_rfl) (fun _ _ _ h => h) (Or.inl ⟨by rfl, ?_⟩) ?_ ?_
  rotate_left
  · intro w'
    go_simp
    (first | (with_reducible rfl) | ((try simp only [*]); (with_reducible rfl)))
  rotate_left
  · simp only [Act.put, List.setIfInBounds_toArray, List.set_cons_zero, List.set_cons_succ, i64_w, i32_w]
    rfl
  refine pure_ (i := 4) (N := some 9) (v := ?_) (a' := ?_) #[true, true, true, false, true, false, false, false, false, false, false, false, false, false, false, false] rfl rfl (by kernel_rfl) (fun _ _ _ h => h) (Or.inl ⟨by rfl, ?_⟩) ?_ ?_
  rotate_left
  · intro w'
    go_simp
    (first | (with_reducible rfl) | ((try simp only [*]); (with_reducible rfl)))
  rotate_left
  · simp only [Act.put, List.setIfInBounds_toArray, List.set_cons_zero, List.set_cons_succ, i64_w, i32_w]
    rfl
  refine pure_ (i := 5) (N := some 10) (v := ?_) (a' := ?_) #[true, true, true, false, true, true, false, false, false, false, false, false, false, false, false, false] rfl rfl (by kernel_rfl) (fun _ _ _ h => h) (Or.inl ⟨by rfl, ?_⟩) ?_ ?_
  rotate_left
  · intro w'
    go_simp
    (first | (with_reducible rfl) | ((try simp only [*]); (with_reducible rfl)))
  rotate_left
  · simp only [Act.put, List.setIfInBounds_toArray, List.set_cons_zero, List.set_cons_succ, i64_w, i32_w]
    rfl
  refine pure_ (i := 6) (N := some 11) (v := ?_) (a' := ?_) #[true, true, true, false, true, true, true, false, false, false, false, false, false, false, false, false] rfl rfl (by kernel_rfl) (fun _ _ _ h => h) (Or.inl ⟨by rfl, ?_⟩) ?_ ?_
  rotate_left
  · intro w'
    go_simp
    (first | (with_reducible rfl) | ((try simp only [*]); (with_reducible rfl)))
  rotate_left
  · simp only [Act.put, List.setIfInBounds_toArray, List.set_cons_zero, List.set_cons_succ, i64_w, i32_w]
    rfl
  refine pure_ (i := 9) (N := some 14) (v := ?_) (a' := ?_) #[true, true, true, false, true, true, true, false, false, true, false, false, false, false, false, false] rfl rfl (by kernel_rfl) (fun _ _ _ h => h) (Or.inl ⟨by rfl, ?_⟩) ?_ ?_
  rotate_left
  · intro w'
    go_simp
    (first | (with_reducible rfl) | ((try simp only [*]); (with_reducible rfl)))
  rotate_left
  · simp only [Act.put, List.setIfInBounds_toArray, List.set_cons_zero, List.set_cons_succ, i64_w, i32_w]
    rfl
  refine pure_ (i := 10) (N := some 15) (v := ?_) (a' := ?_) #[true, true, true, false, true, true, true, false, false, true, true, false, false, false, false, false] rfl rfl (by kernel_rfl) (fun _ _ _ h => h) (Or.inl ⟨by rfl, ?_⟩) ?_ ?_
  rotate_left
  · intro w'
    go_simp
    (first | (with_reducible rfl) | ((try simp only [*]); (with_reducible rfl)))
  rotate_left
  · simp only [Act.put, List.setIfInBounds_toArray, List.set_cons_zero, List.set_cons_succ, i64_w, i32_w]
    rfl
  refine pure_ (i := 11) (N := some 16) (v := ?_) (a' := ?_) #[true, true, true, false, true, true, true, false, false, true, true, true, false, false, false, false] rfl rfl (by kernel_rfl) (fun _ _ _ h => h) (Or.inl ⟨by rfl, ?_⟩) ?_ ?_
  rotate_left
  · intro w'
    go_simp
    (first | (with_reducible rfl) | ((try simp only [*]); (with_reducible rfl)))
  rotate_left
  · simp only [Act.put, List.setIfInBounds_toArray, List.set_cons_zero, List.set_cons_succ, i64_w, i32_w]
    rfl
  refine take_ (i := 3) (N := some 8) (v := ?_) (a' := ?_) #[true, true, true, true, true, true, true, false, false, true, true, true, false, false, false, false] rfl rfl (by kernel_rfl) (fun _ _ _ h => h) (Or.inl ⟨by rfl, ?_⟩) hHeld ?_ ?_
  rotate_left
  · rintro w' ⟨s0, s1, s2, s3, s4, s5, s6, s7, s8, s9⟩
    go_simp
    (first | (with_reducible rfl) | ((try simp only [*]); (with_reducible rfl)))
  rotate_left
  · simp only [Act.put, List.setIfInBounds_toArray, List.set_cons_zero, List.set_cons_succ, i64_w, i32_w]
    rfl
  refine take_ (i := 7) (N := some 12) (v := ?_) (a' := ?_) #[true, true, true, true, true, true, true, true, false, true, true, true, false, false, false, false] rfl rfl (by kernel_rfl) (fun _ _ _ h => h) (Or.inl ⟨by rfl, ?_⟩) hHeld ?_ ?_
  rotate_left
  · rintro w' ⟨s0, s1, s2, s3, s4, s5, s6, s7, s8, s9⟩
    go_simp
    (first | (with_reducible rfl) | ((try simp only [*]); (with_reducible rfl)))
  rotate_left
  · simp only [Act.put, List.setIfInBounds_toArray, List.set_cons_zero, List.set_cons_succ, i64_w, i32_w]
    rfl
  refine take_ (i := 12) (N := some 17) (v := ?_) (a' := ?_) #[true, true, true, true, true, true, true, true, false, true, true, true, true, false, false, false] rfl rfl (by kernel_rfl) (fun _ _ _ h => h) (Or.inl ⟨by rfl, ?_⟩) hHeld ?_ ?_
  rotate_left
  · rintro w' ⟨s0, s1, s2, s3, s4, s5, s6, s7, s8, s9⟩
    go_simp
    (first | (with_reducible rfl) | ((try simp only [*]); (with_reducible rfl)))
  rotate_left
  · simp only [Act.put, List.setIfInBounds_toArray, List.set_cons_zero, List.set_cons_succ, i64_w, i32_w]
    rfl
  refine one_ (i := 8) (N := some 13) #[true, true, true, true, true, true, true, true, true, true, true, true, true, false, false, false] rfl rfl (by kernel_rfl) (by decide) (fun K hK => ?_)
  refine goes_ Tryd.func22 (by kernel_rfl) rfl #[.slice A rest.length c] (by rfl) rfl rfl (by simp only [List.map_toArray, List.map_cons, List.map_nil]; rfl) ?_
  with_reducible refine (clone_rc A c rest _ (HA.out.below (below_drew1 (Below.refl _ _))) hrc (by omega)).mono ?_
  rintro e w7 ⟨A7, c7, rfl, hc7, hr7, hg7, hb7⟩
  refine ⟨_, rfl, ?_⟩
  have HR7 := Lib.hid hr7
  have HG7 := Lib.hid hg7
  have HB7 := Lib.hid hb7
  have HH7 := Lib.hid (show HB w7 g [a0, a1, a2, a3, a4, a5, a6, a7] (.slice A rest.length c) (n : Int) from (hb7.block g hgl).trans HH.out)
  obtain ⟨q0, q1, q2, q3, q4, q5, q6, q7, q8, q9⟩ := H8.out _ HH7.out
  clear hr7 hg7 hb7
  refine hK.out _ _ ⟨q0, q1, q2, q3, q4, q5, q6, q7, q8, q9⟩ (fun hHeld => ?_)
  clear hK K
  refine norm_ (a' := ?_) ?_ ?_
  rotate_left
  · show Act.put _ (some 13) _ = _
    simp only [Act.put, List.setIfInBounds_toArray, List.set_cons_zero, List.set_cons_succ, i64_w, i32_w]
    rfl
  refine pure_ (i := 13) (N := some 18) (v := ?_) (a' := ?_) #[true, true, true, true, true, true, true, true, true, true, true, true, true, true, false, false] rfl rfl (by kernel_rfl) (fun _ _ _ h => h) (Or.inl ⟨by rfl, ?_⟩) ?_ ?_
  rotate_left
  · intro w'
    go_simp
    (first | (with_reducible rfl) | ((try simp only [*]); (with_reducible rfl)))
  rotate_left
  · simp only [Act.put, List.setIfInBounds_toArray, List.set_cons_zero, List.set_cons_succ, i64_w, i32_w]
    rfl
  refine one_ (i := 14) (N := some 19) #[true, true, true, true, true, true, true, true, true, true, true, true, true, true, true, false] rfl rfl (by kernel_rfl) (by decide) (fun K hK => ?_)
  refine value_ (w1 := ?_) (v := ?_) (by rfl) rfl ?_ ?_
  rotate_left 2
  · go_simp
    constructor
    · rfl
    · rfl
  obtain ⟨r0, r1, r2, r3, r4, r5, r6, r7, r8, r9⟩ := H8.out _ (blk_alloc HH7.out (.cells #[.int .u32 a0, .int .u32 a1, .int .u32 a2, .int .u32 a3, .int .u32 a4, .int .u32 a5, .int .u32 a6, .int .u32 a7, .slice A7 rest.length c7, .int .i64 (n : Int)] TH))
  refine hK.out _ _ ⟨r0, r1, r2, r3, r4, r5, r6, r7, r8, r9⟩ (fun hHeld => ?_)
  clear hK K
  refine norm_ (a' := ?_) ?_ ?_
  rotate_left
  · show Act.put _ (some 19) _ = _
    simp only [Act.put, List.setIfInBounds_toArray, List.set_cons_zero, List.set_cons_succ, i64_w, i32_w]
    rfl
  refine pure_ (i := 15) (N := some 2) (v := ?_) (a' := ?_) #[true, true, true, true, true, true, true, true, true, true, true, true, true, true, true, true] rfl rfl (by kernel_rfl) (fun _ _ _ h => h) (Or.inl ⟨by rfl, ?_⟩) ?_ ?_
  rotate_left
  · intro w'
    go_simp
    (first | (with_reducible rfl) | ((try simp only [*]); (with_reducible rfl)))
  rotate_left
  · simp only [Act.put, List.setIfInBounds_toArray, List.set_cons_zero, List.set_cons_succ, i64_w, i32_w]
    rfl
  refine done_ (by kernel_rfl) ?_
  go_wp2
  go_ret
  refine ⟨_, rfl, HB7.out.size, ⟨A7, c7, blk_new _ _, hc7, HR7.out.below ((Below.refl _ _).alloc (Nat.le_refl _) _), fun a ha => ?_, fun a ha => ?_⟩, (show Below W.heap.size W W.drew from ⟨rfl, rfl, rfl, Nat.le_refl _, fun _ _ => rfl⟩).trans (HB7.out.alloc HB7.out.size _)⟩
  · have := (HG7.out a ha).2
    omega
  · exact (HG7.out a ha).1


/-- The digest at block g has taken in just a; it and what it holds lie in blocks that are ok. -/
def HX (w : World) (g : Nat) (a : List Int) (ok : Nat → Prop) : Prop := ∃ A c, HB w g (eaten IV a) (.slice A (left a).length c) (a.length : Int) ∧ (left a).length ≤ c ∧ RC w A (left a) ∧ Off g A ∧ ok g ∧ (left a ≠ [] → ∀ x, A = some x → ok x.block)
theorem HX.hs {w : World} {g : Nat} {a : List Int} {ok : Nat → Prop} (h : HX w g a ok) : HS w g a := by
  obtain ⟨A, c, h1, h2, h3, h4, _⟩ := h
  exact ⟨A, c, h1, h2, h3, h4⟩
theorem HX.g {w : World} {g : Nat} {a : List Int} {ok : Nat → Prop} (h : HX w g a ok) : ok g := by
  obtain ⟨A, c, _, _, _, _, h5, _⟩ := h
  exact h5
theorem HX.step {w w' : World} {g : Nat} {a : List Int} {ok : Nat → Prop} (h : HX w g a ok) (hm : ∀ k, ok k → k < w.heap.size → w'.heap[k]? = w.heap[k]?) : HX w' g a ok := by
  obtain ⟨A, c, h1, h2, h3, h4, h5, h6⟩ := h
  refine ⟨A, c, (hm g h5 (blk_lt h1)).trans h1, h2, fun hl => ?_, h4, h5, h6⟩
  obtain ⟨x, e, hlt, hc⟩ := h3 hl
  have hb := hm x.block (h6 hl x e) hlt
  refine ⟨x, e, ?_, fun j hj => ?_⟩
  · have h0 := hc 0 (List.length_pos_iff.2 hl)
    have h0' : w'.cell? (x.add 0) = _ := (World.cell?_of_block (w := w) (a := x.add 0) (by rw [Sha3.add_block]; exact hb)).trans h0
    have := block_lt_of_cell h0'
    rwa [Sha3.add_block] at this
  · exact (World.cell?_of_block (w := w) (a := x.add j) (by rw [Sha3.add_block]; exact hb)).trans (hc j hj)
theorem HX.mono {w : World} {g : Nat} {a : List Int} {ok ok' : Nat → Prop} (h : HX w g a ok) (hk : ∀ k, ok k → ok' k) : HX w g a ok' := by
  obtain ⟨A, c, h1, h2, h3, h4, h5, h6⟩ := h
  exact ⟨A, c, h1, h2, h3, h4, hk _ h5, fun hl x e => hk _ (h6 hl x e)⟩
theorem HX.bound {w : World} {g : Nat} {a : List Int} {ok : Nat → Prop} (h : HX w g a ok) : HX w g a (fun k => ok k ∧ k < w.heap.size) := by
  obtain ⟨A, c, h1, h2, h3, h4, h5, h6⟩ := h
  refine ⟨A, c, h1, h2, h3, h4, ⟨h5, blk_lt h1⟩, fun hl x e => ⟨h6 hl x e, ?_⟩⟩
  obtain ⟨y, e', hlt, _⟩ := h3 hl
  rw [e] at e'
  injection e' with e'
  rw [e']
  exact hlt
/-- The block is a block of the world. -/
theorem HX.lt {w : World} {g : Nat} {a : List Int} {ok : Nat → Prop} (h : HX w g a ok) : g < w.heap.size := by
  obtain ⟨A, c, h1, _⟩ := h
  exact blk_lt h1
theorem new_x (W : World) : Calls Tryd.prog 14 #[] W fun e w' => e = .returned (.pointer (some ⟨W.heap.size, 0, none⟩)) ∧ HX w' W.heap.size [] (fun _ => True) ∧ Below W.heap.size W w' := by
  refine (new_any W).mono ?_
  rintro e w' ⟨h1, ⟨A, c, h2, h3, h4, h5⟩, h6⟩
  exact ⟨h1, ⟨A, c, h2, h3, h4, h5, trivial, fun _ _ _ => trivial⟩, h6⟩
theorem write_x (g : Nat) (a l R : List Int) (m : Nat) (hm : m = l.length) (hR : R = a ++ l) (B : Option Addr) (cb : Nat) (W : World) (ha : Bytes a) (hl : Bytes l) (hll : l.length ≤ 10000000) (hn : a.length ≤ 1000000000000)
    (hg : 0 < g) (hK : KB W) (hh : HS W g a) (hB : RC W B l) (hOB : l ≠ [] → Off g B) (hcb : m ≤ cb) :
    Calls Tryd.prog 15 #[.pointer (some ⟨g, 0, none⟩), .slice B m cb] W fun e w' => e = .returned (.tuple #[]) ∧ HX w' g R (fun k => k = g ∨ W.heap.size ≤ k) ∧ Wrote g W w' := by
  subst hm hR
  refine (write_anyF g _ _ l _ B cb W (eaten8 a) (left_bytes ha) hl (Nat.le_trans (Nat.le_of_lt (left_len a)) (by decide)) hll hn hg hK hh hB hOB hcb).mono ?_
  rintro e w' ⟨h1, ⟨A, c, h2, h3, h4, h5, h6⟩, h7⟩
  rw [eaten_on] at h2
  rw [left_on] at h2 h3 h4
  exact ⟨h1, ⟨A, c, by rw [List.length_append]; exact h2, h3, h4, h5, .inl rfl, fun _ x e => .inr (h6 x e)⟩, h7⟩
theorem twin_x (g : Nat) (a : List Int) (W : World) (hh : HS W g a) :
    Calls Tryd.prog 18 #[.pointer (some ⟨g, 0, none⟩)] W fun e w' => ∃ g', e = .returned (.pointer (some ⟨g', 0, none⟩)) ∧ W.heap.size ≤ g' ∧ HX w' g' a (fun k => W.heap.size ≤ k) ∧ Below W.heap.size W w' := by
  refine (twin_anyF g _ _ _ W (eaten8 a) (Nat.le_trans (Nat.le_of_lt (left_len a)) (by decide)) hh).mono ?_
  rintro e w' ⟨g', h1, hg, ⟨A, c, h2, h3, h4, h5, h6⟩, h7⟩
  exact ⟨g', h1, hg, ⟨A, c, h2, h3, h4, h5, hg, fun _ => h6⟩, h7⟩
end Go.Proofs.YthgmhjgbjodhjaaDoor.HsF
