/- Texts of this claim, laid together by wip/tools/squash.py: WalkHeadSums. -/
import Derived.Test.YtdmpbfhbjklajaaQHeadSums6

/- HeadSums walked: sums, seals and blanks of any bytes, and of a head's with some turned, are the document's. -/
section
namespace Go.Proofs.Ytdmpbfhbjklajaa.WalkHeadSums
open Go.Proofs.Ytdmpbfhbjklajaa Go.RowKit Go.Proofs.YtdmpbfhbjklajaaW.PrintWords Go.Proofs.YtdmpbfhbjklajaaW.PrintLast Go.Proofs.YtdmpbfhbjklajaaW.PrintMore Go.Proofs.Ytdmpbfhbjklajaa.Byt Go.Proofs.Ytdmpbfhbjklajaa.OctPure Go.Proofs.Ytdmpbfhbjklajaa.Img Go.Proofs.Ytdmpbfhbjklajaa.Head Go.Proofs.Ytdmpbfhbjklajaa.HeadPut Go.Proofs.Ytdmpbfhbjklajaa.HeadSums Go.Proofs.Ytdmpbfhbjklajaa.RefPlug Go.Proofs.Ytdmpbfhbjklajaa.Turned
set_option linter.unusedVariables false
set_option linter.unusedSimpArgs false
theorem make512 : ∀ w : World, (Instr.makeSlice TB (.int .i64 512) (.int .i64 512)).run Try.prog w = .ok (.slice (some ⟨w.heap.size, 0, none⟩) 512 512) (w.alloc (.cells ZV 5 (0, 0))) := fun w => by
  have e : (madeCells #[.int .u8 0] (512 : Nat)) = ZV := by kernel_rfl
  have h := print_make (P := Try.prog) TB 5 .u8 1 Try.underlying22 Byt.info5 (by decide) 512 (by decide) w
  rw [e] at h
  exact h
theorem zeros_C (w : World) : Kd.C (Kd.int .u8) (w.alloc (.cells ZV 5 (0, 0))) (some ⟨w.heap.size, 0, none⟩) Z512.length Z512 := by
  refine RC.to_C ?_ (by rw [z_ok.1]; decide)
  exact RC.row (g := w.heap.size) (rest := #[]) (t := 5) (fr := (0, 0)) (by rw [Array.append_empty]; exact blk_new _ _)
theorem zeros_blank : blankF Z512 = some true := by
  unfold blankF
  rw [if_pos (show AreB Z512 from mem_of_bytes z_ok.2)]
  exact congrArg some (beq_iff_eq.mpr rfl)
theorem blank_zeros (g : Nat) (w : World) (hg : w.heap.size = g) : Calls Try.prog 15 #[.slice (some ⟨g, 0, none⟩) 512 512] (w.alloc (.cells ZV 5 (0, 0))) fun e w' => e = .returned (.bool true) ∧ Below (w.alloc (.cells ZV 5 (0, 0))).heap.size (w.alloc (.cells ZV 5 (0, 0))) w' := by
  subst hg
  have h := blank_calls (some ⟨w.heap.size, 0, none⟩) 512 Z512 true _ (zeros_C w) (by rw [z_ok.1]; decide) zeros_blank
  rw [z_ok.1] at h
  exact h
theorem seal_no (A0 : Option Addr) (c0 : Nat) (l0 : List Int) (w : World) (hr0 : Kd.C (Kd.int .u8) w A0 l0.length l0) (hc0 : l0.length ≤ c0) (h : sealF l0 = some ([], 1)) :
    Calls Try.prog 14 #[.slice A0 l0.length c0] w fun e w' => ∃ As cs, e = .returned (.tuple #[.slice As 0 cs, .int .i64 1]) ∧ Below w.heap.size w w' :=
  (seal_calls A0 c0 l0 [] 1 w hr0 hc0 h).mono fun e w' hh => by
    obtain ⟨v, he, hv, hb⟩ := hh
    obtain ⟨As, cs, rfl, _, _⟩ := C_of_V hv
    exact ⟨As, cs, he, hb⟩
theorem lent_at (A0 : Option Addr) (c0 : Nat) (l0 : List Int) (w : World) (hr0 : Kd.C (Kd.int .u8) w A0 l0.length l0) (hc0 : l0.length ≤ c0) (hl : l0.length ≤ 140737488351232) :
    Calls Try.prog 12 #[.slice A0 l0.length c0] w fun e w' => ∃ (Ao : Option Addr) (co : Nat), e = .returned (.slice Ao l0.length co) ∧ l0.length ≤ co ∧ Kd.C (Kd.int .u8) w' Ao l0.length l0 ∧ Kd.R (Kd.int .u8) 5 w' w.heap.size (fun _ => True) (.slice Ao (l0 ++ HLent.marks).length co) (l0 ++ HLent.marks) ∧ Below w.heap.size w w' :=
  (HLent.lent_any A0 c0 l0 w hr0 hc0 hl).mono fun e w' h => by
    obtain ⟨Ao, co, he, ho, hb⟩ := h
    have hro := Kd.R_reads' ho
    have hlen : (l0 ++ HLent.marks).length = l0.length + 2 := by simp [HLent.marks]
    have hcl := Kd.C_take (m := l0.length) hro.2.2 (by omega)
    rw [List.take_left] at hcl
    exact ⟨Ao, co, he, by have := hro.2.1; omega, hcl, ho, hb⟩
theorem bl_eq {c : List Int} (h : c.length = 512 ∨ ¬ c.length = 512) : (c == List.replicate 512 0) = decide (c.length = 512 ∧ ∀ x ∈ c, x = 0) := by
  rw [Bool.eq_iff_iff, beq_iff_eq, decide_eq_true_eq]
  constructor
  · intro e; subst e; exact ⟨List.length_replicate, fun x hx => List.eq_of_mem_replicate hx⟩
  · rintro ⟨h1, h2⟩
    rw [← h1]
    exact List.eq_replicate_iff.mpr ⟨rfl, h2⟩
set_option maxRecDepth 100000 in
set_option maxHeartbeats 4000000 in
theorem walk (A0 : Option Addr) (c0 : Nat) (l0 : List Int) (n p : ByteArray) (m s t y : Int) (k : ByteArray) (A2 : Option Addr) (c2 : Nat) (l2 : List PHeadSums.S57) (W : World)
    (h0 : Kd.C (Kd.int .u8) W A0 l0.length l0) (hc0 : l0.length ≤ c0) (hl0 : l0.length ≤ 140737488351232) (hb0 : ∀ x ∈ l0, (Lit.int .u8 x).wf = true) (hy : (Lit.int .u8 y).wf = true)
    (h2 : Kd.C PHeadSums.k57 W A2 l2.length l2) (hc2 : l2.length ≤ c2) (hl2 : l2.length ≤ 140737488351232) (hb2 : ∀ x ∈ l2, 0 ≤ x.f1 ∧ x.f1 ≤ 255) :
    Calls Try.prog 3 #[.slice A0 l0.length c0, .agg #[.string n, .string p, .int .i64 m, .int .i64 s, .int .i64 t, .int .u8 y, .string k], .slice A2 l2.length c2] W fun e w' => e = .returned (.bool true) ∧ Below W.heap.size W w' := by
  have hA0 : AreB l0 := fun x hx => RefPlug.wf8 (hb0 x hx)
  obtain ⟨c, hT, hcl, hcB⟩ := turned_some n p m s t y k (RefPlug.wf8 hy) l2 false l0 hb2 (by omega) hA0
  have HT := Lib.hid hT
  have HL := Lib.hid (show c.length ≤ 140737488351232 by
    rcases hcl with h | h
    · omega
    · rw [h]; exact hl0)
  have HSM := Lib.hid (show Psame.tabularylaw10_same.f (c.length + 1) c c = some true by rw [SameP.same_some c c _ (by omega) (by have := HL.out; omega)]; simp)
  obtain ⟨bl, hbl⟩ : ∃ bl : Bool, bl = (c == List.replicate 512 0) := ⟨_, rfl⟩
  have HB1 := Lib.hid (show blankF c = some bl by unfold blankF; rw [if_pos hcB, hbl])
  have HB2 := Lib.hid (show rblankF c = some bl by unfold rblankF; rw [if_pos (by have := HL.out; omega), ← bl_eq (Decidable.em _), hbl])
  have hbb : (bl != bl) = false := by cases bl <;> rfl
  have HZ := Lib.hid zeros_blank
  have HZL := Lib.hid z_ok.1
  have HC0 := Lib.hid h0
  have HC2 := Lib.hid h2
  have hmk := make512
  clear h0 h2 hb0 hy hT hbl hA0 hb2
  by_cases hl : c.length = 512
  · obtain ⟨SM, hSM⟩ : ∃ SM : Int, SM = sumS c 512 := ⟨_, rfl⟩
    obtain ⟨SE, hSE⟩ : ∃ SE : List Int, SE = sealS c := ⟨_, rfl⟩
    have HS1 := Lib.hid (show sumF c = some (SM, 0) by unfold sumF; rw [if_pos hcB, if_pos hl, hSM])
    have HS2 := Lib.hid (show rsumF c = some SM by unfold rsumF; rw [if_pos ⟨hcB, hl⟩, hSM])
    have HE1 := Lib.hid (show sealF c = some (SE, 0) by unfold sealF; rw [if_pos hcB, if_pos hl, hSE])
    have HE2 := Lib.hid (show rsealF c = some SE by unfold rsealF; rw [if_pos ⟨hcB, hl⟩, hSE])
    have hSL : SE.length = 512 := by rw [hSE]; exact (seal_ok ⟨hl, bytes_of_mem hcB⟩).1
    have HSS := Lib.hid (show Psame.tabularylaw10_same.f 513 SE SE = some true by rw [SameP.same_some SE SE _ (by omega) (by omega)]; simp)
    have hll : ((c.length : Int) != 512) = false := by simp; omega
    have hsm : (SM == SM) = true := beq_self_eq_true SM
    clear hSM hSE hSL hl hcl hcB
    go_enter Try.func3, Try.ntmps3
    go_wp2_with (first
      | ((with_reducible refine gate_dst (N := 13) rfl ?_); refine wpList_load_row rfl TH (.tmp 4) rfl W.heap.size rfl TH _ (0, 0) _ (blk_new W _) Try.underlying24 rfl (by kernel_rfl) ?_)
      | (go_at_call 11; go_loud ((with_reducible refine (PHeadSums.tabularylaw10_turned.calls (l2.length + 1) n p m s t y k A2 c2 l2 false _ A0 c0 l0 c _ (Kd.C_alloc HC2.out _) hc2 (V_of_C (Kd.C_alloc HC0.out _) hc0) HT.out).mono ?_); rintro e w1 ⟨v1, rfl, hv1, hb1⟩; obtain ⟨Ac, cc, rfl, hcc, hC1⟩ := C_of_V hv1; have HW1 := Lib.hid (below_then ((Below.refl W.heap.size W).alloc (Nat.le_refl _) _) (by simp) hb1); have HC1 := Lib.hid hC1; clear hb1 hv1 hC1))
      | (go_at_call 12; go_loud ((with_reducible refine (lent_at Ac cc c _ HC1.out hcc HL.out).mono ?_); rintro e w2 ⟨Ao, co, rfl, hco, hCo, hRo, hb2⟩; have HW2 := Lib.hid (HW1.out.trans (hb2.mono HW1.out.size)); have HCa := Lib.hid (Kd.C_below HC1.out hb2); have HCo := Lib.hid hCo; have HRo := Lib.hid hRo; clear hb2 hCo hRo))
      | (go_at_call 13; go_loud ((with_reducible refine (sum_calls Ao co c SM 0 _ HCo.out hco HS1.out).mono ?_); rintro e w3 ⟨rfl, hb3⟩; have HW3 := Lib.hid (HW2.out.trans (hb3.mono HW2.out.size)); have HCa3 := Lib.hid (Kd.C_below HCa.out hb3); have HCo3 := Lib.hid (Kd.C_below HCo.out hb3); have HRo3 := Lib.hid (Kd.R_below HRo.out hb3); clear hb3))
      | (go_at_call 14; go_loud ((with_reducible refine (seal_calls Ao co c SE 0 _ HCo3.out hco HE1.out).mono ?_); rintro e w4 ⟨v4, rfl, hv4, hb4⟩; obtain ⟨As, cs, rfl, hcs, hCs⟩ := C_of_V hv4; have HW4 := Lib.hid (HW3.out.trans (hb4.mono HW3.out.size)); have HCa4 := Lib.hid (Kd.C_below HCa3.out hb4); have HCo4 := Lib.hid (Kd.C_below HCo3.out hb4); have HRo4 := Lib.hid (Kd.R_below HRo3.out hb4); have HCs := Lib.hid hCs; clear hb4 hv4 hCs))
      | (go_at_call 15; ((with_reducible refine (blank_calls Ao co c bl _ HCo4.out hco HB1.out).mono ?_); rintro e w5 ⟨rfl, hb5⟩; have HW5 := Lib.hid (HW4.out.trans (hb5.mono HW4.out.size)); have HCa5 := Lib.hid (Kd.C_below HCa4.out hb5); have HRo5 := Lib.hid (Kd.R_below HRo4.out hb5); have HCs5 := Lib.hid (Kd.C_below HCs.out hb5); clear hb5))
      | (go_at_call 16; go_loud ((with_reducible refine (rblank_calls Ac cc c bl _ HCa5.out hcc HB2.out).mono ?_); rintro e w6 ⟨rfl, ⟨nd, rfl⟩⟩; have HW6 := Lib.hid (pw_below_drewN HW5.out nd); have HCa6 := Lib.hid (Kd.C_drewN HCa5.out nd); have HRo6 := Lib.hid (Kd.R_drewN HRo5.out nd); have HCs6 := Lib.hid (Kd.C_drewN HCs5.out nd)))
      | (go_at_call 15; go_loud ((with_reducible refine (blank_zeros _ _ (by simp)).mono ?_); rintro e w7 ⟨rfl, hb7⟩; have q7 := HW6.out.alloc HW6.out.size (.cells ZV 5 (0, 0)); have HW7 := Lib.hid (q7.trans (hb7.mono q7.size)); clear q7; have HCa7 := Lib.hid (Kd.C_below (Kd.C_alloc HCa6.out _) hb7); have HRo7 := Lib.hid (Kd.R_below (Kd.R_alloc HRo6.out _) hb7); have HCs7 := Lib.hid (Kd.C_below (Kd.C_alloc HCs6.out _) hb7); clear hb7))
      | (go_at_call 17; go_loud ((with_reducible refine (HLent.kept_any Ao co c Ac cc _ _ HRo7.out HCa7.out hcc HL.out _ HSM.out).mono ?_); rintro e w8 ⟨rfl, hb8⟩; have HW8 := Lib.hid (HW7.out.trans (hb8.mono HW7.out.size)); have HCa8 := Lib.hid (Kd.C_below HCa7.out hb8); have HCs8 := Lib.hid (Kd.C_below HCs7.out hb8); clear hb8))
      | (go_at_call 18; go_loud ((with_reducible refine (rsum_calls Ac cc c SM _ HCa8.out hcc HS2.out).mono ?_); rintro e w9 ⟨rfl, ⟨nd2, rfl⟩⟩; have HW9 := Lib.hid (pw_below_drewN HW8.out nd2); have HCa9 := Lib.hid (Kd.C_drewN HCa8.out nd2); have HCs9 := Lib.hid (Kd.C_drewN HCs8.out nd2)))
      | (go_at_call 20; go_loud ((with_reducible refine (rseal_calls Ac cc c SE _ HCa9.out hcc HE2.out).mono ?_); rintro e w10 ⟨v10, rfl, ho10, hb10⟩; obtain ⟨At, ct, rfl⟩ := Kd.R_slice ho10; have hrt := Kd.R_reads' ho10; have HW10 := Lib.hid (HW9.out.trans (hb10.mono HW9.out.size)); have HCs10 := Lib.hid (Kd.C_below HCs9.out hb10); have HCt := Lib.hid hrt.2.2; have hct := hrt.2.1; clear hb10 ho10 hrt))
      | (go_at_call 19; go_loud ((with_reducible refine (Psame.tabularylaw10_same.calls 513 As cs SE At ct SE true _ HCs10.out hcs HCt.out hct HSS.out).mono ?_); rintro e w11 ⟨rfl, ⟨nd3, rfl⟩⟩)))
    go_ret
    exact ⟨rfl, pw_below_drewN HW10.out nd3⟩
  · have HS1 := Lib.hid (show sumF c = some (0, 1) by unfold sumF; rw [if_pos hcB, if_neg hl])
    have HE1 := Lib.hid (show sealF c = some ([], 1) by unfold sealF; rw [if_pos hcB, if_neg hl])
    have hll : ((c.length : Int) != 512) = true := by simp; omega
    clear hl hcl hcB
    go_enter Try.func3, Try.ntmps3
    go_wp2_with (first
      | ((with_reducible refine gate_dst (N := 13) rfl ?_); refine wpList_load_row rfl TH (.tmp 4) rfl W.heap.size rfl TH _ (0, 0) _ (blk_new W _) Try.underlying24 rfl (by kernel_rfl) ?_)
      | (go_at_call 11; go_loud ((with_reducible refine (PHeadSums.tabularylaw10_turned.calls (l2.length + 1) n p m s t y k A2 c2 l2 false _ A0 c0 l0 c _ (Kd.C_alloc HC2.out _) hc2 (V_of_C (Kd.C_alloc HC0.out _) hc0) HT.out).mono ?_); rintro e w1 ⟨v1, rfl, hv1, hb1⟩; obtain ⟨Ac, cc, rfl, hcc, hC1⟩ := C_of_V hv1; have HW1 := Lib.hid (below_then ((Below.refl W.heap.size W).alloc (Nat.le_refl _) _) (by simp) hb1); have HC1 := Lib.hid hC1; clear hb1 hv1 hC1))
      | (go_at_call 12; go_loud ((with_reducible refine (lent_at Ac cc c _ HC1.out hcc HL.out).mono ?_); rintro e w2 ⟨Ao, co, rfl, hco, hCo, hRo, hb2⟩; have HW2 := Lib.hid (HW1.out.trans (hb2.mono HW1.out.size)); have HCa := Lib.hid (Kd.C_below HC1.out hb2); have HCo := Lib.hid hCo; have HRo := Lib.hid hRo; clear hb2 hCo hRo))
      | (go_at_call 13; go_loud ((with_reducible refine (sum_calls Ao co c 0 1 _ HCo.out hco HS1.out).mono ?_); rintro e w3 ⟨rfl, hb3⟩; have HW3 := Lib.hid (HW2.out.trans (hb3.mono HW2.out.size)); have HCa3 := Lib.hid (Kd.C_below HCa.out hb3); have HCo3 := Lib.hid (Kd.C_below HCo.out hb3); have HRo3 := Lib.hid (Kd.R_below HRo.out hb3); clear hb3))
      | (go_at_call 14; go_loud ((with_reducible refine (seal_no Ao co c _ HCo3.out hco HE1.out).mono ?_); rintro e w4 ⟨As, cs, rfl, hb4⟩; have HW4 := Lib.hid (HW3.out.trans (hb4.mono HW3.out.size)); have HCa4 := Lib.hid (Kd.C_below HCa3.out hb4); have HCo4 := Lib.hid (Kd.C_below HCo3.out hb4); have HRo4 := Lib.hid (Kd.R_below HRo3.out hb4); clear hb4))
      | (go_at_call 15; ((with_reducible refine (blank_calls Ao co c bl _ HCo4.out hco HB1.out).mono ?_); rintro e w5 ⟨rfl, hb5⟩; have HW5 := Lib.hid (HW4.out.trans (hb5.mono HW4.out.size)); have HCa5 := Lib.hid (Kd.C_below HCa4.out hb5); have HRo5 := Lib.hid (Kd.R_below HRo4.out hb5); clear hb5))
      | (go_at_call 16; go_loud ((with_reducible refine (rblank_calls Ac cc c bl _ HCa5.out hcc HB2.out).mono ?_); rintro e w6 ⟨rfl, ⟨nd, rfl⟩⟩; have HW6 := Lib.hid (pw_below_drewN HW5.out nd); have HCa6 := Lib.hid (Kd.C_drewN HCa5.out nd); have HRo6 := Lib.hid (Kd.R_drewN HRo5.out nd); ))
      | (go_at_call 15; go_loud ((with_reducible refine (blank_zeros _ _ (by simp)).mono ?_); rintro e w7 ⟨rfl, hb7⟩; have q7 := HW6.out.alloc HW6.out.size (.cells ZV 5 (0, 0)); have HW7 := Lib.hid (q7.trans (hb7.mono q7.size)); clear q7; have HCa7 := Lib.hid (Kd.C_below (Kd.C_alloc HCa6.out _) hb7); have HRo7 := Lib.hid (Kd.R_below (Kd.R_alloc HRo6.out _) hb7); clear hb7))
      | (go_at_call 17; go_loud ((with_reducible refine (HLent.kept_any Ao co c Ac cc _ _ HRo7.out HCa7.out hcc HL.out _ HSM.out).mono ?_); rintro e w8 ⟨rfl, hb8⟩; have HW8 := Lib.hid (HW7.out.trans (hb8.mono HW7.out.size)); have HCa8 := Lib.hid (Kd.C_below HCa7.out hb8); clear hb8)))
    go_ret
    exact ⟨rfl, HW8.out⟩
end Go.Proofs.Ytdmpbfhbjklajaa.WalkHeadSums
end
