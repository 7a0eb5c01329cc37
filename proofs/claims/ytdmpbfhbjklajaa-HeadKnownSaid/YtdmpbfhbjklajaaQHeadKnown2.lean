/- Texts of this claim, laid together by wip/tools/squash.py: WalkHeadKnown. -/
import Derived.Test.YtdmpbfhbjklajaaQHeadKnown1
import Derived.Outline

/- HeadKnown walked. -/
section
namespace Go.Proofs.Ytdmpbfhbjklajaa.WalkHeadKnown
open Go.Proofs.Ytdmpbfhbjklajaa Go.RowKit Go.Proofs.YtdmpbfhbjklajaaW.PrintWords Go.Proofs.YtdmpbfhbjklajaaW.PrintLast Go.Proofs.YtdmpbfhbjklajaaW.PrintMore Go.Proofs.Ytdmpbfhbjklajaa.Byt Go.Proofs.Ytdmpbfhbjklajaa.OctPure Go.Proofs.Ytdmpbfhbjklajaa.Img Go.Proofs.Ytdmpbfhbjklajaa.Head Go.Proofs.Ytdmpbfhbjklajaa.HeadPut Go.Proofs.Ytdmpbfhbjklajaa.HeadSums Go.Proofs.Ytdmpbfhbjklajaa.HGetC Go.Proofs.Ytdmpbfhbjklajaa.HeadLaw Go.Proofs.Ytdmpbfhbjklajaa.HPutIm Go.Proofs.Ytdmpbfhbjklajaa.HAwake Go.Proofs.Ytdmpbfhbjklajaa.HSealIm Go.Proofs.Ytdmpbfhbjklajaa.KnownH Go.Proofs.Ytdmpbfhbjklajaa.KnownI Go.Proofs.Ytdmpbfhbjklajaa.WalkHeadSealed
set_option linter.unusedVariables false
set_option linter.unusedSimpArgs false
attribute [local go_sem high] PHeadBack.eqA24
theorem bE_nil : bE.toList = [] := by first | decide | (simp [bE]; done) | (unfold bE ByteArray.toList; rw [ByteArray.toList.loop]; rfl)
def bPQ : ByteArray := ⟨#[112, 47, 113]⟩
theorem bB_one : bB.toList = [98] := by first | decide | (simp [bB]; done) | (unfold bB ByteArray.toList; rw [ByteArray.toList.loop]; rfl)
theorem bA_one : bA.toList = [97] := by first | decide | (simp [bA]; done) | (unfold bA ByteArray.toList; rw [ByteArray.toList.loop]; rfl)
theorem im_RC {w : World} {g : Nat} {l : List Int} (h : IM w g l) (hl : l.length = 512) : RC w (some ⟨g, 0, none⟩) l := RC.of_C (im_C h hl)
theorem mayY2 : mayS (bM 100) bE 420 3 0 48 bE = 2 := may2
theorem lay0 : L0 = layS bA bE 420 3 0 48 bE := by unfold L0; rfl
theorem make512 : ∀ w : World, (Instr.makeSlice TB (.int .i64 512) (.int .i64 512)).run Try.prog w = .ok (.slice (some ⟨w.heap.size, 0, none⟩) 512 512) (w.alloc (.cells ZV 5 (0, 0))) := fun w => by
  have e : (madeCells #[.int .u8 0] (512 : Nat)) = ZV := by kernel_rfl
  have h := print_make (P := Try.prog) TB 5 .u8 1 Try.underlying22 Byt.info5 (by decide) 512 (by decide) w
  rw [e] at h
  exact h
def ZS : List Int := List.replicate 511 0
theorem ZS_len : ZS.length = 511 := List.length_replicate
theorem ZS_are : AreB ZS := by decide +kernel
theorem zl_RC {w : World} {g : Nat} (h : w.heap[g]? = some (.cells ZV 5 (0, 0))) : RC w (some ⟨g, 0, none⟩) ZL :=
  RC.row (g := g) (rest := #[]) (t := 5) (fr := (0, 0)) (by rw [Array.append_empty]; exact h)
theorem zs_RC {w : World} {g : Nat} (h : w.heap[g]? = some (.cells ZV 5 (0, 0))) : RC w (some ⟨g, 0, none⟩) ZS :=
  RC.row (g := g) (rest := #[.int .u8 0]) (t := 5) (fr := (0, 0)) (by
    have e : (nums .u8 ZS).toArray ++ #[.int .u8 0] = ZV := by kernel_rfl
    rw [e]; exact h)
theorem sum_no (g : Nat) (w : World) (h : w.heap[g]? = some (.cells ZV 5 (0, 0))) : Calls Try.prog 13 #[.slice (some ⟨g, 0, none⟩) 511 512] w fun e w' => e = .returned (.tuple #[.int .i64 0, .int .i64 1]) ∧ Below w.heap.size w w' := by
  have := sum_calls (some ⟨g, 0, none⟩) 512 ZS 0 1 w ((zs_RC h).to_C (by rw [ZS_len]; decide)) (by rw [ZS_len]; decide) (by unfold sumF; rw [if_pos ZS_are, if_neg (by rw [ZS_len]; decide)])
  rw [ZS_len] at this
  exact this
def kOf : Value → Int
  | .int _ x => x
  | _ => 0
abbrev HV (n p : ByteArray) (m s t y : Int) (k : ByteArray) : Array Value := #[.string n, .string p, .int .i64 m, .int .i64 s, .int .i64 t, .int .u8 y, .string k]
theorem small_at (w : World) : Calls Try.prog 29 #[] w fun e w' => e = .returned (.agg (HV bA bE 420 3 0 48 bE)) ∧ Below w.heap.size w w' :=
  PHeadBack.tabularylaw10_small.calls bA bE 420 3 0 48 bE w rfl
set_option maxRecDepth 100000 in
set_option maxHeartbeats 4000000 in
theorem refused_at (A : Option Addr) (c : Nat) (l : List Int) (E : Int) (W : World) (hr : RC W A l) (hl : l.length = 512) (hc : 512 ≤ c) (h : getF l = some (bE, bE, 0, 0, 0, 0, bE, E)) :
    Calls Try.prog 30 #[.slice A 512 c, .int .i64 E] W fun e w' => e = .returned (.bool true) ∧ Below W.heap.size W w' := by
  have hg := get_calls A c l bE bE 0 0 0 0 bE E W (hr.to_C (by omega)) (by omega) h
  rw [hl] at hg
  have HG := Lib.hid hg
  clear hr hl hc h hg
  go_enter Try.func30, Try.ntmps30
  go_wp2_with (first
    | (go_at_call 25; go_loud ((with_reducible refine HG.out.mono ?_); rintro e w1 ⟨rfl, hb⟩; have HB1 := Lib.hid (hb.alloc hb.size (.cells (HV bE bE 0 0 0 0 bE) TH)); have HX1 := Lib.hid (blk_new w1 (.cells (HV bE bE 0 0 0 0 bE) TH)); clear hb))
    | ((with_reducible refine gate_dst (N := 12) rfl ?_); refine wpList_load_row rfl TH (.tmp 5) rfl w1.heap.size rfl TH _ (0, 0) _ HX1.out Try.underlying24 rfl (by kernel_rfl) ?_))
  all_goals first
    | (go_ret; exact ⟨rfl, HB1.out⟩)
    | (exfalso; rename_i h; exact h bE_nil)
theorem lenW {l : List Int} (h : l = layS (bM 99) bL 0 0 1099511627776 50 (bM 99)) : l.length = 512 := by rw [h]; exact (seal_ok (body_ok (bM 99) bL 0 0 1099511627776 50 (bM 99) (by decide))).1
theorem getW {l : List Int} (h : l = layS (bM 99) bL 0 0 1099511627776 50 (bM 99)) : getF l = some (bM 99, bL, 0, 0, 1099511627776, 50, bM 99, 0) := by rw [h]; exact get_lay (bM 99) bL 0 0 1099511627776 50 (bM 99) (by decide) mayW2
theorem blank_z (g : Nat) (w : World) (h : w.heap[g]? = some (.cells ZV 5 (0, 0))) : Calls Try.prog 15 #[.slice (some ⟨g, 0, none⟩) 512 512] w fun e w' => e = .returned (.bool true) ∧ Below w.heap.size w w' := by
  have := blank_calls (some ⟨g, 0, none⟩) 512 ZL true w ((zl_RC h).to_C (by rw [lenZ]; decide)) (by rw [lenZ]; decide) (by unfold blankF; rw [if_pos areZ]; decide +kernel)
  rw [lenZ] at this
  exact this
theorem blank_zs (g : Nat) (w : World) (h : w.heap[g]? = some (.cells ZV 5 (0, 0))) : Calls Try.prog 15 #[.slice (some ⟨g, 0, none⟩) 511 512] w fun e w' => e = .returned (.bool false) ∧ Below w.heap.size w w' := by
  have := blank_calls (some ⟨g, 0, none⟩) 512 ZS false w ((zs_RC h).to_C (by rw [ZS_len]; decide)) (by rw [ZS_len]; decide) (by unfold blankF; rw [if_pos ZS_are]; decide +kernel)
  rw [ZS_len] at this
  exact this
theorem full_s (w : World) : Calls Try.prog 23 #[.agg (HV bA bE 420 3 0 48 bE)] w fun e w' => e = .returned (.string bA) ∧ Below w.heap.size w w' := PFull.head_Full.calls bA bE 420 3 0 48 bE bA w (by unfold PFull.head_Full.f; rw [if_pos bE_nil])
theorem full_f (w : World) : Calls Try.prog 23 #[.agg (HV bA bPQ 0 0 0 0 bE)] w fun e w' => e = .returned (.string ⟨#[112, 47, 113, 47, 97]⟩) ∧ Below w.heap.size w w' := PFull.head_Full.calls bA bPQ 0 0 0 0 bE _ w (by decide +kernel)
/-- The blocks that are looked at again. -/
def LIVE (w : World) (ks : List (Nat × Obj)) : Prop := ∀ p, p ∈ ks → w.heap[p.1]? = some p.2
theorem LIVE.below {w w' : World} {ks : List (Nat × Obj)} (h : LIVE w ks) (hb : Below w.heap.size w w') : LIVE w' ks := fun p hp => blk_below (h p hp) hb
theorem LIVE.alloc {w : World} {ks : List (Nat × Obj)} (h : LIVE w ks) (o : Obj) : LIVE (w.alloc o) ((w.heap.size, o) :: ks) := fun p hp => by
  rcases List.mem_cons.1 hp with rfl | hp
  · exact blk_new w o
  · exact blk_alloc (h p hp) o
theorem LIVE.cons {w : World} {ks : List (Nat × Obj)} (h : LIVE w ks) {g : Nat} {o : Obj} (hg : w.heap[g]? = some o) : LIVE w ((g, o) :: ks) := fun p hp => by
  rcases List.mem_cons.1 hp with rfl | hp
  · exact hg
  · exact h p hp
theorem LIVE.lt {w : World} {ks : List (Nat × Obj)} (h : LIVE w ks) : ∀ p, p ∈ ks → p.1 < w.heap.size := fun p hp => blk_lt (h p hp)
/-- A block that is written to, the others being others. -/
theorem LIVE.set {w : World} {ks : List (Nat × Obj)} {g : Nat} {cs : Array Value} {t : TypeId} (h : LIVE w ((g, .cells cs t (0, 0)) :: ks)) (hn : ∀ p, p ∈ ks → p.1 ≠ g) (j : Nat) (u : Value) : LIVE (w.setCell ⟨g, j, none⟩ u) ((g, .cells (cs.setIfInBounds j u) t (0, 0)) :: ks) := fun p hp => by
  rcases List.mem_cons.1 hp with rfl | hp
  · exact blk_set (h _ List.mem_cons_self) j u
  · exact (Below.heap_setCell w ⟨g, j, none⟩ u p.1 (hn p hp)).trans (h p (List.mem_cons_of_mem _ hp))
theorem LIVE.sub {w : World} {ks ls : List (Nat × Obj)} (h : LIVE w ks) (hs : ∀ p, p ∈ ls → p ∈ ks) : LIVE w ls := fun p hp => h p (hs p hp)
set_option maxRecDepth 100000 in
set_option maxHeartbeats 8000000 in
theorem walk (W : World) : Calls Try.prog 10 #[] W fun e w' => e = .returned (.bool true) ∧ Below W.heap.size W w' := by
  obtain ⟨l0, h0⟩ : ∃ l, l = L0 := ⟨_, rfl⟩
  have HL0 := Lib.hid h0
  clear h0
  go_enter Try.func10, Try.ntmps10
  go_wp2_with fail
  with_reducible refine (awake_at _).mono ?_
  rintro e w1 ⟨rfl, hb⟩
  have HB1 := Lib.hid hb
  clear hb
  go_wp2_with fail
  with_reducible refine (small_at _).mono ?_
  rintro e w2 ⟨rfl, hb⟩
  have HB2 := Lib.hid (HB1.out.trans (hb.mono HB1.out.size))
  clear hb
  go_wp2_with fail
  with_reducible refine (put_im bA bE 420 3 0 48 bE l0 _ (by decide) may0 (HL0.out.trans lay0)).mono ?_
  rintro e w3 ⟨gb, rfl, hgb, ib, hb⟩
  have HB3 := Lib.hid (HB2.out.trans (hb.mono HB2.out.size))
  have HI3 := Lib.hid ib
  have HGB := Lib.hid (Nat.le_trans HB2.out.size hgb)
  clear hb ib hgb
  have hx := HI3.out.cell 0 (by rw [HL0.out, len0]; decide)
  have hf := blk_frozen HI3.out 0
  go_wp2_with fail
  obtain ⟨l1, h1⟩ : ∃ l, l = L1 := ⟨_, rfl⟩
  have HL1 := Lib.hid h1
  clear h1
  have hi := HI3.out.set 0 98
  rw [HL0.out, ← show L1 = L0.set 0 98 from rfl, ← HL1.out] at hi
  have hb0 := HB3.out.setCell (p := ⟨gb, 0, none⟩) HGB.out (.int .u8 98)
  with_reducible refine (refused_at (some ⟨gb, 0, none⟩) 512 l1 101 _ (im_RC hi (by rw [HL1.out, len1])) (by rw [HL1.out, len1]) (by decide) (by rw [HL1.out, get1])).mono ?_
  rintro e w4 ⟨rfl, hb⟩
  have HB4 := Lib.hid (hb0.trans (hb.mono hb0.size))
  have HI4 := Lib.hid (hi.below hb)
  clear hb hi hb0 hx hf HI3
  go_wp2_with fail
  with_reducible refine (seal_im (some ⟨gb, 0, none⟩) 512 l1 (sealS L1) _ (im_C HI4.out (by rw [HL1.out, len1])) (by rw [HL1.out, len1]; decide) (by rw [HL1.out, len1]) (by rw [HL1.out]; exact are1) (by rw [HL1.out])).mono ?_
  rintro e w5 ⟨gs, rfl, hgs, is, hb⟩
  have HB5 := Lib.hid (HB4.out.trans (hb.mono HB4.out.size))
  have HI5 := Lib.hid (HI4.out.below hb)
  have HS5 := Lib.hid is
  clear hb is
  go_wp2_with fail
  with_reducible refine (get_im gs (sealS L1) bB bE 420 3 0 48 bE 0 _ HS5.out (by decide +kernel) get2).mono ?_
  rintro e w6 ⟨rfl, hb⟩
  have HB6 := Lib.hid (HB5.out.trans (hb.mono HB5.out.size))
  have HI6 := Lib.hid (HI5.out.below hb)
  clear hb HI5 HS5
  have hi1 : IM (w6.alloc (Obj.cells #[.string bB, .string bE, .int .i64 420, .int .i64 3, .int .i64 0, .int .u8 48, .string bE] 24)) gb l1 := blk_alloc HI6.out _
  have hx1 := hi1.cell 0 (by rw [HL1.out, len1]; decide)
  have hf1 := blk_frozen hi1 0
  have hi2 := hi1.set 0 97
  have hx2 := hi2.cell 100 (by rw [List.length_set, HL1.out, len1]; decide)
  have hf2 := blk_frozen hi2 100
  have hi3 := hi2.set 100 32
  have hne : w6.heap.size ≠ gb := by have := HI6.out.lt; omega
  have HX7 := Lib.hid (blk_far (blk_far (blk_new w6 (Obj.cells #[.string bB, .string bE, .int .i64 420, .int .i64 3, .int .i64 0, .int .u8 48, .string bE] 24)) (p := ⟨gb, 0, none⟩) hne (.int .u8 97)) (p := ⟨gb, 100, none⟩) hne (.int .u8 32))
  have HHN := Lib.hid (show W.heap.size ≤ w6.heap.size from HB6.out.size)
  have hb := HB6.out.alloc HB6.out.size (Obj.cells #[.string bB, .string bE, .int .i64 420, .int .i64 3, .int .i64 0, .int .u8 48, .string bE] 24)
  have hb1 := (hb.setCell (p := ⟨gb, 0, none⟩) HGB.out (.int .u8 97)).setCell (p := ⟨gb, 100, none⟩) HGB.out (.int .u8 32)
  rw [HL1.out, ← show L3 = (L1.set 0 97).set 100 32 from rfl] at hi3
  have HI7 := Lib.hid hi3
  have HB7 := Lib.hid hb1
  clear hi1 hi2 hi3 hb hb1 HI6 hne
  go_wp2_with fail
  with_reducible refine (seal_im (some ⟨gb, 0, none⟩) 512 L3 (sealS L3) _ (im_C HI7.out len3) (by rw [len3]; decide) len3 are3 rfl).mono ?_
  rintro e w8 ⟨gt, rfl, hgt, is, hb⟩
  have HB8 := Lib.hid (HB7.out.trans (hb.mono HB7.out.size))
  have HI8 := Lib.hid (HI7.out.below hb)
  have HX8 := Lib.hid (blk_below HX7.out hb)
  have HT8 := Lib.hid is
  have hh := blk_cell HX8.out 0
  clear hb is HI7 HX7 hx1 hf1 hx2 hf2
  go_wp2_with fail
  all_goals first
    | (exfalso; rename_i h; exact h bB_one)
    | skip
  with_reducible refine (refused_at (some ⟨gt, 0, none⟩) 512 (sealS L3) 100 _ (im_RC HT8.out (by decide +kernel)) (by decide +kernel) (by decide) get3).mono ?_
  rintro e w9 ⟨rfl, hb⟩
  have HB9 := Lib.hid (HB8.out.trans (hb.mono HB8.out.size))
  have HI9 := Lib.hid (HI8.out.below hb)
  clear hb HI8 HX8 HT8 hh
  have hmk := make512
  have HN9 := Lib.hid (blk_new w9 (.cells ZV 5 (0, 0)))
  have HIa := Lib.hid (show IM (w9.alloc (.cells ZV 5 (0, 0))) gb L3 from blk_alloc HI9.out _)
  have HBa := Lib.hid (HB9.out.alloc HB9.out.size (.cells ZV 5 (0, 0)))
  have HGN := Lib.hid (show W.heap.size ≤ w9.heap.size from HB9.out.size)
  have HNG := Lib.hid (show w9.heap.size ≠ gb by have := HI9.out.lt; omega)
  go_wp2_with fail
  with_reducible refine (sum_at (some ⟨w9.heap.size, 0, none⟩) 512 ZL 256 _ (zl_RC HN9.out) lenZ (by decide) areZ sumZ.symm).mono ?_
  rintro e w10 ⟨rfl, hb⟩
  have HB10 := Lib.hid (HBa.out.trans (hb.mono HBa.out.size))
  have HI10 := Lib.hid (HIa.out.below hb)
  have HN10 := Lib.hid (blk_below HN9.out hb)
  clear hb hmk HN9 HIa HI9
  go_wp2_with fail
  with_reducible refine (sum_no w9.heap.size _ HN10.out).mono ?_
  rintro e w11 ⟨rfl, hb⟩
  have HB11 := Lib.hid (HB10.out.trans (hb.mono HB10.out.size))
  have HI11 := Lib.hid (HI10.out.below hb)
  have HN11 := Lib.hid (blk_below HN10.out hb)
  clear hb HN10 HI10
  go_wp2_with fail
  with_reducible refine (small_at _).mono ?_
  rintro e w12 ⟨rfl, hb⟩
  have HB12 := Lib.hid (HB11.out.trans (hb.mono HB11.out.size))
  have HI12 := Lib.hid (HI11.out.below hb)
  have HN12 := Lib.hid (blk_below HN11.out hb)
  clear hb HN11 HI11
  go_wp2_with fail
  with_reducible refine (small_at _).mono ?_
  rintro e w13 ⟨rfl, hb⟩
  have HB13 := Lib.hid (HB12.out.trans (hb.mono HB12.out.size))
  have HI13 := Lib.hid (HI12.out.below hb)
  have HN13 := Lib.hid (blk_below HN12.out hb)
  clear hb HN12 HI12
  go_wp2_with fail
  with_reducible refine (small_at _).mono ?_
  rintro e w14 ⟨rfl, hb⟩
  have HB14 := Lib.hid (HB13.out.trans (hb.mono HB13.out.size))
  have HI14 := Lib.hid (HI13.out.below hb)
  have HN14 := Lib.hid (blk_below HN13.out hb)
  clear hb HN13 HI13
  go_wp2_with fail
  have hgb14 : gb < w14.heap.size := HI14.out.lt
  have hgn14 : w9.heap.size < w14.heap.size := blk_lt HN14.out
  have HGL := Lib.hid (show W.heap.size ≤ w14.heap.size from HB14.out.size)
  go_loopw [18] (fun v18 w => ∃ k : Nat, k ≤ 101 ∧ v18 = .int .i64 k ∧ w.heap[w14.heap.size]? = some (.cells (HV bA bE 420 3 0 51 bE) 24 (0, 0)) ∧ w.heap[w14.heap.size + 1]? = some (.cells (HV (bM k) bE 420 3 0 48 bE) 24 (0, 0)) ∧ w.heap[w14.heap.size + 1 + 1]? = some (.cells (HV bA bE 420 3 0 48 bE) 24 (0, 0)) ∧ IM w gb L3 ∧ w.heap[w9.heap.size]? = some (.cells ZV 5 (0, 0)) ∧ Below W.heap.size W w) (fun v18 _ => 101 - (kOf v18).toNat)
  case atStart =>
    have e1 : ∀ o, (w14.alloc o).heap.size = w14.heap.size + 1 := fun o => by simp
    have e2 : ∀ o p, ((w14.alloc o).alloc p).heap.size = w14.heap.size + 1 + 1 := fun o p => by simp
    refine ⟨0, by omega, rfl, blk_alloc (blk_alloc (blk_new _ _) _) _, ?_, ?_, blk_alloc (blk_alloc (blk_alloc HI14.out _) _) _, blk_alloc (blk_alloc (blk_alloc HN14.out _) _) _, ?_⟩
    · rw [← e1]; exact blk_alloc (blk_new _ _) _
    · rw [← e2]; exact blk_new _ _
    · have hb1 := HB14.out.alloc HB14.out.size (Obj.cells (HV bA bE 420 3 0 51 bE) 24)
      have hb2 := hb1.alloc hb1.size (Obj.cells (HV bA bE 420 3 0 48 bE) 24)
      exact hb2.alloc hb2.size _
  case round =>
    obtain ⟨k, hk, rfl, hx, hy, hzz, hi, hn, hb⟩ := hrel
    have HX := Lib.hid hx
    have HY := Lib.hid hy
    have HZ := Lib.hid hzz
    have HI := Lib.hid hi
    have HN := Lib.hid hn
    have HB := Lib.hid hb
    clear hx hy hzz hi hn hb
    by_cases hlt : k < 101
    · have hyc := blk_cell HY.out 0
      have hyf := blk_frozen HY.out 0
      go_wp2_with fail
      all_goals first
        | (exfalso; rename_i h; rw [bM_size] at h; omega)
        | skip
      go_roundw
      case rel =>
        refine ⟨k + 1, by omega, by go_num, blk_far HX.out (show w14.heap.size ≠ w14.heap.size + 1 by omega) _, ?_, blk_far HZ.out (show w14.heap.size + 1 + 1 ≠ w14.heap.size + 1 by omega) _, blk_far HI.out (show gb ≠ w14.heap.size + 1 by omega) _, blk_far HN.out (show w9.heap.size ≠ w14.heap.size + 1 by omega) _, HB.out.setCell (show W.heap.size ≤ w14.heap.size + 1 by have := HGL.out; omega) _⟩
        rw [blk_set HY.out, ← bM_snoc]; rfl
      case measure => simp [kOf]; omega
    · have hkM : k = 101 := by omega
      subst hkM
      have hyc := blk_cell HY.out 0
      have hyf := blk_frozen HY.out 0
      have hsz : (bM 101).size = 102 := bM_size 101
      have hzc := fun u => blk_cell (blk_far HZ.out (p := ⟨w14.heap.size + 1, 0, none⟩) (show w14.heap.size + 1 + 1 ≠ w14.heap.size + 1 by omega) u) 2
      have hzf := fun u => blk_frozen (blk_far HZ.out (p := ⟨w14.heap.size + 1, 0, none⟩) (show w14.heap.size + 1 + 1 ≠ w14.heap.size + 1 by omega) u) 2
      have hx2 := blk_far (blk_far HX.out (p := ⟨w14.heap.size + 1, 0, none⟩) (show w14.heap.size ≠ w14.heap.size + 1 by omega) (.string ((bM 101).extract 0 101))) (p := ⟨w14.heap.size + 1 + 1, 2, none⟩) (show w14.heap.size ≠ w14.heap.size + 1 + 1 by omega) (.int .i64 4096)
      have hy2 := blk_far (blk_set HY.out 0 (.string ((bM 101).extract 0 101))) (p := ⟨w14.heap.size + 1 + 1, 2, none⟩) (show w14.heap.size + 1 ≠ w14.heap.size + 1 + 1 by omega) (.int .i64 4096)
      have hz2 := blk_set (blk_far HZ.out (p := ⟨w14.heap.size + 1, 0, none⟩) (show w14.heap.size + 1 + 1 ≠ w14.heap.size + 1 by omega) (.string ((bM 101).extract 0 101))) 2 (.int .i64 4096)
      have hi2 : IM ((wr.setCell ⟨w14.heap.size + 1, 0, none⟩ (.string ((bM 101).extract 0 101))).setCell ⟨w14.heap.size + 1 + 1, 2, none⟩ (.int .i64 4096)) gb L3 := blk_far (blk_far HI.out (p := ⟨w14.heap.size + 1, 0, none⟩) (show gb ≠ w14.heap.size + 1 by omega) (.string ((bM 101).extract 0 101))) (p := ⟨w14.heap.size + 1 + 1, 2, none⟩) (show gb ≠ w14.heap.size + 1 + 1 by omega) (.int .i64 4096)
      have hn2 := blk_far (blk_far HN.out (p := ⟨w14.heap.size + 1, 0, none⟩) (show w9.heap.size ≠ w14.heap.size + 1 by omega) (.string ((bM 101).extract 0 101))) (p := ⟨w14.heap.size + 1 + 1, 2, none⟩) (show w9.heap.size ≠ w14.heap.size + 1 + 1 by omega) (.int .i64 4096)
      have hb2 := (HB.out.setCell (p := ⟨w14.heap.size + 1, 0, none⟩) (show W.heap.size ≤ w14.heap.size + 1 by have := HGL.out; omega) (.string ((bM 101).extract 0 101))).setCell (p := ⟨w14.heap.size + 1 + 1, 2, none⟩) (show W.heap.size ≤ w14.heap.size + 1 + 1 by have := HGL.out; omega) (.int .i64 4096)
      have hcut : (bM 101).extract 0 101 = bM 100 := by kernel_rfl
      have HX15 := Lib.hid hx2
      have hcut' := hcut
      rw [hcut] at hy2
      have HY15 := Lib.hid (show ((wr.setCell ⟨w14.heap.size + 1, 0, none⟩ (.string ((bM 101).extract 0 101))).setCell ⟨w14.heap.size + 1 + 1, 2, none⟩ (.int .i64 4096)).heap[w14.heap.size + 1]? = some (.cells (HV (bM 100) bE 420 3 0 48 bE) 24 (0, 0)) by rw [hcut]; exact hy2)
      have HZ15 := Lib.hid (show ((wr.setCell ⟨w14.heap.size + 1, 0, none⟩ (.string ((bM 101).extract 0 101))).setCell ⟨w14.heap.size + 1 + 1, 2, none⟩ (.int .i64 4096)).heap[w14.heap.size + 1 + 1]? = some (.cells (HV bA bE 4096 3 0 48 bE) 24 (0, 0)) from hz2)
      clear hcut'
      have HI15 := Lib.hid hi2
      have HN15 := Lib.hid hn2
      have HB15 := Lib.hid hb2
      have HCUT := Lib.hid hcut
      clear hx2 hy2 hz2 hi2 hn2 hb2 hcut HX HY HZ HI HN HB
      go_wp2_with ((with_reducible refine gate_dst (N := 120) rfl ?_); refine wpList_load_row rfl TH (.tmp 15) rfl w14.heap.size rfl TH _ (0, 0) _ HX15.out Try.underlying24 rfl (by kernel_rfl) ?_)
      with_reducible refine (put_no bA bE 420 3 0 51 bE 102 _ (by decide) mayX.symm (by decide)).mono ?_
      rintro e w16 ⟨rfl, hb⟩
      have HX16 := Lib.hid (blk_below HX15.out hb)
      have HY16 := Lib.hid (blk_below HY15.out hb)
      have HZ16 := Lib.hid (blk_below HZ15.out hb)
      have HI16 := Lib.hid (HI15.out.below hb)
      have HN16 := Lib.hid (blk_below HN15.out hb)
      have HB16 := Lib.hid (HB15.out.trans (hb.mono HB15.out.size))
      clear hb HX15 HY15 HZ15 HI15 HN15 hyc hyf hzc hzf
      go_wp2_with ((with_reducible refine gate_dst (N := 125) rfl ?_); refine wpList_load_row rfl TH (.tmp 16) rfl (w14.heap.size + 1) rfl TH _ (0, 0) _ HY16.out Try.underlying24 rfl (by kernel_rfl) ?_)
      with_reducible refine (put_no (bM 100) bE 420 3 0 48 bE 2 _ (by decide) mayY2.symm (by decide)).mono ?_
      rintro e w17 ⟨rfl, hb⟩
      have HY17 := Lib.hid (blk_below HY16.out hb)
      have HZ17 := Lib.hid (blk_below HZ16.out hb)
      have HI17 := Lib.hid (HI16.out.below hb)
      have HN17 := Lib.hid (blk_below HN16.out hb)
      have HB17 := Lib.hid (HB16.out.trans (hb.mono HB16.out.size))
      clear hb HX16 HY16 HZ16 HI16 HN16
      go_wp2_with ((with_reducible refine gate_dst (N := 130) rfl ?_); refine wpList_load_row rfl TH (.tmp 17) rfl (w14.heap.size + 1 + 1) rfl TH _ (0, 0) _ HZ17.out Try.underlying24 rfl (by kernel_rfl) ?_)
      with_reducible refine (put_no bA bE 4096 3 0 48 bE 1 _ (by decide) mayZ.symm (by decide)).mono ?_
      rintro e w18 ⟨rfl, hb⟩
      have HY18 := Lib.hid (blk_below HY17.out hb)
      have HI18 := Lib.hid (HI17.out.below hb)
      have HN18 := Lib.hid (blk_below HN17.out hb)
      have HB18 := Lib.hid (HB17.out.trans (hb.mono HB17.out.size))
      clear hb HY17 HZ17 HI17 HN17
      have hyc : (w18.alloc (Obj.cells #[.string ⟨#[97]⟩, .string ⟨#[112, 47, 113]⟩, .int .i64 0, .int .i64 0, .int .i64 0, .int .u8 0, .string ⟨#[]⟩] 24)).drew.cell? ⟨w14.heap.size + 1, 0, none⟩ = some (.string (bM 100)) := blk_cell (blk_drew (blk_alloc HY18.out _)) 0
      have hsz2 : (bM 100).size = 101 := bM_size 100
      go_wp2_with fail
      go_region
      have hL : bM 100 ++ (bM 100).extract 0 54 = bL := by kernel_rfl
      rw [hL]
      obtain ⟨w19, h19⟩ : ∃ w, w = (w18.alloc (Obj.cells #[.string ⟨#[97]⟩, .string ⟨#[112, 47, 113]⟩, .int .i64 0, .int .i64 0, .int .i64 0, .int .u8 0, .string ⟨#[]⟩] 24)).drew := ⟨_, rfl⟩
      rw [← h19]
      have HF19 := Lib.hid (show w19.heap[w18.heap.size]? = some (.cells (HV bA bPQ 0 0 0 0 bE) 24 (0, 0)) by rw [h19]; exact blk_drew (blk_new w18 _))
      have HY19 := Lib.hid (show w19.heap[w14.heap.size + 1]? = some (.cells (HV (bM 100) bE 420 3 0 48 bE) 24 (0, 0)) by rw [h19]; exact blk_drew (blk_alloc HY18.out _))
      have HI19 := Lib.hid (show IM w19 gb L3 by rw [h19]; exact blk_drew (blk_alloc HI18.out _))
      have HN19 := Lib.hid (show w19.heap[w9.heap.size]? = some (.cells ZV 5 (0, 0)) by rw [h19]; exact blk_drew (blk_alloc HN18.out _))
      have HB19 := Lib.hid (show Below W.heap.size W w19 by rw [h19]; exact (HB18.out.alloc HB18.out.size _).drew)
      have HW18 := Lib.hid (show W.heap.size ≤ w18.heap.size from HB18.out.size)
      have HFG := Lib.hid (show w18.heap.size ≠ gb by have := HI18.out.lt; omega)
      clear h19 hL hyc HY18 HI18 HN18 HB18
      have hyc0 : w19.cell? ⟨w14.heap.size + 1, 0, none⟩ = some (.string (bM 100)) := blk_cell HY19.out 0
      have hyc1 : w19.drew.cell? ⟨w14.heap.size + 1, 0, none⟩ = some (.string (bM 100)) := blk_cell (blk_drew HY19.out) 0
      have hyc2 : (w19.alloc (Obj.cells #[.string ⟨#[]⟩, .string ⟨#[]⟩, .int .i64 0, .int .i64 0, .int .i64 0, .int .u8 0, .string ⟨#[]⟩] 24)).cell? ⟨w14.heap.size + 1, 0, none⟩ = some (.string (bM 100)) := blk_cell (blk_alloc HY19.out _) 0
      have hyc3 : (w19.alloc (Obj.cells #[.string ⟨#[]⟩, .string ⟨#[]⟩, .int .i64 0, .int .i64 0, .int .i64 0, .int .u8 0, .string ⟨#[]⟩] 24)).drew.cell? ⟨w14.heap.size + 1, 0, none⟩ = some (.string (bM 100)) := blk_cell (blk_drew (blk_alloc HY19.out _)) 0
      go_wp2_with fail
      go_region
      have hC : (bM 100).extract 0 100 = bM 99 := by kernel_rfl
      rw [hC]
      obtain ⟨w20, h20⟩ : ∃ w, w = (w19.alloc (Obj.cells #[.string (bM 99), .string bL, .int .i64 0, .int .i64 0, .int .i64 1099511627776, .int .u8 50, .string (bM 99)] 24)).drew := ⟨_, rfl⟩
      rw [← h20]
      have HF20 := Lib.hid (show w20.heap[w18.heap.size]? = some (.cells (HV bA bPQ 0 0 0 0 bE) 24 (0, 0)) by rw [h20]; exact blk_drew (blk_alloc HF19.out _))
      have HD20 := Lib.hid (show w20.heap[w19.heap.size]? = some (.cells (HV (bM 99) bL 0 0 1099511627776 50 (bM 99)) 24 (0, 0)) by rw [h20]; exact blk_drew (blk_new w19 _))
      have HI20 := Lib.hid (show IM w20 gb L3 by rw [h20]; exact blk_drew (blk_alloc HI19.out _))
      have HN20 := Lib.hid (show w20.heap[w9.heap.size]? = some (.cells ZV 5 (0, 0)) by rw [h20]; exact blk_drew (blk_alloc HN19.out _))
      have HB20 := Lib.hid (show Below W.heap.size W w20 by rw [h20]; exact (HB19.out.alloc HB19.out.size _).drew)
      have HW19 := Lib.hid (show W.heap.size ≤ w19.heap.size from HB19.out.size)
      have HFD := Lib.hid (show w18.heap.size ≠ w19.heap.size by have := blk_lt HF19.out; omega)
      have HID := Lib.hid (show gb ≠ w19.heap.size by have := HI19.out.lt; omega)
      have HND := Lib.hid (show w9.heap.size ≠ w19.heap.size by have := blk_lt HN19.out; omega)
      clear h20 hC hyc0 hyc1 hyc2 hyc3 HF19 HI19 HN19 HB19 HY19
      obtain ⟨lw, hlw⟩ : ∃ l, l = layS (bM 99) bL 0 0 1099511627776 50 (bM 99) := ⟨_, rfl⟩
      have HLW := Lib.hid hlw
      clear hlw
      go_wp2_with ((with_reducible refine gate_dst (N := 150) rfl ?_); refine wpList_load_row rfl TH (.tmp 27) rfl w19.heap.size rfl TH _ (0, 0) _ HD20.out Try.underlying24 rfl (by kernel_rfl) ?_)
      with_reducible refine (put_im (bM 99) bL 0 0 1099511627776 50 (bM 99) lw _ (by decide) mayW2 HLW.out).mono ?_
      rintro e w21 ⟨gc, rfl, hgc, ic, hb⟩
      have HF21 := Lib.hid (blk_below HF20.out hb)
      have HD21 := Lib.hid (blk_below HD20.out hb)
      have HI21 := Lib.hid (HI20.out.below hb)
      have HN21 := Lib.hid (blk_below HN20.out hb)
      have HB21 := Lib.hid (HB20.out.trans (hb.mono HB20.out.size))
      have HC21 := Lib.hid ic
      clear hb ic hgc HF20 HD20 HI20 HN20 HB20
      go_wp2_with fail
      with_reducible refine (get_im gc lw (bM 99) bL 0 0 1099511627776 50 (bM 99) 0 _ HC21.out (lenW HLW.out) (getW HLW.out)).mono ?_
      rintro e w22 ⟨rfl, hb⟩
      have HF22 := Lib.hid (blk_below HF21.out hb)
      have HD22 := Lib.hid (blk_below HD21.out hb)
      have HI22 := Lib.hid (HI21.out.below hb)
      have HN22 := Lib.hid (blk_below HN21.out hb)
      have HB22 := Lib.hid (HB21.out.trans (hb.mono HB21.out.size))
      clear hb HF21 HD21 HI21 HN21 HB21 HC21
      have hz1 : bL.size = 155 := bL_size
      have hx1 : (w22.alloc (Obj.cells #[.string (bM 99), .string bL, .int .i64 0, .int .i64 0, .int .i64 1099511627776, .int .u8 50, .string (bM 99)] 24)).cell? ⟨w19.heap.size, 1, none⟩ = some (.string bL) := blk_cell (blk_alloc HD22.out _) 1
      have hf1 : (w22.alloc (Obj.cells #[.string (bM 99), .string bL, .int .i64 0, .int .i64 0, .int .i64 1099511627776, .int .u8 50, .string (bM 99)] 24)).frozen? ⟨w19.heap.size, 1, none⟩ = false := blk_frozen (blk_alloc HD22.out _) 1
      have hsx : bL ++ ⟨#[120]⟩ = bLx := by kernel_rfl
      have HKD := Lib.hid (show w22.heap.size ≠ w19.heap.size by have := blk_lt HD22.out; omega)
      have HKG := Lib.hid (show w22.heap.size ≠ gb by have := HI22.out.lt; omega)
      have hd3 := blk_set (blk_alloc HD22.out (Obj.cells #[.string (bM 99), .string bL, .int .i64 0, .int .i64 0, .int .i64 1099511627776, .int .u8 50, .string (bM 99)] 24)) 1 (.string bLx)
      have HD23 := Lib.hid (show ((w22.alloc (Obj.cells #[.string (bM 99), .string bL, .int .i64 0, .int .i64 0, .int .i64 1099511627776, .int .u8 50, .string (bM 99)] 24)).setCell ⟨w19.heap.size, 1, none⟩ (.string bLx)).heap[w19.heap.size]? = some (.cells (HV (bM 99) bLx 0 0 1099511627776 50 (bM 99)) 24 (0, 0)) from hd3)
      have HF23 := Lib.hid (blk_far (blk_alloc HF22.out (Obj.cells #[.string (bM 99), .string bL, .int .i64 0, .int .i64 0, .int .i64 1099511627776, .int .u8 50, .string (bM 99)] 24)) (p := ⟨w19.heap.size, 1, none⟩) HFD.out (.string bLx))
      have HK23 := Lib.hid (blk_far (blk_new w22 (Obj.cells #[.string (bM 99), .string bL, .int .i64 0, .int .i64 0, .int .i64 1099511627776, .int .u8 50, .string (bM 99)] 24)) (p := ⟨w19.heap.size, 1, none⟩) HKD.out (.string bLx))
      have HI23 := Lib.hid (show IM ((w22.alloc (Obj.cells #[.string (bM 99), .string bL, .int .i64 0, .int .i64 0, .int .i64 1099511627776, .int .u8 50, .string (bM 99)] 24)).setCell ⟨w19.heap.size, 1, none⟩ (.string bLx)) gb L3 from blk_far (blk_alloc HI22.out (Obj.cells #[.string (bM 99), .string bL, .int .i64 0, .int .i64 0, .int .i64 1099511627776, .int .u8 50, .string (bM 99)] 24)) (p := ⟨w19.heap.size, 1, none⟩) HID.out (.string bLx))
      have HN23 := Lib.hid (blk_far (blk_alloc HN22.out (Obj.cells #[.string (bM 99), .string bL, .int .i64 0, .int .i64 0, .int .i64 1099511627776, .int .u8 50, .string (bM 99)] 24)) (p := ⟨w19.heap.size, 1, none⟩) HND.out (.string bLx))
      have HB23 := Lib.hid ((HB22.out.alloc HB22.out.size (Obj.cells #[.string (bM 99), .string bL, .int .i64 0, .int .i64 0, .int .i64 1099511627776, .int .u8 50, .string (bM 99)] 24)).setCell (p := ⟨w19.heap.size, 1, none⟩) HW19.out (.string bLx))
      clear hd3 HF22 HI22 HN22 HB22 HD22
      go_wp2_with ((with_reducible refine gate_dst (N := 163) rfl ?_); refine wpList_load_row rfl TH (.tmp 27) rfl w19.heap.size rfl TH _ (0, 0) _ HD23.out Try.underlying24 rfl (by kernel_rfl) ?_)
      with_reducible refine (put_no (bM 99) bLx 0 0 1099511627776 50 (bM 99) 2 _ (by decide) mayV2.symm (by decide)).mono ?_
      rintro e w24 ⟨rfl, hb⟩
      have HF24 := Lib.hid (blk_below HF23.out hb)
      have HK24 := Lib.hid (blk_below HK23.out hb)
      have HI24 := Lib.hid (HI23.out.below hb)
      have HN24 := Lib.hid (blk_below HN23.out hb)
      have HB24 := Lib.hid (HB23.out.trans (hb.mono HB23.out.size))
      clear hb HF23 HK23 HI23 HN23 HB23 HD23 hx1 hf1 hsx
      have hx2 := HI24.out.cell 100 (by rw [len3]; decide)
      have hf2 := blk_frozen HI24.out 100
      have hi2 := HI24.out.set 100 48
      have hx3 := hi2.cell 500 (by rw [List.length_set, len3]; decide)
      have hf3 := blk_frozen hi2 500
      have hi3 := hi2.set 500 1
      rw [← show L6 = (L3.set 100 48).set 500 1 from rfl] at hi3
      have HI25 := Lib.hid hi3
      have HF25 := Lib.hid (blk_far (blk_far HF24.out (p := ⟨gb, 100, none⟩) HFG.out (.int .u8 48)) (p := ⟨gb, 500, none⟩) HFG.out (.int .u8 1))
      have HK25 := Lib.hid (blk_far (blk_far HK24.out (p := ⟨gb, 100, none⟩) HKG.out (.int .u8 48)) (p := ⟨gb, 500, none⟩) HKG.out (.int .u8 1))
      have HN25 := Lib.hid (blk_far (blk_far HN24.out (p := ⟨gb, 100, none⟩) HNG.out (.int .u8 48)) (p := ⟨gb, 500, none⟩) HNG.out (.int .u8 1))
      have HB25 := Lib.hid ((HB24.out.setCell (p := ⟨gb, 100, none⟩) HGB.out (.int .u8 48)).setCell (p := ⟨gb, 500, none⟩) HGB.out (.int .u8 1))
      clear hi2 hi3 HI24 HF24 HK24 HN24 HB24
      go_wp2_with fail
      with_reducible refine (seal_im (some ⟨gb, 0, none⟩) 512 L6 (sealS L6) _ (im_C HI25.out len6) (by rw [len6]; decide) len6 are6 rfl).mono ?_
      rintro e w26 ⟨gu, rfl, hgu, is, hb⟩
      have HU26 := Lib.hid is
      have HF26 := Lib.hid (blk_below HF25.out hb)
      have HK26 := Lib.hid (blk_below HK25.out hb)
      have HN26 := Lib.hid (blk_below HN25.out hb)
      have HB26 := Lib.hid (HB25.out.trans (hb.mono HB25.out.size))
      clear hb is hgu HI25 HF25 HK25 HN25 HB25 hx2 hf2 hx3 hf3
      have hk1 := blk_cell HK26.out 1
      have hk4 := blk_cell HK26.out 4
      go_wp2_with fail
      all_goals first
        | (exfalso; rename_i h; first | exact h rfl | (simp at h; done))
        | skip
      with_reducible refine (refused_at (some ⟨gu, 0, none⟩) 512 (sealS L6) 100 _ (im_RC HU26.out (by decide +kernel)) (by decide +kernel) (by decide) get6).mono ?_
      rintro e w27 ⟨rfl, hb⟩
      have HF27 := Lib.hid (blk_below HF26.out hb)
      have HN27 := Lib.hid (blk_below HN26.out hb)
      have HB27 := Lib.hid (HB26.out.trans (hb.mono HB26.out.size))
      clear hb HU26 HF26 HK26 HN26 HB26 hk1 hk4
      go_wp2_with fail
      with_reducible refine (refused_at (some ⟨w9.heap.size, 0, none⟩) 512 ZL 100 _ (zl_RC HN27.out) lenZ (by decide) getZ).mono ?_
      rintro e w28 ⟨rfl, hb⟩
      have HF28 := Lib.hid (blk_below HF27.out hb)
      have HN28 := Lib.hid (blk_below HN27.out hb)
      have HB28 := Lib.hid (HB27.out.trans (hb.mono HB27.out.size))
      clear hb HF27 HN27 HB27
      go_wp2_with fail
      with_reducible refine (blank_z w9.heap.size _ HN28.out).mono ?_
      rintro e w29 ⟨rfl, hb⟩
      have HF29 := Lib.hid (blk_below HF28.out hb)
      have HN29 := Lib.hid (blk_below HN28.out hb)
      have HB29 := Lib.hid (HB28.out.trans (hb.mono HB28.out.size))
      clear hb HF28 HN28 HB28
      go_wp2_with fail
      with_reducible refine (blank_zs w9.heap.size _ HN29.out).mono ?_
      rintro e w30 ⟨rfl, hb⟩
      have HF30 := Lib.hid (blk_below HF29.out hb)
      have HB30 := Lib.hid (HB29.out.trans (hb.mono HB29.out.size))
      clear hb HF29 HN29 HB29
      go_wp2_with fail
      with_reducible refine (small_at _).mono ?_
      rintro e w31 ⟨rfl, hb⟩
      have HF31 := Lib.hid (blk_below HF30.out hb)
      have HB31 := Lib.hid (HB30.out.trans (hb.mono HB30.out.size))
      clear hb HF30 HB30
      go_wp2_with fail
      with_reducible refine (full_s _).mono ?_
      rintro e w32 ⟨rfl, hb⟩
      have HF32 := Lib.hid (blk_below HF31.out hb)
      have HB32 := Lib.hid (HB31.out.trans (hb.mono HB31.out.size))
      clear hb HF31 HB31
      have hc0 : w32.cell? ⟨w18.heap.size, 0, none⟩ = some (.string bA) := blk_cell HF32.out 0
      have hc1 : w32.cell? ⟨w18.heap.size, 1, none⟩ = some (.string bPQ) := blk_cell HF32.out 1
      have hc2 : w32.cell? ⟨w18.heap.size, 2, none⟩ = some (.int .i64 0) := blk_cell HF32.out 2
      have hc3 : w32.cell? ⟨w18.heap.size, 3, none⟩ = some (.int .i64 0) := blk_cell HF32.out 3
      have hc4 : w32.cell? ⟨w18.heap.size, 4, none⟩ = some (.int .i64 0) := blk_cell HF32.out 4
      have hc5 : w32.cell? ⟨w18.heap.size, 5, none⟩ = some (.int .u8 0) := blk_cell HF32.out 5
      have hc6 : w32.cell? ⟨w18.heap.size, 6, none⟩ = some (.string bE) := blk_cell HF32.out 6
      go_wp2_with (go_at_call 23; (with_reducible refine (full_f _).mono ?_); rintro e w33 ⟨rfl, hb⟩; have HB33 := Lib.hid (HB32.out.trans (hb.mono HB32.out.size)); clear hb)
      all_goals first
        | (exfalso; rename_i h; first | exact h bA_one | exact h rfl | (simp [bA] at h; done))
        | skip
      all_goals go_ret
      all_goals exact ⟨rfl, HB33.out⟩
end Go.Proofs.Ytdmpbfhbjklajaa.WalkHeadKnown
end
