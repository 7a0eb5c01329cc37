/- Texts of this claim, laid together by wip/tools/squash.py: Lay, HeadPut, HeadSums, HText. -/
import Derived.Test.YtdmpbfhbjklajaaQB2
import Derived.OwnWalk

/- A head's bytes laid and sealed. -/
section
namespace Go.Proofs.Ytdmpbfhbjklajaa.Lay
open Go.Proofs.Ytdmpbfhbjklajaa Go.RowKit Go.Proofs.YtdmpbfhbjklajaaW.PrintWords Go.Proofs.YtdmpbfhbjklajaaW.PrintLast Go.Proofs.YtdmpbfhbjklajaaW.PrintMore Go.Proofs.Ytdmpbfhbjklajaa.Byt Go.Proofs.Ytdmpbfhbjklajaa.OctPure Go.Proofs.Ytdmpbfhbjklajaa.Img Go.Proofs.Ytdmpbfhbjklajaa.Head
set_option linter.unusedVariables false
set_option linter.unusedSimpArgs false

/-- What stands while a head is laid: the head boxed, the answer's room, the bytes so far. -/
structure L (W : World) (h : Array Value) (w : World) (l : List Int) : Prop where
  bel : Below W.heap.size W w
  box : w.heap[W.heap.size]? = some (.cells h TH (0, 0))
  res : w.heap[W.heap.size + 1]? = some (.cells ZV TI (0, 0))
  im : IM w (W.heap.size + 1 + 1) l
theorem L.wrote {W w w' : World} {h : Array Value} {l l' : List Int} (k : L W h w l) (hi : IM w' (W.heap.size + 1 + 1) l') (hw : Wrote (W.heap.size + 1 + 1) w w') : L W h w' l' :=
  ⟨k.bel.trans (hw.below (by omega) k.bel.size), (hw.block _ (blk_lt k.box) (by omega)).trans k.box, (hw.block _ (blk_lt k.res) (by omega)).trans k.res, hi⟩
theorem L.drew {W w : World} {h : Array Value} {l : List Int} (k : L W h w l) : L W h w.drew l := ⟨k.bel.drew, k.box, k.res, k.im⟩
theorem L.cell {W w : World} {h : Array Value} {l : List Int} (k : L W h w l) (j : Nat) (v : Value) (hv : h[j]? = some v) : w.cell? ⟨W.heap.size, j, none⟩ = some v := by rw [blk_cell k.box, hv]
theorem L.start (W : World) (h : Array Value) : L W h (((W.alloc (.cells h TH)).alloc (.cells ZV TI)).alloc (.cells ZV TI)) Z512 := by
  refine ⟨(((Below.refl _ _).alloc (Nat.le_refl _) _).alloc (by simp) _).alloc (by simp; omega) _, blk_alloc (blk_alloc (blk_new _ _) _) _, ?_, ?_⟩
  · have := blk_new (W.alloc (.cells h TH)) (.cells ZV TI)
    rw [show (W.alloc (.cells h TH)).heap.size = W.heap.size + 1 by simp] at this
    exact blk_alloc this _
  · have := blk_new ((W.alloc (.cells h TH)).alloc (.cells ZV TI)) (.cells ZV TI)
    rwa [show ((W.alloc (.cells h TH)).alloc (.cells ZV TI)).heap.size = W.heap.size + 1 + 1 by simp] at this

set_option maxRecDepth 100000 in
set_option maxHeartbeats 16000000 in
theorem lay_gen (n p : ByteArray) (m s t y : Int) (k : ByteArray) (R : List Int) (W : World) (hR : R = layS n p m s t y k) (hn : n.size ≤ 100) (hp : p.size ≤ 155) (hk : k.size ≤ 100) (hy : 0 ≤ y ∧ y ≤ 255)
    (hm : -9223372036854775808 ≤ m ∧ m ≤ 9223372036854775807) (hs : -9223372036854775808 ≤ s ∧ s ≤ 9223372036854775807) (ht : -9223372036854775808 ≤ t ∧ t ≤ 9223372036854775807) :
    Calls Try.prog 35 #[.agg (hv n p m s t y k)] W fun e w' => e = .returned (.agg (nums .u8 R).toArray) ∧ Below W.heap.size W w' := by
  have hz := zI
  obtain ⟨l1, el1⟩ : ∃ l, l = ins Z512 0 (bytesOf n) := ⟨_, rfl⟩
  obtain ⟨l2, el2⟩ : ∃ l, l = ins l1 100 (putS m 8).1 := ⟨_, rfl⟩
  obtain ⟨l3, el3⟩ : ∃ l, l = ins l2 108 (putS 0 8).1 := ⟨_, rfl⟩
  obtain ⟨l4, el4⟩ : ∃ l, l = ins l3 116 (putS 0 8).1 := ⟨_, rfl⟩
  obtain ⟨l5, el5⟩ : ∃ l, l = ins l4 124 (putS s 12).1 := ⟨_, rfl⟩
  obtain ⟨l6, el6⟩ : ∃ l, l = ins l5 136 (putS t 12).1 := ⟨_, rfl⟩
  obtain ⟨l7, el7⟩ : ∃ l, l = l6.set 156 y := ⟨_, rfl⟩
  obtain ⟨l8, el8⟩ : ∃ l, l = ins l7 157 (bytesOf k) := ⟨_, rfl⟩
  obtain ⟨l9, el9⟩ : ∃ l, l = ins l8 257 MAGIC := ⟨_, rfl⟩
  obtain ⟨l10, el10⟩ : ∃ l, l = ins l9 329 (putS 0 8).1 := ⟨_, rfl⟩
  obtain ⟨l11, el11⟩ : ∃ l, l = ins l10 337 (putS 0 8).1 := ⟨_, rfl⟩
  obtain ⟨l12, el12⟩ : ∃ l, l = ins l11 345 (bytesOf p) := ⟨_, rfl⟩
  have q0 : Z512.length = 512 := z_ok.1
  have q1 : l1.length = 512 := by rw [el1, ins_len, q0]
  have q2 : l2.length = 512 := by rw [el2, ins_len, q1]
  have q3 : l3.length = 512 := by rw [el3, ins_len, q2]
  have q4 : l4.length = 512 := by rw [el4, ins_len, q3]
  have q5 : l5.length = 512 := by rw [el5, ins_len, q4]
  have q6 : l6.length = 512 := by rw [el6, ins_len, q5]
  have q7 : l7.length = 512 := by rw [el7, List.length_set, q6]
  have q8 : l8.length = 512 := by rw [el8, ins_len, q7]
  have q9 : l9.length = 512 := by rw [el9, ins_len, q8]
  have q10 : l10.length = 512 := by rw [el10, ins_len, q9]
  have q11 : l11.length = 512 := by rw [el11, ins_len, q10]
  have q12 : l12.length = 512 := by rw [el12, ins_len, q11]
  have hRl : R = sealS l12 := by rw [hR, el12, el11, el10, el9, el8, el7, el6, el5, el4, el3, el2, el1]; rfl
  have hB12 : Bytes l12 := by
    have := (body_ok n p m s t y k hy).2
    rwa [show bodyS n p m s t y k = l12 by rw [el12, el11, el10, el9, el8, el7, el6, el5, el4, el3, el2, el1]; rfl] at this
  have hRlen : R.length = 512 := by rw [hRl]; exact (seal_ok ⟨q12, hB12⟩).1
  have Q1 := Lib.hid q1
  have E1 := Lib.hid el1
  have Q2 := Lib.hid q2
  have E2 := Lib.hid el2
  have Q3 := Lib.hid q3
  have E3 := Lib.hid el3
  have Q4 := Lib.hid q4
  have E4 := Lib.hid el4
  have Q5 := Lib.hid q5
  have E5 := Lib.hid el5
  have Q6 := Lib.hid q6
  have E6 := Lib.hid el6
  have Q7 := Lib.hid q7
  have E7 := Lib.hid el7
  have Q8 := Lib.hid q8
  have E8 := Lib.hid el8
  have Q9 := Lib.hid q9
  have E9 := Lib.hid el9
  have Q10 := Lib.hid q10
  have E10 := Lib.hid el10
  have Q11 := Lib.hid q11
  have E11 := Lib.hid el11
  have Q12 := Lib.hid q12
  have E12 := Lib.hid el12
  have HR := Lib.hid hRl
  have HB12 := Lib.hid hB12
  have HRL := Lib.hid hRlen
  have HI := Lib.hid (show (Try.prog.info? TI).map (·.size) = some (nums .u8 R).toArray.size by rw [show (nums .u8 R).toArray.size = 512 by simp [nums, hRlen]]; exact infoI)
  have HT := Lib.hid (show ZV.size = (nums .u8 R).toArray.size by rw [show (nums .u8 R).toArray.size = 512 by simp [nums, hRlen]]; rfl)
  have c157 : ∀ w : World, (Instr.sliceAt TI (.pointer (some ⟨W.heap.size + 1 + 1, 0, none⟩)) (some (.int .i64 157)) none none).run Try.prog w = .ok (.slice (some ⟨W.heap.size + 1 + 1, 157, none⟩) 355 355) w := run_fromI _ 157 (by decide)
  have c257 : ∀ w : World, (Instr.sliceAt TI (.pointer (some ⟨W.heap.size + 1 + 1, 0, none⟩)) (some (.int .i64 257)) none none).run Try.prog w = .ok (.slice (some ⟨W.heap.size + 1 + 1, 257, none⟩) 255 255) w := run_fromI _ 257 (by decide)
  have c345 : ∀ w : World, (Instr.sliceAt TI (.pointer (some ⟨W.heap.size + 1 + 1, 0, none⟩)) (some (.int .i64 345)) none none).run Try.prog w = .ok (.slice (some ⟨W.heap.size + 1 + 1, 345, none⟩) 167 167) w := run_fromI _ 345 (by decide)
  clear hR hRl hB12 hRlen q0 q1 q2 q3 q4 q5 q6 q7 q8 q9 q10 q11 q12 el1 el2 el3 el4 el5 el6 el7 el8 el9 el10 el11 el12
  have HL0 := Lib.hid (L.start W (hv n p m s t y k))
  unfold hv at HL0 ⊢
  go_enter Try.func35, Try.ntmps35
  go_wp2
  generalize ((W.alloc (.cells #[.string n, .string p, .int .i64 m, .int .i64 s, .int .i64 t, .int .u8 y, .string k] TH)).alloc (.cells ZV TI)).alloc (.cells ZV TI) = w0 at HL0 ⊢
  have x0 := HL0.out.drew.cell 0 _ rfl
  refine start_ (n := 4) (S := fun w' => w'.cell? ⟨W.heap.size, 0, none⟩ = some (.string n)) (ds := []) #[false, false, false, false] (by kernel_rfl) rfl rfl (x0) (fun hHeld => ?_)
  refine pure_ (i := 0) (N := some 4) (v := ?_) (a' := ?_) #[true, false, false, false] rfl rfl (by kernel_rfl) (fun _ _ _ h => h) (Or.inl ⟨by rfl, ?_⟩) ?_ ?_
  rotate_left
  · intro w'
    go_simp
    (first | (with_reducible rfl) | ((try simp only [*]); (with_reducible rfl)))
  rotate_left
  · simp only [Act.put, List.setIfInBounds_toArray, List.set_cons_zero, List.set_cons_succ, i64_w, i32_w]
    rfl
  refine pure_ (i := 1) (N := some 5) (v := ?_) (a' := ?_) #[true, true, false, false] rfl rfl (by kernel_rfl) (fun _ _ _ h => h) (Or.inl ⟨by rfl, ?_⟩) ?_ ?_
  rotate_left
  · intro w'
    go_simp
    (first | (with_reducible rfl) | ((try simp only [*]); (with_reducible rfl)))
  rotate_left
  · simp only [Act.put, List.setIfInBounds_toArray, List.set_cons_zero, List.set_cons_succ, i64_w, i32_w]
    rfl
  refine take_ (i := 2) (N := some 6) (v := ?_) (a' := ?_) #[true, true, true, false] rfl rfl (by kernel_rfl) (fun _ _ _ h => h) (Or.inl ⟨by rfl, ?_⟩) hHeld ?_ ?_
  rotate_left
  · intro w' s0
    go_simp
    (first | (with_reducible rfl) | ((try simp only [*]); (with_reducible rfl)))
  rotate_left
  · simp only [Act.put, List.setIfInBounds_toArray, List.set_cons_zero, List.set_cons_succ, i64_w, i32_w]
    rfl
  refine one_ (i := 3) (N := some 7) #[true, true, true, true] rfl rfl (by kernel_rfl) (by decide) (fun K hK => ?_)
  refine step_copy_str (by rfl) (.tmp 4) (.tmp 6) rfl (W.heap.size + 1 + 1) 0 512 512 n Z512 (bytesOf n) rfl rfl rfl HL0.out.im z_ok.1 (by rw [bytesOf_length]; omega) ?_
  rw [← E1.out]
  intro w1 hi1 hw1
  have HL1 := Lib.hid (HL0.out.drew.wrote hi1 hw1)
  clear hi1 hw1
  refine hK.out _ _ (HL1.out.cell 0 _ rfl) (fun hHeld => ?_)
  clear hK K
  refine norm_ (a' := ?_) ?_ ?_
  rotate_left
  · show Act.put _ (some 7) _ = _
    simp only [Act.put, List.setIfInBounds_toArray, List.set_cons_zero, List.set_cons_succ, i64_w, i32_w]
    rfl
  refine done_ (by kernel_rfl) ?_
  clear x0
  have x2 := HL1.out.cell 2 _ rfl
  have tk1 : True := trivial
  go_wp2_with (first
    | (go_at_call 42; have _tk := tk1; (with_reducible refine (number_at (W.heap.size + 1 + 1) 100 100 8 rfl 8 rfl m l1 (putS m 8).1 (putS m 8).2 _ rfl hm Q1.out (by decide) (by have := putS_len m 8; omega) HL1.out.im).mono ?_); rw [← E2.out]; rintro e w2 ⟨rfl, hi2, hw2⟩; have HL2 := Lib.hid (HL1.out.wrote hi2 hw2); have tk2 : True := trivial; clear x2; clear tk1 _tk hi2 hw2)
    | (go_at_call 42; have _tk := tk2; (with_reducible refine (number_at (W.heap.size + 1 + 1) 108 108 8 rfl 8 rfl 0 l2 (putS 0 8).1 (putS 0 8).2 _ rfl (by decide) Q2.out (by decide) (by have := putS_len 0 8; omega) HL2.out.im).mono ?_); rw [← E3.out]; rintro e w3 ⟨rfl, hi3, hw3⟩; have HL3 := Lib.hid (HL2.out.wrote hi3 hw3); have tk3 : True := trivial; clear tk2 _tk hi3 hw3)
    | (go_at_call 42; have _tk := tk3; (with_reducible refine (number_at (W.heap.size + 1 + 1) 116 116 8 rfl 8 rfl 0 l3 (putS 0 8).1 (putS 0 8).2 _ rfl (by decide) Q3.out (by decide) (by have := putS_len 0 8; omega) HL3.out.im).mono ?_); rw [← E4.out]; rintro e w4 ⟨rfl, hi4, hw4⟩; have HL4 := Lib.hid (HL3.out.wrote hi4 hw4); have tk4 : True := trivial; have x3 := HL4.out.cell 3 _ rfl; clear tk3 _tk hi4 hw4)
    | (go_at_call 42; have _tk := tk4; (with_reducible refine (number_at (W.heap.size + 1 + 1) 124 124 12 rfl 12 rfl s l4 (putS s 12).1 (putS s 12).2 _ rfl hs Q4.out (by decide) (by have := putS_len s 12; omega) HL4.out.im).mono ?_); rw [← E5.out]; rintro e w5 ⟨rfl, hi5, hw5⟩; have HL5 := Lib.hid (HL4.out.wrote hi5 hw5); have tk5 : True := trivial; clear x3; have x4 := HL5.out.cell 4 _ rfl; clear tk4 _tk hi5 hw5)
    | (go_at_call 42; have _tk := tk5; (with_reducible refine (number_at (W.heap.size + 1 + 1) 136 136 12 rfl 12 rfl t l5 (putS t 12).1 (putS t 12).2 _ rfl ht Q5.out (by decide) (by have := putS_len t 12; omega) HL5.out.im).mono ?_); rw [← E6.out]; rintro e w6 ⟨rfl, hi6, hw6⟩; have HL6 := Lib.hid (HL5.out.wrote hi6 hw6); have tk6 : True := trivial; clear x4; have x5 := HL6.out.cell 5 _ rfl; have hx := HL6.out.im.cell 156 (by rw [Q6.out]; decide); have hf := blk_frozen HL6.out.im 156; clear tk5 _tk hi6 hw6))
  have HL7 := Lib.hid (show L W (hv n p m s t y k) (w6.setCell ⟨W.heap.size + 1 + 1, 156, none⟩ (.int .u8 y)) l7 by rw [E7.out]; exact HL6.out.wrote (HL6.out.im.set 156 y) (wrote_setCell (Wrote.refl _ _) 156 _))
  generalize w6.setCell ⟨W.heap.size + 1 + 1, 156, none⟩ (.int .u8 y) = w7 at HL7 ⊢
  clear x5 hx hf
  have x6 := HL7.out.drew.cell 6 (.string k) rfl
  refine start_ (n := 4) (S := fun w' => w'.cell? ⟨W.heap.size, 6, none⟩ = some (.string k)) (ds := []) #[false, false, false, false] (by kernel_rfl) rfl rfl (x6) (fun hHeld => ?_)
  refine pure_ (i := 0) (N := some 22) (v := ?_) (a' := ?_) #[true, false, false, false] rfl rfl (by kernel_rfl) (fun _ _ _ h => h) (Or.inl ⟨by rfl, ?_⟩) ?_ ?_
  rotate_left
  · intro w'
    go_simp
    (first | (with_reducible rfl) | ((try simp only [*]); (with_reducible rfl)))
  rotate_left
  · simp only [Act.put, List.setIfInBounds_toArray, List.set_cons_zero, List.set_cons_succ, i64_w, i32_w]
    rfl
  refine pure_ (i := 1) (N := some 23) (v := ?_) (a' := ?_) #[true, true, false, false] rfl rfl (by kernel_rfl) (fun _ _ _ h => h) (Or.inl ⟨by rfl, ?_⟩) ?_ ?_
  rotate_left
  · intro w'
    go_simp
    (first | (with_reducible rfl) | ((try simp only [*]); (with_reducible rfl)))
  rotate_left
  · simp only [Act.put, List.setIfInBounds_toArray, List.set_cons_zero, List.set_cons_succ, i64_w, i32_w]
    rfl
  refine take_ (i := 2) (N := some 24) (v := ?_) (a' := ?_) #[true, true, true, false] rfl rfl (by kernel_rfl) (fun _ _ _ h => h) (Or.inl ⟨by rfl, ?_⟩) hHeld ?_ ?_
  rotate_left
  · intro w' s0
    go_simp
    (first | (with_reducible rfl) | ((try simp only [*]); (with_reducible rfl)))
  rotate_left
  · simp only [Act.put, List.setIfInBounds_toArray, List.set_cons_zero, List.set_cons_succ, i64_w, i32_w]
    rfl
  refine one_ (i := 3) (N := some 25) #[true, true, true, true] rfl rfl (by kernel_rfl) (by decide) (fun K hK => ?_)
  refine step_copy_str (by rfl) (.tmp 22) (.tmp 24) rfl (W.heap.size + 1 + 1) 157 355 355 k l7 (bytesOf k) rfl rfl rfl HL7.out.im (by rw [Q7.out]) (by rw [bytesOf_length]; omega) ?_
  rw [← E8.out]
  intro w8 hi8 hw8
  have HL8 := Lib.hid (HL7.out.drew.wrote hi8 hw8)
  clear hi8 hw8
  refine hK.out _ _ (HL8.out.cell 6 _ rfl) (fun hHeld => ?_)
  clear hK K
  refine norm_ (a' := ?_) ?_ ?_
  rotate_left
  · show Act.put _ (some 25) _ = _
    simp only [Act.put, List.setIfInBounds_toArray, List.set_cons_zero, List.set_cons_succ, i64_w, i32_w]
    rfl
  refine done_ (by kernel_rfl) ?_
  clear x6
  have tk9 : True := trivial
  go_wp2_with (first
    | (refine wpList_copy_str rfl (.tmp 26) (.const (.string ⟨#[117, 115, 116, 97, 114, 0, 48, 48]⟩)) rfl (W.heap.size + 1 + 1) 257 255 255 ⟨#[117, 115, 116, 97, 114, 0, 48, 48]⟩ l8 MAGIC rfl rfl (by decide) HL8.out.im (by rw [Q8.out]) (by decide) ?_; rw [← E9.out]; intro w9 hi9 hw9; have HL9 := Lib.hid (HL8.out.wrote hi9 hw9); clear hi9 hw9)
    | (go_at_call 42; have _tk := tk9; (with_reducible refine (number_at (W.heap.size + 1 + 1) 329 329 8 rfl 8 rfl 0 l9 (putS 0 8).1 (putS 0 8).2 _ rfl (by decide) Q9.out (by decide) (by have := putS_len 0 8; omega) HL9.out.im).mono ?_); rw [← E10.out]; rintro e w10 ⟨rfl, hi10, hw10⟩; have HL10 := Lib.hid (HL9.out.wrote hi10 hw10); have tk10 : True := trivial; clear tk9 _tk hi10 hw10)
    | (go_at_call 42; have _tk := tk10; (with_reducible refine (number_at (W.heap.size + 1 + 1) 337 337 8 rfl 8 rfl 0 l10 (putS 0 8).1 (putS 0 8).2 _ rfl (by decide) Q10.out (by decide) (by have := putS_len 0 8; omega) HL10.out.im).mono ?_); rw [← E11.out]; rintro e w11 ⟨rfl, hi11, hw11⟩; have HL11 := Lib.hid (HL10.out.wrote hi11 hw11); have tk11 : True := trivial; clear tk10 _tk hi11 hw11))
  have x1 := HL11.out.drew.cell 1 (.string p) rfl
  refine start_ (n := 4) (S := fun w' => w'.cell? ⟨W.heap.size, 1, none⟩ = some (.string p)) (ds := []) #[false, false, false, false] (by kernel_rfl) rfl rfl (x1) (fun hHeld => ?_)
  refine pure_ (i := 0) (N := some 30) (v := ?_) (a' := ?_) #[true, false, false, false] rfl rfl (by kernel_rfl) (fun _ _ _ h => h) (Or.inl ⟨by rfl, ?_⟩) ?_ ?_
  rotate_left
  · intro w'
    go_simp
    (first | (with_reducible rfl) | ((try simp only [*]); (with_reducible rfl)))
  rotate_left
  · simp only [Act.put, List.setIfInBounds_toArray, List.set_cons_zero, List.set_cons_succ, i64_w, i32_w]
    rfl
  refine pure_ (i := 1) (N := some 31) (v := ?_) (a' := ?_) #[true, true, false, false] rfl rfl (by kernel_rfl) (fun _ _ _ h => h) (Or.inl ⟨by rfl, ?_⟩) ?_ ?_
  rotate_left
  · intro w'
    go_simp
    (first | (with_reducible rfl) | ((try simp only [*]); (with_reducible rfl)))
  rotate_left
  · simp only [Act.put, List.setIfInBounds_toArray, List.set_cons_zero, List.set_cons_succ, i64_w, i32_w]
    rfl
  refine take_ (i := 2) (N := some 32) (v := ?_) (a' := ?_) #[true, true, true, false] rfl rfl (by kernel_rfl) (fun _ _ _ h => h) (Or.inl ⟨by rfl, ?_⟩) hHeld ?_ ?_
  rotate_left
  · intro w' s0
    go_simp
    (first | (with_reducible rfl) | ((try simp only [*]); (with_reducible rfl)))
  rotate_left
  · simp only [Act.put, List.setIfInBounds_toArray, List.set_cons_zero, List.set_cons_succ, i64_w, i32_w]
    rfl
  refine one_ (i := 3) (N := some 33) #[true, true, true, true] rfl rfl (by kernel_rfl) (by decide) (fun K hK => ?_)
  refine step_copy_str (by rfl) (.tmp 30) (.tmp 32) rfl (W.heap.size + 1 + 1) 345 167 167 p l11 (bytesOf p) rfl rfl rfl HL11.out.im (by rw [Q11.out]) (by rw [bytesOf_length]; omega) ?_
  rw [← E12.out]
  intro w12 hi12 hw12
  have HL12 := Lib.hid (HL11.out.drew.wrote hi12 hw12)
  clear hi12 hw12
  refine hK.out _ _ (HL12.out.cell 1 _ rfl) (fun hHeld => ?_)
  clear hK K
  refine norm_ (a' := ?_) ?_ ?_
  rotate_left
  · show Act.put _ (some 33) _ = _
    simp only [Act.put, List.setIfInBounds_toArray, List.set_cons_zero, List.set_cons_succ, i64_w, i32_w]
    rfl
  refine done_ (by kernel_rfl) ?_
  clear x1
  go_wp2_with (first
    | (go_at_call 32; (with_reducible refine (seal_gen (W.heap.size + 1 + 1) l12 R _ HR.out HB12.out Q12.out HL12.out.im).mono ?_); rintro e w13 ⟨rfl, hi13, hw13⟩; have HL13 := Lib.hid (HL12.out.wrote hi13 hw13); clear hi13 hw13)
    | ((with_reducible refine gate_dst (N := 35) rfl ?_); refine wpList_load_row rfl TI (.tmp 3) rfl (W.heap.size + 1 + 1) rfl TI _ (0, 0) _ HL13.out.im Try.underlying59 rfl HI.out ?_)
    | (refine wpList_store_row rfl TI (.tmp 2) (.tmp 35) rfl (W.heap.size + 1) (nums .u8 R).toArray rfl rfl TI ZV HL13.out.res HI.out HT.out (bytes_one R) ?_))
  have HRR := setRow_heap w13 (W.heap.size + 1) ZV (nums .u8 R).toArray TI (0, 0) HL13.out.res
  refine bodyPost_ret (v := .agg (nums .u8 R).toArray) (results_cell_row rfl _ _ (W.heap.size + 1) TI _ (0, 0) _ rfl HRR Try.underlying59 rfl HI.out) rfl ⟨rfl, ?_⟩
  exact below_setRow HL13.out.bel (by omega) _
end Go.Proofs.Ytdmpbfhbjklajaa.Lay
end

/- A head put: its bytes, or what may not be. -/
section
namespace Go.Proofs.Ytdmpbfhbjklajaa.HeadPut
open Go.Proofs.Ytdmpbfhbjklajaa Go.RowKit Go.Proofs.YtdmpbfhbjklajaaW.PrintWords Go.Proofs.YtdmpbfhbjklajaaW.PrintLast Go.Proofs.YtdmpbfhbjklajaaW.PrintMore Go.Proofs.Ytdmpbfhbjklajaa.Byt Go.Proofs.Ytdmpbfhbjklajaa.OctPure Go.Proofs.Ytdmpbfhbjklajaa.Img Go.Proofs.Ytdmpbfhbjklajaa.Head Go.Proofs.Ytdmpbfhbjklajaa.Lay
set_option linter.unusedVariables false
set_option linter.unusedSimpArgs false

/-- A number of the kinds' bounds. -/
def Fit (m s t y : Int) : Prop := (0 ≤ y ∧ y ≤ 255) ∧ (-9223372036854775808 ≤ m ∧ m ≤ 9223372036854775807) ∧ (-9223372036854775808 ≤ s ∧ s ≤ 9223372036854775807) ∧ (-9223372036854775808 ≤ t ∧ t ≤ 9223372036854775807)
instance (m s t y : Int) : Decidable (Fit m s t y) := by unfold Fit; exact inferInstance
def putF (n p : ByteArray) (m s t y : Int) (k : ByteArray) : Option (List Int × Int) :=
  if Fit m s t y then (if mayS n p m s t y k = 0 then some (layS n p m s t y k, 0) else some ([], mayS n p m s t y k)) else none

/-- Bytes that lie in an array of one's own, told by their place alone. -/
theorem V_of_im {w w' : World} {g : Nat} {l : List Int} (hi : IM w' g l) (hg : w.heap.size ≤ g) (hl : l.length ≤ 1000) : Kd.V (Kd.int .u8) 5 w' w.heap.size (fun k_ => w.heap.size ≤ k_) (.slice (some ⟨g, 0, none⟩) l.length l.length) l := by
  refine ⟨some ⟨g, 0, none⟩, l.length, rfl, Nat.le_refl _, ?_⟩
  intro w2 h2
  have h3 : w2.heap[g]? = some (.cells (nums .u8 l).toArray TI (0, 0)) := (h2 g hg (blk_lt hi)).trans hi
  have h4 : RC w2 (some ⟨g, 0, none⟩) l := RC.row (g := g) (rest := #[]) (t := TI) (fr := (0, 0)) (by rw [Array.append_empty]; exact h3)
  exact h4.to_C (by omega)
theorem may_sizes {n p : ByteArray} {m s t y : Int} {k : ByteArray} (h : mayS n p m s t y k = 0) : n.size ≤ 100 ∧ k.size ≤ 100 ∧ p.size ≤ 155 := by
  unfold mayS at h
  split at h
  · split at h
    · cases h
    · omega
  · cases h

theorem may_at (n p : ByteArray) (m s t y : Int) (k : ByteArray) (R : Int) (W : World) (hR : R = mayS n p m s t y k) :
    Calls Try.prog 34 #[.agg #[.string n, .string p, .int .i64 m, .int .i64 s, .int .i64 t, .int .u8 y, .string k]] W fun e w' => e = .returned (.int .i64 R) ∧ Below W.heap.size W w' := may_gen n p m s t y k R W hR
theorem lay_at (n p : ByteArray) (m s t y : Int) (k : ByteArray) (R : List Int) (W : World) (hR : R = layS n p m s t y k) (hS : n.size ≤ 100 ∧ k.size ≤ 100 ∧ p.size ≤ 155) (hF : Fit m s t y) :
    Calls Try.prog 35 #[.agg #[.string n, .string p, .int .i64 m, .int .i64 s, .int .i64 t, .int .u8 y, .string k]] W fun e w' => e = .returned (.agg (nums .u8 R).toArray) ∧ Below W.heap.size W w' :=
  lay_gen n p m s t y k R W hR hS.1 hS.2.2 hS.2.1 hF.1 hF.2.1 hF.2.2.1 hF.2.2.2

set_option maxRecDepth 100000 in
set_option maxHeartbeats 16000000 in
theorem put_calls (n p : ByteArray) (m s t y : Int) (k : ByteArray) (r1 : List Int) (r2 : Int) (w : World) (h : putF n p m s t y k = some (r1, r2)) :
    Calls Try.prog 21 #[.agg #[.string n, .string p, .int .i64 m, .int .i64 s, .int .i64 t, .int .u8 y, .string k]] w fun e w' => ∃ v0_ : Value, e = .returned (.tuple #[v0_, .int .i64 r2]) ∧ Kd.V (Kd.int .u8) 5 w' w.heap.size (fun k_ => (w.heap.size ≤ k_)) v0_ r1 ∧ Below w.heap.size w w' := by
  unfold putF at h
  by_cases hF : Fit m s t y
  · rw [if_pos hF] at h
    obtain ⟨R, hR⟩ : ∃ R : List Int, R = layS n p m s t y k := ⟨_, rfl⟩
    obtain ⟨E, hE⟩ : ∃ E : Int, E = mayS n p m s t y k := ⟨_, rfl⟩
    have HE := Lib.hid hE
    have HR := Lib.hid hR
    have HF := Lib.hid hF
    rw [← hR, ← hE] at h
    have hz := zI
    by_cases h0 : E = 0
    · rw [if_pos h0] at h
      simp only [Option.some.injEq, Prod.mk.injEq] at h
      obtain ⟨rfl, rfl⟩ := h
      subst h0
      have HS := Lib.hid (may_sizes hE.symm)
      have hRl : R.length = 512 := by rw [hR]; exact (seal_ok (body_ok n p m s t y k hF.1)).1
      have HRL := Lib.hid hRl
      have HI := Lib.hid (show (Try.prog.info? TI).map (·.size) = some (nums .u8 R).toArray.size by rw [show (nums .u8 R).toArray.size = 512 by simp [nums, hRl]]; exact infoI)
      have HT := Lib.hid (show ZV.size = (nums .u8 R).toArray.size by rw [show (nums .u8 R).toArray.size = 512 by simp [nums, hRl]]; rfl)
      clear hE hR hF hRl
      go_enter Try.func21, Try.ntmps21
      go_wp2_with (first
        | (go_at_call 34; go_loud ((with_reducible refine (may_at n p m s t y k 0 _ HE.out).mono ?_); rintro e w1 ⟨rfl, hb1⟩; have HB1 := Lib.hid (below_then ((Below.refl w.heap.size w).alloc (Nat.le_refl _) _) (by simp) hb1); have HX1 := Lib.hid (blk_below (blk_new w (.cells #[.string n, .string p, .int .i64 m, .int .i64 s, .int .i64 t, .int .u8 y, .string k] TH)) hb1); clear hb1))
        | (go_at_call 35; go_loud ((with_reducible refine (lay_at n p m s t y k R _ HR.out HS.out HF.out).mono ?_); rintro e w2 ⟨rfl, hb2⟩; have HB2 := Lib.hid (HB1.out.trans (hb2.mono HB1.out.size)); clear hb2))
        | ((with_reducible refine gate_dst (N := 11) rfl ?_); refine wpList_load_row rfl TH (.tmp 1) rfl w.heap.size rfl TH _ (0, 0) _ HX1.out Try.underlying24 rfl (by kernel_rfl) ?_)
        | (refine wpList_store_row rfl TI (.tmp 5) (.tmp 12) rfl w2.heap.size (nums .u8 R).toArray rfl rfl TI ZV (blk_new w2 (.cells ZV TI)) HI.out HT.out (bytes_one R) ?_))
      go_ret2
      refine ⟨_, rfl, ?_, below_setRow (HB2.out.alloc HB2.out.size _) HB2.out.size _⟩
      have hi : IM ((w2.alloc (.cells ZV TI)).setRow w2.heap.size (nums .u8 R).toArray) w2.heap.size R := setRow_heap _ w2.heap.size ZV (nums .u8 R).toArray TI (0, 0) (blk_new w2 (.cells ZV TI))
      have := V_of_im hi HB2.out.size (by rw [HRL.out]; decide)
      rw [HRL.out] at this
      exact this
    · rw [if_neg h0] at h
      simp only [Option.some.injEq, Prod.mk.injEq] at h
      obtain ⟨rfl, rfl⟩ := h
      have hne : (E == 0) = false := by simpa using h0
      clear hE hR hF h0
      go_enter Try.func21, Try.ntmps21
      go_wp2_with (go_at_call 34; go_loud ((with_reducible refine (may_at n p m s t y k E _ HE.out).mono ?_); rintro e w1 ⟨rfl, hb1⟩; have HB1 := Lib.hid (below_then ((Below.refl w.heap.size w).alloc (Nat.le_refl _) _) (by simp) hb1); clear hb1))
      go_ret2
      exact ⟨_, rfl, Kd.V_nil _ _ _ _ _, HB1.out⟩
  · rw [if_neg hF] at h
    cases h
end Go.Proofs.Ytdmpbfhbjklajaa.HeadPut
end

/- Bytes summed, sealed, and 512 noughts: the Go program's calls. -/
section
namespace Go.Proofs.Ytdmpbfhbjklajaa.HeadSums
open Go.Proofs.Ytdmpbfhbjklajaa Go.RowKit Go.Proofs.YtdmpbfhbjklajaaW.PrintWords Go.Proofs.YtdmpbfhbjklajaaW.PrintLast Go.Proofs.YtdmpbfhbjklajaaW.PrintMore Go.Proofs.Ytdmpbfhbjklajaa.Byt Go.Proofs.Ytdmpbfhbjklajaa.OctPure Go.Proofs.Ytdmpbfhbjklajaa.Img Go.Proofs.Ytdmpbfhbjklajaa.Head Go.Proofs.Ytdmpbfhbjklajaa.HeadPut
set_option linter.unusedVariables false
set_option linter.unusedSimpArgs false

/-- Bytes that are read, as an array's cells. -/
theorem load_rc {w : World} {A : Option Addr} {l : List Int} (h : RC w A l) (hl : l.length = 512) : ∃ a, A = some a ∧ (loadVar TI a).run Try.prog w = .ok (.agg (nums .u8 l).toArray) w := by
  obtain ⟨a, rfl, hb, hc⟩ := h (by intro e; subst e; simp at hl)
  refine ⟨a, rfl, ?_⟩
  have hnl : (nums .u8 l).length = 512 := by simp [nums, hl]
  have hlc : (loadCells a 512).run Try.prog w = .ok (nums .u8 l).toArray w := by
    rw [← hnl]
    exact run_loadCells_list (P := Try.prog) w a (nums .u8 l) (cells_of_RC (fun _ => ⟨a, rfl, hb, hc⟩))
  obtain ⟨i, hi, hs⟩ := Option.map_eq_some_iff.1 infoI
  have hagg : (isAgg TI).run Try.prog w = .ok true w := by
    unfold isAgg
    rw [Sem.run_bind, run_underlying Try.underlying59 w]
    rfl
  simp [loadVar, Sem.run_bind, hagg, sizeOf, typeInfo, hi, hs, hlc]
theorem wpList_load_run {P : Program} {ops : Array Oper} {rs : List Oper} {o : Oper} {a : Act} {w : World} {Q : Exit → Act → World → Prop} (hgd : o.guard = none) (ty : TypeId) (x : Operand) (ho : o.op = .load ty x) (g : Addr) (v : Value) (hx : a.eval x = .pointer (some g)) (hl : (loadVar ty g).run P w = .ok v w)
    (h : wpList P ops Q rs (a.put o.dst v) w) : wpList P ops Q (o :: rs) a w :=
  wpList_plain hgd fun _ hK => by
    unfold Oper.wp
    rw [exec_load ho hx hl]
    exact hK _ _ h
theorem wpList_load_rung {P : Program} {ops : Array Oper} {rs : List Oper} {o : Oper} {a : Act} {w : World} {Q : Exit → Act → World → Prop} {N : Tmp} (hN : o.dst = some N) (hw : Region.wanted o (yielded ops a.tmps) = true) (ty : TypeId) (x : Operand) (ho : o.op = .load ty x) (g : Addr) (v : Value) (hx : a.eval x = .pointer (some g)) (hl : (loadVar ty g).run P w = .ok v w)
    (h : wpList P ops Q rs (a.put o.dst v) w) : wpList P ops Q (o :: rs) a w := by
  simp only [wpList, hw, if_true]
  refine Or.inl ?_
  unfold Oper.wp
  rw [exec_load ho hx hl]
  exact h
theorem run_arrI (a : Option Addr) (c : Nat) : ∀ w : World, (Instr.arrayAt TI (.slice a 512 c)).run Try.prog w = .ok (.pointer a) w := fun w => by
  simp [Instr.arrayAt, run_underlying Try.underlying59, Sem.run_bind]
def AreB (l : List Int) : Prop := ∀ x ∈ l, 0 ≤ x ∧ x ≤ 255
instance (l : List Int) : Decidable (AreB l) := by unfold AreB; exact inferInstance
def sumF (l : List Int) : Option (Int × Int) := if AreB l then (if l.length = 512 then some (sumS l 512, 0) else some (0, 1)) else none
def sealF (l : List Int) : Option (List Int × Int) := if AreB l then (if l.length = 512 then some (sealS l, 0) else some ([], 1)) else none
def blankF (l : List Int) : Option Bool := if AreB l then some (l == List.replicate 512 0) else none

set_option maxRecDepth 100000 in
set_option maxHeartbeats 4000000 in
theorem sum_calls (A0 : Option Addr) (c0 : Nat) (l0 : List Int) (r1 : Int) (r2 : Int) (w : World) (hr0 : Kd.C (Kd.int .u8) w A0 l0.length l0) (hc0 : l0.length ≤ c0) (h : sumF l0 = some (r1, r2)) :
    Calls Try.prog 13 #[.slice A0 l0.length c0] w fun e w' => e = .returned (.tuple #[.int .i64 r1, .int .i64 r2]) ∧ Below w.heap.size w w' := by
  unfold sumF at h
  by_cases hB : AreB l0
  · rw [if_pos hB] at h
    have HBY := Lib.hid (bytes_of_mem hB)
    have hlm := hr0.2.1
    have HRC := Lib.hid (RC.of_C hr0)
    have hz := zI
    by_cases hl : l0.length = 512
    · rw [if_pos hl] at h
      simp only [Option.some.injEq, Prod.mk.injEq] at h
      obtain ⟨h1, rfl⟩ := h
      have HS := Lib.hid h1.symm
      have HL := Lib.hid hl
      obtain ⟨a, rfl, hld⟩ := load_rc HRC.out hl
      rw [hl]
      have HLD := Lib.hid hld
      have HI := Lib.hid (show (Try.prog.info? TI).map (·.size) = some (nums .u8 l0).toArray.size by rw [show (nums .u8 l0).toArray.size = 512 by simp [nums, hl]]; exact infoI)
      have HT := Lib.hid (show ZV.size = (nums .u8 l0).toArray.size by rw [show (nums .u8 l0).toArray.size = 512 by simp [nums, hl]]; rfl)
      have HIM := Lib.hid (show IM ((w.alloc (.cells ZV TI)).setRow w.heap.size (nums .u8 l0).toArray) w.heap.size l0 from setRow_heap _ w.heap.size ZV (nums .u8 l0).toArray TI (0, 0) (blk_new w (.cells ZV TI)))
      have HBW := Lib.hid (show Below w.heap.size w ((w.alloc (.cells ZV TI)).setRow w.heap.size (nums .u8 l0).toArray) from below_setRow ((Below.refl _ _).alloc (Nat.le_refl _) _) (Nat.le_refl _) _)
      have harr := run_arrI (some a) c0
      clear hr0 h1 hB hc0 hld
      clear hl hlm
      go_enter Try.func13, Try.ntmps13
      go_wp2_with (first
        | ((with_reducible refine gate_dst (N := 10) rfl ?_); refine wpList_load_run rfl TI (.tmp 9) rfl a _ rfl HLD.out ?_)
        | (refine wpList_store_row rfl TI (.tmp 4) (.tmp 10) rfl w.heap.size (nums .u8 l0).toArray rfl rfl TI ZV (blk_new w (.cells ZV TI)) HI.out HT.out (bytes_one l0) ?_)
        | (go_at_call 31; go_loud ((with_reducible refine (sum_gen w.heap.size l0 r1 _ HS.out HBY.out HL.out HIM.out).mono ?_); rintro e w1 ⟨rfl, hb1⟩; have HB1 := Lib.hid (HBW.out.trans (hb1.mono HBW.out.size)); clear hb1)))
      go_ret2
      exact ⟨rfl, HB1.out⟩
    · rw [if_neg hl] at h
      simp only [Option.some.injEq, Prod.mk.injEq] at h
      obtain ⟨rfl, rfl⟩ := h
      have hne : ((l0.length : Int) == 512) = false := by simp; omega
      have hne2 : ((l0.length : Int) != 512) = true := by simp; omega
      clear hl hB hr0 hc0
      go_enter Try.func13, Try.ntmps13
      go_wp2
      go_ret2
      exact ⟨rfl, Below.refl _ _⟩
  · rw [if_neg hB] at h
    cases h
set_option maxRecDepth 100000 in
set_option maxHeartbeats 4000000 in
theorem seal_calls (A0 : Option Addr) (c0 : Nat) (l0 : List Int) (r1 : List Int) (r2 : Int) (w : World) (hr0 : Kd.C (Kd.int .u8) w A0 l0.length l0) (hc0 : l0.length ≤ c0) (h : sealF l0 = some (r1, r2)) :
    Calls Try.prog 14 #[.slice A0 l0.length c0] w fun e w' => ∃ v0_ : Value, e = .returned (.tuple #[v0_, .int .i64 r2]) ∧ Kd.V (Kd.int .u8) 5 w' w.heap.size (fun k_ => (w.heap.size ≤ k_)) v0_ r1 ∧ Below w.heap.size w w' := by
  unfold sealF at h
  by_cases hB : AreB l0
  · rw [if_pos hB] at h
    have HBY := Lib.hid (bytes_of_mem hB)
    have hlm := hr0.2.1
    have HRC := Lib.hid (RC.of_C hr0)
    have hz := zI
    by_cases hl : l0.length = 512
    · rw [if_pos hl] at h
      simp only [Option.some.injEq, Prod.mk.injEq] at h
      obtain ⟨h1, rfl⟩ := h
      have HS := Lib.hid h1.symm
      have HL := Lib.hid hl
      have HRL := Lib.hid (show r1.length = 512 by rw [← h1]; exact (seal_ok ⟨hl, bytes_of_mem hB⟩).1)
      obtain ⟨a, rfl, hld⟩ := load_rc HRC.out hl
      rw [hl]
      have HLD := Lib.hid hld
      have HI := Lib.hid (show (Try.prog.info? TI).map (·.size) = some (nums .u8 l0).toArray.size by rw [show (nums .u8 l0).toArray.size = 512 by simp [nums, hl]]; exact infoI)
      have HT := Lib.hid (show ZV.size = (nums .u8 l0).toArray.size by rw [show (nums .u8 l0).toArray.size = 512 by simp [nums, hl]]; rfl)
      have HIM := Lib.hid (show IM ((w.alloc (.cells ZV TI)).setRow w.heap.size (nums .u8 l0).toArray) w.heap.size l0 from setRow_heap _ w.heap.size ZV (nums .u8 l0).toArray TI (0, 0) (blk_new w (.cells ZV TI)))
      have HBW := Lib.hid (show Below w.heap.size w ((w.alloc (.cells ZV TI)).setRow w.heap.size (nums .u8 l0).toArray) from below_setRow ((Below.refl _ _).alloc (Nat.le_refl _) _) (Nat.le_refl _) _)
      have harr := run_arrI (some a) c0
      clear hr0 h1 hB hc0 hld
      clear hl hlm
      go_enter Try.func14, Try.ntmps14
      go_wp2_with (first
        | ((with_reducible refine gate_dst (N := 10) rfl ?_); refine wpList_load_run rfl TI (.tmp 9) rfl a _ rfl HLD.out ?_)
        | (refine wpList_store_row rfl TI (.tmp 4) (.tmp 10) rfl w.heap.size (nums .u8 l0).toArray rfl rfl TI ZV (blk_new w (.cells ZV TI)) HI.out HT.out (bytes_one l0) ?_)
        | (go_at_call 32; go_loud ((with_reducible refine (seal_gen w.heap.size l0 r1 _ HS.out HBY.out HL.out HIM.out).mono ?_); rintro e w1 ⟨rfl, hi1, hw1⟩; have HB1 := Lib.hid (HBW.out.trans (hw1.below (Nat.le_refl _) HBW.out.size)); have HI1 := Lib.hid hi1; clear hi1 hw1)))
      go_ret2
      refine ⟨_, rfl, ?_, HB1.out⟩
      have hrl := HRL.out
      have := V_of_im HI1.out (Nat.le_refl _) (by rw [hrl]; decide)
      rw [hrl] at this
      exact this
    · rw [if_neg hl] at h
      simp only [Option.some.injEq, Prod.mk.injEq] at h
      obtain ⟨rfl, rfl⟩ := h
      have hne : ((l0.length : Int) == 512) = false := by simp; omega
      have hne2 : ((l0.length : Int) != 512) = true := by simp; omega
      clear hl hB hr0 hc0
      go_enter Try.func14, Try.ntmps14
      go_wp2
      go_ret2
      exact ⟨_, rfl, Kd.V_nil _ _ _ _ _, Below.refl _ _⟩
  · rw [if_neg hB] at h
    cases h

theorem guardI : Try.prog.eqGuardType Try.prog.depth TI = false := by kernel_rfl
theorem run_eqlI (w : World) (xs ys : List Int) (hx : xs.length = 512) (hy : ys.length = 512) : (binOp .eql TI (.agg (nums .u8 xs).toArray) (.agg (nums .u8 ys).toArray)).run Try.prog w = .ok (.bool (xs == ys)) w := by
  rw [run_eql_struct, run_equalIn_nums8 w 9998 TI 5 512 Try.underlying59 Try.underlying5 sizeB xs ys hx hy]
  rfl
theorem run_neqI (w : World) (xs ys : List Int) (hx : xs.length = 512) (hy : ys.length = 512) : (binOp .neq TI (.agg (nums .u8 xs).toArray) (.agg (nums .u8 ys).toArray)).run Try.prog w = .ok (.bool (xs != ys)) w := by
  rw [run_neq_struct, run_equalIn_nums8 w 9998 TI 5 512 Try.underlying59 Try.underlying5 sizeB xs ys hx hy]
  rfl
set_option maxRecDepth 100000 in
set_option maxHeartbeats 4000000 in
theorem blank_calls (A0 : Option Addr) (c0 : Nat) (l0 : List Int) (r : Bool) (w : World) (hr0 : Kd.C (Kd.int .u8) w A0 l0.length l0) (hc0 : l0.length ≤ c0) (h : blankF l0 = some r) :
    Calls Try.prog 15 #[.slice A0 l0.length c0] w fun e w' => e = .returned (.bool r) ∧ Below w.heap.size w w' := by
  unfold blankF at h
  by_cases hB : AreB l0
  · rw [if_pos hB] at h
    have hlm := hr0.2.1
    have HRC := Lib.hid (RC.of_C hr0)
    have hz := zI
    have hr := Option.some.inj h
    have HR := Lib.hid hr
    by_cases hl : l0.length = 512
    · obtain ⟨a, rfl, hld⟩ := load_rc HRC.out hl
      rw [hl]
      have HLD := Lib.hid hld
      have harr := run_arrI (some a) c0
      have hq : ∀ w, (binOp .eql TI (.agg (nums .u8 l0).toArray) (.agg ZV)).run Try.prog w = .ok (.bool (l0 == Z512)) w := fun w => run_eqlI w l0 Z512 hl z_ok.1
      clear hr0 h hB hc0 hld hr
      clear hl hlm
      go_enter Try.func15, Try.ntmps15
      go_wp2_with (refine wpList_load_rung (N := 9) (by with_reducible rfl) (by rfl) TI (.tmp 8) rfl a _ rfl HLD.out ?_)
      go_ret
      exact ⟨by rw [← HR.out]; rfl, Below.refl _ _⟩
    · have hne : ((l0.length : Int) == 512) = false := by simp; omega
      have HF := Lib.hid (show r = false by rw [← hr]; exact beq_eq_false_iff_ne.2 (fun e => hl (by rw [e]; exact List.length_replicate)))
      clear hl hB hr0 hc0 hr h
      go_enter Try.func15, Try.ntmps15
      go_wp2
      go_ret
      exact ⟨by rw [HF.out]; rfl, Below.refl _ _⟩
  · rw [if_neg hB] at h
    cases h
end Go.Proofs.Ytdmpbfhbjklajaa.HeadSums
end

/- A text that ends at the first byte 0: the Go program's calls. -/
section
namespace Go.Proofs.Ytdmpbfhbjklajaa.HText
open Go.Proofs.Ytdmpbfhbjklajaa Go.RowKit Go.Proofs.YtdmpbfhbjklajaaW.PrintWords Go.Proofs.YtdmpbfhbjklajaaW.PrintLast Go.Proofs.YtdmpbfhbjklajaaW.PrintMore Go.Proofs.Ytdmpbfhbjklajaa.Byt
set_option linter.unusedVariables false
set_option linter.unusedSimpArgs false
/-- What stands ahead of the first byte 0. -/
def firstS (l : List Int) : ByteArray := strOfNums (l.takeWhile (fun x => decide (x ≠ 0)))
def cutS (s : ByteArray) : ByteArray := if 0 ≤ Lib.indexByte s.data.toList 0 then s.extract 0 (Lib.indexByte s.data.toList 0).toNat else s
theorem index_lt : ∀ (l : List UInt8) (c : UInt8), 0 ≤ Lib.indexByte l c → Lib.indexByte l c < l.length
  | [], c, h => by simp [Lib.indexByte] at h
  | b :: l, c, h => by
    have ih := index_lt l c
    have hg := Lib.indexByte_ge l c
    unfold Lib.indexByte at h ⊢
    by_cases hb : (b == c) = true
    · rw [if_pos hb]; simp only [List.length_cons]; omega
    · rw [if_neg hb] at h ⊢
      by_cases h1 : (Lib.indexByte l c == -1) = true
      · rw [if_pos h1] at h; omega
      · rw [if_neg h1] at h ⊢
        simp only [beq_iff_eq] at h1
        simp only [List.length_cons]; omega
set_option maxRecDepth 100000 in
set_option maxHeartbeats 4000000 in
theorem cutl_gen (s : ByteArray) (hs : s.size ≤ 1000000) (W : World) :
    Calls Try.prog 55 #[.string s, .string ⟨#[0]⟩] W fun e w' => ∃ (b : ByteArray) (f : Bool), e = .returned (.tuple #[.string (cutS s), .string b, .bool f]) ∧ Drawn0 W w' := by
  obtain ⟨i, hi⟩ : ∃ i, i = Lib.indexByte s.data.toList 0 := ⟨_, rfl⟩
  have hg : -1 ≤ i := by rw [hi]; exact Lib.indexByte_ge _ _
  by_cases h : 0 ≤ i
  · have hlt : i < s.size := by rw [hi]; have := index_lt s.data.toList 0 (by omega); rwa [show s.data.toList.length = s.size from rfl] at this
    have HC := Lib.hid (show cutS s = s.extract 0 i.toNat by unfold cutS; rw [← hi, if_pos h])
    have hd : decide (i ≥ 0) = true := decide_eq_true h
    have hsum : IntKind.i64.wrap (i + 1) = i + 1 := IntWalk.i64_in _ (by omega)
    have HI := Lib.hid hi.symm
    clear hi
    go_enter Try.func55, Try.ntmps55
    go_wp2_with (go_at_call 60; go_loud ((with_reducible refine (Shelf.stringslite_Index_one s 0 _).mono ?_); rintro e w1 ⟨rfl, rfl⟩; rw [HI.out]))
    have q1 : decide (0 ≤ i) = true := decide_eq_true h
    have q2 : decide (i ≤ (s.size : Int)) = true := decide_eq_true (by omega)
    have q3 : decide (0 ≤ i + 1) = true := decide_eq_true (by omega)
    have q4 : decide (i + 1 ≤ (s.size : Int)) = true := decide_eq_true (by omega)
    have q5 : i ≤ (s.size : Int) := by omega
    have q6 : 0 ≤ i + 1 := by omega
    have q7 : i + 1 ≤ (s.size : Int) := by omega
    go_quiet (fail)
    go_wp2
    go_ret3
    exact ⟨_, _, by rw [HC.out]; rfl, ⟨_, rfl⟩⟩
  · have h1 : i = -1 := by omega
    subst h1
    have HC := Lib.hid (show cutS s = s by unfold cutS; rw [← hi]; rfl)
    have HI := Lib.hid hi.symm
    clear hi
    go_enter Try.func55, Try.ntmps55
    go_wp2_with (go_at_call 60; go_loud ((with_reducible refine (Shelf.stringslite_Index_one s 0 _).mono ?_); rintro e w1 ⟨rfl, rfl⟩; rw [HI.out]))
    go_ret3
    exact ⟨_, _, by rw [HC.out]; rfl, Drawn0.refl _⟩
theorem cut_gen (s : ByteArray) (hs : s.size ≤ 1000000) (W : World) :
    Calls Try.prog 47 #[.string s, .string ⟨#[0]⟩] W fun e w' => ∃ (b : ByteArray) (f : Bool), e = .returned (.tuple #[.string (cutS s), .string b, .bool f]) ∧ Drawn0 W w' := by
  obtain ⟨c, hc⟩ : ∃ c, c = cutS s := ⟨_, rfl⟩
  rw [← hc]
  have HC := Lib.hid hc
  clear hc
  go_enter Try.func47, Try.ntmps47
  go_wp2_with (go_at_call 55; go_loud ((with_reducible refine (cutl_gen s hs _).mono ?_); rintro e w1 ⟨b, f, rfl, ⟨nd, rfl⟩⟩; rw [← HC.out]))
  go_ret3
  exact ⟨_, _, rfl, ⟨nd, rfl⟩⟩
theorem strOfNums_list (l : List Int) : (strOfNums l).data.toList = l.map (fun n => UInt8.ofNat n.toNat) := by
  unfold strOfNums
  simp
theorem byte0 {x : Int} (h : 0 ≤ x ∧ x ≤ 255) : (UInt8.ofNat x.toNat == 0) = decide (x = 0) := by
  rw [Bool.eq_iff_iff, beq_iff_eq, decide_eq_true_eq]
  constructor
  · intro e
    have := congrArg UInt8.toNat e
    simp only [UInt8.toNat_ofNat'] at this
    have h0 : (0 : UInt8).toNat = 0 := rfl
    rw [h0] at this
    omega
  · rintro rfl; rfl
theorem cut_list : ∀ (l : List Int), (∀ x ∈ l, 0 ≤ x ∧ x ≤ 255) →
    (if 0 ≤ Lib.indexByte (l.map (fun n => UInt8.ofNat n.toNat)) 0 then (l.map (fun n => UInt8.ofNat n.toNat)).take (Lib.indexByte (l.map (fun n => UInt8.ofNat n.toNat)) 0).toNat else l.map (fun n => UInt8.ofNat n.toNat)) = (l.takeWhile (fun x => decide (x ≠ 0))).map (fun n => UInt8.ofNat n.toNat)
  | [], _ => by simp
  | x :: l, h => by
    have ih := cut_list l (fun y hy => h y (List.mem_cons_of_mem _ hy))
    have hb := byte0 (h x (List.mem_cons_self ..))
    rw [List.map_cons, Lib.indexByte, hb]
    by_cases hx : x = 0
    · subst hx
      simp
    · have hg := Lib.indexByte_ge (l.map (fun n => UInt8.ofNat n.toNat)) 0
      rw [decide_eq_false hx, show List.takeWhile (fun x => decide (x ≠ 0)) (x :: l) = x :: List.takeWhile (fun x => decide (x ≠ 0)) l from by rw [List.takeWhile_cons, if_pos (decide_eq_true hx)], List.map_cons]
      simp only [Bool.false_eq_true, if_false]
      by_cases h1 : Lib.indexByte (l.map (fun n => UInt8.ofNat n.toNat)) 0 = -1
      · rw [h1] at ih
        rw [h1]
        simp only [beq_self_eq_true, if_true]
        rw [if_neg (by decide)] at ih ⊢
        rw [ih]
      · rw [show (Lib.indexByte (l.map (fun n => UInt8.ofNat n.toNat)) 0 == -1) = false from beq_eq_false_iff_ne.2 h1]
        simp only [Bool.false_eq_true, if_false]
        rw [if_pos (by omega)] at ih
        rw [if_pos (by omega)]
        obtain ⟨k, hk⟩ := Int.eq_ofNat_of_zero_le (show 0 ≤ Lib.indexByte (l.map (fun n => UInt8.ofNat n.toNat)) 0 by omega)
        rw [hk] at ih ⊢
        rw [show ((k : Int) + 1).toNat = k + 1 by omega, List.take_succ_cons]
        rw [Int.toNat_natCast] at ih
        rw [ih]
theorem ba_ext {a b : ByteArray} (h : a.data.toList = b.data.toList) : a = b := by
  cases a; cases b
  simp only at h
  rw [Array.toList_inj.1 h]
theorem cut_eq (l : List Int) (h : ∀ x ∈ l, 0 ≤ x ∧ x ≤ 255) : cutS (strOfNums l) = firstS l := by
  have hc := cut_list l h
  apply ba_ext
  unfold cutS firstS
  rw [strOfNums_list, strOfNums_list, ← hc]
  by_cases h0 : 0 ≤ Lib.indexByte (l.map (fun n => UInt8.ofNat n.toNat)) 0
  · rw [if_pos h0, if_pos h0, ByteArray.data_extract, Array.toList_extract, strOfNums_list]
    simp [List.extract]
  · rw [if_neg h0, if_neg h0, strOfNums_list]
theorem strOfNums_size (l : List Int) : (strOfNums l).size = l.length := by
  show (strOfNums l).data.size = _
  rw [← Array.length_toList, strOfNums_list, List.length_map]
set_option maxRecDepth 100000 in
set_option maxHeartbeats 4000000 in
theorem text_gen (A : Option Addr) (n c : Nat) (l : List Int) (R : ByteArray) (W : World) (hR : R = firstS l) (hn : n = l.length) (h : RC W A l) (hB : Bytes l) (hl : l.length ≤ 100000) :
    Calls Try.prog 38 #[.slice A n c] W fun e w' => e = .returned (.string R) ∧ Drawn0 W w' := by
  subst hn
  have HR := Lib.hid (show R = cutS (strOfNums l) by rw [hR, cut_eq l (mem_of_bytes hB)])
  have hcv : (convert TB 9 (.slice A l.length c)).run Try.prog W = .ok (.string (strOfNums l)) W := Kd.C_string Try.underlying22 Try.underlying5 Try.underlying9 (h.to_C (by omega))
  have hz : (strOfNums l).size ≤ 1000000 := by rw [strOfNums_size]; omega
  have HZ := Lib.hid hz
  clear hz hR h hB
  generalize strOfNums l = s at hcv HR HZ
  go_enter Try.func38, Try.ntmps38
  go_wp2_with (go_at_call 47; go_loud ((with_reducible refine (cut_gen s HZ.out _).mono ?_); rintro e w1 ⟨b, f, rfl, ⟨nd, rfl⟩⟩; rw [← HR.out]))
  go_ret
  exact ⟨rfl, ⟨nd, rfl⟩⟩
end Go.Proofs.Ytdmpbfhbjklajaa.HText
end
