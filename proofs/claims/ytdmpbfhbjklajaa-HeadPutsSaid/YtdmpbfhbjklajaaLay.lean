/- A head's bytes laid and sealed. -/
import Derived.Test.YtdmpbfhbjklajaaHead
namespace Go.Proofs.Ytdmpbfhbjklajaa.Lay
open Go.Proofs.Ytdmpbfhbjklajaa Go.RowKit Go.Proofs.YtdmpbfhbjklajaaW.PrintWords Go.Proofs.YtdmpbfhbjklajaaW.PrintLast Go.Proofs.YtdmpbfhbjklajaaW.PrintMore Go.Proofs.Ytdmpbfhbjklajaa.Byt Go.Proofs.Ytdmpbfhbjklajaa.OctPure Go.Proofs.Ytdmpbfhbjklajaa.Img Go.Proofs.Ytdmpbfhbjklajaa.Head
set_option linter.unusedVariables false
set_option linter.unusedSimpArgs false

/-- What stands while a head is laid: the head boxed, the answer's room, the bytes so far. -/
structure L (W : World) (h : Array Value) (w : World) (l : List Int) : Prop where
  bel : Below W.heap.size W w
  box : w.heap[W.heap.size]? = some (.cells h TH (0, 0))
  res : w.heap[W.heap.size + 1]? = some (.cells ZV TI (0, 0))
  im : IM w (W.heap.size + 1 + 1) l
theorem L.wrote {W w w' : World} {h : Array Value} {l l' : List Int} (k : L W h w l) (hi : IM w' (W.heap.size + 1 + 1) l') (hw : Wrote (W.heap.size + 1 + 1) w w') : L W h w' l' :=
  ⟨k.bel.trans (hw.below (by omega) k.bel.size), (hw.block _ (blk_lt k.box) (by omega)).trans k.box, (hw.block _ (blk_lt k.res) (by omega)).trans k.res, hi⟩
theorem L.drew {W w : World} {h : Array Value} {l : List Int} (k : L W h w l) : L W h w.drew l := ⟨k.bel.drew, k.box, k.res, k.im⟩
theorem L.cell {W w : World} {h : Array Value} {l : List Int} (k : L W h w l) (j : Nat) (v : Value) (hv : h[j]? = some v) : w.cell? ⟨W.heap.size, j, none⟩ = some v := by rw [blk_cell k.box, hv]
theorem L.start (W : World) (h : Array Value) : L W h (((W.alloc (.cells h TH)).alloc (.cells ZV TI)).alloc (.cells ZV TI)) Z512 := by
  refine ⟨(((Below.refl _ _).alloc (Nat.le_refl _) _).alloc (by simp) _).alloc (by simp; omega) _, blk_alloc (blk_alloc (blk_new _ _) _) _, ?_, ?_⟩
  · have := blk_new (W.alloc (.cells h TH)) (.cells ZV TI)
    rw [show (W.alloc (.cells h TH)).heap.size = W.heap.size + 1 by simp] at this
    exact blk_alloc this _
  · have := blk_new ((W.alloc (.cells h TH)).alloc (.cells ZV TI)) (.cells ZV TI)
    rwa [show ((W.alloc (.cells h TH)).alloc (.cells ZV TI)).heap.size = W.heap.size + 1 + 1 by simp] at this

set_option maxRecDepth 100000 in
set_option maxHeartbeats 16000000 in
theorem lay_gen (n p : ByteArray) (m s t y : Int) (k : ByteArray) (R : List Int) (W : World) (hR : R = layS n p m s t y k) (hn : n.size ≤ 100) (hp : p.size ≤ 155) (hk : k.size ≤ 100) (hy : 0 ≤ y ∧ y ≤ 255)
    (hm : -9223372036854775808 ≤ m ∧ m ≤ 9223372036854775807) (hs : -9223372036854775808 ≤ s ∧ s ≤ 9223372036854775807) (ht : -9223372036854775808 ≤ t ∧ t ≤ 9223372036854775807) :
    Calls Try.prog 35 #[.agg (hv n p m s t y k)] W fun e w' => e = .returned (.agg (nums .u8 R).toArray) ∧ Below W.heap.size W w' := by
  have hz := zI
  obtain ⟨l1, el1⟩ : ∃ l, l = ins Z512 0 (bytesOf n) := ⟨_, rfl⟩
  obtain ⟨l2, el2⟩ : ∃ l, l = ins l1 100 (putS m 8).1 := ⟨_, rfl⟩
  obtain ⟨l3, el3⟩ : ∃ l, l = ins l2 108 (putS 0 8).1 := ⟨_, rfl⟩
  obtain ⟨l4, el4⟩ : ∃ l, l = ins l3 116 (putS 0 8).1 := ⟨_, rfl⟩
  obtain ⟨l5, el5⟩ : ∃ l, l = ins l4 124 (putS s 12).1 := ⟨_, rfl⟩
  obtain ⟨l6, el6⟩ : ∃ l, l = ins l5 136 (putS t 12).1 := ⟨_, rfl⟩
  obtain ⟨l7, el7⟩ : ∃ l, l = l6.set 156 y := ⟨_, rfl⟩
  obtain ⟨l8, el8⟩ : ∃ l, l = ins l7 157 (bytesOf k) := ⟨_, rfl⟩
  obtain ⟨l9, el9⟩ : ∃ l, l = ins l8 257 MAGIC := ⟨_, rfl⟩
  obtain ⟨l10, el10⟩ : ∃ l, l = ins l9 329 (putS 0 8).1 := ⟨_, rfl⟩
  obtain ⟨l11, el11⟩ : ∃ l, l = ins l10 337 (putS 0 8).1 := ⟨_, rfl⟩
  obtain ⟨l12, el12⟩ : ∃ l, l = ins l11 345 (bytesOf p) := ⟨_, rfl⟩
  have q0 : Z512.length = 512 := z_ok.1
  have q1 : l1.length = 512 := by rw [el1, ins_len, q0]
  have q2 : l2.length = 512 := by rw [el2, ins_len, q1]
  have q3 : l3.length = 512 := by rw [el3, ins_len, q2]
  have q4 : l4.length = 512 := by rw [el4, ins_len, q3]
  have q5 : l5.length = 512 := by rw [el5, ins_len, q4]
  have q6 : l6.length = 512 := by rw [el6, ins_len, q5]
  have q7 : l7.length = 512 := by rw [el7, List.length_set, q6]
  have q8 : l8.length = 512 := by rw [el8, ins_len, q7]
  have q9 : l9.length = 512 := by rw [el9, ins_len, q8]
  have q10 : l10.length = 512 := by rw [el10, ins_len, q9]
  have q11 : l11.length = 512 := by rw [el11, ins_len, q10]
  have q12 : l12.length = 512 := by rw [el12, ins_len, q11]
  have hRl : R = sealS l12 := by rw [hR, el12, el11, el10, el9, el8, el7, el6, el5, el4, el3, el2, el1]; rfl
  have hB12 : Bytes l12 := by
    have := (body_ok n p m s t y k hy).2
    rwa [show bodyS n p m s t y k = l12 by rw [el12, el11, el10, el9, el8, el7, el6, el5, el4, el3, el2, el1]; rfl] at this
  have hRlen : R.length = 512 := by rw [hRl]; exact (seal_ok ⟨q12, hB12⟩).1
  have Q1 := Lib.hid q1
  have E1 := Lib.hid el1
  have Q2 := Lib.hid q2
  have E2 := Lib.hid el2
  have Q3 := Lib.hid q3
  have E3 := Lib.hid el3
  have Q4 := Lib.hid q4
  have E4 := Lib.hid el4
  have Q5 := Lib.hid q5
  have E5 := Lib.hid el5
  have Q6 := Lib.hid q6
  have E6 := Lib.hid el6
  have Q7 := Lib.hid q7
  have E7 := Lib.hid el7
  have Q8 := Lib.hid q8
  have E8 := Lib.hid el8
  have Q9 := Lib.hid q9
  have E9 := Lib.hid el9
  have Q10 := Lib.hid q10
  have E10 := Lib.hid el10
  have Q11 := Lib.hid q11
  have E11 := Lib.hid el11
  have Q12 := Lib.hid q12
  have E12 := Lib.hid el12
  have HR := Lib.hid hRl
  have HB12 := Lib.hid hB12
  have HRL := Lib.hid hRlen
  have HI := Lib.hid (show (Try.prog.info? TI).map (·.size) = some (nums .u8 R).toArray.size by rw [show (nums .u8 R).toArray.size = 512 by simp [nums, hRlen]]; exact infoI)
  have HT := Lib.hid (show ZV.size = (nums .u8 R).toArray.size by rw [show (nums .u8 R).toArray.size = 512 by simp [nums, hRlen]]; rfl)
  have c157 : ∀ w : World, (Instr.sliceAt TI (.pointer (some ⟨W.heap.size + 1 + 1, 0, none⟩)) (some (.int .i64 157)) none none).run Try.prog w = .ok (.slice (some ⟨W.heap.size + 1 + 1, 157, none⟩) 355 355) w := run_fromI _ 157 (by decide)
  have c257 : ∀ w : World, (Instr.sliceAt TI (.pointer (some ⟨W.heap.size + 1 + 1, 0, none⟩)) (some (.int .i64 257)) none none).run Try.prog w = .ok (.slice (some ⟨W.heap.size + 1 + 1, 257, none⟩) 255 255) w := run_fromI _ 257 (by decide)
  have c345 : ∀ w : World, (Instr.sliceAt TI (.pointer (some ⟨W.heap.size + 1 + 1, 0, none⟩)) (some (.int .i64 345)) none none).run Try.prog w = .ok (.slice (some ⟨W.heap.size + 1 + 1, 345, none⟩) 167 167) w := run_fromI _ 345 (by decide)
  clear hR hRl hB12 hRlen q0 q1 q2 q3 q4 q5 q6 q7 q8 q9 q10 q11 q12 el1 el2 el3 el4 el5 el6 el7 el8 el9 el10 el11 el12
  have HL0 := Lib.hid (L.start W (hv n p m s t y k))
  unfold hv at HL0 ⊢
  go_enter Try.func35, Try.ntmps35
  go_wp2
  generalize ((W.alloc (.cells #[.string n, .string p, .int .i64 m, .int .i64 s, .int .i64 t, .int .u8 y, .string k] TH)).alloc (.cells ZV TI)).alloc (.cells ZV TI) = w0 at HL0 ⊢
  have x0 := HL0.out.drew.cell 0 _ rfl
  refine start_ (n := 4) (S := fun w' => w'.cell? ⟨W.heap.size, 0, none⟩ = some (.string n)) (ds := []) #[false, false, false, false] (by kernel_rfl) rfl rfl (x0) (fun hHeld => ?_)
  refine pure_ (i := 0) (N := some 4) (v := ?_) (a' := ?_) #[true, false, false, false] rfl rfl (by kernel_rfl) (fun _ _ _ h => h) (Or.inl ⟨by rfl, ?_⟩) ?_ ?_
  rotate_left
  · intro w'
    go_simp
    with_reducible rfl
  rotate_left
  · simp only [Act.put, List.setIfInBounds_toArray, List.set_cons_zero, List.set_cons_succ, i64_w, i32_w]
    rfl
  refine pure_ (i := 1) (N := some 5) (v := ?_) (a' := ?_) #[true, true, false, false] rfl rfl (by kernel_rfl) (fun _ _ _ h => h) (Or.inl ⟨by rfl, ?_⟩) ?_ ?_
  rotate_left
  · intro w'
    go_simp
    with_reducible rfl
  rotate_left
  · simp only [Act.put, List.setIfInBounds_toArray, List.set_cons_zero, List.set_cons_succ, i64_w, i32_w]
    rfl
  refine take_ (i := 2) (N := some 6) (v := ?_) (a' := ?_) #[true, true, true, false] rfl rfl (by kernel_rfl) (fun _ _ _ h => h) (Or.inl ⟨by rfl, ?_⟩) hHeld ?_ ?_
  rotate_left
  · intro w' s0
    go_simp
    with_reducible rfl
  rotate_left
  · simp only [Act.put, List.setIfInBounds_toArray, List.set_cons_zero, List.set_cons_succ, i64_w, i32_w]
    rfl
  refine one_ (i := 3) (N := some 7) #[true, true, true, true] rfl rfl (by kernel_rfl) (by decide) (fun K hK => ?_)
  refine step_copy_str (by rfl) (.tmp 4) (.tmp 6) rfl (W.heap.size + 1 + 1) 0 512 512 n Z512 (bytesOf n) rfl rfl rfl HL0.out.im z_ok.1 (by rw [bytesOf_length]; omega) ?_
  rw [← E1.out]
  intro w1 hi1 hw1
  have HL1 := Lib.hid (HL0.out.drew.wrote hi1 hw1)
  clear hi1 hw1
  refine hK.out _ _ (HL1.out.cell 0 _ rfl) (fun hHeld => ?_)
  clear hK K
  refine norm_ (a' := ?_) ?_ ?_
  rotate_left
  · show Act.put _ (some 7) _ = _
    simp only [Act.put, List.setIfInBounds_toArray, List.set_cons_zero, List.set_cons_succ, i64_w, i32_w]
    rfl
  refine done_ (by kernel_rfl) ?_
  clear x0
  have x2 := HL1.out.cell 2 _ rfl
  have tk1 : True := trivial
  go_wp2_with (first
    | (go_at_call 42; have _tk := tk1; (with_reducible refine (number_at (W.heap.size + 1 + 1) 100 100 8 rfl 8 rfl m l1 (putS m 8).1 (putS m 8).2 _ rfl hm Q1.out (by decide) (by have := putS_len m 8; omega) HL1.out.im).mono ?_); rw [← E2.out]; rintro e w2 ⟨rfl, hi2, hw2⟩; have HL2 := Lib.hid (HL1.out.wrote hi2 hw2); have tk2 : True := trivial; clear x2; clear tk1 _tk hi2 hw2)
    | (go_at_call 42; have _tk := tk2; (with_reducible refine (number_at (W.heap.size + 1 + 1) 108 108 8 rfl 8 rfl 0 l2 (putS 0 8).1 (putS 0 8).2 _ rfl (by decide) Q2.out (by decide) (by have := putS_len 0 8; omega) HL2.out.im).mono ?_); rw [← E3.out]; rintro e w3 ⟨rfl, hi3, hw3⟩; have HL3 := Lib.hid (HL2.out.wrote hi3 hw3); have tk3 : True := trivial; clear tk2 _tk hi3 hw3)
    | (go_at_call 42; have _tk := tk3; (with_reducible refine (number_at (W.heap.size + 1 + 1) 116 116 8 rfl 8 rfl 0 l3 (putS 0 8).1 (putS 0 8).2 _ rfl (by decide) Q3.out (by decide) (by have := putS_len 0 8; omega) HL3.out.im).mono ?_); rw [← E4.out]; rintro e w4 ⟨rfl, hi4, hw4⟩; have HL4 := Lib.hid (HL3.out.wrote hi4 hw4); have tk4 : True := trivial; have x3 := HL4.out.cell 3 _ rfl; clear tk3 _tk hi4 hw4)
    | (go_at_call 42; have _tk := tk4; (with_reducible refine (number_at (W.heap.size + 1 + 1) 124 124 12 rfl 12 rfl s l4 (putS s 12).1 (putS s 12).2 _ rfl hs Q4.out (by decide) (by have := putS_len s 12; omega) HL4.out.im).mono ?_); rw [← E5.out]; rintro e w5 ⟨rfl, hi5, hw5⟩; have HL5 := Lib.hid (HL4.out.wrote hi5 hw5); have tk5 : True := trivial; clear x3; have x4 := HL5.out.cell 4 _ rfl; clear tk4 _tk hi5 hw5)
    | (go_at_call 42; have _tk := tk5; (with_reducible refine (number_at (W.heap.size + 1 + 1) 136 136 12 rfl 12 rfl t l5 (putS t 12).1 (putS t 12).2 _ rfl ht Q5.out (by decide) (by have := putS_len t 12; omega) HL5.out.im).mono ?_); rw [← E6.out]; rintro e w6 ⟨rfl, hi6, hw6⟩; have HL6 := Lib.hid (HL5.out.wrote hi6 hw6); have tk6 : True := trivial; clear x4; have x5 := HL6.out.cell 5 _ rfl; have hx := HL6.out.im.cell 156 (by rw [Q6.out]; decide); have hf := blk_frozen HL6.out.im 156; clear tk5 _tk hi6 hw6))
  have HL7 := Lib.hid (show L W (hv n p m s t y k) (w6.setCell ⟨W.heap.size + 1 + 1, 156, none⟩ (.int .u8 y)) l7 by rw [E7.out]; exact HL6.out.wrote (HL6.out.im.set 156 y) (wrote_setCell (Wrote.refl _ _) 156 _))
  generalize w6.setCell ⟨W.heap.size + 1 + 1, 156, none⟩ (.int .u8 y) = w7 at HL7 ⊢
  clear x5 hx hf
  have x6 := HL7.out.drew.cell 6 (.string k) rfl
  refine start_ (n := 4) (S := fun w' => w'.cell? ⟨W.heap.size, 6, none⟩ = some (.string k)) (ds := []) #[false, false, false, false] (by kernel_rfl) rfl rfl (x6) (fun hHeld => ?_)
  refine pure_ (i := 0) (N := some 22) (v := ?_) (a' := ?_) #[true, false, false, false] rfl rfl (by kernel_rfl) (fun _ _ _ h => h) (Or.inl ⟨by rfl, ?_⟩) ?_ ?_
  rotate_left
  · intro w'
    go_simp
    with_reducible rfl
  rotate_left
  · simp only [Act.put, List.setIfInBounds_toArray, List.set_cons_zero, List.set_cons_succ, i64_w, i32_w]
    rfl
  refine pure_ (i := 1) (N := some 23) (v := ?_) (a' := ?_) #[true, true, false, false] rfl rfl (by kernel_rfl) (fun _ _ _ h => h) (Or.inl ⟨by rfl, ?_⟩) ?_ ?_
  rotate_left
  · intro w'
    go_simp
    with_reducible rfl
  rotate_left
  · simp only [Act.put, List.setIfInBounds_toArray, List.set_cons_zero, List.set_cons_succ, i64_w, i32_w]
    rfl
  refine take_ (i := 2) (N := some 24) (v := ?_) (a' := ?_) #[true, true, true, false] rfl rfl (by kernel_rfl) (fun _ _ _ h => h) (Or.inl ⟨by rfl, ?_⟩) hHeld ?_ ?_
  rotate_left
  · intro w' s0
    go_simp
    with_reducible rfl
  rotate_left
  · simp only [Act.put, List.setIfInBounds_toArray, List.set_cons_zero, List.set_cons_succ, i64_w, i32_w]
    rfl
  refine one_ (i := 3) (N := some 25) #[true, true, true, true] rfl rfl (by kernel_rfl) (by decide) (fun K hK => ?_)
  refine step_copy_str (by rfl) (.tmp 22) (.tmp 24) rfl (W.heap.size + 1 + 1) 157 355 355 k l7 (bytesOf k) rfl rfl rfl HL7.out.im (by rw [Q7.out]) (by rw [bytesOf_length]; omega) ?_
  rw [← E8.out]
  intro w8 hi8 hw8
  have HL8 := Lib.hid (HL7.out.drew.wrote hi8 hw8)
  clear hi8 hw8
  refine hK.out _ _ (HL8.out.cell 6 _ rfl) (fun hHeld => ?_)
  clear hK K
  refine norm_ (a' := ?_) ?_ ?_
  rotate_left
  · show Act.put _ (some 25) _ = _
    simp only [Act.put, List.setIfInBounds_toArray, List.set_cons_zero, List.set_cons_succ, i64_w, i32_w]
    rfl
  refine done_ (by kernel_rfl) ?_
  clear x6
  have tk9 : True := trivial
  go_wp2_with (first
    | (refine wpList_copy_str rfl (.tmp 26) (.const (.string ⟨#[117, 115, 116, 97, 114, 0, 48, 48]⟩)) rfl (W.heap.size + 1 + 1) 257 255 255 ⟨#[117, 115, 116, 97, 114, 0, 48, 48]⟩ l8 MAGIC rfl rfl (by decide) HL8.out.im (by rw [Q8.out]) (by decide) ?_; rw [← E9.out]; intro w9 hi9 hw9; have HL9 := Lib.hid (HL8.out.wrote hi9 hw9); clear hi9 hw9)
    | (go_at_call 42; have _tk := tk9; (with_reducible refine (number_at (W.heap.size + 1 + 1) 329 329 8 rfl 8 rfl 0 l9 (putS 0 8).1 (putS 0 8).2 _ rfl (by decide) Q9.out (by decide) (by have := putS_len 0 8; omega) HL9.out.im).mono ?_); rw [← E10.out]; rintro e w10 ⟨rfl, hi10, hw10⟩; have HL10 := Lib.hid (HL9.out.wrote hi10 hw10); have tk10 : True := trivial; clear tk9 _tk hi10 hw10)
    | (go_at_call 42; have _tk := tk10; (with_reducible refine (number_at (W.heap.size + 1 + 1) 337 337 8 rfl 8 rfl 0 l10 (putS 0 8).1 (putS 0 8).2 _ rfl (by decide) Q10.out (by decide) (by have := putS_len 0 8; omega) HL10.out.im).mono ?_); rw [← E11.out]; rintro e w11 ⟨rfl, hi11, hw11⟩; have HL11 := Lib.hid (HL10.out.wrote hi11 hw11); have tk11 : True := trivial; clear tk10 _tk hi11 hw11))
  have x1 := HL11.out.drew.cell 1 (.string p) rfl
  refine start_ (n := 4) (S := fun w' => w'.cell? ⟨W.heap.size, 1, none⟩ = some (.string p)) (ds := []) #[false, false, false, false] (by kernel_rfl) rfl rfl (x1) (fun hHeld => ?_)
  refine pure_ (i := 0) (N := some 30) (v := ?_) (a' := ?_) #[true, false, false, false] rfl rfl (by kernel_rfl) (fun _ _ _ h => h) (Or.inl ⟨by rfl, ?_⟩) ?_ ?_
  rotate_left
  · intro w'
    go_simp
    with_reducible rfl
  rotate_left
  · simp only [Act.put, List.setIfInBounds_toArray, List.set_cons_zero, List.set_cons_succ, i64_w, i32_w]
    rfl
  refine pure_ (i := 1) (N := some 31) (v := ?_) (a' := ?_) #[true, true, false, false] rfl rfl (by kernel_rfl) (fun _ _ _ h => h) (Or.inl ⟨by rfl, ?_⟩) ?_ ?_
  rotate_left
  · intro w'
    go_simp
    with_reducible rfl
  rotate_left
  · simp only [Act.put, List.setIfInBounds_toArray, List.set_cons_zero, List.set_cons_succ, i64_w, i32_w]
    rfl
  refine take_ (i := 2) (N := some 32) (v := ?_) (a' := ?_) #[true, true, true, false] rfl rfl (by kernel_rfl) (fun _ _ _ h => h) (Or.inl ⟨by rfl, ?_⟩) hHeld ?_ ?_
  rotate_left
  · intro w' s0
    go_simp
    with_reducible rfl
  rotate_left
  · simp only [Act.put, List.setIfInBounds_toArray, List.set_cons_zero, List.set_cons_succ, i64_w, i32_w]
    rfl
  refine one_ (i := 3) (N := some 33) #[true, true, true, true] rfl rfl (by kernel_rfl) (by decide) (fun K hK => ?_)
  refine step_copy_str (by rfl) (.tmp 30) (.tmp 32) rfl (W.heap.size + 1 + 1) 345 167 167 p l11 (bytesOf p) rfl rfl rfl HL11.out.im (by rw [Q11.out]) (by rw [bytesOf_length]; omega) ?_
  rw [← E12.out]
  intro w12 hi12 hw12
  have HL12 := Lib.hid (HL11.out.drew.wrote hi12 hw12)
  clear hi12 hw12
  refine hK.out _ _ (HL12.out.cell 1 _ rfl) (fun hHeld => ?_)
  clear hK K
  refine norm_ (a' := ?_) ?_ ?_
  rotate_left
  · show Act.put _ (some 33) _ = _
    simp only [Act.put, List.setIfInBounds_toArray, List.set_cons_zero, List.set_cons_succ, i64_w, i32_w]
    rfl
  refine done_ (by kernel_rfl) ?_
  clear x1
  go_wp2_with (first
    | (go_at_call 32; (with_reducible refine (seal_gen (W.heap.size + 1 + 1) l12 R _ HR.out HB12.out Q12.out HL12.out.im).mono ?_); rintro e w13 ⟨rfl, hi13, hw13⟩; have HL13 := Lib.hid (HL12.out.wrote hi13 hw13); clear hi13 hw13)
    | ((with_reducible refine gate_dst (N := 35) rfl ?_); refine wpList_load_row rfl TI (.tmp 3) rfl (W.heap.size + 1 + 1) rfl TI _ (0, 0) _ HL13.out.im Try.underlying59 rfl HI.out ?_)
    | (refine wpList_store_row rfl TI (.tmp 2) (.tmp 35) rfl (W.heap.size + 1) (nums .u8 R).toArray rfl rfl TI ZV HL13.out.res HI.out HT.out (bytes_one R) ?_))
  have HRR := setRow_heap w13 (W.heap.size + 1) ZV (nums .u8 R).toArray TI (0, 0) HL13.out.res
  refine bodyPost_ret (v := .agg (nums .u8 R).toArray) (results_cell_row rfl _ _ (W.heap.size + 1) TI _ (0, 0) _ rfl HRR Try.underlying59 rfl HI.out) rfl ⟨rfl, ?_⟩
  exact below_setRow HL13.out.bel (by omega) _
end Go.Proofs.Ytdmpbfhbjklajaa.Lay
