/- A digest that is being made, asked: its twin, its length, its sum; the digest of bytes, and a digest's text. -/
import Derived.Test.YthgmhjgbjodhjaaDoorOwn
namespace Go.Proofs.YthgmhjgbjodhjaaDoor.Sha4
open Go.Proofs.YthgmhjgbjodhjaaDoor Go.RowKit Go.Proofs.YthgmhjgbjodhjaaDoorW.PrintWords Go.Proofs.YthgmhjgbjodhjaaDoorW.PrintLast Go.Proofs.YthgmhjgbjodhjaaDoorW.PrintMore Go.Proofs.YthgmhjgbjodhjaaDoor.Sha Go.Proofs.YthgmhjgbjodhjaaDoor.Sha2 Go.Proofs.YthgmhjgbjodhjaaDoor.Sha3 Go.Proofs.YthgmhjgbjodhjaaDoor.Own
set_option linter.unusedVariables false
set_option linter.unusedSimpArgs false

theorem H_below {w w' : World} {g : Nat} {st rest : List Int} {n : Nat} (h : H w g st rest n) (hb : Below w.heap.size w w') : H w' g st rest n := by
  obtain ⟨A, c, hh, hc, hr, ho⟩ := h
  exact ⟨A, c, (hb.block g (blk_lt hh)).trans hh, hc, hr.below hb, ho⟩
theorem H_lt {w : World} {g : Nat} {st rest : List Int} {n : Nat} (h : H w g st rest n) : g < w.heap.size := by
  obtain ⟨A, c, hh, _⟩ := h
  exact blk_lt hh

def IV : List Int := [1779033703, 3144134277, 1013904242, 2773480762, 1359893119, 2600822924, 528734635, 1541459225]

set_option maxRecDepth 100000 in
theorem new_any (W : World) : Calls Tryd.prog 14 #[] W fun e w' => e = .returned (.pointer (some ⟨W.heap.size, 0, none⟩)) ∧ H w' W.heap.size IV [] 0 ∧ Below W.heap.size W w' := by
  go_enter Tryd.func14, Tryd.ntmps14
  go_wp2
  go_ret
  refine ⟨rfl, ⟨none, 0, ?_, by simp, RC.nil _ _, fun a h => by cases h⟩, (Below.refl _ _).alloc (Nat.le_refl _) _⟩
  exact blk_new _ _

theorem new_at (st rest : List Int) (n : Nat) (h : st = IV ∧ rest = [] ∧ n = 0) (W : World) : Calls Tryd.prog 14 #[] W fun e w' => ∃ g', e = .returned (.pointer (some ⟨g', 0, none⟩)) ∧ W.heap.size ≤ g' ∧ H w' g' st rest n ∧ Below W.heap.size W w' := by
  obtain ⟨rfl, rfl, rfl⟩ := h
  refine (new_any W).mono ?_
  rintro e w' ⟨rfl, h1, h2⟩
  exact ⟨_, rfl, Nat.le_refl _, h1, h2⟩

set_option maxRecDepth 100000 in
theorem len_any (g : Nat) (st rest : List Int) (n : Nat) (W : World) (hst : st.length = 8) (hh : H W g st rest n) : Calls Tryd.prog 17 #[.pointer (some ⟨g, 0, none⟩)] W fun e w' => e = .returned (.int .i64 (n : Int)) ∧ W = w' := by
  obtain ⟨A, c, hh, _⟩ := hh
  have xn := hb_n hh hst
  clear hh
  go_enter Tryd.func17, Tryd.ntmps17
  go_wp2
  go_ret
  exact ⟨rfl, rfl⟩
set_option maxRecDepth 100000 in
theorem len_nil (W : World) : Calls Tryd.prog 17 #[.pointer none] W fun e w' => e = .returned (.int .i64 0) ∧ W = w' := by
  go_enter Tryd.func17, Tryd.ntmps17
  go_wp2
  go_ret
  exact ⟨rfl, rfl⟩
set_option maxRecDepth 100000 in
theorem twin_nil (W : World) : Calls Tryd.prog 18 #[.pointer none] W fun e w' => e = .returned (.pointer none) ∧ W = w' := by
  go_enter Tryd.func18, Tryd.ntmps18
  go_wp2
  go_ret
  exact ⟨rfl, rfl⟩
set_option maxRecDepth 100000 in
theorem write_nil (v : Value) (W : World) : Calls Tryd.prog 15 #[.pointer none, v] W fun e w' => e = .returned (.tuple #[]) ∧ W = w' := by
  go_enter Tryd.func15, Tryd.ntmps15
  go_wp2
  exact bodyPost_ret (v := .tuple #[]) (results_none (fn := Tryd.f15) rfl _ _ _) rfl ⟨rfl, rfl⟩

theorem eight {st : List Int} (h : st.length = 8) : ∃ a b c d e f g i, st = [a, b, c, d, e, f, g, i] := by
  match st, h with
  | [a, b, c, d, e, f, g, i], _ => exact ⟨a, b, c, d, e, f, g, i, rfl⟩

theorem hb_eight {w : World} {g' : Nat} {a b c d e f g i : Int} {v : Value} {n : Int} (h : HB w g' [a, b, c, d, e, f, g, i] v n) :
    w.cell? ⟨g', 0, none⟩ = some (.int .u32 a) ∧ w.cell? ⟨g', 1, none⟩ = some (.int .u32 b) ∧ w.cell? ⟨g', 2, none⟩ = some (.int .u32 c) ∧ w.cell? ⟨g', 3, none⟩ = some (.int .u32 d) ∧ w.cell? ⟨g', 4, none⟩ = some (.int .u32 e) ∧
    w.cell? ⟨g', 5, none⟩ = some (.int .u32 f) ∧ w.cell? ⟨g', 6, none⟩ = some (.int .u32 g) ∧ w.cell? ⟨g', 7, none⟩ = some (.int .u32 i) ∧ w.cell? ⟨g', 8, none⟩ = some v ∧ w.cell? ⟨g', 9, none⟩ = some (.int .i64 n) :=
  ⟨hb_cell h 0 (by simp), hb_cell h 1 (by simp), hb_cell h 2 (by simp), hb_cell h 3 (by simp), hb_cell h 4 (by simp), hb_cell h 5 (by simp), hb_cell h 6 (by simp), hb_cell h 7 (by simp), hb_rest h rfl, hb_n h rfl⟩

set_option maxHeartbeats 4000000 in
set_option maxRecDepth 100000 in
theorem twin_any (g : Nat) (st rest : List Int) (n : Nat) (W : World) (hst : st.length = 8) (hrl : rest.length ≤ 1000) (hh : H W g st rest n) :
    Calls Tryd.prog 18 #[.pointer (some ⟨g, 0, none⟩)] W fun e w' => ∃ g', e = .returned (.pointer (some ⟨g', 0, none⟩)) ∧ W.heap.size ≤ g' ∧ H w' g' st rest n ∧ Below W.heap.size W w' := by
  obtain ⟨A, c, hh, hrc, hA, hOA⟩ := hh
  obtain ⟨a0, a1, a2, a3, a4, a5, a6, a7, rfl⟩ := eight hst
  have HH := Lib.hid hh
  have HA := Lib.hid hA
  have hgl := blk_lt hh
  have H8 := Lib.hid (fun w (h : HB w g [a0, a1, a2, a3, a4, a5, a6, a7] (.slice A rest.length c) (n : Int)) => hb_eight h)
  clear hst hh hA hOA
  go_enter Tryd.func18, Tryd.ntmps18
  go_wp2
  obtain ⟨p0, p1, p2, p3, p4, p5, p6, p7, p8, p9⟩ := H8.out _ (show HB W.drew g [a0, a1, a2, a3, a4, a5, a6, a7] (.slice A rest.length c) (n : Int) from HH.out)
  refine start_ (n := 16) (S := fun w' => w'.cell? ⟨g, 0, none⟩ = some (.int .u32 a0) ∧ w'.cell? ⟨g, 1, none⟩ = some (.int .u32 a1) ∧ w'.cell? ⟨g, 2, none⟩ = some (.int .u32 a2) ∧ w'.cell? ⟨g, 3, none⟩ = some (.int .u32 a3) ∧ w'.cell? ⟨g, 4, none⟩ = some (.int .u32 a4) ∧ w'.cell? ⟨g, 5, none⟩ = some (.int .u32 a5) ∧ w'.cell? ⟨g, 6, none⟩ = some (.int .u32 a6) ∧ w'.cell? ⟨g, 7, none⟩ = some (.int .u32 a7) ∧ w'.cell? ⟨g, 8, none⟩ = some (.slice A rest.length c) ∧ w'.cell? ⟨g, 9, none⟩ = some (.int .i64 (n : Int))) (ds := []) #[false, false, false, false, false, false, false, false, false, false, false, false, false, false, false, false] (by kernel_rfl) rfl rfl ⟨p0, p1, p2, p3, p4, p5, p6, p7, p8, p9⟩ (fun hHeld => ?_)
  refine pure_ (i := 0) (N := some 5) (v := ?_) (a' := ?_) #[true, false, false, false, false, false, false, false, false, false, false, false, false, false, false, false] rfl rfl (by kernel_rfl) (fun _ _ _ h => h) (Or.inl ⟨by rfl, ?_⟩) ?_ ?_
  rotate_left
  · intro w'
    go_simp
    (first | (with_reducible rfl) | ((try simp only [*]); (with_reducible rfl)))
  rotate_left
  · simp only [Act.put, List.setIfInBounds_toArray, List.set_cons_zero, List.set_cons_succ, i64_w, i32_w]
    rfl
  refine pure_ (i := 1) (N := some 6) (v := ?_) (a' := ?_) #[true, true, false, false, false, false, false, false, false, false, false, false, false, false, false, false] rfl rfl (by kernel_rfl) (fun _ _ _ h => h) (Or.inl ⟨by rfl, ?_⟩) ?_ ?_
  rotate_left
  · intro w'
    go_simp
    (first | (with_reducible rfl) | ((try simp only [*]); (with_reducible rfl)))
  rotate_left
  · simp only [Act.put, List.setIfInBounds_toArray, List.set_cons_zero, List.set_cons_succ, i64_w, i32_w]
    rfl
  refine pure_ (i := 2) (N := some 7) (v := ?_) (a' := ?_) #[true, true, true, false, false, false, false, false, false, false, false, false, false, false, false, false] rfl rfl (by kernel_rfl) (fun _ _ _ h => h) (Or.inl ⟨by rfl, ?_⟩) ?_ ?_
  rotate_left
  · intro w'
    go_simp
    (first | (with_reducible rfl) | ((try simp only [*]); (with_reducible rfl)))
  rotate_left
  · simp only [Act.put, List.setIfInBounds_toArray, List.set_cons_zero, List.set_cons_succ, i64_w, i32_w]
    rfl
  refine pure_ (i := 4) (N := some 9) (v := ?_) (a' := ?_) #[true, true, true, false, true, false, false, false, false, false, false, false, false, false, false, false] rfl rfl (by kernel_rfl) (fun _ _ _ h => h) (Or.inl ⟨by rfl, ?_⟩) ?_ ?_
  rotate_left
  · intro w'
    go_simp
    (first | (with_reducible rfl) | ((try simp only [*]); (with_reducible rfl)))
  rotate_left
  · simp only [Act.put, List.setIfInBounds_toArray, List.set_cons_zero, List.set_cons_succ, i64_w, i32_w]
    rfl
  refine pure_ (i := 5) (N := some 10) (v := ?_) (a' := ?_) #[true, true, true, false, true, true, false, false, false, false, false, false, false, false, false, false] rfl rfl (by kernel_rfl) (fun _ _ _ h => h) (Or.inl ⟨by rfl, ?_⟩) ?_ ?_
  rotate_left
  · intro w'
    go_simp
    (first | (with_reducible rfl) | ((try simp only [*]); (with_reducible rfl)))
  rotate_left
  · simp only [Act.put, List.setIfInBounds_toArray, List.set_cons_zero, List.set_cons_succ, i64_w, i32_w]
    rfl
  refine pure_ (i := 6) (N := some 11) (v := ?_) (a' := ?_) #[true, true, true, false, true, true, true, false, false, false, false, false, false, false, false, false] rfl rfl (by kernel_rfl) (fun _ _ _ h => h) (Or.inl ⟨by rfl, ?_⟩) ?_ ?_
  rotate_left
  · intro w'
    go_simp
    (first | (with_reducible rfl) | ((try simp only [*]); (with_reducible rfl)))
  rotate_left
  · simp only [Act.put, List.setIfInBounds_toArray, List.set_cons_zero, List.set_cons_succ, i64_w, i32_w]
    rfl
  refine pure_ (i := 9) (N := some 14) (v := ?_) (a' := ?_) #[true, true, true, false, true, true, true, false, false, true, false, false, false, false, false, false] rfl rfl (by kernel_rfl) (fun _ _ _ h => h) (Or.inl ⟨by rfl, ?_⟩) ?_ ?_
  rotate_left
  · intro w'
    go_simp
    (first | (with_reducible rfl) | ((try simp only [*]); (with_reducible rfl)))
  rotate_left
  · simp only [Act.put, List.setIfInBounds_toArray, List.set_cons_zero, List.set_cons_succ, i64_w, i32_w]
    rfl
  refine pure_ (i := 10) (N := some 15) (v := ?_) (a' := ?_) #[true, true, true, false, true, true, true, false, false, true, true, false, false, false, false, false] rfl rfl (by kernel_rfl) (fun _ _ _ h => h) (Or.inl ⟨by rfl, ?_⟩) ?_ ?_
  rotate_left
  · intro w'
    go_simp
    (first | (with_reducible rfl) | ((try simp only [*]); (with_reducible rfl)))
  rotate_left
  · simp only [Act.put, List.setIfInBounds_toArray, List.set_cons_zero, List.set_cons_succ, i64_w, i32_w]
    rfl
  refine pure_ (i := 11) (N := some 16) (v := ?_) (a' := ?_) #[true, true, true, false, true, true, true, false, false, true, true, true, false, false, false, false] rfl rfl (by kernel_rfl) (fun _ _ _ h => h) (Or.inl ⟨by rfl, ?_⟩) ?_ ?_
  rotate_left
  · intro w'
    go_simp
    (first | (with_reducible rfl) | ((try simp only [*]); (with_reducible rfl)))
  rotate_left
  · simp only [Act.put, List.setIfInBounds_toArray, List.set_cons_zero, List.set_cons_succ, i64_w, i32_w]
    rfl
  refine take_ (i := 3) (N := some 8) (v := ?_) (a' := ?_) #[true, true, true, true, true, true, true, false, false, true, true, true, false, false, false, false] rfl rfl (by kernel_rfl) (fun _ _ _ h => h) (Or.inl ⟨by rfl, ?_⟩) hHeld ?_ ?_
  rotate_left
  · rintro w' ⟨s0, s1, s2, s3, s4, s5, s6, s7, s8, s9⟩
    go_simp
    (first | (with_reducible rfl) | ((try simp only [*]); (with_reducible rfl)))
  rotate_left
  · simp only [Act.put, List.setIfInBounds_toArray, List.set_cons_zero, List.set_cons_succ, i64_w, i32_w]
    rfl
  refine take_ (i := 7) (N := some 12) (v := ?_) (a' := ?_) #[true, true, true, true, true, true, true, true, false, true, true, true, false, false, false, false] rfl rfl (by kernel_rfl) (fun _ _ _ h => h) (Or.inl ⟨by rfl, ?_⟩) hHeld ?_ ?_
  rotate_left
  · rintro w' ⟨s0, s1, s2, s3, s4, s5, s6, s7, s8, s9⟩
    go_simp
    (first | (with_reducible rfl) | ((try simp only [*]); (with_reducible rfl)))
  rotate_left
  · simp only [Act.put, List.setIfInBounds_toArray, List.set_cons_zero, List.set_cons_succ, i64_w, i32_w]
    rfl
  refine take_ (i := 12) (N := some 17) (v := ?_) (a' := ?_) #[true, true, true, true, true, true, true, true, false, true, true, true, true, false, false, false] rfl rfl (by kernel_rfl) (fun _ _ _ h => h) (Or.inl ⟨by rfl, ?_⟩) hHeld ?_ ?_
  rotate_left
  · rintro w' ⟨s0, s1, s2, s3, s4, s5, s6, s7, s8, s9⟩
    go_simp
    (first | (with_reducible rfl) | ((try simp only [*]); (with_reducible rfl)))
  rotate_left
  · simp only [Act.put, List.setIfInBounds_toArray, List.set_cons_zero, List.set_cons_succ, i64_w, i32_w]
    rfl
  refine one_ (i := 8) (N := some 13) #[true, true, true, true, true, true, true, true, true, true, true, true, true, false, false, false] rfl rfl (by kernel_rfl) (by decide) (fun K hK => ?_)
  refine goes_ Tryd.func22 (by kernel_rfl) rfl #[.slice A rest.length c] (by rfl) rfl rfl (by simp only [List.map_toArray, List.map_cons, List.map_nil]; rfl) ?_
  with_reducible refine (clone_rc A c rest _ (HA.out.below (below_drew1 (Below.refl _ _))) hrc (by omega)).mono ?_
  rintro e w7 ⟨A7, c7, rfl, hc7, hr7, hg7, hb7⟩
  refine ⟨_, rfl, ?_⟩
  have HR7 := Lib.hid hr7
  have HG7 := Lib.hid hg7
  have HB7 := Lib.hid hb7
  have HH7 := Lib.hid (show HB w7 g [a0, a1, a2, a3, a4, a5, a6, a7] (.slice A rest.length c) (n : Int) from (hb7.block g hgl).trans HH.out)
  obtain ⟨q0, q1, q2, q3, q4, q5, q6, q7, q8, q9⟩ := H8.out _ HH7.out
  clear hr7 hg7 hb7
  refine hK.out _ _ ⟨q0, q1, q2, q3, q4, q5, q6, q7, q8, q9⟩ (fun hHeld => ?_)
  clear hK K
  refine norm_ (a' := ?_) ?_ ?_
  rotate_left
  · show Act.put _ (some 13) _ = _
    simp only [Act.put, List.setIfInBounds_toArray, List.set_cons_zero, List.set_cons_succ, i64_w, i32_w]
    rfl
  refine pure_ (i := 13) (N := some 18) (v := ?_) (a' := ?_) #[true, true, true, true, true, true, true, true, true, true, true, true, true, true, false, false] rfl rfl (by kernel_rfl) (fun _ _ _ h => h) (Or.inl ⟨by rfl, ?_⟩) ?_ ?_
  rotate_left
  · intro w'
    go_simp
    (first | (with_reducible rfl) | ((try simp only [*]); (with_reducible rfl)))
  rotate_left
  · simp only [Act.put, List.setIfInBounds_toArray, List.set_cons_zero, List.set_cons_succ, i64_w, i32_w]
    rfl
  refine one_ (i := 14) (N := some 19) #[true, true, true, true, true, true, true, true, true, true, true, true, true, true, true, false] rfl rfl (by kernel_rfl) (by decide) (fun K hK => ?_)
  refine value_ (w1 := ?_) (v := ?_) (by rfl) rfl ?_ ?_
  rotate_left 2
  · go_simp
    constructor
    · rfl
    · rfl
  obtain ⟨r0, r1, r2, r3, r4, r5, r6, r7, r8, r9⟩ := H8.out _ (blk_alloc HH7.out (.cells #[.int .u32 a0, .int .u32 a1, .int .u32 a2, .int .u32 a3, .int .u32 a4, .int .u32 a5, .int .u32 a6, .int .u32 a7, .slice A7 rest.length c7, .int .i64 (n : Int)] TH))
  refine hK.out _ _ ⟨r0, r1, r2, r3, r4, r5, r6, r7, r8, r9⟩ (fun hHeld => ?_)
  clear hK K
  refine norm_ (a' := ?_) ?_ ?_
  rotate_left
  · show Act.put _ (some 19) _ = _
    simp only [Act.put, List.setIfInBounds_toArray, List.set_cons_zero, List.set_cons_succ, i64_w, i32_w]
    rfl
  refine pure_ (i := 15) (N := some 2) (v := ?_) (a' := ?_) #[true, true, true, true, true, true, true, true, true, true, true, true, true, true, true, true] rfl rfl (by kernel_rfl) (fun _ _ _ h => h) (Or.inl ⟨by rfl, ?_⟩) ?_ ?_
  rotate_left
  · intro w'
    go_simp
    (first | (with_reducible rfl) | ((try simp only [*]); (with_reducible rfl)))
  rotate_left
  · simp only [Act.put, List.setIfInBounds_toArray, List.set_cons_zero, List.set_cons_succ, i64_w, i32_w]
    rfl
  refine done_ (by kernel_rfl) ?_
  go_wp2
  go_ret
  refine ⟨_, rfl, HB7.out.size, ⟨A7, c7, blk_new _ _, hc7, HR7.out.below ((Below.refl _ _).alloc (Nat.le_refl _) _), fun a ha => ?_⟩, (show Below W.heap.size W W.drew from ⟨rfl, rfl, rfl, Nat.le_refl _, fun _ _ => rfl⟩).trans (HB7.out.alloc HB7.out.size _)⟩
  have := (HG7.out a ha).2
  omega

/-- The eight bytes of a number of 64 bits, the highest first, below k. -/
def be8 (N : Int) : Nat → List Int
  | 0 => []
  | k + 1 => be8 N k ++ [N / 2 ^ (56 - 8 * k) % 256]
/-- What is put behind the bytes: a mark, noughts, the length in bits. -/
def pad (rl : Nat) (n : Nat) : List Int := [128] ++ List.replicate ((119 - rl) % 64) 0 ++ be8 ((n : Int) * 8) 8
/-- The sum's bytes below k. -/
def sums (st : List Int) : Nat → List Int
  | 0 => List.replicate 32 0
  | k + 1 => (sums st k).set k (bn st (k / 4) / 2 ^ (24 - 8 * (k % 4)) % 256)
def final (st rest : List Int) (n : Nat) : List Int := sums (eaten st (rest ++ pad rest.length n)) 32

theorem be8_len (N : Int) (k : Nat) : (be8 N k).length = k := by
  induction k with
  | zero => rfl
  | succ k ih => show (be8 N k ++ _).length = _; rw [List.length_append, ih]; rfl
theorem pad_len (rl n : Nat) : (pad rl n).length = 9 + (119 - rl) % 64 := by
  unfold pad
  rw [List.length_append, List.length_append, List.length_replicate, be8_len]
  simp; omega
theorem sums_len (st : List Int) (k : Nat) : (sums st k).length = 32 := by
  induction k with
  | zero => exact List.length_replicate
  | succ k ih => show ((sums st k).set _ _).length = 32; simp [ih]

theorem be8_bytes (N : Int) (k : Nat) : Bytes (be8 N k) := by
  induction k with
  | zero => intro j; simp [be8, bn, rd]
  | succ k ih =>
    refine bytes_append ih (fun j => ?_)
    cases j with
    | zero => show 0 ≤ (N / 2 ^ (56 - 8 * k) % 256) ∧ (N / 2 ^ (56 - 8 * k) % 256) ≤ 255; omega
    | succ j => simp [bn, rd]
theorem pad_bytes (rl n : Nat) : Bytes (pad rl n) := by
  refine bytes_append (bytes_append (fun j => ?_) (fun j => ?_)) (be8_bytes _ _)
  · cases j <;> simp [bn, rd]
  · unfold bn rd
    rw [Int.toNat_natCast, List.getD_eq_getElem?_getD, List.getElem?_replicate]
    split <;> simp

theorem bytes_one (l : List Int) : (nums .u8 l).toArray.all (·.oneCell') = true := by
  rw [Array.all_eq_true_iff_forall_mem]
  intro v hv
  simp only [nums, List.mem_toArray, List.mem_map] at hv
  obtain ⟨n, _, rfl⟩ := hv
  rfl
abbrev T32 : Nat := 23
def Z32 : Array Value := (nums .u8 (List.replicate 32 0)).toArray
theorem info32 : (Tryd.prog.info? T32).map (·.size) = some 32 := by kernel_rfl

set_option maxHeartbeats 4000000 in
set_option maxRecDepth 100000 in
/-- Sum, from where a twin of one's own is at hand. -/
theorem sum_gen (g : Nat) (st rest : List Int) (n : Nat) (R : List Int) (W : World) (hRF : R = final st rest n) (hst : st.length = 8) (hr : Bytes rest) (hrl : rest.length < 64) (hn : n ≤ 100000000000) (hK : KB W) (hh : H W g st rest n) :
    Calls Tryd.prog 16 #[.pointer (some ⟨g, 0, none⟩)] W fun e w' => e = .returned (.agg (nums .u8 R).toArray) ∧ Below W.heap.size W w' := by
  have hz : ∀ w, (zeroValue T32).run Tryd.prog w = .ok (.agg Z32) w := fun _ => by kernel_rfl
  have HST := Lib.hid hst
  have HR := Lib.hid hr
  have HK := Lib.hid hK
  have HH := Lib.hid hh
  have HRF := Lib.hid hRF
  clear hst hr hK hh hRF
  go_enter Tryd.func16, Tryd.ntmps16
  obtain ⟨z, hz0⟩ : ∃ z : Nat, z = (119 - rest.length) % 64 := ⟨_, rfl⟩
  have hz1 : (119 - (rest.length : Int)) % 64 = (z : Int) := by omega
  have hz2 : Int.tmod (119 - (rest.length : Int)) 64 = (z : Int) := by rw [Int.tmod_eq_emod_of_nonneg (by omega)]; exact hz1
  have HZ0 := Lib.hid hz0
  have hzl : z < 64 := by omega
  clear hz0
  go_wp2_with (first
    | (go_at_call 18; go_loud ((with_reducible refine (twin_any g st rest n _ HST.out (by omega) (H_below HH.out ((Below.refl _ _).alloc (Nat.le_refl _) _))).mono ?_); rintro e w1 ⟨g1, rfl, hg1, hh1, hb1⟩; have HH1 := Lib.hid hh1; have HB1 := Lib.hid (below_then ((Below.refl _ _).alloc (Nat.le_refl _) _) (by simp) hb1); have HZ1 := Lib.hid (blk_below (blk_new W (.cells Z32 T32)) hb1); clear hb1; obtain ⟨A, c, hhb, hrc, hA, hOA⟩ := hh1; have xn := hb_n hhb HST.out; have HHB := Lib.hid hhb; clear hhb hA hOA))
    | ((with_reducible refine gate_dst (N := 20) rfl ?_); refine own_lit (w0 := w1) w1.heap.size rfl (N := 20) rfl [128] ?hrun (Below.refl _ _) (Nat.le_refl _) (by decide) ?_; (case hrun => first | (go_simp; done) | (go_simp; rfl)); intro v2 w2 ho2 hb2 hg2; have HO2 := Lib.hid ho2; have HB2 := Lib.hid hb2; have xr := hb_rest (show HB w2 g1 _ _ _ from (hb2.block g1 (H_lt HH1.out)).trans HHB.out) HST.out; clear ho2 hb2 hg2)
    | ((with_reducible refine gate_builtin (b := .append) (xs := #[.tmp 20, .tmp 27]) rfl ?_); refine own_zeros (w0 := w1) rfl (.tmp 20) (.tmp 27) rfl w1.heap.size v2 [128] z rfl rfl HO2.out HB2.out HB2.out.size (by simp; omega) ?_; intro v3 w3 ho3 hb3 hg3; have HO3 := Lib.hid ho3; have HB3 := Lib.hid hb3; clear ho3 hb3 hg3))
  clear xn xr hz1 hz2
  go_loopw [5, 6] (fun v5 v6 wr => ∃ (k : Nat) (i : Int), k ≤ 8 ∧ v6 = .int .i64 i ∧ Aside0 (i = 56 - 8 * (k : Int)) ∧ OWN wr w1.heap.size v5 ([128] ++ List.replicate z 0 ++ be8 ((n : Int) * 8) k) ∧ Below w1.heap.size w1 wr) (fun _ v6 _ => (intOf v6 + 8).toNat)
  case atStart => exact ⟨0, 56, by omega, rfl, ⟨by omega⟩, by simpa [be8] using HO3.out, HB3.out⟩
  case round =>
    obtain ⟨k, i, hk, rfl, hi, ho, hb⟩ := hrel
    have HO := Lib.hid ho
    have HB := Lib.hid hb
    clear ho hb
    by_cases hlt : k < 8
    · obtain ⟨m, hm⟩ : ∃ m : Nat, m = 56 - 8 * k := ⟨_, rfl⟩
      obtain rfl : i = (m : Int) := by have := hi.out; omega
      have HM := Lib.hid hm
      have hm2 : m ≤ 56 := by omega
      have HL := Lib.hid (be8_len ((n : Int) * 8) k)
      clear hm
      go_wp2_with ((with_reducible refine gate_builtin (b := .append) (xs := #[.tmp 33, .tmp 38]) rfl ?_); refine own_append (w0 := w1) rfl (.tmp 33) (.tmp 38) rfl w1.heap.size u5 _ [(n : Int) * 8 / 2 ^ m % 256] _ _ rfl rfl (HO.out.alloc _) (bytes_new wr 5 [(n : Int) * 8 / 2 ^ m % 256] (0, 0)) (HB.out.alloc HB.out.size _) (by have := HB.out.size; simp; omega) (by rw [List.length_append, List.length_append, List.length_replicate, HL.out]; simp; omega) ?_; intro v8 w8 ho8 hb8 hg8; have HO8 := Lib.hid ho8; have HB8 := Lib.hid hb8; clear ho8 hb8 hg8)
      go_roundw
      case rel =>
        refine ⟨k + 1, _, by omega, rfl, ⟨by have := hi.out; omega⟩, ?_, HB8.out⟩
        have := HO8.out
        rw [List.append_assoc] at this
        show OWN _ _ _ (_ ++ (be8 ((n : Int) * 8) k ++ [(n : Int) * 8 / 2 ^ (56 - 8 * k) % 256]))
        rw [← HM.out]
        exact this
      case measure => simp [intOf]; omega
    · have HK8 := Lib.hid (show k = 8 by omega)
      have hi2 : i < 0 := by have := hi.out; have := HK8.out; omega
      obtain ⟨P, hP⟩ : ∃ P : List Int, P = pad rest.length n := ⟨_, rfl⟩
      have ho5 : OWN wr w1.heap.size u5 P := by
        have h := HO.out
        rw [show k = 8 from HK8.out, HZ0.out] at h
        rw [hP]; exact h
      have hPl : P.length ≤ 100 := by rw [hP, pad_len]; omega
      have hPB : Bytes P := by rw [hP]; exact pad_bytes _ _
      have HP := Lib.hid hP
      have HPB := Lib.hid hPB
      obtain ⟨A5, c5, rfl, hc5, hrc5, ha5⟩ := ho5.form
      have HRC5 := Lib.hid hrc5
      have HA5 := Lib.hid ha5
      have hg0 : 0 < g1 := by have := HK.out.1; have := hg1; simp at this; omega
      have HG1 := Lib.hid (H_lt HH1.out)
      have HKW := Lib.hid (KB.below (KB.below HK.out HB1.out) HB.out)
      have HOFF5 := Lib.hid (show Off g1 A5 from fun a ha => by have := HA5.out a ha; have := HG1.out; omega)
      clear hi hP hPB hrc5 ha5 ho5 HO
      go_wp2_with (go_at_call 15; (with_reducible refine (write_any g1 st rest P n A5 c5 _ HST.out HR.out HPB.out (by omega) (by omega) (by omega) hg0 HKW.out (H_below HH1.out HB.out) HRC5.out (fun _ => HOFF5.out) hc5).mono ?_); rintro e w6 ⟨rfl, hh6, hw6⟩; have HH6 := Lib.hid hh6; have HW6 := Lib.hid hw6; clear hh6 hw6)
      obtain ⟨ST, hST⟩ : ∃ ST : List Int, ST = eaten st (rest ++ P) := ⟨_, rfl⟩
      have HSL := Lib.hid (show ST.length = 8 by rw [hST]; exact eats_len _ HST.out _)
      have HR2 := Lib.hid (show R = sums ST 32 by rw [HRF.out, hST, HP.out]; rfl)
      have hh6 := HH6.out
      rw [← hST] at hh6
      obtain ⟨A6, c6, hhb6, _, _, _⟩ := hh6
      have HHB6 := Lib.hid hhb6
      have HG6 := Lib.hid (blk_lt hhb6)
      have hzr := blk_below HZ1.out HB.out
      have HZ := Lib.hid ((HW6.out.block W.heap.size (blk_lt hzr) (by simp at hg1; omega)).trans hzr)
      clear hzr
      clear hST hhb6 HH6
      go_loopw [43] (fun v43 wq => ∃ k : Nat, k ≤ 32 ∧ v43 = .int .i64 k ∧ wq.heap[w6.heap.size]? = some (.cells (nums .u8 (sums ST k)).toArray T32 (0, 0)) ∧ Below w6.heap.size w6 wq) (fun v43 _ => 32 - (intOf v43).toNat)
      case atStart => exact ⟨0, by omega, rfl, blk_new _ _, (Below.refl _ _).alloc (Nat.le_refl _) _⟩
      case round =>
        obtain ⟨k, hk, rfl, hm, hb⟩ := hrel
        have HM := Lib.hid hm
        have HBQ := Lib.hid hb
        by_cases hlt : k < 32
        · obtain ⟨q, hq⟩ : ∃ q : Nat, q = k / 4 := ⟨_, rfl⟩
          obtain ⟨r, hr⟩ : ∃ r : Nat, r = k % 4 := ⟨_, rfl⟩
          obtain ⟨t, ht⟩ : ∃ t : Nat, t = 24 - 8 * r := ⟨_, rfl⟩
          have HQ := Lib.hid hq
          have HRR := Lib.hid hr
          have HTT := Lib.hid ht
          have hr4 : r < 4 := by omega
          have x0 := hb_cell (show Sha2.HB wr g1 ST _ _ from (hb.block g1 HG6.out).trans HHB6.out) q (by rw [HSL.out]; omega)
          have hf := blk_frozen hm k
          obtain ⟨cv, hc⟩ : ∃ cv, wr.cell? ⟨w6.heap.size, k, none⟩ = some (.int .u8 cv) := ⟨(sums ST k)[k]'(by rw [sums_len]; omega), by rw [blk_cell hm]; simp [nums]⟩
          have e1 : (k : Int) / 4 = (q : Int) := by omega
          have e2 : (k : Int) % 4 = (r : Int) := by omega
          have e3 : (24 : Int) - 8 * (r : Int) = (t : Int) := by omega
          have hq8 : (q : Int) < 8 := by omega
          have ht24 : t ≤ 24 := by omega
          have hk32 : (k : Int) < 32 := by omega
          clear hm hb hq hr ht
          go_wp2
          go_roundw
          case rel =>
            refine ⟨k + 1, by omega, by go_num, (blk_set HM.out _ _).trans ?_, HBQ.out.setCell (Nat.le_refl _) _⟩
            rw [nums_set', HTT.out, HRR.out, HQ.out]
            rfl
          case measure => simp [intOf]; omega
        · have HK3 := Lib.hid (show k = 32 by omega)
          rw [show k = 32 from HK3.out, ← HR2.out] at hm
          have HM2 := Lib.hid hm
          have hRl : R.length = 32 := by rw [HR2.out]; exact sums_len _ _
          have HI := Lib.hid (show (Tryd.prog.info? T32).map (·.size) = some (nums .u8 R).toArray.size by rw [show (nums .u8 R).toArray.size = 32 by simp [nums, hRl]]; exact info32)
          have HT := Lib.hid (show Z32.size = (nums .u8 R).toArray.size by rw [show (nums .u8 R).toArray.size = 32 by simp [nums, hRl]]; rfl)
          have HZ3 := Lib.hid (blk_below HZ.out hb)
          clear hm hb HM hRl HR2
          go_wp2_with (first
            | ((with_reducible refine gate_dst (N := 62) rfl ?_); refine wpList_load_row rfl T32 (.tmp 7) rfl w6.heap.size rfl T32 _ (0, 0) _ HM2.out Tryd.underlying23 rfl HI.out ?_)
            | (refine wpList_store_row rfl T32 (.tmp 2) (.tmp 62) rfl W.heap.size (nums .u8 R).toArray rfl rfl T32 Z32 HZ3.out HI.out HT.out (bytes_one R) ?_))
          have HRR := setRow_heap wr W.heap.size Z32 (nums .u8 R).toArray T32 (0, 0) HZ3.out
          refine bodyPost_ret (v := .agg (nums .u8 R).toArray) (results_cell_row rfl _ _ W.heap.size T32 _ (0, 0) _ rfl HRR Tryd.underlying23 rfl HI.out) rfl ⟨rfl, ?_⟩
          have b1 : Below W.heap.size W w6 := (HB1.out.trans (HB.out.mono HB1.out.size)).trans (HW6.out.below (by simp at hg1; omega) (Nat.le_trans HB1.out.size HB.out.size))
          exact below_setRow (b1.trans (HBQ.out.mono b1.size)) (Nat.le_refl _) _

set_option maxHeartbeats 4000000 in
set_option maxRecDepth 100000 in
/-- Sum of no digest: a new one's. -/
theorem sum_nil_gen (st rest : List Int) (n : Nat) (R : List Int) (W : World) (hRF : R = final st rest n) (hst : st.length = 8) (hr : Bytes rest) (hrl : rest.length < 64) (hn : n ≤ 100000000000) (hK : KB W) (hnew : st = IV ∧ rest = [] ∧ n = 0) :
    Calls Tryd.prog 16 #[.pointer none] W fun e w' => e = .returned (.agg (nums .u8 R).toArray) ∧ Below W.heap.size W w' := by
  have hz : ∀ w, (zeroValue T32).run Tryd.prog w = .ok (.agg Z32) w := fun _ => by kernel_rfl
  have HST := Lib.hid hst
  have HR := Lib.hid hr
  have HK := Lib.hid hK
  have HH := Lib.hid hnew
  have HRF := Lib.hid hRF
  clear hst hr hK hnew hRF
  go_enter Tryd.func16, Tryd.ntmps16
  obtain ⟨z, hz0⟩ : ∃ z : Nat, z = (119 - rest.length) % 64 := ⟨_, rfl⟩
  have hz1 : (119 - (rest.length : Int)) % 64 = (z : Int) := by omega
  have hz2 : Int.tmod (119 - (rest.length : Int)) 64 = (z : Int) := by rw [Int.tmod_eq_emod_of_nonneg (by omega)]; exact hz1
  have HZ0 := Lib.hid hz0
  have hzl : z < 64 := by omega
  clear hz0
  go_wp2_with (first
    | (go_at_call 18; (with_reducible refine (twin_nil _).mono ?_); rintro e w' ⟨rfl, rfl⟩)
    | (go_at_call 14; go_loud ((with_reducible refine (new_at st rest n HH.out _).mono ?_); rintro e w1 ⟨g1, rfl, hg1, hh1, hb1⟩; have HH1 := Lib.hid hh1; have HB1 := Lib.hid (below_then ((Below.refl _ _).alloc (Nat.le_refl _) _) (by simp) hb1); have HZ1 := Lib.hid (blk_below (blk_new W (.cells Z32 T32)) hb1); clear hb1; obtain ⟨A, c, hhb, hrc, hA, hOA⟩ := hh1; have xn := hb_n hhb HST.out; have HHB := Lib.hid hhb; clear hhb hA hOA))
    | ((with_reducible refine gate_dst (N := 20) rfl ?_); refine own_lit (w0 := w1) w1.heap.size rfl (N := 20) rfl [128] ?hrun (Below.refl _ _) (Nat.le_refl _) (by decide) ?_; (case hrun => first | (go_simp; done) | (go_simp; rfl)); intro v2 w2 ho2 hb2 hg2; have HO2 := Lib.hid ho2; have HB2 := Lib.hid hb2; have xr := hb_rest (show HB w2 g1 _ _ _ from (hb2.block g1 (H_lt HH1.out)).trans HHB.out) HST.out; clear ho2 hb2 hg2)
    | ((with_reducible refine gate_builtin (b := .append) (xs := #[.tmp 20, .tmp 27]) rfl ?_); refine own_zeros (w0 := w1) rfl (.tmp 20) (.tmp 27) rfl w1.heap.size v2 [128] z rfl rfl HO2.out HB2.out HB2.out.size (by simp; omega) ?_; intro v3 w3 ho3 hb3 hg3; have HO3 := Lib.hid ho3; have HB3 := Lib.hid hb3; clear ho3 hb3 hg3))
  clear xn xr hz1 hz2
  go_loopw [5, 6] (fun v5 v6 wr => ∃ (k : Nat) (i : Int), k ≤ 8 ∧ v6 = .int .i64 i ∧ Aside0 (i = 56 - 8 * (k : Int)) ∧ OWN wr w1.heap.size v5 ([128] ++ List.replicate z 0 ++ be8 ((n : Int) * 8) k) ∧ Below w1.heap.size w1 wr) (fun _ v6 _ => (intOf v6 + 8).toNat)
  case atStart => exact ⟨0, 56, by omega, rfl, ⟨by omega⟩, by simpa [be8] using HO3.out, HB3.out⟩
  case round =>
    obtain ⟨k, i, hk, rfl, hi, ho, hb⟩ := hrel
    have HO := Lib.hid ho
    have HB := Lib.hid hb
    clear ho hb
    by_cases hlt : k < 8
    · obtain ⟨m, hm⟩ : ∃ m : Nat, m = 56 - 8 * k := ⟨_, rfl⟩
      obtain rfl : i = (m : Int) := by have := hi.out; omega
      have HM := Lib.hid hm
      have hm2 : m ≤ 56 := by omega
      have HL := Lib.hid (be8_len ((n : Int) * 8) k)
      clear hm
      go_wp2_with ((with_reducible refine gate_builtin (b := .append) (xs := #[.tmp 33, .tmp 38]) rfl ?_); refine own_append (w0 := w1) rfl (.tmp 33) (.tmp 38) rfl w1.heap.size u5 _ [(n : Int) * 8 / 2 ^ m % 256] _ _ rfl rfl (HO.out.alloc _) (bytes_new wr 5 [(n : Int) * 8 / 2 ^ m % 256] (0, 0)) (HB.out.alloc HB.out.size _) (by have := HB.out.size; simp; omega) (by rw [List.length_append, List.length_append, List.length_replicate, HL.out]; simp; omega) ?_; intro v8 w8 ho8 hb8 hg8; have HO8 := Lib.hid ho8; have HB8 := Lib.hid hb8; clear ho8 hb8 hg8)
      go_roundw
      case rel =>
        refine ⟨k + 1, _, by omega, rfl, ⟨by have := hi.out; omega⟩, ?_, HB8.out⟩
        have := HO8.out
        rw [List.append_assoc] at this
        show OWN _ _ _ (_ ++ (be8 ((n : Int) * 8) k ++ [(n : Int) * 8 / 2 ^ (56 - 8 * k) % 256]))
        rw [← HM.out]
        exact this
      case measure => simp [intOf]; omega
    · have HK8 := Lib.hid (show k = 8 by omega)
      have hi2 : i < 0 := by have := hi.out; have := HK8.out; omega
      obtain ⟨P, hP⟩ : ∃ P : List Int, P = pad rest.length n := ⟨_, rfl⟩
      have ho5 : OWN wr w1.heap.size u5 P := by
        have h := HO.out
        rw [show k = 8 from HK8.out, HZ0.out] at h
        rw [hP]; exact h
      have hPl : P.length ≤ 100 := by rw [hP, pad_len]; omega
      have hPB : Bytes P := by rw [hP]; exact pad_bytes _ _
      have HP := Lib.hid hP
      have HPB := Lib.hid hPB
      obtain ⟨A5, c5, rfl, hc5, hrc5, ha5⟩ := ho5.form
      have HRC5 := Lib.hid hrc5
      have HA5 := Lib.hid ha5
      have hg0 : 0 < g1 := by have := HK.out.1; have := hg1; simp at this; omega
      have HG1 := Lib.hid (H_lt HH1.out)
      have HKW := Lib.hid (KB.below (KB.below HK.out HB1.out) HB.out)
      have HOFF5 := Lib.hid (show Off g1 A5 from fun a ha => by have := HA5.out a ha; have := HG1.out; omega)
      clear hi hP hPB hrc5 ha5 ho5 HO
      go_wp2_with (go_at_call 15; (with_reducible refine (write_any g1 st rest P n A5 c5 _ HST.out HR.out HPB.out (by omega) (by omega) (by omega) hg0 HKW.out (H_below HH1.out HB.out) HRC5.out (fun _ => HOFF5.out) hc5).mono ?_); rintro e w6 ⟨rfl, hh6, hw6⟩; have HH6 := Lib.hid hh6; have HW6 := Lib.hid hw6; clear hh6 hw6)
      obtain ⟨ST, hST⟩ : ∃ ST : List Int, ST = eaten st (rest ++ P) := ⟨_, rfl⟩
      have HSL := Lib.hid (show ST.length = 8 by rw [hST]; exact eats_len _ HST.out _)
      have HR2 := Lib.hid (show R = sums ST 32 by rw [HRF.out, hST, HP.out]; rfl)
      have hh6 := HH6.out
      rw [← hST] at hh6
      obtain ⟨A6, c6, hhb6, _, _, _⟩ := hh6
      have HHB6 := Lib.hid hhb6
      have HG6 := Lib.hid (blk_lt hhb6)
      have hzr := blk_below HZ1.out HB.out
      have HZ := Lib.hid ((HW6.out.block W.heap.size (blk_lt hzr) (by simp at hg1; omega)).trans hzr)
      clear hzr
      clear hST hhb6 HH6
      go_loopw [43] (fun v43 wq => ∃ k : Nat, k ≤ 32 ∧ v43 = .int .i64 k ∧ wq.heap[w6.heap.size]? = some (.cells (nums .u8 (sums ST k)).toArray T32 (0, 0)) ∧ Below w6.heap.size w6 wq) (fun v43 _ => 32 - (intOf v43).toNat)
      case atStart => exact ⟨0, by omega, rfl, blk_new _ _, (Below.refl _ _).alloc (Nat.le_refl _) _⟩
      case round =>
        obtain ⟨k, hk, rfl, hm, hb⟩ := hrel
        have HM := Lib.hid hm
        have HBQ := Lib.hid hb
        by_cases hlt : k < 32
        · obtain ⟨q, hq⟩ : ∃ q : Nat, q = k / 4 := ⟨_, rfl⟩
          obtain ⟨r, hr⟩ : ∃ r : Nat, r = k % 4 := ⟨_, rfl⟩
          obtain ⟨t, ht⟩ : ∃ t : Nat, t = 24 - 8 * r := ⟨_, rfl⟩
          have HQ := Lib.hid hq
          have HRR := Lib.hid hr
          have HTT := Lib.hid ht
          have hr4 : r < 4 := by omega
          have x0 := hb_cell (show Sha2.HB wr g1 ST _ _ from (hb.block g1 HG6.out).trans HHB6.out) q (by rw [HSL.out]; omega)
          have hf := blk_frozen hm k
          obtain ⟨cv, hc⟩ : ∃ cv, wr.cell? ⟨w6.heap.size, k, none⟩ = some (.int .u8 cv) := ⟨(sums ST k)[k]'(by rw [sums_len]; omega), by rw [blk_cell hm]; simp [nums]⟩
          have e1 : (k : Int) / 4 = (q : Int) := by omega
          have e2 : (k : Int) % 4 = (r : Int) := by omega
          have e3 : (24 : Int) - 8 * (r : Int) = (t : Int) := by omega
          have hq8 : (q : Int) < 8 := by omega
          have ht24 : t ≤ 24 := by omega
          have hk32 : (k : Int) < 32 := by omega
          clear hm hb hq hr ht
          go_wp2
          go_roundw
          case rel =>
            refine ⟨k + 1, by omega, by go_num, (blk_set HM.out _ _).trans ?_, HBQ.out.setCell (Nat.le_refl _) _⟩
            rw [nums_set', HTT.out, HRR.out, HQ.out]
            rfl
          case measure => simp [intOf]; omega
        · have HK3 := Lib.hid (show k = 32 by omega)
          rw [show k = 32 from HK3.out, ← HR2.out] at hm
          have HM2 := Lib.hid hm
          have hRl : R.length = 32 := by rw [HR2.out]; exact sums_len _ _
          have HI := Lib.hid (show (Tryd.prog.info? T32).map (·.size) = some (nums .u8 R).toArray.size by rw [show (nums .u8 R).toArray.size = 32 by simp [nums, hRl]]; exact info32)
          have HT := Lib.hid (show Z32.size = (nums .u8 R).toArray.size by rw [show (nums .u8 R).toArray.size = 32 by simp [nums, hRl]]; rfl)
          have HZ3 := Lib.hid (blk_below HZ.out hb)
          clear hm hb HM hRl HR2
          go_wp2_with (first
            | ((with_reducible refine gate_dst (N := 62) rfl ?_); refine wpList_load_row rfl T32 (.tmp 7) rfl w6.heap.size rfl T32 _ (0, 0) _ HM2.out Tryd.underlying23 rfl HI.out ?_)
            | (refine wpList_store_row rfl T32 (.tmp 2) (.tmp 62) rfl W.heap.size (nums .u8 R).toArray rfl rfl T32 Z32 HZ3.out HI.out HT.out (bytes_one R) ?_))
          have HRR := setRow_heap wr W.heap.size Z32 (nums .u8 R).toArray T32 (0, 0) HZ3.out
          refine bodyPost_ret (v := .agg (nums .u8 R).toArray) (results_cell_row rfl _ _ W.heap.size T32 _ (0, 0) _ rfl HRR Tryd.underlying23 rfl HI.out) rfl ⟨rfl, ?_⟩
          have b1 : Below W.heap.size W w6 := (HB1.out.trans (HB.out.mono HB1.out.size)).trans (HW6.out.below (by simp at hg1; omega) (Nat.le_trans HB1.out.size HB.out.size))
          exact below_setRow (b1.trans (HBQ.out.mono b1.size)) (Nat.le_refl _) _

theorem sum_nil (W : World) (hK : KB W) :
    Calls Tryd.prog 16 #[.pointer none] W fun e w' => e = .returned (.agg (nums .u8 (final IV [] 0)).toArray) ∧ Below W.heap.size W w' :=
  sum_nil_gen IV [] 0 _ W rfl rfl (fun j => by simp [bn, rd]) (by decide) (by decide) hK ⟨rfl, rfl, rfl⟩

theorem sum_any (g : Nat) (st rest : List Int) (n : Nat) (W : World) (hst : st.length = 8) (hr : Bytes rest) (hrl : rest.length < 64) (hn : n ≤ 100000000000) (hK : KB W) (hh : H W g st rest n) :
    Calls Tryd.prog 16 #[.pointer (some ⟨g, 0, none⟩)] W fun e w' => e = .returned (.agg (nums .u8 (final st rest n)).toArray) ∧ Below W.heap.size W w' :=
  sum_gen g st rest n _ W rfl hst hr hrl hn hK hh
end Go.Proofs.YthgmhjgbjodhjaaDoor.Sha4
