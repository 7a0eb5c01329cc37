/- A head's bytes behind a pointer: a number put at a place, the sum, the seal. -/
import Derived.Test.YtdmpbfhbjklajaaByt
import Derived.Test.YtdmpbfhbjklajaaOctPure
import Derived.Laws.IdiomCopy
namespace Go.Proofs.Ytdmpbfhbjklajaa.Img
open Go.Proofs.Ytdmpbfhbjklajaa Go.RowKit Go.Proofs.YtdmpbfhbjklajaaW.PrintWords Go.Proofs.YtdmpbfhbjklajaaW.PrintLast Go.Proofs.YtdmpbfhbjklajaaW.PrintMore Go.Proofs.Ytdmpbfhbjklajaa.Byt Go.Proofs.Ytdmpbfhbjklajaa.OctPure
set_option linter.unusedVariables false
set_option linter.unusedSimpArgs false

abbrev TI : Nat := 59
/-- An array of bytes lies at block g. -/
def IM (w : World) (g : Nat) (l : List Int) : Prop := w.heap[g]? = some (.cells (nums .u8 l).toArray TI (0, 0))
theorem IM.lt {w : World} {g : Nat} {l : List Int} (h : IM w g l) : g < w.heap.size := blk_lt h
theorem IM.below {w w' : World} {g : Nat} {l : List Int} (h : IM w g l) (hb : Below w.heap.size w w') : IM w' g l := (hb.block g h.lt).trans h
theorem IM.wrote {w w' : World} {g k : Nat} {l : List Int} (h : IM w g l) (hb : Wrote k w w') (hk : g ≠ k) : IM w' g l := (hb.block g h.lt hk).trans h
theorem IM.cell {w : World} {g : Nat} {l : List Int} (h : IM w g l) (j : Nat) (hj : j < l.length) : w.cell? ⟨g, j, none⟩ = some (.int .u8 (bn l j)) := by
  rw [blk_cell h]
  unfold bn rd
  simp only [nums, List.getElem?_toArray, List.getElem?_map]
  rw [List.getElem?_eq_getElem hj, Int.toNat_natCast, List.getD_eq_getElem?_getD, List.getElem?_eq_getElem hj]
  rfl
theorem IM.set {w : World} {g : Nat} {l : List Int} (h : IM w g l) (i : Nat) (x : Int) : IM (w.setCell ⟨g, i, none⟩ (.int .u8 x)) g (l.set i x) := by
  refine (blk_set h i _).trans ?_
  rw [nums_set']

/-- Bytes put over others from a place on. -/
def ins (l : List Int) : Nat → List Int → List Int
  | _, [] => l
  | o, x :: m => ins (l.set o x) (o + 1) m
theorem ins_len : ∀ (m : List Int) (l : List Int) (o : Nat), (ins l o m).length = l.length
  | [], l, o => rfl
  | x :: m, l, o => by
    show (ins (l.set o x) (o + 1) m).length = l.length
    rw [ins_len m, List.length_set]
theorem ins_eq : ∀ (m : List Int) (l : List Int) (o : Nat), o + m.length ≤ l.length → ins l o m = l.take o ++ m ++ l.drop (o + m.length)
  | [], l, o, h => by simp [ins]
  | x :: m, l, o, h => by
    simp only [List.length_cons] at h
    show ins (l.set o x) (o + 1) m = _
    rw [ins_eq m _ _ (by rw [List.length_set]; omega)]
    have h1 : (l.set o x).take (o + 1) = l.take o ++ [x] := by
      rw [List.take_succ_eq_append_getElem (by rw [List.length_set]; omega), List.take_set_of_le (Nat.le_refl _)]
      simp
    have h2 : (l.set o x).drop (o + 1 + m.length) = l.drop (o + (m.length + 1)) := by
      rw [List.drop_set_of_lt (by omega), show o + 1 + m.length = o + (m.length + 1) by omega]
    rw [h1, h2]
    simp
theorem im_setCells {g : Nat} : ∀ (m : List Int) (l : List Int) (o : Nat) (w : World), IM w g l → IM (w.setCells g o (nums .u8 m)) g (ins l o m)
  | [], l, o, w, h => h
  | x :: m, l, o, w, h => im_setCells m (l.set o x) (o + 1) _ (h.set o x)
theorem wrote_setCells {g : Nat} : ∀ (vs : List Value) (o : Nat) (w : World), Wrote g w (w.setCells g o vs)
  | [], _, w => Wrote.refl g w
  | v :: r, o, w => ((Wrote.refl g w).trans (wrote_setCell (Wrote.refl g w) o v)).trans (wrote_setCells r (o + 1) _)
theorem ins_bytes {m : List Int} (hm : ∀ x ∈ m, 0 ≤ x ∧ x ≤ 255) : ∀ {l : List Int} {o : Nat}, (∀ x ∈ l, 0 ≤ x ∧ x ≤ 255) → ∀ x ∈ ins l o m, 0 ≤ x ∧ x ≤ 255 := by
  induction m with
  | nil => exact fun h => h
  | cons y m ih =>
    intro l o h
    refine ih (fun x hx => hm x (List.mem_cons_of_mem _ hx)) (l := l.set o y) (o := o + 1) ?_
    intro x hx
    rcases List.mem_or_eq_of_mem_set hx with hx | rfl
    · exact h x hx
    · exact hm _ (List.mem_cons_self ..)

/-- Bytes that are read copied over those of an array. -/
theorem run_copy_im (w : World) (ty : TypeId) (g o d c : Nat) (A : Option Addr) (n cs : Nat) (l m : List Int) (hi : IM w g l) (hn : n = m.length) (hod : o + d = l.length) (hmd : m.length ≤ d) (hA : RC w A m) :
    ∃ w', (Builtin.copy_ #[TB, TB] ty #[.slice (some ⟨g, o, none⟩) d c, .slice A n cs]).run Try.prog w = .ok (.int .i64 (n : Int)) w' ∧ IM w' g (ins l o m) ∧ Wrote g w w' := by
  subst hn
  have ht : Try.prog.underlying TB = some (.slice 5) := Try.underlying22
  rcases Nat.eq_zero_or_pos m.length with h0 | h0
  · obtain rfl : m = [] := List.eq_nil_of_length_eq_zero h0
    refine ⟨w, ?_, hi, Wrote.refl g w⟩
    have := run_copy_none (P := Try.prog) w TB TB ty 5 (some ⟨g, o, none⟩) A d c 0 cs ht info1 (by simp [Nat.min_def])
    exact this
  · obtain ⟨a, rfl, hb, hc⟩ := hA (List.length_pos_iff.mp h0)
    have hnl : (nums .u8 m).length = m.length := by simp [nums]
    have := run_copy_cells (P := Try.prog) w TB TB ty 5 g o d c a m.length cs (nums .u8 m) ht info1 (by rw [hnl]; simp [Nat.min_def]; omega) (cells_of_RC (fun _ => ⟨a, rfl, hb, hc⟩))
      (fun j hj => by rw [blk_cell hi, Array.getElem?_eq_getElem (by simp [nums]; rw [hnl] at hj; omega)]; rfl)
      (fun j hj => blk_frozen hi _)
      (fun v hv => by simp only [nums, List.mem_map] at hv; obtain ⟨x, _, rfl⟩ := hv; rfl)
    rw [hnl] at this
    refine ⟨_, ?_, im_setCells m l o w hi, wrote_setCells _ _ _⟩
    rw [this]
    simp [goInt]

theorem wpList_copy_im {ops : Array Oper} {rs : List Oper} {op : Oper} {a : Act} {w : World} {Q : Exit → Act → World → Prop} (hgd : op.guard = none) (s x : Operand)
    (ho : op.op = .call { callee := .builtin .copy, args := #[s, x], argTypes := #[TB, TB] }) (g o d c : Nat) (A : Option Addr) (n cs : Nat) (l m : List Int)
    (hs : a.eval s = .slice (some ⟨g, o, none⟩) d c) (hx : a.eval x = .slice A n cs) (hi : IM w g l) (hn : n = m.length) (hod : o + d = l.length) (hmd : m.length ≤ d) (hA : RC w A m)
    (h : ∀ w', IM w' g (ins l o m) → Wrote g w w' → wpList Try.prog ops Q rs (a.put op.dst (.int .i64 (n : Int))) w') : wpList Try.prog ops Q (op :: rs) a w :=
  wpList_plain hgd fun _ hK => by
    obtain ⟨w', hr, h1, h2⟩ := run_copy_im w op.type g o d c A n cs l m hi hn hod hmd hA
    unfold Oper.wp execOp
    simp only [ho, resolve, invoke, builtin, Sem.run_bind, Sem.run_pure, Result.andThen_ok, List.map_toArray, List.map_cons, List.map_nil, hs, hx, hr]
    exact hK _ _ (h w' h1 h2)

/-- A string's bytes. -/
theorem firstCells_str {P : Program} (w : World) (s : ByteArray) (sz n : Nat) (hn : n = s.size) : (Builtin.firstCells sz n (.string s)).run P w = .ok (nums .u8 (bytesOf s)).toArray w := by
  subst hn
  rw [Lib.run_firstCells_string]
  congr 2
  simp [nums, bytesOf, Lib.strCells]
theorem run_copy_str (w : World) (ty : TypeId) (g o d c : Nat) (s : ByteArray) (l m : List Int) (hm : m = bytesOf s) (hi : IM w g l) (hod : o + d = l.length) (hmd : m.length ≤ d) :
    ∃ w', (Builtin.copy_ #[TB, 9] ty #[.slice (some ⟨g, o, none⟩) d c, .string s]).run Try.prog w = .ok (.int .i64 (m.length : Int)) w' ∧ IM w' g (ins l o m) ∧ Wrote g w w' := by
  have ht : Try.prog.underlying TB = some (.slice 5) := Try.underlying22
  have hnl : (nums .u8 m).length = m.length := by simp [nums]
  have hsz : s.size = m.length := by rw [hm, bytesOf_length]
  obtain ⟨i, hi1, hsz1⟩ := Option.map_eq_some_iff.1 info1
  have hst := run_storeCells_cells (P := Try.prog) g o (nums .u8 m) 0 w
    (fun j hj => by rw [blk_cell hi, Array.getElem?_eq_getElem (by simp [nums]; rw [hnl] at hj; omega)]; rfl)
    (fun j hj => blk_frozen hi _)
    (fun v hv => by simp only [nums, List.mem_map] at hv; obtain ⟨x, _, rfl⟩ := hv; rfl)
  refine ⟨_, ?_, im_setCells m l o w hi, wrote_setCells _ _ _⟩
  have hf := firstCells_str (P := Try.prog) w s 1 m.length hsz.symm
  rw [← hm] at hf
  simp [Builtin.copy_, run_underlying ht, Builtin.lenOf, sizeOf, typeInfo, hi1, hsz1, hsz, hf, hst, goInt, Nat.min_eq_left hmd, Sem.run_bind]
theorem step_copy_str {ops : Array Oper} {op : Oper} {a : Act} {w : World} {K : Act → World → Prop} {Q : Exit → Act → World → Prop} (hw : Region.wanted op (yielded ops a.tmps) = true) (x y : Operand)
    (ho : op.op = .call { callee := .builtin .copy, args := #[x, y], argTypes := #[TB, 9] }) (g o d c : Nat) (s : ByteArray) (l m : List Int)
    (hs : a.eval x = .slice (some ⟨g, o, none⟩) d c) (hx : a.eval y = .string s) (hm : m = bytesOf s) (hi : IM w g l) (hod : o + d = l.length) (hmd : m.length ≤ d)
    (h : ∀ w', IM w' g (ins l o m) → Wrote g w w' → K (a.put op.dst (.int .i64 (m.length : Int))) w') : if Region.wanted op (yielded ops a.tmps) = true then Oper.wp Try.prog op a w K Q else K (a.put op.dst undef) w := by
  rw [if_pos hw]
  obtain ⟨w', hr, h1, h2⟩ := run_copy_str w op.type g o d c s l m hm hi hod hmd
  unfold Oper.wp execOp
  simp only [ho, resolve, invoke, builtin, Sem.run_bind, Sem.run_pure, Result.andThen_ok, List.map_toArray, List.map_cons, List.map_nil, hs, hx, hr]
  exact h w' h1 h2
theorem wpList_copy_str {ops : Array Oper} {rs : List Oper} {op : Oper} {a : Act} {w : World} {Q : Exit → Act → World → Prop} (hgd : op.guard = none) (x y : Operand)
    (ho : op.op = .call { callee := .builtin .copy, args := #[x, y], argTypes := #[TB, 9] }) (g o d c : Nat) (s : ByteArray) (l m : List Int)
    (hs : a.eval x = .slice (some ⟨g, o, none⟩) d c) (hx : a.eval y = .string s) (hm : m = bytesOf s) (hi : IM w g l) (hod : o + d = l.length) (hmd : m.length ≤ d)
    (h : ∀ w', IM w' g (ins l o m) → Wrote g w w' → wpList Try.prog ops Q rs (a.put op.dst (.int .i64 (m.length : Int))) w') : wpList Try.prog ops Q (op :: rs) a w :=
  wpList_plain hgd fun _ hK => by
    obtain ⟨w', hr, h1, h2⟩ := run_copy_str w op.type g o d c s l m hm hi hod hmd
    unfold Oper.wp execOp
    simp only [ho, resolve, invoke, builtin, Sem.run_bind, Sem.run_pure, Result.andThen_ok, List.map_toArray, List.map_cons, List.map_nil, hs, hx, hr]
    exact hK _ _ (h w' h1 h2)
theorem lenI : Try.prog.arrayLen TI = 512 := by kernel_rfl
theorem elemI : Try.prog.elem TI = 5 := by kernel_rfl
theorem undI : Try.prog.underlying TI = some (.array (Try.prog.arrayLen TI) (Try.prog.elem TI)) := by rw [lenI, elemI]; exact Try.underlying59
/-- A head's bytes from a place on, up to another. -/
theorem run_cutI (g lo hi : Nat) (h1 : lo ≤ hi) (h2 : hi ≤ 512) (h3 : lo < 512) :
    ∀ W : World, (Instr.sliceAt TI (.pointer (some ⟨g, 0, none⟩)) (some (.int .i64 (lo : Int))) (some (.int .i64 (hi : Int))) none).run Try.prog W = .ok (.slice (some ⟨g, lo, none⟩) (hi - lo) (512 - lo)) W := by
  intro W
  obtain ⟨i, hi1, hsz⟩ := Option.map_eq_some_iff.1 info1
  have e1 : (⟨g, 0, none⟩ : Addr).add lo = ⟨g, lo, none⟩ := add_plain g lo
  have hb : (0 : Int) ≤ lo ∧ (lo : Int) ≤ hi ∧ (hi : Int) ≤ 512 ∧ (0 : Int) ≤ hi := by omega
  simp [Instr.sliceAt, run_underlying (Try.underlying59), Instr.sureAddr, Instr.sliceBounds, run_sliceBound, sizeOf, typeInfo, hi1, hsz, e1, hb, Sem.run_bind]
  omega
theorem run_fromI (g lo : Nat) (h3 : lo < 512) :
    ∀ W : World, (Instr.sliceAt TI (.pointer (some ⟨g, 0, none⟩)) (some (.int .i64 (lo : Int))) none none).run Try.prog W = .ok (.slice (some ⟨g, lo, none⟩) (512 - lo) (512 - lo)) W := by
  intro W
  obtain ⟨i, hi1, hsz⟩ := Option.map_eq_some_iff.1 info1
  have e1 : (⟨g, 0, none⟩ : Addr).add lo = ⟨g, lo, none⟩ := add_plain g lo
  have hb : (0 : Int) ≤ lo ∧ (lo : Int) ≤ 512 := by omega
  simp [Instr.sliceAt, run_underlying (Try.underlying59), Instr.sureAddr, Instr.sliceBounds, run_sliceBound, sizeOf, typeInfo, hi1, hsz, e1, hb, Sem.run_bind]
  omega

/-- The form of a number that has one. -/
theorem put_any (n w : Int) (hn : -9223372036854775808 ≤ n ∧ n ≤ 9223372036854775807) (W : World) :
    Calls Try.prog 49 #[.int .i64 n, .int .i64 w] W fun e w' => ∃ A c, e = .returned (.tuple #[.slice A (putS n w).1.length c, .int .i64 (putS n w).2]) ∧ RC w' A (putS n w).1 ∧ Below W.heap.size W w' := by
  refine (PExact.octal_Put.calls 21 n w _ _ W (put_oct n w hn 21 (by decide))).mono ?_
  rintro e w' ⟨v, rfl, ho, hb⟩
  obtain ⟨A, c, rfl⟩ := Kd.R_slice ho
  exact ⟨A, c, rfl, RC.of_C (Kd.R_reads' ho).2.2, hb⟩

set_option maxRecDepth 100000 in
set_option maxHeartbeats 4000000 in
theorem number_gen (g o wd : Nat) (n : Int) (l m : List Int) (r : Int) (W : World) (hm : putS n wd = (m, r)) (hn : -9223372036854775808 ≤ n ∧ n ≤ 9223372036854775807) (hl : l.length = 512) (ho : o < 512) (hol : o + m.length ≤ 512) (hi : IM W g l) :
    Calls Try.prog 42 #[.pointer (some ⟨g, 0, none⟩), .int .i64 (o : Int), .int .i64 (wd : Int), .int .i64 n] W fun e w' => e = .returned (.tuple #[]) ∧ IM w' g (ins l o m) ∧ Wrote g W w' := by
  have HM := Lib.hid hm
  have HI := Lib.hid hi
  have HL := Lib.hid hl
  have hcut := run_fromI g o ho
  clear hm hi hl
  go_enter Try.func42, Try.ntmps42
  go_wp2_with (first
    | (go_at_call 49; (with_reducible refine (put_any n (wd : Int) hn _).mono ?_); rintro e w1 ⟨A, c, rfl, hr, hb⟩; rw [HM.out] at hr ⊢; have HR := Lib.hid hr; have HB := Lib.hid hb; clear hr hb)
    | (refine wpList_copy_im rfl (.tmp 19) (.tmp 20) rfl g o (512 - o) (512 - o) A m.length c l m rfl rfl (HI.out.below HB.out) rfl (by rw [HL.out]; omega) (by omega) HR.out ?_; intro w2 hi2 hw2; have HI2 := Lib.hid hi2; have HW2 := Lib.hid ((Wrote.of_below (g := g) HB.out).trans hw2); clear hi2 hw2))
  go_end0
  exact ⟨rfl, HI2.out, HW2.out⟩
theorem number_at (g o : Nat) (oi wi : Int) (hoi : oi = (o : Int)) (wd : Nat) (hwi : wi = (wd : Int)) (n : Int) (l m : List Int) (r : Int) (W : World) (hm : putS n wi = (m, r)) (hn : -9223372036854775808 ≤ n ∧ n ≤ 9223372036854775807) (hl : l.length = 512) (ho : o < 512) (hol : o + m.length ≤ 512) (hi : IM W g l) :
    Calls Try.prog 42 #[.pointer (some ⟨g, 0, none⟩), .int .i64 oi, .int .i64 wi, .int .i64 n] W fun e w' => e = .returned (.tuple #[]) ∧ IM w' g (ins l o m) ∧ Wrote g W w' := by
  subst hoi hwi
  exact number_gen g o wd n l m r W hm hn hl ho hol hi

/-- What bytes come to, those at the sum's place as blanks. -/
def sumS (l : List Int) : Nat → Int
  | 0 => 0
  | k + 1 => sumS l k + if 148 ≤ k ∧ k < 156 then 32 else bn l k
theorem sumS_range {l : List Int} (hB : Bytes l) : ∀ k, 0 ≤ sumS l k ∧ sumS l k ≤ 255 * k
  | 0 => ⟨Int.le_refl _, Int.le_refl _⟩
  | k + 1 => by
    have h1 := sumS_range hB k
    have h2 := hB k
    unfold sumS
    split <;> omega
theorem sumS_in {l : List Int} {k : Nat} (h : 148 ≤ k ∧ k < 156) : sumS l (k + 1) = sumS l k + 32 := by rw [sumS, if_pos h]
theorem sumS_out {l : List Int} {k : Nat} (h : ¬ (148 ≤ k ∧ k < 156)) : sumS l (k + 1) = sumS l k + bn l k := by rw [sumS, if_neg h]

set_option maxRecDepth 100000 in
set_option maxHeartbeats 4000000 in
theorem sum_gen (g : Nat) (l : List Int) (R : Int) (W : World) (hR : R = sumS l 512) (hB : Bytes l) (hl : l.length = 512) (hi : IM W g l) :
    Calls Try.prog 31 #[.pointer (some ⟨g, 0, none⟩)] W fun e w' => e = .returned (.int .i64 R) ∧ Below W.heap.size W w' := by
  have HR := Lib.hid hR
  have HI := Lib.hid hi
  have HL := Lib.hid hl
  have HB := Lib.hid hB
  clear hR hi hl hB
  go_enter Try.func31, Try.ntmps31
  go_wp2
  go_loopw [3, 7] (fun v3 v7 wr => ∃ (k : Nat) (s : Int), k ≤ 512 ∧ v7 = .int .i64 k ∧ v3 = .int .i64 s ∧ Aside0 (s = sumS l k) ∧ Below W.heap.size W wr) (fun _ v7 _ => 512 - (intOf v7).toNat)
  case atStart => exact ⟨0, 0, by omega, rfl, rfl, ⟨rfl⟩, Below.refl _ _⟩
  case round =>
    obtain ⟨k, s, hk, rfl, rfl, hs, hb⟩ := hrel
    have HBW := Lib.hid hb
    have hsr := sumS_range HB.out k
    rw [← hs.out] at hsr
    by_cases hlt : k < 512
    · have hx := (HI.out.below hb).cell k (by rw [HL.out]; exact hlt)
      have hxb := HB.out k
      have hxi := fun h => @sumS_in l k h
      have hxo := fun h => @sumS_out l k h
      have HXI := Lib.hid hxi
      have HXO := Lib.hid hxo
      have hlt2 : (k : Int) < 512 := by omega
      clear hb hxi hxo
      generalize bn l k = x at hx hxb HXO
      by_cases h1 : 148 ≤ k
      · by_cases h2 : k < 156
        · have HS := Lib.hid (show sumS l (k + 1) = s + 32 by rw [HXI.out ⟨h1, h2⟩, ← hs.out])
          have g1 : (148 : Int) ≤ (k : Int) := by omega
          have g2 : (k : Int) < 156 := by omega
          clear h1 h2
          go_wp2
          go_region
          go_wp2
          go_roundw
          case rel => exact ⟨k + 1, s + 32, by omega, by go_num, rfl, ⟨HS.out.symm⟩, HBW.out.drew⟩
          case measure => simp [intOf]; omega
        · have HS := Lib.hid (show sumS l (k + 1) = s + x by rw [HXO.out (by omega), ← hs.out])
          have g1 : (148 : Int) ≤ (k : Int) := by omega
          have g2 : ¬ (k : Int) < 156 := by omega
          clear h1 h2
          go_wp2
          go_region
          go_wp2
          go_roundw
          case rel => exact ⟨k + 1, s + x, by omega, by go_num, rfl, ⟨HS.out.symm⟩, HBW.out.drew⟩
          case measure => simp [intOf]; omega
      · have HS := Lib.hid (show sumS l (k + 1) = s + x by rw [HXO.out (by omega), ← hs.out])
        have g1 : ¬ (148 : Int) ≤ (k : Int) := by omega
        clear h1
        go_wp2
        go_region
        go_wp2
        go_roundw
        case rel => exact ⟨k + 1, s + x, by omega, by go_num, rfl, ⟨HS.out.symm⟩, HBW.out.drew⟩
        case measure => simp [intOf]; omega
    · have HK := Lib.hid (show k = 512 by omega)
      have HS := Lib.hid (show s = R by rw [HR.out, hs.out, HK.out])
      clear hb
      go_wp2
      go_ret
      exact ⟨by rw [← HS.out]; rfl, HBW.out⟩

/-- The seal put in its place. -/
def sealS (l : List Int) : List Int := (ins l 148 (putS (sumS l 512) 7).1).set 155 32
theorem put7 (n : Int) (h0 : 0 ≤ n) (h1 : n ≤ 130560) : ((putS n 7).1).length = 7 ∧ (putS n 7).2 = 0 := by
  have h8 : ((8 : Int) ^ ((7 : Int) - 1).toNat) = 262144 := by decide
  unfold putS
  rw [if_pos (by omega), if_pos (by rw [h8]; omega)]
  refine ⟨?_, rfl⟩
  rw [List.length_append, digs_length]
  decide

set_option maxRecDepth 100000 in
set_option maxHeartbeats 4000000 in
theorem seal_gen (g : Nat) (l R : List Int) (W : World) (hR : R = sealS l) (hB : Bytes l) (hl : l.length = 512) (hi : IM W g l) :
    Calls Try.prog 32 #[.pointer (some ⟨g, 0, none⟩)] W fun e w' => e = .returned (.tuple #[]) ∧ IM w' g R ∧ Wrote g W w' := by
  obtain ⟨s, hs⟩ : ∃ s : Int, s = sumS l 512 := ⟨_, rfl⟩
  have hsr := sumS_range hB 512
  rw [← hs] at hsr
  obtain ⟨m, hm⟩ : ∃ m : List Int, m = (putS s 7).1 := ⟨_, rfl⟩
  obtain ⟨r, hr⟩ : ∃ r : Int, r = (putS s 7).2 := ⟨_, rfl⟩
  have hm7 : m.length = 7 := by rw [hm]; exact (put7 s (by omega) (by omega)).1
  have HP := Lib.hid (show putS s 7 = (m, r) by rw [hm, hr])
  have HM7 := Lib.hid hm7
  have HS := Lib.hid hs
  have HR := Lib.hid (show R = (ins l 148 m).set 155 32 by rw [hR, hm, hs]; rfl)
  have HI := Lib.hid hi
  have HL := Lib.hid hl
  have HB := Lib.hid hB
  clear hR hi hl hB hs hm hr hm7
  go_enter Try.func32, Try.ntmps32
  go_wp2_with (first
    | (go_at_call 31; go_loud ((with_reducible refine (sum_gen g l s _ HS.out HB.out HL.out HI.out).mono ?_); rintro e w1 ⟨rfl, hb1⟩; have HB1 := Lib.hid hb1; have HI1 := Lib.hid (HI.out.below hb1); clear hb1))
    | (go_at_call 42; go_loud ((with_reducible refine (number_at g 148 148 7 rfl 7 rfl s l m r _ HP.out (by omega) HL.out (by decide) (by rw [HM7.out]; decide) HI1.out).mono ?_); rintro e w2 ⟨rfl, hi2, hw2⟩; have HI2 := Lib.hid hi2; have HW2 := Lib.hid ((Wrote.of_below (g := g) HB1.out).trans hw2); have hx := hi2.cell 155 (by rw [ins_len, HL.out]; decide); have hf := blk_frozen hi2 155; clear hi2 hw2)))
  go_end0
  refine ⟨rfl, ?_, wrote_setCell HW2.out _ _⟩
  rw [HR.out]
  exact HI2.out.set 155 32
end Go.Proofs.Ytdmpbfhbjklajaa.Img
