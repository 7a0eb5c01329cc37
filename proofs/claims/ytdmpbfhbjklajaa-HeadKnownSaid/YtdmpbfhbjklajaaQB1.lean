/- Texts of this claim, laid together by wip/tools/squash.py: Byt, PExactx0, PExactx1. -/
import Derived.Test.YtdmpbfhbjklajaaProg
import Derived.Test.YtdmpbfhbjklajaaWMore
import Derived.Test.YtdmpbfhbjklajaaWLast
import Derived.Lib.Hide
import Derived.Deep.AppendSrc
import Derived.StillTailTactics
import Derived.Stop.BytesEq
import Derived.Outline
import Derived.RegionTactic
import Derived.BigRegion
import Derived.Deep.QuietTactic
import Derived.BigQuiet
import Derived.Laws.Rows
import Derived.Lib.SliceRun
import Derived.Lib.SlBytesConst
import Derived.Below
import Derived.Deep.Draws
import Derived.Deep.AppendLies
import Derived.Maps.AppendAt
import Derived.OwnWalk
import Derived.Laws.BytesArg
import Derived.Laws.MakeOwn
import Derived.Laws.OwnMore
import Derived.Deep.OwnRows
import Derived.Tactics
import Derived.Lib.ConvBytes
import Derived.Laws.Slices
import Derived.WalkKit
import Derived.KernelRfl
import Derived.RowKit3
import Derived.Deep.LoopGhost
import Derived.WideLaws
import Derived.Deep.DeepCutAuto
import Derived.Deep.CutBlock
import Derived.Deep.RegionHeld3
import Derived.Lib.AppendStr
import Derived.ArgAppend
import Derived.Laws.IdiomCopy
import Derived.OrdersHeld
import Derived.Laws.BitsLemmas
import Derived.RowKit
import Derived.Test.YtdmpbfhbjklajaaWWords
import Derived.Test.YtdmpbfhbjklajaaWTab
import Derived.Test.YtdmpbfhbjklajaaWFour
import Derived.Test.YtdmpbfhbjklajaaWQPut
import Derived.Test.YtdmpbfhbjklajaaWApart
import Derived.Test.YtdmpbfhbjklajaaWArr
import Derived.Test.YtdmpbfhbjklajaaWZeros
import Derived.Test.YtdmpbfhbjklajaaWFoot
import Derived.Test.YtdmpbfhbjklajaaWKept
import Derived.Test.YtdmpbfhbjklajaaWShare
import Derived.Test.YtdmpbfhbjklajaaWN
import Derived.Test.YtdmpbfhbjklajaaWFootNe
import Derived.Test.YtdmpbfhbjklajaaWAt
import Derived.Test.YtdmpbfhbjklajaaWEqStruct
import Derived.Test.YtdmpbfhbjklajaaWRepsOne
import Derived.Test.YtdmpbfhbjklajaaWInv
import Derived.Test.YtdmpbfhbjklajaaWInvWords
import Derived.Test.YtdmpbfhbjklajaaWGuard
import Derived.Test.YtdmpbfhbjklajaaWNEv

/- Bytes in memory: read at an address, owned, cut, put behind one another; what stays as it was. (Written by tools/mkbyt.py out of this session's own texts.) -/
section
namespace Go.Proofs.Ytdmpbfhbjklajaa.Byt
open Go.Proofs.Ytdmpbfhbjklajaa Go.RowKit Go.Proofs.YtdmpbfhbjklajaaW.PrintWords Go.Proofs.YtdmpbfhbjklajaaW.PrintLast Go.Proofs.YtdmpbfhbjklajaaW.PrintMore
set_option linter.unusedVariables false
set_option linter.unusedSimpArgs false

def bn (b : List Int) (j : Nat) : Int := rd b (j : Int)
theorem nums_set' (k : IntKind) (l : List Int) (i : Nat) (v : Int) : (nums k l).toArray.setIfInBounds i (.int k v) = (nums k (l.set i v)).toArray := by
  simp [nums, List.map_set]
theorem below_setRow {B : Nat} {a w : World} (h : Below B a w) {g : Nat} (hg : B ≤ g) (cs : Array Value) : Below B a (w.setRow g cs) :=
  h.trans ⟨rfl, rfl, rfl, by simp, fun k hk => setRow_other _ _ _ _ (by omega)⟩
theorem byte_at {w : World} {A : Option Addr} {l : List Int} (h : Kd.C (Kd.int .u8) w A l.length l) (j : Nat) (h1 : j < l.length) : ∃ ad, A = some ad ∧ w.cell? (ad.add j) = some (.int .u8 (bn l j)) := by
  obtain ⟨ad, e, hx⟩ := Kd.at_int h (j : Int) (by omega) (by omega)
  rw [Int.toNat_natCast] at hx
  exact ⟨ad, e, hx⟩
def Bytes (l : List Int) : Prop := ∀ j : Nat, 0 ≤ bn l j ∧ bn l j ≤ 255
/-- The first cells of a block, read as a whole. -/
theorem run_load_front {P : Program} (w : World) (g : Nat) (t ty : TypeId) (cs rest : List Value) (fr : Nat × Nat) (d : TypeDesc) (hg : w.heap[g]? = some (.cells (cs ++ rest).toArray t fr))
    (hu : P.underlying ty = some d) (hd : (match d with | .struct _ | .array _ _ => true | _ => false) = true) (hi : (P.info? ty).map (·.size) = some cs.length) :
    (loadVar ty ⟨g, 0, none⟩).run P w = .ok (.agg cs.toArray) w := by
  have hl : (loadCells ⟨g, 0, none⟩ cs.length).run P w = .ok cs.toArray w :=
    run_loadCells_list (P := P) w ⟨g, 0, none⟩ cs (fun j v hv => by
      have hadd : (⟨g, 0, none⟩ : Addr).add j = ⟨g, j, none⟩ := by unfold Addr.add; split <;> simp_all
      rw [hadd, cell_of_row w g j _ t fr hg, List.getElem?_toArray, List.getElem?_append_left (List.getElem?_eq_some_iff.mp hv).1]
      exact hv)
  cases hq : P.info? ty with
  | none => simp [hq] at hi
  | some i =>
    have hs : i.size = cs.length := by simpa [hq] using hi
    have hagg : (isAgg ty).run P w = .ok true w := by
      unfold isAgg
      rw [Sem.run_bind, run_underlying hu w]
      cases d <;> simp_all
    simp [loadVar, Sem.run_bind, hagg, sizeOf, typeInfo, hq, hs, hl]
theorem wpList_load_front {P : Program} {ops : Array Oper} {rs : List Oper} {o : Oper} {a : Act} {w : World} {Q : Exit → Act → World → Prop} (hgd : o.guard = none) (ty : TypeId) (x : Operand) (ho : o.op = .load ty x)
    (g : Nat) (hx : a.eval x = .pointer (some ⟨g, 0, none⟩)) (t : TypeId) (cs rest : List Value) (fr : Nat × Nat) (d : TypeDesc) (hg : w.heap[g]? = some (.cells (cs ++ rest).toArray t fr))
    (hu : P.underlying ty = some d) (hd : (match d with | .struct _ | .array _ _ => true | _ => false) = true) (hi : (P.info? ty).map (·.size) = some cs.length)
    (h : wpList P ops Q rs (a.put o.dst (.agg cs.toArray)) w) : wpList P ops Q (o :: rs) a w :=
  wpList_plain hgd fun K hK => by
    unfold Oper.wp execOp
    simp only [ho, hx, Instr.loadAt, Instr.sureAddr, Sem.run_bind, Sem.run_pure, Result.andThen_ok, run_load_front w g t ty cs rest fr d hg hu hd hi]
    exact hK _ _ h
/-- Of what was there only the block g has turned. -/
structure Wrote (g : Nat) (w w' : World) : Prop where
  os : w'.os = w.os
  tape : w'.tape = w.tape
  output : w'.output = w.output
  size : w.heap.size ≤ w'.heap.size
  block : ∀ k, k < w.heap.size → k ≠ g → w'.heap[k]? = w.heap[k]?
theorem Wrote.refl (g : Nat) (w : World) : Wrote g w w := ⟨rfl, rfl, rfl, Nat.le_refl _, fun _ _ _ => rfl⟩
theorem Wrote.of_below {g : Nat} {w w' : World} (h : Below w.heap.size w w') : Wrote g w w' := ⟨h.os, h.tape, h.output, h.size, fun k hk _ => h.block k hk⟩
theorem Wrote.trans {g : Nat} {a b c : World} (h : Wrote g a b) (k : Wrote g b c) : Wrote g a c :=
  ⟨k.os.trans h.os, k.tape.trans h.tape, k.output.trans h.output, Nat.le_trans h.size k.size, fun i hi hn => (k.block i (Nat.lt_of_lt_of_le hi h.size) hn).trans (h.block i hi hn)⟩
theorem Wrote.drew {g : Nat} {a b : World} (h : Wrote g a b) : Wrote g a b.drew := ⟨h.os, h.tape, h.output, h.size, h.block⟩
theorem Wrote.below {g : Nat} {B : Nat} {a b : World} (h : Wrote g a b) (hB : B ≤ g) (hs : B ≤ a.heap.size) : Below B a b := ⟨h.os, h.tape, h.output, h.size, fun k hk => h.block k (by omega) (by omega)⟩
theorem wrote_setCell {g : Nat} {a b : World} (h : Wrote g a b) (i : Nat) (u : Value) : Wrote g a (b.setCell ⟨g, i, none⟩ u) :=
  h.trans ⟨rfl, rfl, rfl, by simp [World.setCell], fun k hk hn => heap_setCell_other _ _ _ _ hn⟩
/-- Bytes that are read at an address. -/
def RC (w : World) (A : Option Addr) (l : List Int) : Prop := l ≠ [] → ∃ a, A = some a ∧ a.block < w.heap.size ∧ ∀ j : Nat, j < l.length → w.cell? (a.add j) = some (.int .u8 (bn l j))
/-- They lie in another block than g. -/
def Off (g : Nat) (A : Option Addr) : Prop := ∀ a, A = some a → a.block ≠ g
theorem add_block (a : Addr) (j : Nat) : (a.add j).block = a.block := by
  unfold Addr.add; split <;> rfl
theorem RC.of_C {w : World} {A : Option Addr} {l : List Int} (h : Kd.C (Kd.int .u8) w A l.length l) : RC w A l := by
  intro hl
  have h0 : 0 < l.length := List.length_pos_iff.mpr hl
  obtain ⟨a, rfl, hc⟩ := byte_at h 0 h0
  refine ⟨a, rfl, ?_, fun j hj => ?_⟩
  · have := block_lt_of_cell hc
    rwa [add_block] at this
  · obtain ⟨b, e, hx⟩ := byte_at h j hj
    cases e
    exact hx
theorem RC.to_C {w : World} {A : Option Addr} {l : List Int} (h : RC w A l) (hl : l.length ≤ 9223372036854775807) : Kd.C (Kd.int .u8) w A l.length l := by
  refine Kd.C_of_reads (d := (0 : Int)) (h1 := fun _ => rfl) ?_
  refine ⟨rfl, hl, fun hn => ?_⟩
  obtain ⟨a, e, _, hc⟩ := h (by intro e; subst e; simp at hn)
  refine ⟨a, e, fun j hj => ?_⟩
  rw [hc j hj]
  simp [bn, rd]
theorem RC.wrote {g : Nat} {w w' : World} {A : Option Addr} {l : List Int} (h : RC w A l) (hg : Off g A) (hw : Wrote g w w') : RC w' A l := by
  intro hl
  obtain ⟨a, rfl, hs, hc⟩ := h hl
  refine ⟨a, rfl, Nat.lt_of_lt_of_le hs hw.size, fun j hj => ?_⟩
  rw [World.cell?_of_block (w := w) (by rw [add_block]; exact hw.block _ hs (hg a rfl))]
  exact hc j hj
theorem RC.wrote' {g : Nat} {w w' : World} {A : Option Addr} {l : List Int} (h : RC w A l) (hg : l ≠ [] → Off g A) (hw : Wrote g w w') : RC w' A l := fun hl => (h.wrote (hg hl) hw) hl
theorem RC.off {g : Nat} {w : World} {A : Option Addr} {l : List Int} (h : RC w A l) (hg : w.heap.size ≤ g) : l ≠ [] → Off g A := by
  intro hl a ha
  obtain ⟨b, e, hb, _⟩ := h hl
  rw [ha] at e
  cases e
  omega
theorem RC.below {w w' : World} {A : Option Addr} {l : List Int} (h : RC w A l) (hw : Below w.heap.size w w') : RC w' A l := by
  intro hl
  obtain ⟨a, rfl, hs, hc⟩ := h hl
  refine ⟨a, rfl, Nat.lt_of_lt_of_le hs hw.size, fun j hj => ?_⟩
  rw [World.cell?_of_block (w := w) (by rw [add_block]; exact hw.block _ hs)]
  exact hc j hj
theorem RC.nil (w : World) (A : Option Addr) : RC w A [] := fun h => absurd rfl h
theorem bn_drop (l : List Int) (k j : Nat) : bn (l.drop k) j = bn l (k + j) := by
  unfold bn rd
  rw [Int.toNat_natCast, Int.toNat_natCast, List.getD_eq_getElem?_getD, List.getD_eq_getElem?_getD, List.getElem?_drop]
theorem bn_take (l : List Int) (k j : Nat) (h : j < k) : bn (l.take k) j = bn l j := by
  unfold bn rd
  rw [Int.toNat_natCast, List.getD_eq_getElem?_getD, List.getD_eq_getElem?_getD, List.getElem?_take, if_pos h]
theorem RC.drop {w : World} {a : Addr} {l : List Int} (h : RC w (some a) l) (k : Nat) : RC w (some (a.add k)) (l.drop k) := by
  intro hl
  have hlt : k < l.length := by
    rcases Nat.lt_or_ge k l.length with h | h
    · exact h
    · exact absurd (List.drop_eq_nil_of_le h) hl
  obtain ⟨b, e, hs, hc⟩ := h (by intro e; subst e; simp at hlt)
  cases e
  refine ⟨_, rfl, by rw [add_block]; exact hs, fun j hj => ?_⟩
  rw [Addr.add_add, bn_drop]
  exact hc (k + j) (by rw [List.length_drop] at hj; omega)
theorem RC.take {w : World} {A : Option Addr} {l : List Int} (h : RC w A l) (k : Nat) : RC w A (l.take k) := by
  intro hl
  obtain ⟨a, rfl, hs, hc⟩ := h (by intro e; subst e; simp at hl)
  refine ⟨a, rfl, hs, fun j hj => ?_⟩
  rw [List.length_take] at hj
  rw [bn_take l k j (by omega)]
  exact hc j (by omega)
/-- A new block that begins with bytes. -/
theorem RC.row {w : World} {g : Nat} {l : List Int} {rest : Array Value} {t : TypeId} {fr : Nat × Nat} (h : w.heap[g]? = some (.cells ((nums .u8 l).toArray ++ rest) t fr)) : RC w (some ⟨g, 0, none⟩) l := by
  intro _
  refine ⟨_, rfl, (Array.getElem?_eq_some_iff.1 h).1, fun j hj => ?_⟩
  have hadd : (⟨g, 0, none⟩ : Addr).add j = ⟨g, j, none⟩ := by unfold Addr.add; split <;> simp_all
  rw [hadd, cell_of_row w g j _ t fr h, Array.getElem?_append_left (by simpa [nums] using hj), List.getElem?_toArray]
  simp only [nums, List.getElem?_map]
  rw [List.getElem?_eq_getElem hj]
  simp [bn, rd, List.getD_eq_getElem?_getD, List.getElem?_eq_getElem hj]
theorem cells_of_RC {w : World} {a : Addr} {l : List Int} (h : RC w (some a) l) : ∀ j v, (nums .u8 l)[j]? = some v → w.cell? (a.add j) = some v := by
  intro j v hv
  have hj : j < l.length := by simpa [nums] using (List.getElem?_eq_some_iff.mp hv).1
  obtain ⟨b, e, _, hc⟩ := h (by intro e; subst e; simp at hj)
  cases e
  rw [hc j hj, ← hv]
  simp [nums, bn, rd, List.getD_eq_getElem?_getD, List.getElem?_eq_getElem hj]
abbrev TB : Nat := 22
theorem info5 : (Try.prog.info? 5).map (fun i => (i.zero, i.size, i.bytes)) = some (some (.int .u8 0), 1, 1) := by kernel_rfl
theorem bytes_drop {l : List Int} (h : Bytes l) (k : Nat) : Bytes (l.drop k) := fun j => by rw [bn_drop]; exact h _
theorem bytes_take {l : List Int} (h : Bytes l) (k : Nat) : Bytes (l.take k) := fun j => by
  by_cases hj : j < k
  · rw [bn_take l k j hj]; exact h j
  · unfold bn rd
    rw [Int.toNat_natCast, List.getD_eq_getElem?_getD, List.getElem?_take, if_neg hj]
    simp
theorem bytes_append {a b : List Int} (ha : Bytes a) (hb : Bytes b) : Bytes (a ++ b) := fun j => by
  by_cases hj : j < a.length
  · have : bn (a ++ b) j = bn a j := by
      unfold bn rd
      rw [Int.toNat_natCast, List.getD_eq_getElem?_getD, List.getElem?_append_left hj, List.getD_eq_getElem?_getD]
    rw [this]; exact ha j
  · have : bn (a ++ b) j = bn b (j - a.length) := by
      unfold bn rd
      rw [Int.toNat_natCast, Int.toNat_natCast, List.getD_eq_getElem?_getD, List.getElem?_append_right (by omega), List.getD_eq_getElem?_getD]
    rw [this]; exact hb _
/-- The slice v holds just these bytes, in a block from base on. -/
def OWN (w : World) (base : Nat) (v : Value) (l : List Int) : Prop := Kd.R (Kd.int .u8) 5 w base (fun _ => True) v l
theorem OWN.none (w : World) (base : Nat) : OWN w base (.slice none 0 0) [] := Kd.R_nil _ _ _ _ _
theorem OWN.form {w : World} {base : Nat} {v : Value} {l : List Int} (h : OWN w base v l) : ∃ A c, v = .slice A l.length c ∧ l.length ≤ c ∧ RC w A l ∧ (∀ a, A = some a → base ≤ a.block ∧ a.block < w.heap.size) := by
  obtain ⟨A, c, rfl⟩ := Kd.R_slice h
  have hr := Kd.R_reads' h
  exact ⟨A, c, rfl, hr.2.1, RC.of_C hr.2.2, fun a e => ⟨Kd.R_base h a.block (by rw [e]; rfl), Kd.R_lt h a.block (by rw [e]; rfl)⟩⟩
theorem OWN.alloc {w : World} {base : Nat} {v : Value} {l : List Int} (h : OWN w base v l) (o : Obj) : OWN (w.alloc o) base v l := Kd.R_alloc h o
theorem OWN.drew {w : World} {base : Nat} {v : Value} {l : List Int} (h : OWN w base v l) : OWN w.drew base v l := Kd.R_drew h
theorem OWN.below {w w' : World} {base : Nat} {v : Value} {l : List Int} (h : OWN w base v l) (hb : Below w.heap.size w w') : OWN w' base v l := Kd.R_below h hb
theorem bytes_new (W : World) (e : TypeId) (l : List Int) (fz : Nat × Nat) : RC (W.alloc (.cells (nums .u8 l).toArray e fz)) (some ⟨W.heap.size, 0, none⟩) l := by
  refine RC.row (g := W.heap.size) (t := e) (fr := fz) (rest := #[]) ?_
  rw [Array.append_empty]; exact blk_new _ _
theorem own_append {ops : Array Oper} {rs : List Oper} {o : Oper} {a : Act} {w0 w : World} {Q : Exit → Act → World → Prop} (hgd : o.guard = none) (s x : Operand)
    (ho : o.op = .call { callee := .builtin .append, args := #[s, x], argTypes := #[TB, TB] }) (base : Nat) (v : Value) (l m : List Int) (A : Option Addr) (c : Nat) (hs : a.eval s = v) (hx : a.eval x = .slice A m.length c)
    (HO : OWN w base v l) (HR : RC w A m) (HB : Below base w0 w) (hbase : base ≤ w.heap.size) (hl : l.length + m.length ≤ 100000000)
    (h : ∀ v1 w1, OWN w1 base v1 (l ++ m) → Below base w0 w1 → w.grownBy w1 v.ownBlock → wpList Try.prog ops Q rs (a.put o.dst v1) w1) : wpList Try.prog ops Q (o :: rs) a w := by
  refine Kd.R_append_rows (Kd.int .u8) (w0 := w0) base hgd s x TB 5 (.int .u8 0) 1 ho Try.underlying22 info5 rfl (by decide) (by omega) v l m A m.length c (fun _ => True) (fun _ => False) hs hx HO (HR.to_C (by omega)) (fun _ _ h => h) (fun _ h => h.elim) (fun _ _ => trivial) HB hbase (by omega) ?_
  intro v1 w1 h1 h2 h3 _
  exact h v1 w1 h1 h2 h3
theorem own_append_step {ops : Array Oper} {o : Oper} {a : Act} {w0 w : World} {K : Act → World → Prop} {Q : Exit → Act → World → Prop} (hw : Region.wanted o (yielded ops a.tmps) = true) (s x : Operand)
    (ho : o.op = .call { callee := .builtin .append, args := #[s, x], argTypes := #[TB, TB] }) (base : Nat) (v : Value) (l m : List Int) (A : Option Addr) (c : Nat) (hs : a.eval s = v) (hx : a.eval x = .slice A m.length c)
    (HO : OWN w base v l) (HR : RC w A m) (HB : Below base w0 w) (hbase : base ≤ w.heap.size) (hl : l.length + m.length ≤ 100000000)
    (h : ∀ v1 w1, OWN w1 base v1 (l ++ m) → Below base w0 w1 → w.grownBy w1 v.ownBlock → K (a.put o.dst v1) w1) :
    if Region.wanted o (yielded ops a.tmps) = true then Oper.wp Try.prog o a w K Q else K (a.put o.dst undef) w := by
  refine Kd.R_append_rows_step (Kd.int .u8) (w0 := w0) base hw s x TB 5 (.int .u8 0) 1 ho Try.underlying22 info5 rfl (by decide) (by omega) v l m A m.length c (fun _ => True) (fun _ => False) hs hx HO (HR.to_C (by omega)) (fun _ _ h => h) (fun _ h => h.elim) (fun _ _ => trivial) HB hbase (by omega) ?_
  intro v1 w1 h1 h2 h3 _
  exact h v1 w1 h1 h2 h3
theorem own_zeros {ops : Array Oper} {rs : List Oper} {o : Oper} {a : Act} {w0 w : World} {Q : Exit → Act → World → Prop} (hgd : o.guard = none) (s x : Operand)
    (ho : o.op = .call { callee := .builtin .append, args := #[s, x], argTypes := #[TB, 3] }) (base : Nat) (v : Value) (l : List Int) (n : Nat) (hs : a.eval s = v) (hx : a.eval x = .int .i64 (n : Int))
    (HO : OWN w base v l) (HB : Below base w0 w) (hbase : base ≤ w.heap.size) (hl : l.length + n ≤ 100000000)
    (h : ∀ v1 w1, OWN w1 base v1 (l ++ List.replicate n 0) → Below base w0 w1 → w.grownBy w1 v.ownBlock → wpList Try.prog ops Q rs (a.put o.dst v1) w1) : wpList Try.prog ops Q (o :: rs) a w := by
  refine Kd.R_append_zeros (Kd.int .u8) (w0 := w0) base hgd s x TB 3 5 (.int .u8 0) 1 ho Try.underlying22 (k := .i64) Try.underlying3 info5 rfl (by decide) (by omega) v l 0 (n : Int) (fun _ => True) hs hx rfl (fun _ _ => trivial) HO (by omega) HB hbase (by rw [Int.toNat_natCast]; omega) ?_
  intro v1 w1 h1 h2 h3 _
  rw [Int.toNat_natCast] at h1
  exact h v1 w1 h1 h2 h3
theorem own_lit {ops : Array Oper} {rs : List Oper} {o : Oper} {a : Act} {w0 w : World} {Q : Exit → Act → World → Prop} (base : Nat) (hgd : o.guard = none) {N : Tmp} (hd : o.dst = some N) (l : List Int)
    (hrun : (execOp a.eval o).run Try.prog w = .ok (.value (.slice (some ⟨w.heap.size, 0, none⟩) l.length l.length)) (w.alloc (.cells (nums .u8 l).toArray 5)))
    (HB : Below base w0 w) (hbase : base ≤ w.heap.size) (hm : l.length ≤ 9223372036854775807)
    (h : ∀ v1 w1, OWN w1 base v1 l → Below base w0 w1 → w.grownBy w1 none → wpList Try.prog ops Q rs (a.put o.dst v1) w1) : wpList Try.prog ops Q (o :: rs) a w := by
  refine Kd.R_lit (Kd.int .u8) (w0 := w0) base 5 hgd hd (xs := l) (inner := nums .u8 l) (ok := fun _ => True) (okp := fun _ => True) hrun ?_ (fun _ h => h) trivial HB hbase hm ?_
  · refine ⟨by show (nums .u8 l).length = l.length * 1; simp [nums], fun j x hx => ?_⟩
    obtain ⟨hj, rfl⟩ := List.getElem?_eq_some_iff.mp hx
    show ((nums .u8 l).drop (j * 1)).take 1 = [.int .u8 l[j]]
    rw [Nat.mul_one, List.drop_eq_getElem_cons (by simpa [nums] using hj)]
    simp [nums]
  · intro v1 w1 h1 h2 h3 _
    exact h v1 w1 h1 h2 h3
theorem bytes_one (l : List Int) : (nums .u8 l).toArray.all (·.oneCell') = true := by
  rw [Array.all_eq_true_iff_forall_mem]
  intro v hv
  simp only [nums, List.mem_toArray, List.mem_map] at hv
  obtain ⟨n, _, rfl⟩ := hv
  rfl
theorem run_index_nums8 {P : Program} (t e : TypeId) (n : Nat) (l : List Int) (i : Nat) (w : World) (ht : P.underlying t = some (.array n e)) (he : P.underlying e = some (.int .u8)) (hs : (P.info? e).map (·.size) = some 1) (hl : l.length = n) (hi : i < n) :
    (Instr.index t (.agg (nums .u8 l).toArray) (.int .i64 (i : Int))).run P w = .ok (.int .u8 (bn l i)) w := by
  cases hq : P.info? e with
  | none => simp [hq] at hs
  | some f =>
    have hf : f.size = 1 := by simpa [hq] using hs
    have hagg : (isAgg e).run P w = .ok false w := by
      unfold isAgg
      rw [Sem.run_bind, run_underlying he w]
      rfl
    have hc : (nums .u8 l)[i]? = some (.int .u8 (bn l i)) := by
      unfold bn rd
      simp only [nums, List.getElem?_map]
      rw [List.getElem?_eq_getElem (by omega), Int.toNat_natCast, List.getD_eq_getElem?_getD, List.getElem?_eq_getElem (by omega)]
      rfl
    simp [Instr.index, asIntOf, Sem.run_bind, run_underlying ht w, hagg, part, sizeOf, typeInfo, hq, hf, hc, hi]
theorem info1 : (Try.prog.info? 5).map (·.size) = some 1 := by kernel_rfl
theorem cells8 {w : World} {b : Nat} {l : List Int} {t : TypeId} (h : w.heap[b]? = some (.cells (nums .u8 l).toArray t (0, 0))) (j : Nat) (hj : j < l.length) : w.cell? ⟨b, j, none⟩ = some (.int .u8 (bn l j)) := by
  rw [blk_cell h, List.getElem?_toArray]
  unfold bn rd
  simp only [nums, List.getElem?_map]
  rw [List.getElem?_eq_getElem hj, Int.toNat_natCast, List.getD_eq_getElem?_getD, List.getElem?_eq_getElem hj]
  rfl
theorem exec_load {P : Program} {o : Oper} {a : Act} {w : World} {ty : TypeId} {x : Operand} {g : Addr} {v : Value} (ho : o.op = .load ty x) (hx : a.eval x = .pointer (some g)) (h : (loadVar ty g).run P w = .ok v w) : (execOp a.eval o).run P w = .ok (.value v) w := by
  unfold execOp
  simp only [ho, hx, Instr.loadAt, Instr.sureAddr, Sem.run_bind, Sem.run_pure, Result.andThen_ok, h]
theorem exec_store_row {P : Program} {o : Oper} {a : Act} {w : World} {ty : TypeId} {x y : Operand} {g : Nat} {cells : Array Value} {t : TypeId} {old : Array Value} (ho : o.op = .store ty x y) (hx : a.eval x = .pointer (some ⟨g, 0, none⟩)) (hy : a.eval y = .agg cells)
    (hg : w.heap[g]? = some (.cells old t (0, 0))) (hi : (P.info? ty).map (·.size) = some cells.size) (hold : old.size = cells.size) (h1 : cells.all (·.oneCell') = true) : (execOp a.eval o).run P w = .ok .skip (w.setRow g cells) := by
  unfold execOp
  simp only [ho, hx, hy, Instr.storeAt, Instr.sureAddr, Sem.run_bind, Sem.run_pure, Result.andThen_ok, run_storeVar_row w g t ty old cells hg hi hold h1]
theorem all_bn_eq : ∀ (xs ys : List Int), xs.length = ys.length → ((List.range xs.length).all fun i => xs.getD i 0 == ys.getD i 0) = (xs == ys)
  | [], [], _ => rfl
  | x :: xs, y :: ys, h => by
    have ih := all_bn_eq xs ys (by simpa using h)
    rw [List.length_cons, List.range_succ_eq_map, List.all_cons, List.all_map]
    simp only [List.getD_cons_zero, Function.comp_def, List.getD_cons_succ, ih]
    simp [List.cons_beq_cons]
  | [], _ :: _, h => by simp at h
  | _ :: _, [], h => by simp at h
theorem run_equalIn_nums8 {P : Program} (w : World) (d : Nat) (t e : TypeId) (n : Nat) (ht : P.underlying t = some (.array n e)) (he : P.underlying e = some (.int .u8)) (hsz : ∀ w, (sizeOf e).run P w = .ok 1 w)
    (xs ys : List Int) (hx : xs.length = n) (hy : ys.length = n) :
    (Op.equalIn (d + 2) t (.agg (nums .u8 xs).toArray) (.agg (nums .u8 ys).toArray)).run P w = .ok (xs == ys) w := by
  rw [← all_bn_eq xs ys (hx.trans hy.symm), hx, List.range_eq_range', Op.equalIn]
  simp only [Sem.run_bind, run_underlying ht, Result.andThen_ok, hsz, Std.Legacy.Range.forIn_eq_forIn_range', Std.Legacy.Range.size, Nat.sub_zero, Nat.add_sub_cancel, Nat.div_one]
  have hl : ∀ i ∈ List.range' 0 n 1, i < n := fun i hi => by simpa using (List.mem_range'_1.1 hi).2
  generalize List.range' 0 n 1 = l at hl ⊢
  induction l with
  | nil => simp
  | cons i l ih =>
    have hi : i < n := hl i (by simp)
    have px : (part e (nums .u8 xs).toArray (i * 1)).run P w = .ok (.int .u8 (xs.getD i 0)) w := by
      simp [part, isAgg, run_underlying he, List.getD, nums, List.getElem?_eq_getElem (show i < xs.length by omega)]
    have py : (part e (nums .u8 ys).toArray (i * 1)).run P w = .ok (.int .u8 (ys.getD i 0)) w := by
      simp [part, isAgg, run_underlying he, List.getD, nums, List.getElem?_eq_getElem (show i < ys.length by omega)]
    have pe : (Op.equalIn (d + 1) e (.int .u8 (xs.getD i 0)) (.int .u8 (ys.getD i 0))).run P w = .ok (xs.getD i 0 == ys.getD i 0) w := run_equalIn_int w d e .u8 .u8 _ _ he
    simp only [List.forIn_cons, Sem.run_bind, px, py, pe, Result.andThen_ok, List.all_cons]
    cases hb : (xs.getD i 0 == ys.getD i 0)
    · simp
    · simp only [Bool.not_true, Bool.false_eq_true, if_false, Sem.run_pure, Result.andThen_ok, Bool.true_and]
      exact ih fun j hj => hl j (by simp [hj])
theorem sizeB (w : World) : (sizeOf 5).run Try.prog w = .ok 1 w := by
  obtain ⟨i, hi, _, hsz, _⟩ := info_parts info5
  simp [sizeOf, typeInfo, hi, hsz]
theorem bn_getD (l : List Int) (j : Nat) : bn l j = l.getD j 0 := by unfold bn rd; rw [Int.toNat_natCast]
theorem bytes_of_mem {l : List Int} (h : ∀ x ∈ l, 0 ≤ x ∧ x ≤ 255) : Bytes l := by
  intro j
  rw [bn_getD, List.getD_eq_getElem?_getD]
  cases hj : l[j]? with
  | none => simp
  | some x => exact h x (List.mem_of_getElem? hj)
theorem mem_of_bytes {l : List Int} (h : Bytes l) : ∀ x ∈ l, 0 ≤ x ∧ x ≤ 255 := by
  intro x hx
  obtain ⟨j, hj, rfl⟩ := List.mem_iff_getElem.mp hx
  have := h j
  rwa [bn_getD, List.getD_eq_getElem?_getD, List.getElem?_eq_getElem hj] at this
theorem bytes_nil : Bytes [] := fun j => by simp [bn, rd]
/-- What lies behind a place in bytes. -/
theorem run_cutB (A : Option Addr) (n c p : Nat) (hp : p ≤ n) (hc : n ≤ c) (hn : n ≤ 9223372036854775807) :
    ∃ A', (∀ W : World, (Instr.slice TB (.slice A n c) (some (.int .i64 (p : Int))) none none).run Try.prog W = .ok (.slice A' (n - p) (c - p)) W) ∧ ∀ w l, n = l.length → RC w A l → RC w A' (l.drop p) := by
  obtain ⟨i, hi, hz, hsz, hby⟩ := info_parts info5
  obtain ⟨A', h1, h2⟩ := print_cut (P := Try.prog) TB 5 .i64 Try.underlying22 hi hsz A n c p hp
  refine ⟨A', h1, fun w l hl h => ?_⟩
  subst hl
  have h3 : ReadsInt w .u8 A l.length l := ⟨rfl, hn, fun h0 => by
    obtain ⟨ad, e, _, hcell⟩ := h (by intro e; subst e; simp at h0)
    refine ⟨ad, e, fun j hj => ?_⟩
    rw [hcell j hj, bn_getD]⟩
  have h4 := h2 w .u8 l hc h3
  intro hne
  have h0 : 0 < (l.drop p).length := List.length_pos_iff.mpr hne
  obtain ⟨ad, e, hcell⟩ := h4.2.2 (by rw [List.length_drop] at h0; exact h0)
  refine ⟨ad, e, ?_, fun j hj => ?_⟩
  · have := block_lt_of_cell (hcell 0 (by rw [List.length_drop] at h0; exact h0))
    rwa [Byt.add_block] at this
  · rw [hcell j (by rw [List.length_drop] at hj; exact hj), bn_getD]
theorem run_takeB (A : Option Addr) (n c p : Nat) (hp : p ≤ c) (hc : n ≤ c) :
    ∀ W : World, (Instr.slice TB (.slice A n c) none (some (.int .i64 (p : Int))) none).run Try.prog W = .ok (.slice A p c) W := by
  intro W
  have hel : Try.prog.elem TB = 5 := by simp [Program.elem, Try.underlying22]
  have hu : Try.prog.underlying TB = some (.slice (Try.prog.elem TB)) := by rw [hel]; exact Try.underlying22
  obtain ⟨i, hi, hz, hsz, hby⟩ := info_parts info5
  rw [run_slice_h W TB A n c hu .i64 (p : Int) (Int.natCast_nonneg _) (by omega), hel]
  have h0 : A.map (fun x => x.add 0) = A := by cases A <;> simp [Addr.add]
  simp [sizeOf, typeInfo, hi, hsz, sliced, Result.andThen, h0]
/-- An element of whole numbers that are read. -/
theorem int_at {w : World} {k : IntKind} {ad : Addr} {n : Nat} {l : List Int} (h : Kd.C (Kd.int k) w (some ad) n l) (j : Nat) (hj : j < l.length) : ∃ x, l[j]? = some x ∧ w.cell? (ad.add j) = some (.int k x) := by
  obtain ⟨ad', e, hc⟩ := h.2.2 (by have := h.1; omega)
  cases e
  obtain ⟨c, _, h2, h3⟩ := hc j _ (List.getElem?_eq_getElem hj)
  refine ⟨l[j], List.getElem?_eq_getElem hj, ?_⟩
  have h2' : c = [.int k l[j]] := h2
  have := h3 0 (.int k l[j]) (by rw [h2']; rfl)
  simpa [Kd.int, Kd.scalar] using this
theorem int_none {w : World} {k : IntKind} {l : List Int} (h : Kd.C (Kd.int k) w none l.length l) : l.length = 0 := by
  rcases Nat.eq_zero_or_pos l.length with h0 | h0
  · exact h0
  · obtain ⟨ad, e, _⟩ := h.2.2 h0
    cases e
/-- The place of an element, whatever the slice's address. -/
theorem int_place {w : World} {T E : TypeId} {k : IntKind} {A : Option Addr} {n c : Nat} {l : List Int} (ht : Try.prog.underlying T = some (.slice E)) (hs : (Try.prog.info? E).map (·.size) = some 1) (h : Kd.C (Kd.int k) w A n l) (j : Nat) (hj : j < n) :
    ∃ (a : Addr) (x : Int), l[j]? = some x ∧ a.block < w.heap.size ∧ w.cell? a = some (.int k x) ∧ ∀ W : World, (Instr.indexAt T (.slice A n c) (.int .i64 (j : Int))).run Try.prog W = .ok (.pointer (some a)) W := by
  have hln : l.length = n := h.1
  rcases A with _ | ad
  · obtain ⟨ad, e, _⟩ := h.2.2 (by omega)
    cases e
  · obtain ⟨x, h1, h2⟩ := int_at h j (by omega)
    refine ⟨ad.add j, x, h1, ?_, h2, fun W => ?_⟩
    · exact block_lt_of_cell h2
    · obtain ⟨i, hi, hsz⟩ := Option.map_eq_some_iff.1 hs
      simp [Instr.indexAt, run_underlying ht, asIntOf, sizeOf, typeInfo, hi, hsz, hj, Sem.run_bind]
end Go.Proofs.Ytdmpbfhbjklajaa.Byt
end

-- Written by wip/tools/myprint.py, a program of this session over the print tool: not a printed text of the kit's
section
namespace Go.Proofs.Ytdmpbfhbjklajaa.PExact
open Go.RowKit Go.Proofs.YtdmpbfhbjklajaaW.PrintWords Go.Proofs.YtdmpbfhbjklajaaW.PrintLast Go.Proofs.YtdmpbfhbjklajaaW.PrintMore
attribute [local go_sem] max2_int min2_int max_two min_two max_three min_three max_four min_four   -- for this text's walks alone
set_option linter.unusedVariables false
set_option linter.unusedSimpArgs false
set_option maxRecDepth 20000



def errW : Option Int → Value
 | none => .nilIface
 | some c => .iface 0 (.int .i64 c)
theorem errW_none : errW none = .nilIface := rfl
theorem errW_some (c : Int) : errW (some c) = .iface 0 (.int .i64 c) := rfl

theorem info5 : (Try.prog.info? 5).map (fun i => (i.zero, i.size, i.bytes)) = some (some (.int .u8 0), 1, 1) := by kernel_rfl
-- the values' own types

end Go.Proofs.Ytdmpbfhbjklajaa.PExact
end

-- Written by wip/tools/myprint.py, a program of this session over the print tool: not a printed text of the kit's
section
namespace Go.Proofs.Ytdmpbfhbjklajaa.PExact
open Go.RowKit Go.Proofs.YtdmpbfhbjklajaaW.PrintWords Go.Proofs.YtdmpbfhbjklajaaW.PrintLast Go.Proofs.YtdmpbfhbjklajaaW.PrintMore
attribute [local go_sem] max2_int min2_int max_two min_two max_three min_three max_four min_four   -- for this text's walks alone
set_option linter.unusedVariables false
set_option linter.unusedSimpArgs false
set_option maxRecDepth 20000

/-! ### octal_field: function 56 -/
def octal_field.f (a0 : Int) : Option (Bool) := if a0 ≥ 2 then (some (decide (a0 ≤ 12))) else (some false)
set_option maxHeartbeats 8000000 in
set_option maxRecDepth 100000 in
theorem octal_field.calls (a0 : Int) (r : Bool) (w : World) (h : octal_field.f a0 = some r) :
  Calls Try.prog 56 #[.int .i64 a0] w fun e w' => e = .returned (.bool r) ∧ Drawn0 w w' := by
 have H : (if a0 ≥ 2 then (some (decide (a0 ≤ 12))) else (some false)) = some r := h
 clear h
 by_cases c2 : a0 ≥ 2
 ·rw [if_pos c2] at H
  have c2b0 : decide (2 ≤ a0) = true := decide_eq_true c2
  clear c2
  obtain rfl := Option.some.inj H
  go_enter Try.func56, Try.ntmps56
  go_wp2
  go_ret
  exact ⟨by first | rfl | (simp; done) | (simp [*]; done), by repeat (first | exact Drawn0.refl _ | apply Drawn0.step)⟩
 ·rw [if_neg c2] at H
  have c2b0 : decide (2 ≤ a0) = false := decide_eq_false c2
  clear c2
  obtain rfl := Option.some.inj H
  go_enter Try.func56, Try.ntmps56
  go_wp2
  go_ret
  exact ⟨by first | rfl | (simp; done) | (simp [*]; done), by repeat (first | exact Drawn0.refl _ | apply Drawn0.step)⟩

/-! ### octal_Get: function 48 -/
mutual
def octal_Get.l0 : Nat → Int → List Int → Int → Int → Option (Int × Int × Int)
 | 0, _, _, _, _ => none
 | k + 1, x5, x21, x22, x23 => if x23 < x22 then (if 0 ≤ x23 then (if x23 < (x21.length : Int) then (if x5 ≥ 36028797018963968 then (some (0, 0, 2)) else (octal_Get.l0 k (Go.bits .or .i64 (wrap64 (x5 * 256)) (wrap64 (rd x21 x23))) x21 x22 (wrap64 (x23 + 1)))) else (none)) else (none)) else (some (x5, 0, 0))
def octal_Get.l1 : Nat → Int → Bool → Bool → List Int → Int → Int → Option (Int × Int × Int)
 | 0, _, _, _, _, _, _ => none
 | k + 1, x5, x8, x9, x36, x37, x38 => if x38 < x37 then (if 0 ≤ x38 then (if x38 < (x36.length : Int) then (if (rd x36 x38) = 32 then (octal_Get.j2 k x5 x8 x9 x38 (rd x36 x38) x36 x37 x38 x8) else (octal_Get.j2 k x5 x8 x9 x38 (rd x36 x38) x36 x37 x38 false)) else (none)) else (none)) else (some (x5, 0, 0))
def octal_Get.j2 : Nat → Int → Bool → Bool → Int → Int → List Int → Int → Int → Bool → Option (Int × Int × Int)
 | 0, _, _, _, _, _, _, _, _, _ => none
 | k + 1, x5, x8, x9, x10, x11, x36, x37, x38, x44 => if x44 = true then (octal_Get.l1 k x5 x8 x9 x36 x37 (wrap64 (x38 + 1))) else (if x11 ≥ 48 then (if x11 ≤ 55 then (octal_Get.j3 k x5 x9 x10 x11 x36 x37 x38 x9) else (octal_Get.j3 k x5 x9 x10 x11 x36 x37 x38 false)) else (octal_Get.j3 k x5 x9 x10 x11 x36 x37 x38 false))
def octal_Get.j3 : Nat → Int → Bool → Int → Int → List Int → Int → Int → Bool → Option (Int × Int × Int)
 | 0, _, _, _, _, _, _, _, _ => none
 | k + 1, x5, x9, x10, x11, x36, x37, x38, x50 => if x50 = true then (octal_Get.l1 k (Go.bits .or .i64 (wrap64 (x5 * 8)) ((x11 - 48) % 256)) false x9 x36 x37 (wrap64 (x38 + 1))) else (if x11 = 32 then (octal_Get.l1 k x5 false false x36 x37 (wrap64 (x38 + 1))) else (if x11 = 0 then (octal_Get.l1 k x5 false false x36 x37 (wrap64 (x38 + 1))) else (some (0, x10, 70))))
end
def octal_Get.f (k : Nat) (l0 : List Int) : Option (Int × Int × Int) := (octal_field.f (l0.length : Int)).bind fun t101 => (if t101 = true then (if 0 < (l0.length : Int) then (if (rd l0 0) = 128 then (if 1 ≤ (l0.length : Int) then (octal_Get.l0 k 0 (l0.drop 1) ((l0.drop 1).length : Int) 0) else (none)) else (octal_Get.l1 k 0 true true l0 (l0.length : Int) 0)) else (none)) else (some (0, 0, 1)))
set_option maxHeartbeats 8000000 in
set_option maxRecDepth 100000 in
theorem octal_Get.calls (k : Nat) (A0 : Option Addr) (c0 : Nat) (l0 : List Int) (r1 : Int) (r2 : Int) (r3 : Int) (w : World) (hr0 : Kd.C (Kd.int .u8) w A0 l0.length l0) (hc0 : l0.length ≤ c0) (h : octal_Get.f k l0 = some (r1, r2, r3)) :
  Calls Try.prog 48 #[.slice A0 l0.length c0] w fun e w' => e = .returned (.tuple #[.int .i64 r1, .int .i64 r2, .int .i64 r3]) ∧ Drawn0 w w' := by
 have HR0 := Aside0.mk hr0
 have HC0 := Aside0.mk hc0
 clear hr0 hc0
 have H : ((octal_field.f (l0.length : Int)).bind fun t101 => (if t101 = true then (if 0 < (l0.length : Int) then (if (rd l0 0) = 128 then (if 1 ≤ (l0.length : Int) then (octal_Get.l0 k 0 (l0.drop 1) ((l0.drop 1).length : Int) 0) else (none)) else (octal_Get.l1 k 0 true true l0 (l0.length : Int) 0)) else (none)) else (some (0, 0, 1)))) = some (r1, r2, r3) := h
 clear h
 replace H := Option.bind_eq_some_iff.mp H
 obtain ⟨t101, A20, H⟩ := H
 replace H : (if t101 = true then (if 0 < (l0.length : Int) then (if (rd l0 0) = 128 then (if 1 ≤ (l0.length : Int) then (octal_Get.l0 k 0 (l0.drop 1) ((l0.drop 1).length : Int) 0) else (none)) else (octal_Get.l1 k 0 true true l0 (l0.length : Int) 0)) else (none)) else (some (0, 0, 1))) = some (r1, r2, r3) := H
 have A2 := Aside0.mk A20
 clear A20
 by_cases c3 : t101 = true
 ·subst c3
  have H1 : (if 0 < (l0.length : Int) then (if (rd l0 0) = 128 then (if 1 ≤ (l0.length : Int) then (octal_Get.l0 k 0 (l0.drop 1) ((l0.drop 1).length : Int) 0) else (none)) else (octal_Get.l1 k 0 true true l0 (l0.length : Int) 0)) else (none)) = some (r1, r2, r3) := by rw [if_pos rfl] at H; exact H
  clear H
  have H := H1
  clear H1
  by_cases c4 : 0 < (l0.length : Int)
  ·rw [if_pos c4] at H
   have c4b0 : decide (0 < (l0.length : Int)) = true := decide_eq_true c4
   have c4b1 : decide (0 < l0.length) = true := decide_eq_true (by omega)
   clear c4
   by_cases c5 : (rd l0 0) = 128
   ·rw [if_pos c5] at H
    have c5b0 : ((rd l0 0) == 128) = true := beq_iff_eq.mpr c5
    have c5b1 : ((rd l0 0) != 128) = false := bne_eq_false_iff_eq.mpr c5
    clear c5
    by_cases c6 : 1 ≤ (l0.length : Int)
    ·rw [if_pos c6] at H
     have c6b0 := eq_true c6
     have c6b1 : decide (1 ≤ (l0.length : Int)) = true := decide_eq_true c6
     clear c6
     have H' := Aside0.mk H
     clear H
     go_enter Try.func48, Try.ntmps48
     go_wp2_with (first | ((with_reducible refine gate_callee (f := 56) rfl ?_); refine goesL_ (some 14) rfl rfl Try.func56 (by kernel_rfl) rfl #[.int .i64 (l0.length : Int)] rfl (by (try simp only [List.map_toArray, List.map_cons, List.map_nil]); first | done | rfl | (simp only [List.length_drop, List.length_take]; rfl)) ?_; (with_reducible refine (octal_field.calls (l0.length : Int) true _ A2.out).mono ?_); rintro e w' ⟨rfl, ⟨nd, rfl⟩⟩; refine ⟨_, rfl, ?_⟩; have p102 : 0 ≤ (0 : Int) := (by omega); have q102 : 0 < (l0.length : Int) := of_decide_eq_true (by first | (with_reducible assumption) | assumption); obtain ⟨ad102, e102, hx102_0⟩ := Kd.at_int HR0.out 0 p102 q102; cases e102; have qi102 : (0 < l0.length) = True := eq_true (by omega); (try rw [show ((0 : Int)).toNat = 0 from rfl] at hx102_0); (try rw [Addr.add_zero'] at hx102_0); replace p102 := eq_true p102; replace q102 := eq_true q102; obtain ⟨i07, hi07, _, hsz7, _⟩ := info_parts info5; obtain ⟨A7, hcut7, hA7, hC7⟩ := print_drop_of (P := Try.prog) (Value.int .u8) 0 22 5 .i64 Try.underlying22 hi07 hsz7 (some ad102) c0 l0 1 (by omega) (of_decide_eq_true (by first | (with_reducible assumption) | assumption)) HC0.out; have HR103 := Aside0.mk (Kd.C_of_reads (h1 := fun _ => rfl) (hA7 _ (Kd.reads_of_C HR0.out))); have HC103 := Aside0.mk hC7; clear hA7 hC7 hi07 hsz7))
     try (go_step3; go_wp2_with (first | ((with_reducible refine gate_callee (f := 56) rfl ?_); refine goesL_ (some 14) rfl rfl Try.func56 (by kernel_rfl) rfl #[.int .i64 (l0.length : Int)] rfl (by (try simp only [List.map_toArray, List.map_cons, List.map_nil]); first | done | rfl | (simp only [List.length_drop, List.length_take]; rfl)) ?_; (with_reducible refine (octal_field.calls (l0.length : Int) true _ A2.out).mono ?_); rintro e w' ⟨rfl, ⟨nd, rfl⟩⟩; refine ⟨_, rfl, ?_⟩; have p102 : 0 ≤ (0 : Int) := (by omega); have q102 : 0 < (l0.length : Int) := of_decide_eq_true (by first | (with_reducible assumption) | assumption); obtain ⟨ad102, e102, hx102_0⟩ := Kd.at_int HR0.out 0 p102 q102; cases e102; have qi102 : (0 < l0.length) = True := eq_true (by omega); (try rw [show ((0 : Int)).toNat = 0 from rfl] at hx102_0); (try rw [Addr.add_zero'] at hx102_0); replace p102 := eq_true p102; replace q102 := eq_true q102; obtain ⟨i07, hi07, _, hsz7, _⟩ := info_parts info5; obtain ⟨A7, hcut7, hA7, hC7⟩ := print_drop_of (P := Try.prog) (Value.int .u8) 0 22 5 .i64 Try.underlying22 hi07 hsz7 (some ad102) c0 l0 1 (by omega) (of_decide_eq_true (by first | (with_reducible assumption) | assumption)) HC0.out; have HR103 := Aside0.mk (Kd.C_of_reads (h1 := fun _ => rfl) (hA7 _ (Kd.reads_of_C HR0.out))); have HC103 := Aside0.mk hC7; clear hA7 hC7 hi07 hsz7)))
     try (go_step3; go_wp2_with (first | ((with_reducible refine gate_callee (f := 56) rfl ?_); refine goesL_ (some 14) rfl rfl Try.func56 (by kernel_rfl) rfl #[.int .i64 (l0.length : Int)] rfl (by (try simp only [List.map_toArray, List.map_cons, List.map_nil]); first | done | rfl | (simp only [List.length_drop, List.length_take]; rfl)) ?_; (with_reducible refine (octal_field.calls (l0.length : Int) true _ A2.out).mono ?_); rintro e w' ⟨rfl, ⟨nd, rfl⟩⟩; refine ⟨_, rfl, ?_⟩; have p102 : 0 ≤ (0 : Int) := (by omega); have q102 : 0 < (l0.length : Int) := of_decide_eq_true (by first | (with_reducible assumption) | assumption); obtain ⟨ad102, e102, hx102_0⟩ := Kd.at_int HR0.out 0 p102 q102; cases e102; have qi102 : (0 < l0.length) = True := eq_true (by omega); (try rw [show ((0 : Int)).toNat = 0 from rfl] at hx102_0); (try rw [Addr.add_zero'] at hx102_0); replace p102 := eq_true p102; replace q102 := eq_true q102; obtain ⟨i07, hi07, _, hsz7, _⟩ := info_parts info5; obtain ⟨A7, hcut7, hA7, hC7⟩ := print_drop_of (P := Try.prog) (Value.int .u8) 0 22 5 .i64 Try.underlying22 hi07 hsz7 (some ad102) c0 l0 1 (by omega) (of_decide_eq_true (by first | (with_reducible assumption) | assumption)) HC0.out; have HR103 := Aside0.mk (Kd.C_of_reads (h1 := fun _ => rfl) (hA7 _ (Kd.reads_of_C HR0.out))); have HC103 := Aside0.mk hC7; clear hA7 hC7 hi07 hsz7)))
     go_loopg [5, 23] k (fun kq v5 v23 w' => ∃ (x5_1 : Int) (x23_1 : Int), v5 = .int .i64 x5_1 ∧ v23 = .int .i64 x23_1 ∧ Aside0 (octal_Get.l0 kq x5_1 (l0.drop 1) ((l0.drop 1).length : Int) x23_1 = some (r1, r2, r3)) ∧ Aside0 (kq ≤ k) ∧ Drawn0 w w')
     case atStart => exact ⟨(0), (0), (by first | rfl | (simp; done) | (simp [*]; done)), (by first | rfl | (simp; done) | (simp [*]; done)), H', ⟨Nat.le_refl _⟩, by repeat (first | exact Drawn0.refl _ | apply Drawn0.step)⟩
     case round =>
      clear H'
      try clear p1
      try clear q1
      try clear hx1
      try clear qi1
      try clear p2
      try clear c3
      try clear p3
      try clear c4
      try clear c4b0
      try clear c4b1
      try clear c5
      try clear c5b0
      try clear c5b1
      try clear c6
      try clear c6b0
      try clear c6b1
      try clear hx102_0
      try clear p102
      try clear q102
      obtain ⟨x5_1, x23_1, rfl, rfl, HA, HK1, ⟨m1, rfl⟩⟩ := hrel
      cases gk with
      | zero => exact absurd HA.out (by simp [octal_Get.l0])
      | succ k1 =>
       have H := HA.out
       clear HA
       simp only [octal_Get.l0] at H
       by_cases c8 : x23_1 < ((l0.drop 1).length : Int)
       ·rw [if_pos c8] at H
        have c8b0 : decide (x23_1 < ((l0.drop 1).length : Int)) = true := decide_eq_true c8
        have c8b0d := c8b0
        (try simp only [List.length_drop, List.length_take] at c8b0d)
        clear c8
        by_cases c9 : 0 ≤ x23_1
        ·rw [if_pos c9] at H
         have c9b0 : decide (0 ≤ x23_1) = true := decide_eq_true c9
         clear c9
         by_cases c10 : x23_1 < ((l0.drop 1).length : Int)
         ·rw [if_pos c10] at H
          have c10b0 : decide (x23_1 < ((l0.drop 1).length : Int)) = true := decide_eq_true c10
          have c10b0d := c10b0
          (try simp only [List.length_drop, List.length_take] at c10b0d)
          clear c10
          by_cases c11 : x5_1 ≥ 36028797018963968
          ·rw [if_pos c11] at H
           have c11b0 : decide (36028797018963968 ≤ x5_1) = true := decide_eq_true c11
           clear c11
           simp only [Option.some.injEq, Prod.mk.injEq] at H
           obtain ⟨rfl, rfl, rfl⟩ := H
           have p104 : 0 ≤ (x23_1 : Int) := of_decide_eq_true (by first | (with_reducible assumption) | assumption)
           have q104 : x23_1 < ((l0.drop 1).length : Int) := of_decide_eq_true (by first | (with_reducible assumption) | assumption)
           have q104d := q104
           (try simp only [List.length_drop, List.length_take] at q104d)
           replace q104d := eq_true q104d
           obtain ⟨ad104, e104, hx104_0⟩ := Kd.at_int HR103.out x23_1 p104 q104
           cases e104
           replace p104 := eq_true p104
           replace q104 := eq_true q104
           go_wp2
           try (go_step3; go_wp2)
           try (go_step3; go_wp2)
           (try rw [Exit.noGoto_ret])
           go_ret3
           exact ⟨by first | rfl | (simp; done) | (simp [*]; done), by repeat (first | exact Drawn0.refl _ | apply Drawn0.step)⟩
          ·rw [if_neg c11] at H
           have c11b0 : decide (36028797018963968 ≤ x5_1) = false := decide_eq_false c11
           clear c11
           have H' := Aside0.mk H
           clear H
           have p104 : 0 ≤ (x23_1 : Int) := of_decide_eq_true (by first | (with_reducible assumption) | assumption)
           have q104 : x23_1 < ((l0.drop 1).length : Int) := of_decide_eq_true (by first | (with_reducible assumption) | assumption)
           have q104d := q104
           (try simp only [List.length_drop, List.length_take] at q104d)
           replace q104d := eq_true q104d
           obtain ⟨ad104, e104, hx104_0⟩ := Kd.at_int HR103.out x23_1 p104 q104
           cases e104
           replace p104 := eq_true p104
           replace q104 := eq_true q104
           go_wp2
           try (go_step3; go_wp2)
           try (go_step3; go_wp2)
           go_roundg k1
           case measure => have := HK1.out; omega
           case rel => exact ⟨(Go.bits .or .i64 (wrap64 (x5_1 * 256)) (wrap64 (rd (l0.drop 1) x23_1))), (wrap64 (x23_1 + 1)), (by first | rfl | (simp; done) | (simp [*]; done)), (by first | rfl | (simp; done) | (simp [*]; done)), H', ⟨by have := HK1.out; omega⟩, by repeat (first | exact Drawn0.refl _ | apply Drawn0.step)⟩
         ·rw [if_neg c10] at H
          exact absurd H (by simp)
        ·rw [if_neg c9] at H
         exact absurd H (by simp)
       ·rw [if_neg c8] at H
        have c8b0 : decide (x23_1 < ((l0.drop 1).length : Int)) = false := decide_eq_false c8
        have c8b0d := c8b0
        (try simp only [List.length_drop, List.length_take] at c8b0d)
        clear c8
        simp only [Option.some.injEq, Prod.mk.injEq] at H
        obtain ⟨rfl, rfl, rfl⟩ := H
        go_wp2
        try (go_step3; go_wp2)
        try (go_step3; go_wp2)
        (try rw [Exit.noGoto_ret])
        go_ret3
        exact ⟨by first | rfl | (simp; done) | (simp [*]; done), by repeat (first | exact Drawn0.refl _ | apply Drawn0.step)⟩
    ·rw [if_neg c6] at H
     exact absurd H (by simp)
   ·rw [if_neg c5] at H
    have c5b0 : ((rd l0 0) == 128) = false := beq_eq_false_iff_ne.mpr c5
    have c5b1 : ((rd l0 0) != 128) = true := bne_iff_ne.mpr c5
    have H' := Aside0.mk H
    clear H
    go_enter Try.func48, Try.ntmps48
    go_wp2_with (first | ((with_reducible refine gate_callee (f := 56) rfl ?_); refine goesL_ (some 14) rfl rfl Try.func56 (by kernel_rfl) rfl #[.int .i64 (l0.length : Int)] rfl (by (try simp only [List.map_toArray, List.map_cons, List.map_nil]); first | done | rfl | (simp only [List.length_drop, List.length_take]; rfl)) ?_; (with_reducible refine (octal_field.calls (l0.length : Int) true _ A2.out).mono ?_); rintro e w' ⟨rfl, ⟨nd, rfl⟩⟩; refine ⟨_, rfl, ?_⟩; have p102 : 0 ≤ (0 : Int) := (by omega); have q102 : 0 < (l0.length : Int) := of_decide_eq_true (by first | (with_reducible assumption) | assumption); obtain ⟨ad102, e102, hx102_0⟩ := Kd.at_int HR0.out 0 p102 q102; cases e102; have qi102 : (0 < l0.length) = True := eq_true (by omega); (try rw [show ((0 : Int)).toNat = 0 from rfl] at hx102_0); (try rw [Addr.add_zero'] at hx102_0); replace p102 := eq_true p102; replace q102 := eq_true q102))
    try (go_step3; go_wp2_with (first | ((with_reducible refine gate_callee (f := 56) rfl ?_); refine goesL_ (some 14) rfl rfl Try.func56 (by kernel_rfl) rfl #[.int .i64 (l0.length : Int)] rfl (by (try simp only [List.map_toArray, List.map_cons, List.map_nil]); first | done | rfl | (simp only [List.length_drop, List.length_take]; rfl)) ?_; (with_reducible refine (octal_field.calls (l0.length : Int) true _ A2.out).mono ?_); rintro e w' ⟨rfl, ⟨nd, rfl⟩⟩; refine ⟨_, rfl, ?_⟩; have p102 : 0 ≤ (0 : Int) := (by omega); have q102 : 0 < (l0.length : Int) := of_decide_eq_true (by first | (with_reducible assumption) | assumption); obtain ⟨ad102, e102, hx102_0⟩ := Kd.at_int HR0.out 0 p102 q102; cases e102; have qi102 : (0 < l0.length) = True := eq_true (by omega); (try rw [show ((0 : Int)).toNat = 0 from rfl] at hx102_0); (try rw [Addr.add_zero'] at hx102_0); replace p102 := eq_true p102; replace q102 := eq_true q102)))
    try (go_step3; go_wp2_with (first | ((with_reducible refine gate_callee (f := 56) rfl ?_); refine goesL_ (some 14) rfl rfl Try.func56 (by kernel_rfl) rfl #[.int .i64 (l0.length : Int)] rfl (by (try simp only [List.map_toArray, List.map_cons, List.map_nil]); first | done | rfl | (simp only [List.length_drop, List.length_take]; rfl)) ?_; (with_reducible refine (octal_field.calls (l0.length : Int) true _ A2.out).mono ?_); rintro e w' ⟨rfl, ⟨nd, rfl⟩⟩; refine ⟨_, rfl, ?_⟩; have p102 : 0 ≤ (0 : Int) := (by omega); have q102 : 0 < (l0.length : Int) := of_decide_eq_true (by first | (with_reducible assumption) | assumption); obtain ⟨ad102, e102, hx102_0⟩ := Kd.at_int HR0.out 0 p102 q102; cases e102; have qi102 : (0 < l0.length) = True := eq_true (by omega); (try rw [show ((0 : Int)).toNat = 0 from rfl] at hx102_0); (try rw [Addr.add_zero'] at hx102_0); replace p102 := eq_true p102; replace q102 := eq_true q102)))
    go_loopg [5, 8, 9, 38] k (fun kq v5 v8 v9 v38 w' => ∃ (x5_1 : Int) (x8_1 : Bool) (x9_1 : Bool) (x38_1 : Int), v5 = .int .i64 x5_1 ∧ v8 = .bool x8_1 ∧ v9 = .bool x9_1 ∧ v38 = .int .i64 x38_1 ∧ Aside0 (octal_Get.l1 kq x5_1 x8_1 x9_1 l0 (l0.length : Int) x38_1 = some (r1, r2, r3)) ∧ Aside0 (kq ≤ k) ∧ Drawn0 w w')
    case atStart => exact ⟨(0), (true), (true), (0), (by first | rfl | (simp; done) | (simp [*]; done)), (by first | rfl | (simp; done) | (simp [*]; done)), (by first | rfl | (simp; done) | (simp [*]; done)), (by first | rfl | (simp; done) | (simp [*]; done)), H', ⟨Nat.le_refl _⟩, by repeat (first | exact Drawn0.refl _ | apply Drawn0.step)⟩
    case round =>
     clear H'
     try clear c1
     try clear p1
     try clear q1
     try clear hx1
     try clear qi1
     try clear p2
     try clear c3
     try clear p3
     try clear c4
     try clear c4b0
     try clear c4b1
     try clear c5
     try clear c5b0
     try clear c5b1
     try clear c6
     try clear c6b0
     try clear c6b1
     try clear p6
     try clear c8
     try clear c8b0
     try clear c9
     try clear c9b0
     try clear c10
     try clear c10b0
     try clear p10
     try clear q10
     try clear hx10
     try clear qi10
     try clear c11
     try clear c11b0
     try clear hx102_0
     try clear hx104_0
     try clear p1
     try clear p102
     try clear p104
     try clear p2
     try clear p3
     try clear q1
     try clear q102
     try clear q104
     obtain ⟨x5_1, x8_1, x9_1, x38_1, rfl, rfl, rfl, rfl, HA, HK1, ⟨m1, rfl⟩⟩ := hrel
     cases gk with
     | zero => exact absurd HA.out (by simp [octal_Get.l1])
     | succ k1 =>
      have H := HA.out
      clear HA
      simp only [octal_Get.l1] at H
      by_cases c12 : x38_1 < (l0.length : Int)
      ·rw [if_pos c12] at H
       have c12b0 : decide (x38_1 < (l0.length : Int)) = true := decide_eq_true c12
       clear c12
       by_cases c13 : 0 ≤ x38_1
       ·rw [if_pos c13] at H
        have c13b0 : decide (0 ≤ x38_1) = true := decide_eq_true c13
        clear c13
        by_cases c14 : x38_1 < (l0.length : Int)
        ·rw [if_pos c14] at H
         have c14b0 : decide (x38_1 < (l0.length : Int)) = true := decide_eq_true c14
         clear c14
         have HC15 := Aside0.mk H
         clear H
         have p105 : 0 ≤ (x38_1 : Int) := of_decide_eq_true (by first | (with_reducible assumption) | assumption)
         have q105 : x38_1 < (l0.length : Int) := of_decide_eq_true (by first | (with_reducible assumption) | assumption)
         obtain ⟨ad105, e105, hx105_0⟩ := Kd.at_int HR0.out x38_1 p105 q105
         obtain rfl : ad102 = ad105 := (by injection e105)
         replace p105 := eq_true p105
         replace q105 := eq_true q105
         first | (go_upto_region 18 with (fail)) | (try go_wp2_with (fail); go_step3; first | (go_upto_region 18 with (fail)) | (try go_wp2_with (fail); go_step3; go_upto_region 18 with (fail)))
         go_cut [44] (fun v44 wc => ∃ (kq : Nat) (x44_14 : Bool), v44 = .bool x44_14 ∧ Aside0 (octal_Get.j2 kq x5_1 x8_1 x9_1 x38_1 (rd l0 x38_1) l0 (l0.length : Int) x38_1 x44_14 = some (r1, r2, r3)) ∧ Aside0 (kq ≤ k1) ∧ Drawn0 w wc)
         case first =>
          have H := HC15.out
          clear HC15
          by_cases c16 : (rd l0 x38_1) = 32
          ·rw [if_pos c16] at H
           have c16b0 : ((rd l0 x38_1) == 32) = true := beq_iff_eq.mpr c16
           have c16b1 : ((rd l0 x38_1) != 32) = false := bne_eq_false_iff_eq.mpr c16
           clear c16
           (first | rw [c16b0] | (simp only [i64_w, i32_w]; rw [c16b0]) | skip)
           have H' := Aside0.mk H
           clear H
           go_wp2
           try (go_step3; go_wp2)
           try (go_step3; go_wp2)
           go_meet
           case rel => exact ⟨_, (x8_1), (by first | rfl | (simp; done) | (simp [*]; done)), H', ⟨by have := HK1.out; first | omega | exact Nat.le_refl _⟩, by repeat (first | exact Drawn0.refl _ | apply Drawn0.step)⟩
          ·rw [if_neg c16] at H
           have c16b0 : ((rd l0 x38_1) == 32) = false := beq_eq_false_iff_ne.mpr c16
           have c16b1 : ((rd l0 x38_1) != 32) = true := bne_iff_ne.mpr c16
           (first | rw [c16b0] | (simp only [i64_w, i32_w]; rw [c16b0]) | skip)
           have H' := Aside0.mk H
           clear H
           go_wp2
           try (go_step3; go_wp2)
           try (go_step3; go_wp2)
           go_meet
           case rel => exact ⟨_, (false), (by first | rfl | (simp; done) | (simp [*]; done)), H', ⟨by have := HK1.out; first | omega | exact Nat.le_refl _⟩, by repeat (first | exact Drawn0.refl _ | apply Drawn0.step)⟩
         case rest =>
          clear HC15
          try clear c1
          try clear p1
          try clear q1
          try clear hx1
          try clear qi1
          try clear p2
          try clear c3
          try clear p3
          try clear c4
          try clear c4b0
          try clear c4b1
          try clear c5
          try clear c5b0
          try clear c5b1
          try clear c6
          try clear c6b0
          try clear c6b1
          try clear p6
          try clear c8
          try clear c8b0
          try clear c9
          try clear c9b0
          try clear c10
          try clear c10b0
          try clear p10
          try clear q10
          try clear hx10
          try clear qi10
          try clear c11
          try clear c11b0
          try clear c12
          try clear c12b0
          try clear c13
          try clear c13b0
          try clear c14
          try clear c14b0
          try clear c16
          try clear c16b0
          try clear c16b1
          try clear hx102_0
          try clear hx104_0
          try clear hx105_0
          try clear p1
          try clear p10
          try clear p102
          try clear p104
          try clear p105
          try clear p2
          try clear p3
          try clear p6
          try clear q1
          try clear q10
          try clear q102
          try clear q104
          try clear q105
          obtain ⟨kq, x44_14, rfl, HA, HJ14, ⟨mc14, rfl⟩⟩ := hcut
          cases kq with
          | zero => exact absurd HA.out (by simp [octal_Get.j2])
          | succ kj14 =>
           have H := HA.out
           clear HA
           simp only [octal_Get.j2] at H
           by_cases c17 : x44_14 = true
           ·subst c17
            have H1 : (octal_Get.l1 kj14 x5_1 x8_1 x9_1 l0 (l0.length : Int) (wrap64 (x38_1 + 1))) = some (r1, r2, r3) := by rw [if_pos rfl] at H; exact H
            clear H
            have H := H1
            clear H1
            have H' := Aside0.mk H
            clear H
            go_wp2
            try (go_step3; go_wp2)
            try (go_step3; go_wp2)
            go_roundg kj14
            case measure => have := HK1.out; have := HJ14.out; omega
            case rel => exact ⟨(x5_1), (x8_1), (x9_1), (wrap64 (x38_1 + 1)), (by first | rfl | (simp; done) | (simp [*]; done)), (by first | rfl | (simp; done) | (simp [*]; done)), (by first | rfl | (simp; done) | (simp [*]; done)), (by first | rfl | (simp; done) | (simp [*]; done)), H', ⟨by have := HK1.out; have := HJ14.out; omega⟩, by repeat (first | exact Drawn0.refl _ | apply Drawn0.step)⟩
           ·replace c17 := Bool.eq_false_iff.mpr c17
            subst c17
            have H1 : (if (rd l0 x38_1) ≥ 48 then (if (rd l0 x38_1) ≤ 55 then (octal_Get.j3 kj14 x5_1 x9_1 x38_1 (rd l0 x38_1) l0 (l0.length : Int) x38_1 x9_1) else (octal_Get.j3 kj14 x5_1 x9_1 x38_1 (rd l0 x38_1) l0 (l0.length : Int) x38_1 false)) else (octal_Get.j3 kj14 x5_1 x9_1 x38_1 (rd l0 x38_1) l0 (l0.length : Int) x38_1 false)) = some (r1, r2, r3) := by rw [if_neg (show ¬ (false = true) by decide)] at H; exact H
            clear H
            have H := H1
            clear H1
            have HC18 := Aside0.mk H
            clear H
            first | (go_upto_region 19 with (fail)) | (try go_wp2_with (fail); go_step3; first | (go_upto_region 19 with (fail)) | (try go_wp2_with (fail); go_step3; go_upto_region 19 with (fail)))
            go_cut [50] (fun v50 wc => ∃ (kq : Nat) (x50_17 : Bool), v50 = .bool x50_17 ∧ Aside0 (octal_Get.j3 kq x5_1 x9_1 x38_1 (rd l0 x38_1) l0 (l0.length : Int) x38_1 x50_17 = some (r1, r2, r3)) ∧ Aside0 (kq ≤ kj14) ∧ Drawn0 w wc)
            case first =>
             have H := HC18.out
             clear HC18
             by_cases c19 : (rd l0 x38_1) ≥ 48
             ·rw [if_pos c19] at H
              have c19b0 : decide (48 ≤ (rd l0 x38_1)) = true := decide_eq_true c19
              clear c19
              (first | rw [c19b0] | (simp only [i64_w, i32_w]; rw [c19b0]) | skip)
              by_cases c20 : (rd l0 x38_1) ≤ 55
              ·rw [if_pos c20] at H
               have c20b0 : decide ((rd l0 x38_1) ≤ 55) = true := decide_eq_true c20
               clear c20
               have H' := Aside0.mk H
               clear H
               go_wp2
               try (go_step3; go_wp2)
               try (go_step3; go_wp2)
               go_meet
               case rel => exact ⟨_, (x9_1), (by first | rfl | (simp; done) | (simp [*]; done)), H', ⟨by have := HK1.out; have := HJ14.out; first | omega | exact Nat.le_refl _⟩, by repeat (first | exact Drawn0.refl _ | apply Drawn0.step)⟩
              ·rw [if_neg c20] at H
               have c20b0 : decide ((rd l0 x38_1) ≤ 55) = false := decide_eq_false c20
               clear c20
               have H' := Aside0.mk H
               clear H
               go_wp2
               try (go_step3; go_wp2)
               try (go_step3; go_wp2)
               go_meet
               case rel => exact ⟨_, (false), (by first | rfl | (simp; done) | (simp [*]; done)), H', ⟨by have := HK1.out; have := HJ14.out; first | omega | exact Nat.le_refl _⟩, by repeat (first | exact Drawn0.refl _ | apply Drawn0.step)⟩
             ·rw [if_neg c19] at H
              have c19b0 : decide (48 ≤ (rd l0 x38_1)) = false := decide_eq_false c19
              clear c19
              (first | rw [c19b0] | (simp only [i64_w, i32_w]; rw [c19b0]) | skip)
              have H' := Aside0.mk H
              clear H
              go_wp2
              try (go_step3; go_wp2)
              try (go_step3; go_wp2)
              go_meet
              case rel => exact ⟨_, (false), (by first | rfl | (simp; done) | (simp [*]; done)), H', ⟨by have := HK1.out; have := HJ14.out; first | omega | exact Nat.le_refl _⟩, by repeat (first | exact Drawn0.refl _ | apply Drawn0.step)⟩
            case rest =>
             clear HC18
             try clear c1
             try clear p1
             try clear q1
             try clear hx1
             try clear qi1
             try clear c2
             try clear p2
             try clear c3
             try clear p3
             try clear c4
             try clear c4b0
             try clear c4b1
             try clear c5
             try clear c5b0
             try clear c5b1
             try clear c6
             try clear c6b0
             try clear c6b1
             try clear p6
             try clear c8
             try clear c8b0
             try clear c9
             try clear c9b0
             try clear c10
             try clear c10b0
             try clear p10
             try clear q10
             try clear hx10
             try clear qi10
             try clear c11
             try clear c11b0
             try clear c12
             try clear c12b0
             try clear c13
             try clear c13b0
             try clear c14
             try clear c14b0
             try clear c16
             try clear c16b0
             try clear c16b1
             try clear c17
             try clear c19
             try clear c19b0
             try clear c20
             try clear c20b0
             try clear hx102_0
             try clear hx104_0
             try clear hx105_0
             try clear p1
             try clear p10
             try clear p102
             try clear p104
             try clear p105
             try clear p2
             try clear p3
             try clear p6
             try clear q1
             try clear q10
             try clear q102
             try clear q104
             try clear q105
             obtain ⟨kq, x50_17, rfl, HA, HJ17, ⟨mc17, rfl⟩⟩ := hcut
             cases kq with
             | zero => exact absurd HA.out (by simp [octal_Get.j3])
             | succ kj17 =>
              have H := HA.out
              clear HA
              simp only [octal_Get.j3] at H
              by_cases c21 : x50_17 = true
              ·subst c21
               have H1 : (octal_Get.l1 kj17 (Go.bits .or .i64 (wrap64 (x5_1 * 8)) (((rd l0 x38_1) - 48) % 256)) false x9_1 l0 (l0.length : Int) (wrap64 (x38_1 + 1))) = some (r1, r2, r3) := by rw [if_pos rfl] at H; exact H
               clear H
               have H := H1
               clear H1
               have H' := Aside0.mk H
               clear H
               go_wp2
               try (go_step3; go_wp2)
               try (go_step3; go_wp2)
               go_roundg kj17
               case measure => have := HK1.out; have := HJ14.out; have := HJ17.out; omega
               case rel => exact ⟨(Go.bits .or .i64 (wrap64 (x5_1 * 8)) (((rd l0 x38_1) - 48) % 256)), (false), (x9_1), (wrap64 (x38_1 + 1)), (by first | rfl | (simp; done) | (simp [*]; done)), (by first | rfl | (simp; done) | (simp [*]; done)), (by first | rfl | (simp; done) | (simp [*]; done)), (by first | rfl | (simp; done) | (simp [*]; done)), H', ⟨by have := HK1.out; have := HJ14.out; have := HJ17.out; omega⟩, by repeat (first | exact Drawn0.refl _ | apply Drawn0.step)⟩
              ·replace c21 := Bool.eq_false_iff.mpr c21
               subst c21
               have H1 : (if (rd l0 x38_1) = 32 then (octal_Get.l1 kj17 x5_1 false false l0 (l0.length : Int) (wrap64 (x38_1 + 1))) else (if (rd l0 x38_1) = 0 then (octal_Get.l1 kj17 x5_1 false false l0 (l0.length : Int) (wrap64 (x38_1 + 1))) else (some (0, x38_1, 70)))) = some (r1, r2, r3) := by rw [if_neg (show ¬ (false = true) by decide)] at H; exact H
               clear H
               have H := H1
               clear H1
               by_cases c22 : (rd l0 x38_1) = 32
               ·rw [if_pos c22] at H
                have c22b0 : ((rd l0 x38_1) == 32) = true := beq_iff_eq.mpr c22
                have c22b1 : ((rd l0 x38_1) != 32) = false := bne_eq_false_iff_eq.mpr c22
                clear c22
                have H' := Aside0.mk H
                clear H
                go_wp2
                try (go_step3; go_wp2)
                try (go_step3; go_wp2)
                go_roundg kj17
                case measure => have := HK1.out; have := HJ14.out; have := HJ17.out; omega
                case rel => exact ⟨(x5_1), (false), (false), (wrap64 (x38_1 + 1)), (by first | rfl | (simp; done) | (simp [*]; done)), (by first | rfl | (simp; done) | (simp [*]; done)), (by first | rfl | (simp; done) | (simp [*]; done)), (by first | rfl | (simp; done) | (simp [*]; done)), H', ⟨by have := HK1.out; have := HJ14.out; have := HJ17.out; omega⟩, by repeat (first | exact Drawn0.refl _ | apply Drawn0.step)⟩
               ·rw [if_neg c22] at H
                have c22b0 : ((rd l0 x38_1) == 32) = false := beq_eq_false_iff_ne.mpr c22
                have c22b1 : ((rd l0 x38_1) != 32) = true := bne_iff_ne.mpr c22
                by_cases c23 : (rd l0 x38_1) = 0
                ·rw [if_pos c23] at H
                 have c23b0 : ((rd l0 x38_1) == 0) = true := beq_iff_eq.mpr c23
                 have c23b1 : ((rd l0 x38_1) != 0) = false := bne_eq_false_iff_eq.mpr c23
                 clear c23
                 have H' := Aside0.mk H
                 clear H
                 go_wp2
                 try (go_step3; go_wp2)
                 try (go_step3; go_wp2)
                 go_roundg kj17
                 case measure => have := HK1.out; have := HJ14.out; have := HJ17.out; omega
                 case rel => exact ⟨(x5_1), (false), (false), (wrap64 (x38_1 + 1)), (by first | rfl | (simp; done) | (simp [*]; done)), (by first | rfl | (simp; done) | (simp [*]; done)), (by first | rfl | (simp; done) | (simp [*]; done)), (by first | rfl | (simp; done) | (simp [*]; done)), H', ⟨by have := HK1.out; have := HJ14.out; have := HJ17.out; omega⟩, by repeat (first | exact Drawn0.refl _ | apply Drawn0.step)⟩
                ·rw [if_neg c23] at H
                 have c23b0 : ((rd l0 x38_1) == 0) = false := beq_eq_false_iff_ne.mpr c23
                 have c23b1 : ((rd l0 x38_1) != 0) = true := bne_iff_ne.mpr c23
                 simp only [Option.some.injEq, Prod.mk.injEq] at H
                 obtain ⟨rfl, rfl, rfl⟩ := H
                 go_wp2
                 try (go_step3; go_wp2)
                 try (go_step3; go_wp2)
                 (try rw [Exit.noGoto_ret])
                 go_ret3
                 exact ⟨by first | rfl | (simp; done) | (simp [*]; done), by repeat (first | exact Drawn0.refl _ | apply Drawn0.step)⟩
        ·rw [if_neg c14] at H
         exact absurd H (by simp)
       ·rw [if_neg c13] at H
        exact absurd H (by simp)
      ·rw [if_neg c12] at H
       have c12b0 : decide (x38_1 < (l0.length : Int)) = false := decide_eq_false c12
       clear c12
       simp only [Option.some.injEq, Prod.mk.injEq] at H
       obtain ⟨rfl, rfl, rfl⟩ := H
       go_wp2
       try (go_step3; go_wp2)
       try (go_step3; go_wp2)
       (try rw [Exit.noGoto_ret])
       go_ret3
       exact ⟨by first | rfl | (simp; done) | (simp [*]; done), by repeat (first | exact Drawn0.refl _ | apply Drawn0.step)⟩
  ·rw [if_neg c4] at H
   exact absurd H (by simp)
 ·replace c3 := Bool.eq_false_iff.mpr c3
  subst c3
  have H1 : (some (0, 0, 1)) = some (r1, r2, r3) := by rw [if_neg (show ¬ (false = true) by decide)] at H; exact H
  clear H
  have H := H1
  clear H1
  simp only [Option.some.injEq, Prod.mk.injEq] at H
  obtain ⟨rfl, rfl, rfl⟩ := H
  go_enter Try.func48, Try.ntmps48
  go_wp2_with (first | ((with_reducible refine gate_callee (f := 56) rfl ?_); refine goesL_ (some 14) rfl rfl Try.func56 (by kernel_rfl) rfl #[.int .i64 (l0.length : Int)] rfl (by (try simp only [List.map_toArray, List.map_cons, List.map_nil]); first | done | rfl | (simp only [List.length_drop, List.length_take]; rfl)) ?_; (with_reducible refine (octal_field.calls (l0.length : Int) false _ A2.out).mono ?_); rintro e w' ⟨rfl, ⟨nd, rfl⟩⟩; refine ⟨_, rfl, ?_⟩))
  try (go_step3; go_wp2_with (first | ((with_reducible refine gate_callee (f := 56) rfl ?_); refine goesL_ (some 14) rfl rfl Try.func56 (by kernel_rfl) rfl #[.int .i64 (l0.length : Int)] rfl (by (try simp only [List.map_toArray, List.map_cons, List.map_nil]); first | done | rfl | (simp only [List.length_drop, List.length_take]; rfl)) ?_; (with_reducible refine (octal_field.calls (l0.length : Int) false _ A2.out).mono ?_); rintro e w' ⟨rfl, ⟨nd, rfl⟩⟩; refine ⟨_, rfl, ?_⟩)))
  try (go_step3; go_wp2_with (first | ((with_reducible refine gate_callee (f := 56) rfl ?_); refine goesL_ (some 14) rfl rfl Try.func56 (by kernel_rfl) rfl #[.int .i64 (l0.length : Int)] rfl (by (try simp only [List.map_toArray, List.map_cons, List.map_nil]); first | done | rfl | (simp only [List.length_drop, List.length_take]; rfl)) ?_; (with_reducible refine (octal_field.calls (l0.length : Int) false _ A2.out).mono ?_); rintro e w' ⟨rfl, ⟨nd, rfl⟩⟩; refine ⟨_, rfl, ?_⟩)))
  (try rw [Exit.noGoto_ret])
  go_ret3
  exact ⟨by first | rfl | (simp; done) | (simp [*]; done), by repeat (first | exact Drawn0.refl _ | apply Drawn0.step)⟩

/-! ### octal_Most: function 57 -/
def octal_Most.f (a0 : Int) : Option (Int) := (octal_field.f a0).bind fun t106 => (if t106 = true then (if 0 ≤ (wrap64 (3 * (wrap64 (a0 - 1)))) then (some (wrap64 ((shl .i64 1 (wrap64 (3 * (wrap64 (a0 - 1))))) - 1))) else (none)) else (some (-1)))
set_option maxHeartbeats 8000000 in
set_option maxRecDepth 100000 in
theorem octal_Most.calls (a0 : Int) (r : Int) (w : World) (h : octal_Most.f a0 = some r) :
  Calls Try.prog 57 #[.int .i64 a0] w fun e w' => e = .returned (.int .i64 r) ∧ Drawn0 w w' := by
 have H : ((octal_field.f a0).bind fun t106 => (if t106 = true then (if 0 ≤ (wrap64 (3 * (wrap64 (a0 - 1)))) then (some (wrap64 ((shl .i64 1 (wrap64 (3 * (wrap64 (a0 - 1))))) - 1))) else (none)) else (some (-1)))) = some r := h
 clear h
 replace H := Option.bind_eq_some_iff.mp H
 obtain ⟨t106, A20, H⟩ := H
 replace H : (if t106 = true then (if 0 ≤ (wrap64 (3 * (wrap64 (a0 - 1)))) then (some (wrap64 ((shl .i64 1 (wrap64 (3 * (wrap64 (a0 - 1))))) - 1))) else (none)) else (some (-1))) = some r := H
 have A2 := Aside0.mk A20
 clear A20
 by_cases c3 : t106 = true
 ·subst c3
  have H1 : (if 0 ≤ (wrap64 (3 * (wrap64 (a0 - 1)))) then (some (wrap64 ((shl .i64 1 (wrap64 (3 * (wrap64 (a0 - 1))))) - 1))) else (none)) = some r := by rw [if_pos rfl] at H; exact H
  clear H
  have H := H1
  clear H1
  obtain ⟨ji4, hji4⟩ : ∃ j_ : Int, (wrap64 (3 * (wrap64 (a0 - 1)))) = j_ := ⟨_, rfl⟩
  replace H : (if 0 ≤ (ji4) then (some (wrap64 ((shl .i64 1 (ji4)) - 1))) else (none)) = some r := by first | (rw [hji4] at H; exact H) | (simp only [hji4] at H ⊢; exact H)
  (try rw [hji4] at A2)
  have hji4w : (IntKind.i64.wrap (3 * (wrap64 (a0 - 1)))) = ji4 := (i64_w _).trans hji4
  by_cases c5 : 0 ≤ (ji4)
  ·rw [if_pos c5] at H
   have c5b0 := eq_true c5
   have c5b1 : decide (0 ≤ (ji4)) = true := decide_eq_true c5
   clear c5
   obtain ⟨ji6, hji6⟩ : ∃ j_ : Int, (shl .i64 1 (ji4)) = j_ := ⟨_, rfl⟩
   replace H : (some (wrap64 ((ji6) - 1))) = some r := by first | (rw [hji6] at H; exact H) | (simp only [hji6] at H ⊢; exact H)
   (try rw [hji6] at A2)
   have hji6_ : (IntKind.i64.wrap (1 * 2 ^ min (ji4).toNat 64)) = ji6 := hji6
   have hji6z : (ji4) ≤ 64 → (IntKind.i64.wrap (1 * 2 ^ (ji4).toNat)) = ji6 := shl_small hji6
   have hji6u : (IntKind.i64.wrap (2 ^ min (ji4).toNat 64)) = ji6 := by have h_ := hji6_; rw [Int.one_mul] at h_; exact h_
   have hji6v : (ji4) ≤ 64 → (IntKind.i64.wrap (2 ^ (ji4).toNat)) = ji6 := fun hle_ => by have h_ := hji6z hle_; rw [Int.one_mul] at h_; exact h_
   have hji6y : (wrap64 (1 * 2 ^ min (ji4).toNat 64)) = ji6 := (i64_w _).symm.trans hji6_
   have hji6x : (ji4) ≤ 64 → (wrap64 (1 * 2 ^ (ji4).toNat)) = ji6 := fun h_ => (i64_w _).symm.trans (hji6z h_)
   obtain rfl := Option.some.inj H
   go_enter Try.func57, Try.ntmps57
   go_wp2_with (first | ((with_reducible refine gate_callee (f := 56) rfl ?_); refine goesL_ (some 4) rfl rfl Try.func56 (by kernel_rfl) rfl #[.int .i64 a0] rfl (by (try simp only [List.map_toArray, List.map_cons, List.map_nil]); first | done | rfl | (simp only [List.length_drop, List.length_take]; rfl)) ?_; (with_reducible refine (octal_field.calls a0 true _ A2.out).mono ?_); rintro e w' ⟨rfl, ⟨nd, rfl⟩⟩; refine ⟨_, rfl, ?_⟩))
   go_ret
   exact ⟨by first | rfl | (simp; done) | (simp only [← hji4, ← hji6] <;> (first | rfl | simp)) | (simp [*]; done), by repeat (first | exact Drawn0.refl _ | apply Drawn0.step)⟩
  ·rw [if_neg c5] at H
   exact absurd H (by simp)
 ·replace c3 := Bool.eq_false_iff.mpr c3
  subst c3
  have H1 : (some (-1)) = some r := by rw [if_neg (show ¬ (false = true) by decide)] at H; exact H
  clear H
  have H := H1
  clear H1
  obtain rfl := Option.some.inj H
  go_enter Try.func57, Try.ntmps57
  go_wp2_with (first | ((with_reducible refine gate_callee (f := 56) rfl ?_); refine goesL_ (some 4) rfl rfl Try.func56 (by kernel_rfl) rfl #[.int .i64 a0] rfl (by (try simp only [List.map_toArray, List.map_cons, List.map_nil]); first | done | rfl | (simp only [List.length_drop, List.length_take]; rfl)) ?_; (with_reducible refine (octal_field.calls a0 false _ A2.out).mono ?_); rintro e w' ⟨rfl, ⟨nd, rfl⟩⟩; refine ⟨_, rfl, ?_⟩))
  go_ret
  exact ⟨by first | rfl | (simp; done) | (simp [*]; done), by repeat (first | exact Drawn0.refl _ | apply Drawn0.step)⟩

end Go.Proofs.Ytdmpbfhbjklajaa.PExact
end
