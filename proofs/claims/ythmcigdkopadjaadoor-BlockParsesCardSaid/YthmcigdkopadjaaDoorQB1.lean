/- Texts of this claim, laid together by wip/tools/squash.py: Byt, Lay6, Crc, CrcMath, CrcPure, Crc6, Clone, PSealx0, PSealx1, PSealx, Seal6, Pack6. -/
import Derived.Test.YthmcigdkopadjaaDoorProg
import Derived.Test.YthmcigdkopadjaaDoorWMore
import Derived.Test.YthmcigdkopadjaaDoorWLast
import Derived.Lib.Hide
import Derived.Deep.AppendSrc
import Derived.StillTailTactics
import Derived.Stop.BytesEq
import Derived.Outline
import Derived.RegionTactic
import Derived.BigRegion
import Derived.Deep.QuietTactic
import Derived.BigQuiet
import Derived.Laws.Rows
import Derived.Lib.SliceRun
import Derived.Lib.SlBytesConst
import Derived.WalkKit
import Derived.KernelRfl
import Derived.Below
import Derived.Deep.Draws
import Derived.Deep.AppendLies
import Derived.Maps.AppendAt
import Derived.OwnWalk
import Derived.Laws.BytesArg
import Derived.Laws.MakeOwn
import Derived.Laws.OwnMore
import Derived.Deep.OwnRows
import Derived.Tactics
import Derived.Lib.ConvBytes
import Derived.Laws.Slices
import Derived.RowKit3
import Derived.Deep.LoopGhost
import Derived.WideLaws
import Derived.Deep.DeepCutAuto
import Derived.Deep.CutBlock
import Derived.Deep.RegionHeld3
import Derived.Lib.AppendStr
import Derived.ArgAppend
import Derived.Laws.IdiomCopy
import Derived.OrdersHeld
import Derived.Laws.BitsLemmas
import Derived.RowKit
import Derived.Test.YthmcigdkopadjaaDoorWWords
import Derived.Test.YthmcigdkopadjaaDoorWTab
import Derived.Test.YthmcigdkopadjaaDoorWFour
import Derived.Test.YthmcigdkopadjaaDoorWQPut
import Derived.Test.YthmcigdkopadjaaDoorWApart
import Derived.Test.YthmcigdkopadjaaDoorWArr
import Derived.Test.YthmcigdkopadjaaDoorWZeros
import Derived.Test.YthmcigdkopadjaaDoorWFoot
import Derived.Test.YthmcigdkopadjaaDoorWKept
import Derived.Test.YthmcigdkopadjaaDoorWShare
import Derived.Test.YthmcigdkopadjaaDoorWN
import Derived.Test.YthmcigdkopadjaaDoorWFootNe
import Derived.Test.YthmcigdkopadjaaDoorWAt
import Derived.Test.YthmcigdkopadjaaDoorWEqStruct
import Derived.Test.YthmcigdkopadjaaDoorWRepsOne
import Derived.Test.YthmcigdkopadjaaDoorWInv
import Derived.Test.YthmcigdkopadjaaDoorWInvWords
import Derived.Test.YthmcigdkopadjaaDoorWGuard
import Derived.Test.YthmcigdkopadjaaDoorWNEv

/- Bytes in memory: read at an address, owned, cut, put behind one another; what stays as it was. (Written by tools/mkbyt.py out of this session's own texts.) -/
section
namespace Go.Proofs.YthmcigdkopadjaaDoor.Byt
open Go.Proofs.YthmcigdkopadjaaDoor Go.RowKit Go.Proofs.YthmcigdkopadjaaDoorW.PrintWords Go.Proofs.YthmcigdkopadjaaDoorW.PrintLast Go.Proofs.YthmcigdkopadjaaDoorW.PrintMore
set_option linter.unusedVariables false
set_option linter.unusedSimpArgs false

def bn (b : List Int) (j : Nat) : Int := rd b (j : Int)
theorem nums_set' (k : IntKind) (l : List Int) (i : Nat) (v : Int) : (nums k l).toArray.setIfInBounds i (.int k v) = (nums k (l.set i v)).toArray := by
  simp [nums, List.map_set]
theorem below_setRow {B : Nat} {a w : World} (h : Below B a w) {g : Nat} (hg : B ≤ g) (cs : Array Value) : Below B a (w.setRow g cs) :=
  h.trans ⟨rfl, rfl, rfl, by simp, fun k hk => setRow_other _ _ _ _ (by omega)⟩
theorem byte_at {w : World} {A : Option Addr} {l : List Int} (h : Kd.C (Kd.int .u8) w A l.length l) (j : Nat) (h1 : j < l.length) : ∃ ad, A = some ad ∧ w.cell? (ad.add j) = some (.int .u8 (bn l j)) := by
  obtain ⟨ad, e, hx⟩ := Kd.at_int h (j : Int) (by omega) (by omega)
  rw [Int.toNat_natCast] at hx
  exact ⟨ad, e, hx⟩
def Bytes (l : List Int) : Prop := ∀ j : Nat, 0 ≤ bn l j ∧ bn l j ≤ 255
/-- The first cells of a block, read as a whole. -/
theorem run_load_front {P : Program} (w : World) (g : Nat) (t ty : TypeId) (cs rest : List Value) (fr : Nat × Nat) (d : TypeDesc) (hg : w.heap[g]? = some (.cells (cs ++ rest).toArray t fr))
    (hu : P.underlying ty = some d) (hd : (match d with | .struct _ | .array _ _ => true | _ => false) = true) (hi : (P.info? ty).map (·.size) = some cs.length) :
    (loadVar ty ⟨g, 0, none⟩).run P w = .ok (.agg cs.toArray) w := by
  have hl : (loadCells ⟨g, 0, none⟩ cs.length).run P w = .ok cs.toArray w :=
    run_loadCells_list (P := P) w ⟨g, 0, none⟩ cs (fun j v hv => by
      have hadd : (⟨g, 0, none⟩ : Addr).add j = ⟨g, j, none⟩ := by unfold Addr.add; split <;> simp_all
      rw [hadd, cell_of_row w g j _ t fr hg, List.getElem?_toArray, List.getElem?_append_left (List.getElem?_eq_some_iff.mp hv).1]
      exact hv)
  cases hq : P.info? ty with
  | none => simp [hq] at hi
  | some i =>
    have hs : i.size = cs.length := by simpa [hq] using hi
    have hagg : (isAgg ty).run P w = .ok true w := by
      unfold isAgg
      rw [Sem.run_bind, run_underlying hu w]
      cases d <;> simp_all
    simp [loadVar, Sem.run_bind, hagg, sizeOf, typeInfo, hq, hs, hl]
theorem wpList_load_front {P : Program} {ops : Array Oper} {rs : List Oper} {o : Oper} {a : Act} {w : World} {Q : Exit → Act → World → Prop} (hgd : o.guard = none) (ty : TypeId) (x : Operand) (ho : o.op = .load ty x)
    (g : Nat) (hx : a.eval x = .pointer (some ⟨g, 0, none⟩)) (t : TypeId) (cs rest : List Value) (fr : Nat × Nat) (d : TypeDesc) (hg : w.heap[g]? = some (.cells (cs ++ rest).toArray t fr))
    (hu : P.underlying ty = some d) (hd : (match d with | .struct _ | .array _ _ => true | _ => false) = true) (hi : (P.info? ty).map (·.size) = some cs.length)
    (h : wpList P ops Q rs (a.put o.dst (.agg cs.toArray)) w) : wpList P ops Q (o :: rs) a w :=
  wpList_plain hgd fun K hK => by
    unfold Oper.wp execOp
    simp only [ho, hx, Instr.loadAt, Instr.sureAddr, Sem.run_bind, Sem.run_pure, Result.andThen_ok, run_load_front w g t ty cs rest fr d hg hu hd hi]
    exact hK _ _ h
/-- Of what was there only the block g has turned. -/
structure Wrote (g : Nat) (w w' : World) : Prop where
  os : w'.os = w.os
  tape : w'.tape = w.tape
  output : w'.output = w.output
  size : w.heap.size ≤ w'.heap.size
  block : ∀ k, k < w.heap.size → k ≠ g → w'.heap[k]? = w.heap[k]?
theorem Wrote.refl (g : Nat) (w : World) : Wrote g w w := ⟨rfl, rfl, rfl, Nat.le_refl _, fun _ _ _ => rfl⟩
theorem Wrote.of_below {g : Nat} {w w' : World} (h : Below w.heap.size w w') : Wrote g w w' := ⟨h.os, h.tape, h.output, h.size, fun k hk _ => h.block k hk⟩
theorem Wrote.trans {g : Nat} {a b c : World} (h : Wrote g a b) (k : Wrote g b c) : Wrote g a c :=
  ⟨k.os.trans h.os, k.tape.trans h.tape, k.output.trans h.output, Nat.le_trans h.size k.size, fun i hi hn => (k.block i (Nat.lt_of_lt_of_le hi h.size) hn).trans (h.block i hi hn)⟩
theorem Wrote.drew {g : Nat} {a b : World} (h : Wrote g a b) : Wrote g a b.drew := ⟨h.os, h.tape, h.output, h.size, h.block⟩
theorem Wrote.below {g : Nat} {B : Nat} {a b : World} (h : Wrote g a b) (hB : B ≤ g) (hs : B ≤ a.heap.size) : Below B a b := ⟨h.os, h.tape, h.output, h.size, fun k hk => h.block k (by omega) (by omega)⟩
theorem wrote_setCell {g : Nat} {a b : World} (h : Wrote g a b) (i : Nat) (u : Value) : Wrote g a (b.setCell ⟨g, i, none⟩ u) :=
  h.trans ⟨rfl, rfl, rfl, by simp [World.setCell], fun k hk hn => heap_setCell_other _ _ _ _ hn⟩
/-- Bytes that are read at an address. -/
def RC (w : World) (A : Option Addr) (l : List Int) : Prop := l ≠ [] → ∃ a, A = some a ∧ a.block < w.heap.size ∧ ∀ j : Nat, j < l.length → w.cell? (a.add j) = some (.int .u8 (bn l j))
/-- They lie in another block than g. -/
def Off (g : Nat) (A : Option Addr) : Prop := ∀ a, A = some a → a.block ≠ g
theorem add_block (a : Addr) (j : Nat) : (a.add j).block = a.block := by
  unfold Addr.add; split <;> rfl
theorem RC.of_C {w : World} {A : Option Addr} {l : List Int} (h : Kd.C (Kd.int .u8) w A l.length l) : RC w A l := by
  intro hl
  have h0 : 0 < l.length := List.length_pos_iff.mpr hl
  obtain ⟨a, rfl, hc⟩ := byte_at h 0 h0
  refine ⟨a, rfl, ?_, fun j hj => ?_⟩
  · have := block_lt_of_cell hc
    rwa [add_block] at this
  · obtain ⟨b, e, hx⟩ := byte_at h j hj
    cases e
    exact hx
theorem RC.to_C {w : World} {A : Option Addr} {l : List Int} (h : RC w A l) (hl : l.length ≤ 9223372036854775807) : Kd.C (Kd.int .u8) w A l.length l := by
  refine Kd.C_of_reads (d := (0 : Int)) (h1 := fun _ => rfl) ?_
  refine ⟨rfl, hl, fun hn => ?_⟩
  obtain ⟨a, e, _, hc⟩ := h (by intro e; subst e; simp at hn)
  refine ⟨a, e, fun j hj => ?_⟩
  rw [hc j hj]
  simp [bn, rd]
theorem RC.wrote {g : Nat} {w w' : World} {A : Option Addr} {l : List Int} (h : RC w A l) (hg : Off g A) (hw : Wrote g w w') : RC w' A l := by
  intro hl
  obtain ⟨a, rfl, hs, hc⟩ := h hl
  refine ⟨a, rfl, Nat.lt_of_lt_of_le hs hw.size, fun j hj => ?_⟩
  rw [World.cell?_of_block (w := w) (by rw [add_block]; exact hw.block _ hs (hg a rfl))]
  exact hc j hj
theorem RC.wrote' {g : Nat} {w w' : World} {A : Option Addr} {l : List Int} (h : RC w A l) (hg : l ≠ [] → Off g A) (hw : Wrote g w w') : RC w' A l := fun hl => (h.wrote (hg hl) hw) hl
theorem RC.off {g : Nat} {w : World} {A : Option Addr} {l : List Int} (h : RC w A l) (hg : w.heap.size ≤ g) : l ≠ [] → Off g A := by
  intro hl a ha
  obtain ⟨b, e, hb, _⟩ := h hl
  rw [ha] at e
  cases e
  omega
theorem RC.below {w w' : World} {A : Option Addr} {l : List Int} (h : RC w A l) (hw : Below w.heap.size w w') : RC w' A l := by
  intro hl
  obtain ⟨a, rfl, hs, hc⟩ := h hl
  refine ⟨a, rfl, Nat.lt_of_lt_of_le hs hw.size, fun j hj => ?_⟩
  rw [World.cell?_of_block (w := w) (by rw [add_block]; exact hw.block _ hs)]
  exact hc j hj
theorem RC.nil (w : World) (A : Option Addr) : RC w A [] := fun h => absurd rfl h
theorem bn_drop (l : List Int) (k j : Nat) : bn (l.drop k) j = bn l (k + j) := by
  unfold bn rd
  rw [Int.toNat_natCast, Int.toNat_natCast, List.getD_eq_getElem?_getD, List.getD_eq_getElem?_getD, List.getElem?_drop]
theorem bn_take (l : List Int) (k j : Nat) (h : j < k) : bn (l.take k) j = bn l j := by
  unfold bn rd
  rw [Int.toNat_natCast, List.getD_eq_getElem?_getD, List.getD_eq_getElem?_getD, List.getElem?_take, if_pos h]
theorem RC.drop {w : World} {a : Addr} {l : List Int} (h : RC w (some a) l) (k : Nat) : RC w (some (a.add k)) (l.drop k) := by
  intro hl
  have hlt : k < l.length := by
    rcases Nat.lt_or_ge k l.length with h | h
    · exact h
    · exact absurd (List.drop_eq_nil_of_le h) hl
  obtain ⟨b, e, hs, hc⟩ := h (by intro e; subst e; simp at hlt)
  cases e
  refine ⟨_, rfl, by rw [add_block]; exact hs, fun j hj => ?_⟩
  rw [Addr.add_add, bn_drop]
  exact hc (k + j) (by rw [List.length_drop] at hj; omega)
theorem RC.take {w : World} {A : Option Addr} {l : List Int} (h : RC w A l) (k : Nat) : RC w A (l.take k) := by
  intro hl
  obtain ⟨a, rfl, hs, hc⟩ := h (by intro e; subst e; simp at hl)
  refine ⟨a, rfl, hs, fun j hj => ?_⟩
  rw [List.length_take] at hj
  rw [bn_take l k j (by omega)]
  exact hc j (by omega)
/-- A new block that begins with bytes. -/
theorem RC.row {w : World} {g : Nat} {l : List Int} {rest : Array Value} {t : TypeId} {fr : Nat × Nat} (h : w.heap[g]? = some (.cells ((nums .u8 l).toArray ++ rest) t fr)) : RC w (some ⟨g, 0, none⟩) l := by
  intro _
  refine ⟨_, rfl, (Array.getElem?_eq_some_iff.1 h).1, fun j hj => ?_⟩
  have hadd : (⟨g, 0, none⟩ : Addr).add j = ⟨g, j, none⟩ := by unfold Addr.add; split <;> simp_all
  rw [hadd, cell_of_row w g j _ t fr h, Array.getElem?_append_left (by simpa [nums] using hj), List.getElem?_toArray]
  simp only [nums, List.getElem?_map]
  rw [List.getElem?_eq_getElem hj]
  simp [bn, rd, List.getD_eq_getElem?_getD, List.getElem?_eq_getElem hj]
theorem cells_of_RC {w : World} {a : Addr} {l : List Int} (h : RC w (some a) l) : ∀ j v, (nums .u8 l)[j]? = some v → w.cell? (a.add j) = some v := by
  intro j v hv
  have hj : j < l.length := by simpa [nums] using (List.getElem?_eq_some_iff.mp hv).1
  obtain ⟨b, e, _, hc⟩ := h (by intro e; subst e; simp at hj)
  cases e
  rw [hc j hj, ← hv]
  simp [nums, bn, rd, List.getD_eq_getElem?_getD, List.getElem?_eq_getElem hj]
abbrev TB : Nat := 24
theorem info5 : (Tryd.prog.info? 5).map (fun i => (i.zero, i.size, i.bytes)) = some (some (.int .u8 0), 1, 1) := by kernel_rfl
theorem bytes_drop {l : List Int} (h : Bytes l) (k : Nat) : Bytes (l.drop k) := fun j => by rw [bn_drop]; exact h _
theorem bytes_take {l : List Int} (h : Bytes l) (k : Nat) : Bytes (l.take k) := fun j => by
  by_cases hj : j < k
  · rw [bn_take l k j hj]; exact h j
  · unfold bn rd
    rw [Int.toNat_natCast, List.getD_eq_getElem?_getD, List.getElem?_take, if_neg hj]
    simp
theorem bytes_append {a b : List Int} (ha : Bytes a) (hb : Bytes b) : Bytes (a ++ b) := fun j => by
  by_cases hj : j < a.length
  · have : bn (a ++ b) j = bn a j := by
      unfold bn rd
      rw [Int.toNat_natCast, List.getD_eq_getElem?_getD, List.getElem?_append_left hj, List.getD_eq_getElem?_getD]
    rw [this]; exact ha j
  · have : bn (a ++ b) j = bn b (j - a.length) := by
      unfold bn rd
      rw [Int.toNat_natCast, Int.toNat_natCast, List.getD_eq_getElem?_getD, List.getElem?_append_right (by omega), List.getD_eq_getElem?_getD]
    rw [this]; exact hb _
/-- The slice v holds just these bytes, in a block from base on. -/
def OWN (w : World) (base : Nat) (v : Value) (l : List Int) : Prop := Kd.R (Kd.int .u8) 5 w base (fun _ => True) v l
theorem OWN.none (w : World) (base : Nat) : OWN w base (.slice none 0 0) [] := Kd.R_nil _ _ _ _ _
theorem OWN.form {w : World} {base : Nat} {v : Value} {l : List Int} (h : OWN w base v l) : ∃ A c, v = .slice A l.length c ∧ l.length ≤ c ∧ RC w A l ∧ (∀ a, A = some a → base ≤ a.block ∧ a.block < w.heap.size) := by
  obtain ⟨A, c, rfl⟩ := Kd.R_slice h
  have hr := Kd.R_reads' h
  exact ⟨A, c, rfl, hr.2.1, RC.of_C hr.2.2, fun a e => ⟨Kd.R_base h a.block (by rw [e]; rfl), Kd.R_lt h a.block (by rw [e]; rfl)⟩⟩
theorem OWN.alloc {w : World} {base : Nat} {v : Value} {l : List Int} (h : OWN w base v l) (o : Obj) : OWN (w.alloc o) base v l := Kd.R_alloc h o
theorem OWN.drew {w : World} {base : Nat} {v : Value} {l : List Int} (h : OWN w base v l) : OWN w.drew base v l := Kd.R_drew h
theorem OWN.below {w w' : World} {base : Nat} {v : Value} {l : List Int} (h : OWN w base v l) (hb : Below w.heap.size w w') : OWN w' base v l := Kd.R_below h hb
theorem bytes_new (W : World) (e : TypeId) (l : List Int) (fz : Nat × Nat) : RC (W.alloc (.cells (nums .u8 l).toArray e fz)) (some ⟨W.heap.size, 0, none⟩) l := by
  refine RC.row (g := W.heap.size) (t := e) (fr := fz) (rest := #[]) ?_
  rw [Array.append_empty]; exact blk_new _ _
theorem own_append {ops : Array Oper} {rs : List Oper} {o : Oper} {a : Act} {w0 w : World} {Q : Exit → Act → World → Prop} (hgd : o.guard = none) (s x : Operand)
    (ho : o.op = .call { callee := .builtin .append, args := #[s, x], argTypes := #[TB, TB] }) (base : Nat) (v : Value) (l m : List Int) (A : Option Addr) (c : Nat) (hs : a.eval s = v) (hx : a.eval x = .slice A m.length c)
    (HO : OWN w base v l) (HR : RC w A m) (HB : Below base w0 w) (hbase : base ≤ w.heap.size) (hl : l.length + m.length ≤ 100000000)
    (h : ∀ v1 w1, OWN w1 base v1 (l ++ m) → Below base w0 w1 → w.grownBy w1 v.ownBlock → wpList Tryd.prog ops Q rs (a.put o.dst v1) w1) : wpList Tryd.prog ops Q (o :: rs) a w := by
  refine Kd.R_append_rows (Kd.int .u8) (w0 := w0) base hgd s x TB 5 (.int .u8 0) 1 ho Tryd.underlying24 info5 rfl (by decide) (by omega) v l m A m.length c (fun _ => True) (fun _ => False) hs hx HO (HR.to_C (by omega)) (fun _ _ h => h) (fun _ h => h.elim) (fun _ _ => trivial) HB hbase (by omega) ?_
  intro v1 w1 h1 h2 h3 _
  exact h v1 w1 h1 h2 h3
theorem own_append_step {ops : Array Oper} {o : Oper} {a : Act} {w0 w : World} {K : Act → World → Prop} {Q : Exit → Act → World → Prop} (hw : Region.wanted o (yielded ops a.tmps) = true) (s x : Operand)
    (ho : o.op = .call { callee := .builtin .append, args := #[s, x], argTypes := #[TB, TB] }) (base : Nat) (v : Value) (l m : List Int) (A : Option Addr) (c : Nat) (hs : a.eval s = v) (hx : a.eval x = .slice A m.length c)
    (HO : OWN w base v l) (HR : RC w A m) (HB : Below base w0 w) (hbase : base ≤ w.heap.size) (hl : l.length + m.length ≤ 100000000)
    (h : ∀ v1 w1, OWN w1 base v1 (l ++ m) → Below base w0 w1 → w.grownBy w1 v.ownBlock → K (a.put o.dst v1) w1) :
    if Region.wanted o (yielded ops a.tmps) = true then Oper.wp Tryd.prog o a w K Q else K (a.put o.dst undef) w := by
  refine Kd.R_append_rows_step (Kd.int .u8) (w0 := w0) base hw s x TB 5 (.int .u8 0) 1 ho Tryd.underlying24 info5 rfl (by decide) (by omega) v l m A m.length c (fun _ => True) (fun _ => False) hs hx HO (HR.to_C (by omega)) (fun _ _ h => h) (fun _ h => h.elim) (fun _ _ => trivial) HB hbase (by omega) ?_
  intro v1 w1 h1 h2 h3 _
  exact h v1 w1 h1 h2 h3
theorem own_zeros {ops : Array Oper} {rs : List Oper} {o : Oper} {a : Act} {w0 w : World} {Q : Exit → Act → World → Prop} (hgd : o.guard = none) (s x : Operand)
    (ho : o.op = .call { callee := .builtin .append, args := #[s, x], argTypes := #[TB, 3] }) (base : Nat) (v : Value) (l : List Int) (n : Nat) (hs : a.eval s = v) (hx : a.eval x = .int .i64 (n : Int))
    (HO : OWN w base v l) (HB : Below base w0 w) (hbase : base ≤ w.heap.size) (hl : l.length + n ≤ 100000000)
    (h : ∀ v1 w1, OWN w1 base v1 (l ++ List.replicate n 0) → Below base w0 w1 → w.grownBy w1 v.ownBlock → wpList Tryd.prog ops Q rs (a.put o.dst v1) w1) : wpList Tryd.prog ops Q (o :: rs) a w := by
  refine Kd.R_append_zeros (Kd.int .u8) (w0 := w0) base hgd s x TB 3 5 (.int .u8 0) 1 ho Tryd.underlying24 (k := .i64) Tryd.underlying3 info5 rfl (by decide) (by omega) v l 0 (n : Int) (fun _ => True) hs hx rfl (fun _ _ => trivial) HO (by omega) HB hbase (by rw [Int.toNat_natCast]; omega) ?_
  intro v1 w1 h1 h2 h3 _
  rw [Int.toNat_natCast] at h1
  exact h v1 w1 h1 h2 h3
theorem own_lit {ops : Array Oper} {rs : List Oper} {o : Oper} {a : Act} {w0 w : World} {Q : Exit → Act → World → Prop} (base : Nat) (hgd : o.guard = none) {N : Tmp} (hd : o.dst = some N) (l : List Int)
    (hrun : (execOp a.eval o).run Tryd.prog w = .ok (.value (.slice (some ⟨w.heap.size, 0, none⟩) l.length l.length)) (w.alloc (.cells (nums .u8 l).toArray 5)))
    (HB : Below base w0 w) (hbase : base ≤ w.heap.size) (hm : l.length ≤ 9223372036854775807)
    (h : ∀ v1 w1, OWN w1 base v1 l → Below base w0 w1 → w.grownBy w1 none → wpList Tryd.prog ops Q rs (a.put o.dst v1) w1) : wpList Tryd.prog ops Q (o :: rs) a w := by
  refine Kd.R_lit (Kd.int .u8) (w0 := w0) base 5 hgd hd (xs := l) (inner := nums .u8 l) (ok := fun _ => True) (okp := fun _ => True) hrun ?_ (fun _ h => h) trivial HB hbase hm ?_
  · refine ⟨by show (nums .u8 l).length = l.length * 1; simp [nums], fun j x hx => ?_⟩
    obtain ⟨hj, rfl⟩ := List.getElem?_eq_some_iff.mp hx
    show ((nums .u8 l).drop (j * 1)).take 1 = [.int .u8 l[j]]
    rw [Nat.mul_one, List.drop_eq_getElem_cons (by simpa [nums] using hj)]
    simp [nums]
  · intro v1 w1 h1 h2 h3 _
    exact h v1 w1 h1 h2 h3
theorem bytes_one (l : List Int) : (nums .u8 l).toArray.all (·.oneCell') = true := by
  rw [Array.all_eq_true_iff_forall_mem]
  intro v hv
  simp only [nums, List.mem_toArray, List.mem_map] at hv
  obtain ⟨n, _, rfl⟩ := hv
  rfl
theorem run_index_nums8 {P : Program} (t e : TypeId) (n : Nat) (l : List Int) (i : Nat) (w : World) (ht : P.underlying t = some (.array n e)) (he : P.underlying e = some (.int .u8)) (hs : (P.info? e).map (·.size) = some 1) (hl : l.length = n) (hi : i < n) :
    (Instr.index t (.agg (nums .u8 l).toArray) (.int .i64 (i : Int))).run P w = .ok (.int .u8 (bn l i)) w := by
  cases hq : P.info? e with
  | none => simp [hq] at hs
  | some f =>
    have hf : f.size = 1 := by simpa [hq] using hs
    have hagg : (isAgg e).run P w = .ok false w := by
      unfold isAgg
      rw [Sem.run_bind, run_underlying he w]
      rfl
    have hc : (nums .u8 l)[i]? = some (.int .u8 (bn l i)) := by
      unfold bn rd
      simp only [nums, List.getElem?_map]
      rw [List.getElem?_eq_getElem (by omega), Int.toNat_natCast, List.getD_eq_getElem?_getD, List.getElem?_eq_getElem (by omega)]
      rfl
    simp [Instr.index, asIntOf, Sem.run_bind, run_underlying ht w, hagg, part, sizeOf, typeInfo, hq, hf, hc, hi]
theorem info1 : (Tryd.prog.info? 5).map (·.size) = some 1 := by kernel_rfl
theorem cells8 {w : World} {b : Nat} {l : List Int} {t : TypeId} (h : w.heap[b]? = some (.cells (nums .u8 l).toArray t (0, 0))) (j : Nat) (hj : j < l.length) : w.cell? ⟨b, j, none⟩ = some (.int .u8 (bn l j)) := by
  rw [blk_cell h, List.getElem?_toArray]
  unfold bn rd
  simp only [nums, List.getElem?_map]
  rw [List.getElem?_eq_getElem hj, Int.toNat_natCast, List.getD_eq_getElem?_getD, List.getElem?_eq_getElem hj]
  rfl
theorem exec_load {P : Program} {o : Oper} {a : Act} {w : World} {ty : TypeId} {x : Operand} {g : Addr} {v : Value} (ho : o.op = .load ty x) (hx : a.eval x = .pointer (some g)) (h : (loadVar ty g).run P w = .ok v w) : (execOp a.eval o).run P w = .ok (.value v) w := by
  unfold execOp
  simp only [ho, hx, Instr.loadAt, Instr.sureAddr, Sem.run_bind, Sem.run_pure, Result.andThen_ok, h]
theorem exec_store_row {P : Program} {o : Oper} {a : Act} {w : World} {ty : TypeId} {x y : Operand} {g : Nat} {cells : Array Value} {t : TypeId} {old : Array Value} (ho : o.op = .store ty x y) (hx : a.eval x = .pointer (some ⟨g, 0, none⟩)) (hy : a.eval y = .agg cells)
    (hg : w.heap[g]? = some (.cells old t (0, 0))) (hi : (P.info? ty).map (·.size) = some cells.size) (hold : old.size = cells.size) (h1 : cells.all (·.oneCell') = true) : (execOp a.eval o).run P w = .ok .skip (w.setRow g cells) := by
  unfold execOp
  simp only [ho, hx, hy, Instr.storeAt, Instr.sureAddr, Sem.run_bind, Sem.run_pure, Result.andThen_ok, run_storeVar_row w g t ty old cells hg hi hold h1]
theorem all_bn_eq : ∀ (xs ys : List Int), xs.length = ys.length → ((List.range xs.length).all fun i => xs.getD i 0 == ys.getD i 0) = (xs == ys)
  | [], [], _ => rfl
  | x :: xs, y :: ys, h => by
    have ih := all_bn_eq xs ys (by simpa using h)
    rw [List.length_cons, List.range_succ_eq_map, List.all_cons, List.all_map]
    simp only [List.getD_cons_zero, Function.comp_def, List.getD_cons_succ, ih]
    simp [List.cons_beq_cons]
  | [], _ :: _, h => by simp at h
  | _ :: _, [], h => by simp at h
theorem run_equalIn_nums8 {P : Program} (w : World) (d : Nat) (t e : TypeId) (n : Nat) (ht : P.underlying t = some (.array n e)) (he : P.underlying e = some (.int .u8)) (hsz : ∀ w, (sizeOf e).run P w = .ok 1 w)
    (xs ys : List Int) (hx : xs.length = n) (hy : ys.length = n) :
    (Op.equalIn (d + 2) t (.agg (nums .u8 xs).toArray) (.agg (nums .u8 ys).toArray)).run P w = .ok (xs == ys) w := by
  rw [← all_bn_eq xs ys (hx.trans hy.symm), hx, List.range_eq_range', Op.equalIn]
  simp only [Sem.run_bind, run_underlying ht, Result.andThen_ok, hsz, Std.Legacy.Range.forIn_eq_forIn_range', Std.Legacy.Range.size, Nat.sub_zero, Nat.add_sub_cancel, Nat.div_one]
  have hl : ∀ i ∈ List.range' 0 n 1, i < n := fun i hi => by simpa using (List.mem_range'_1.1 hi).2
  generalize List.range' 0 n 1 = l at hl ⊢
  induction l with
  | nil => simp
  | cons i l ih =>
    have hi : i < n := hl i (by simp)
    have px : (part e (nums .u8 xs).toArray (i * 1)).run P w = .ok (.int .u8 (xs.getD i 0)) w := by
      simp [part, isAgg, run_underlying he, List.getD, nums, List.getElem?_eq_getElem (show i < xs.length by omega)]
    have py : (part e (nums .u8 ys).toArray (i * 1)).run P w = .ok (.int .u8 (ys.getD i 0)) w := by
      simp [part, isAgg, run_underlying he, List.getD, nums, List.getElem?_eq_getElem (show i < ys.length by omega)]
    have pe : (Op.equalIn (d + 1) e (.int .u8 (xs.getD i 0)) (.int .u8 (ys.getD i 0))).run P w = .ok (xs.getD i 0 == ys.getD i 0) w := run_equalIn_int w d e .u8 .u8 _ _ he
    simp only [List.forIn_cons, Sem.run_bind, px, py, pe, Result.andThen_ok, List.all_cons]
    cases hb : (xs.getD i 0 == ys.getD i 0)
    · simp
    · simp only [Bool.not_true, Bool.false_eq_true, if_false, Sem.run_pure, Result.andThen_ok, Bool.true_and]
      exact ih fun j hj => hl j (by simp [hj])
theorem sizeB (w : World) : (sizeOf 5).run Tryd.prog w = .ok 1 w := by
  obtain ⟨i, hi, _, hsz, _⟩ := info_parts info5
  simp [sizeOf, typeInfo, hi, hsz]
theorem bn_getD (l : List Int) (j : Nat) : bn l j = l.getD j 0 := by unfold bn rd; rw [Int.toNat_natCast]
theorem bytes_of_mem {l : List Int} (h : ∀ x ∈ l, 0 ≤ x ∧ x ≤ 255) : Bytes l := by
  intro j
  rw [bn_getD, List.getD_eq_getElem?_getD]
  cases hj : l[j]? with
  | none => simp
  | some x => exact h x (List.mem_of_getElem? hj)
theorem mem_of_bytes {l : List Int} (h : Bytes l) : ∀ x ∈ l, 0 ≤ x ∧ x ≤ 255 := by
  intro x hx
  obtain ⟨j, hj, rfl⟩ := List.mem_iff_getElem.mp hx
  have := h j
  rwa [bn_getD, List.getD_eq_getElem?_getD, List.getElem?_eq_getElem hj] at this
theorem bytes_nil : Bytes [] := fun j => by simp [bn, rd]
/-- What lies behind a place in bytes. -/
theorem run_cutB (A : Option Addr) (n c p : Nat) (hp : p ≤ n) (hc : n ≤ c) (hn : n ≤ 9223372036854775807) :
    ∃ A', (∀ W : World, (Instr.slice TB (.slice A n c) (some (.int .i64 (p : Int))) none none).run Tryd.prog W = .ok (.slice A' (n - p) (c - p)) W) ∧ ∀ w l, n = l.length → RC w A l → RC w A' (l.drop p) := by
  obtain ⟨i, hi, hz, hsz, hby⟩ := info_parts info5
  obtain ⟨A', h1, h2⟩ := print_cut (P := Tryd.prog) TB 5 .i64 Tryd.underlying24 hi hsz A n c p hp
  refine ⟨A', h1, fun w l hl h => ?_⟩
  subst hl
  have h3 : ReadsInt w .u8 A l.length l := ⟨rfl, hn, fun h0 => by
    obtain ⟨ad, e, _, hcell⟩ := h (by intro e; subst e; simp at h0)
    refine ⟨ad, e, fun j hj => ?_⟩
    rw [hcell j hj, bn_getD]⟩
  have h4 := h2 w .u8 l hc h3
  intro hne
  have h0 : 0 < (l.drop p).length := List.length_pos_iff.mpr hne
  obtain ⟨ad, e, hcell⟩ := h4.2.2 (by rw [List.length_drop] at h0; exact h0)
  refine ⟨ad, e, ?_, fun j hj => ?_⟩
  · have := block_lt_of_cell (hcell 0 (by rw [List.length_drop] at h0; exact h0))
    rwa [Byt.add_block] at this
  · rw [hcell j (by rw [List.length_drop] at hj; exact hj), bn_getD]
theorem run_takeB (A : Option Addr) (n c p : Nat) (hp : p ≤ c) (hc : n ≤ c) :
    ∀ W : World, (Instr.slice TB (.slice A n c) none (some (.int .i64 (p : Int))) none).run Tryd.prog W = .ok (.slice A p c) W := by
  intro W
  have hel : Tryd.prog.elem TB = 5 := by simp [Program.elem, Tryd.underlying24]
  have hu : Tryd.prog.underlying TB = some (.slice (Tryd.prog.elem TB)) := by rw [hel]; exact Tryd.underlying24
  obtain ⟨i, hi, hz, hsz, hby⟩ := info_parts info5
  rw [run_slice_h W TB A n c hu .i64 (p : Int) (Int.natCast_nonneg _) (by omega), hel]
  have h0 : A.map (fun x => x.add 0) = A := by cases A <;> simp [Addr.add]
  simp [sizeOf, typeInfo, hi, hsz, sliced, Result.andThen, h0]
/-- An element of whole numbers that are read. -/
theorem int_at {w : World} {k : IntKind} {ad : Addr} {n : Nat} {l : List Int} (h : Kd.C (Kd.int k) w (some ad) n l) (j : Nat) (hj : j < l.length) : ∃ x, l[j]? = some x ∧ w.cell? (ad.add j) = some (.int k x) := by
  obtain ⟨ad', e, hc⟩ := h.2.2 (by have := h.1; omega)
  cases e
  obtain ⟨c, _, h2, h3⟩ := hc j _ (List.getElem?_eq_getElem hj)
  refine ⟨l[j], List.getElem?_eq_getElem hj, ?_⟩
  have h2' : c = [.int k l[j]] := h2
  have := h3 0 (.int k l[j]) (by rw [h2']; rfl)
  simpa [Kd.int, Kd.scalar] using this
theorem int_none {w : World} {k : IntKind} {l : List Int} (h : Kd.C (Kd.int k) w none l.length l) : l.length = 0 := by
  rcases Nat.eq_zero_or_pos l.length with h0 | h0
  · exact h0
  · obtain ⟨ad, e, _⟩ := h.2.2 h0
    cases e
/-- The place of an element, whatever the slice's address. -/
theorem int_place {w : World} {T E : TypeId} {k : IntKind} {A : Option Addr} {n c : Nat} {l : List Int} (ht : Tryd.prog.underlying T = some (.slice E)) (hs : (Tryd.prog.info? E).map (·.size) = some 1) (h : Kd.C (Kd.int k) w A n l) (j : Nat) (hj : j < n) :
    ∃ (a : Addr) (x : Int), l[j]? = some x ∧ a.block < w.heap.size ∧ w.cell? a = some (.int k x) ∧ ∀ W : World, (Instr.indexAt T (.slice A n c) (.int .i64 (j : Int))).run Tryd.prog W = .ok (.pointer (some a)) W := by
  have hln : l.length = n := h.1
  rcases A with _ | ad
  · obtain ⟨ad, e, _⟩ := h.2.2 (by omega)
    cases e
  · obtain ⟨x, h1, h2⟩ := int_at h j (by omega)
    refine ⟨ad.add j, x, h1, ?_, h2, fun W => ?_⟩
    · exact block_lt_of_cell h2
    · obtain ⟨i, hi, hsz⟩ := Option.map_eq_some_iff.1 hs
      simp [Instr.indexAt, run_underlying ht, asIntOf, sizeOf, typeInfo, hi, hsz, hj, Sem.run_bind]
end Go.Proofs.YthmcigdkopadjaaDoor.Byt
end

/- Numbers put behind bytes, the greatest byte first: the Go program's lay, behind a constant's bytes too. -/
section
namespace Go.Proofs.YthmcigdkopadjaaDoor.Lay6
open Go.Proofs.YthmcigdkopadjaaDoor Go.RowKit Go.Proofs.YthmcigdkopadjaaDoorW.PrintWords Go.Proofs.YthmcigdkopadjaaDoorW.PrintLast Go.Proofs.YthmcigdkopadjaaDoorW.PrintMore Go.Proofs.YthmcigdkopadjaaDoor.Byt
set_option linter.unusedVariables false
set_option linter.unusedSimpArgs false
/-- A row of one's own, or one that is read and full: what is put behind it goes elsewhere. -/
def ROW (w : World) (base : Nat) (v : Value) (l : List Int) : Prop := OWN w base v l ∨ ∃ a, v = .slice (some a) l.length l.length ∧ RC w (some a) l
theorem row_append {ops : Array Oper} {rs : List Oper} {o : Oper} {a : Act} {w0 w : World} {Q : Exit → Act → World → Prop} (hgd : o.guard = none) (s x : Operand)
    (ho : o.op = .call { callee := .builtin .append, args := #[s, x], argTypes := #[TB, TB] }) (base : Nat) (v : Value) (l m : List Int) (g : Nat) (c : Nat) (hs : a.eval s = v) (hx : a.eval x = .slice (some ⟨g, 0, none⟩) m.length c)
    (HO : ROW w base v l) (HR : RC w (some ⟨g, 0, none⟩) m) (hm : 0 < m.length) (HB : Below base w0 w) (hbase : base ≤ w.heap.size) (hl : l.length + m.length ≤ 100000000)
    (h : ∀ v1 w1, OWN w1 base v1 (l ++ m) → Below base w0 w1 → w.heap.size ≤ w1.heap.size → wpList Tryd.prog ops Q rs (a.put o.dst v1) w1) : wpList Tryd.prog ops Q (o :: rs) a w := by
  rcases HO with HO | ⟨ad, rfl, hr⟩
  · exact own_append hgd s x ho base v l m _ c hs hx HO HR HB hbase hl fun v1 w1 h1 h2 h3 => h v1 w1 h1 h2 h3.size
  · obtain ⟨i, hi, he⟩ := Option.map_eq_some_iff.1 info5
    simp only [Prod.mk.injEq] at he
    have hnl : (nums .u8 l).length = l.length := by simp [nums]
    have hnm : (nums .u8 m).length = m.length := by simp [nums]
    have hrun := run_append_grow (P := Tryd.prog) w TB o.type 5 i (.int .u8 0) Tryd.underlying24 hi he.1 ad l.length l.length (nums .u8 l) (by rw [he.2.1, hnl]; omega) (cells_of_RC hr) ⟨g, 0, none⟩ m.length c (nums .u8 m) (by rw [he.2.1, hnm]; omega) (cells_of_RC HR) (by omega) (by omega) (growslice_fits (by omega) (by rw [he.2.2]; omega))
    refine wpList_plain hgd fun _ hK => ?_
    unfold Oper.wp execOp
    simp only [ho, resolve, invoke, builtin, Sem.run_bind, Sem.run_pure, Result.andThen_ok, List.map_toArray, List.map_cons, List.map_nil, hs, hx, hrun]
    refine hK _ _ (h _ _ ?_ (HB.drew.alloc hbase _) (by simp))
    have hge := grownCap_ge w (l.length + m.length) l.length 5
    refine Kd.R_of_own ?_ (fun _ _ => trivial)
    refine ⟨by simp [encs], .inr ⟨w.heap.size, _, _, by rw [List.length_append], hbase, heap_alloc_new w.drew _, by rw [List.length_append]; exact hge, grownCap_le_maxLen w _ _ 5 (by show l.length + m.length ≤ maxLen; simp only [maxLen]; omega), ?_, ?_⟩⟩
    · simp only [Array.size_append, List.size_toArray, size_zeroCells, hnl, hnm, Value.cells, List.length_cons, List.length_nil]
      simp
      omega
    · simp only [Array.toList_append, List.append_assoc]
      rw [← List.append_assoc]
      have e : (nums .u8 l ++ nums .u8 m) = encs (Value.int .u8) (l ++ m) := by simp [nums, encs]
      rw [e]
      refine List.take_left' ?_
      simp [encs]
/-- So many bytes of a number, the greatest first. -/
def be (x : Int) : Nat → List Int
  | 0 => []
  | c + 1 => be (x / 256) c ++ [x % 256]
theorem ROW.alloc {w : World} {base : Nat} {v : Value} {l : List Int} (h : ROW w base v l) (o : Obj) : ROW (w.alloc o) base v l := by
  rcases h with h | ⟨a, rfl, h⟩
  · exact .inl (h.alloc o)
  · exact .inr ⟨a, rfl, h.below ((Below.refl w.heap.size w).alloc (Nat.le_refl _) o)⟩
theorem p256 (j : Nat) : (2 : Int) ^ (8 * j) = 256 ^ j := by rw [Int.pow_mul]; rfl
theorem be_len (x : Int) : ∀ n, (be x n).length = n
  | 0 => rfl
  | n + 1 => by show (be (x / 256) n ++ [x % 256]).length = n + 1; rw [List.length_append, be_len _ n]; rfl
theorem be_next (x : Int) (j n : Nat) : be (x / 256 ^ (j + 1)) n ++ [x / 256 ^ j % 256] = be (x / 256 ^ j) (n + 1) := by
  show _ = be (x / 256 ^ j / 256) n ++ [x / 256 ^ j % 256]
  rw [Int.ediv_ediv_of_nonneg (Int.pow_nonneg (by decide)), ← Int.pow_succ]
set_option maxRecDepth 100000 in
set_option maxHeartbeats 4000000 in
theorem lay_one (base : Nat) (w0 : World) (v : Value) (l R : List Int) (x : Int) (si : Int) (sz : Nat) (hsi : si = (sz : Int)) (g : Nat) (W : World) (hR : R = l ++ be x sz) (hs1 : 1 ≤ sz) (hs : sz ≤ 8) (hx0 : 0 ≤ x ∧ x < 18446744073709551616) (hll : l.length ≤ 100000)
    (ho : ROW W base v l) (hb : Below base w0 W) (hbase : base ≤ W.heap.size) (hg : W.heap[g]? = some (.cells #[.int .u64 x] 22 (0, 0))) :
    Calls Tryd.prog 17 #[v, .int .i64 si, .slice (some ⟨g, 0, none⟩) 1 1] W fun e w' => ∃ v', e = .returned v' ∧ OWN w' base v' R ∧ Below base w0 w' ∧ W.heap.size ≤ w'.heap.size := by
  subst hsi
  have HO := Lib.hid ho
  have HB := Lib.hid hb
  have HR := Lib.hid hR
  have hcell : W.cell? ⟨g, 0, none⟩ = some (.int .u64 x) := by rw [blk_cell hg]; rfl
  clear ho hb hR
  go_enter Tryd.func17, Tryd.ntmps17
  go_wp2
  go_loopw [0, 8, 9, 12] (fun v0 v8 v9 v12 wr => (v12 = .int .i64 0 ∧ W = wr ∧ v = v0) ∨ (v12 = .int .i64 1 ∧ OWN wr base v0 R ∧ Below base w0 wr ∧ W.heap.size ≤ wr.heap.size)) (fun _ _ _ v12 _ => 2 - (intOf v12).toNat)
  case atStart => exact .inl ⟨rfl, rfl, rfl⟩
  case round =>
    rcases hrel with ⟨rfl, rfl, rfl⟩ | ⟨rfl, ho, hb, hz⟩
    · go_wp2
      go_loopw [0, 9] (fun v0 v9 wr => ∃ (j : Nat), j ≤ sz ∧ v9 = .int .i64 ((j : Int) - 1) ∧ ROW wr base v0 (l ++ be (x / 256 ^ j) (sz - j)) ∧ (j < sz → OWN wr base v0 (l ++ be (x / 256 ^ j) (sz - j))) ∧ Below base w0 wr ∧ wr.heap.size ≥ W.heap.size) (fun _ v9 _ => (intOf v9 + 1).toNat)
      case atStart => exact ⟨sz, Nat.le_refl _, rfl, by rw [Nat.sub_self]; show ROW W base v (l ++ []); rw [List.append_nil]; exact HO.out, fun h => absurd h (Nat.lt_irrefl _), HB.out, Nat.le_refl _⟩
      case round =>
        obtain ⟨j, hj, rfl, ho, ho2, hb, hz⟩ := hrel
        have HO1 := Lib.hid ho
        have HO2 := Lib.hid ho2
        have HB1 := Lib.hid hb
        clear ho ho2 hb
        cases j with
        | zero =>
          have HE := Lib.hid (HO2.out (by omega))
          have hlt : ¬ ((((0 : Nat) : Int) - 1) ≥ 0) := by omega
          go_wp2
          go_roundw
          case rel =>
            refine .inr ⟨rfl, ?_, HB1.out, hz⟩
            have := HE.out
            rw [Int.pow_zero, Int.ediv_one, Nat.sub_zero, ← HR.out] at this
            exact this
          case measure => simp [intOf]
        | succ j =>
          have hge : ((((j + 1 : Nat) : Int) - 1) ≥ 0) := by omega
          have hl := be_len (x / 256 ^ (j + 1)) (sz - (j + 1))
          go_wp2_with ((with_reducible refine gate_builtin (b := .append) (xs := #[.tmp 22, .tmp 28]) rfl ?_); go_loud (refine row_append (w0 := w0) rfl (.tmp 22) (.tmp 28) rfl base u0 _ [x / 2 ^ (8 * j) % 256] _ _ rfl rfl (HO1.out.alloc _) (bytes_new wr 5 [x / 2 ^ (8 * j) % 256] (0, 0)) (by simp) (HB1.out.alloc (Nat.le_trans hbase hz) _) (by simp; omega) (by rw [List.length_append, hl]; simp; omega) ?_); intro v1 w1 ho1 hb1 hz1; have HO3 := Lib.hid ho1; have HB3 := Lib.hid hb1; have HZ3 := Lib.hid (show w1.heap.size ≥ W.heap.size by simp at hz1; omega); clear ho1 hb1 hz1)
          go_roundw
          case rel =>
            have h3 := HO3.out
            rw [p256, List.append_assoc, be_next, show sz - (j + 1) + 1 = sz - j by omega] at h3
            exact ⟨j, by omega, by go_num, .inl h3, fun _ => h3, HB3.out, HZ3.out⟩
          case measure => simp [intOf]
    · go_wp2
      go_ret
      exact ⟨_, rfl, ho, hb, hz⟩
/-- A row of one's own that does not lie in block g. -/
def OWNO (g : Nat) (w : World) (base : Nat) (v : Value) (l : List Int) : Prop := Kd.R (Kd.int .u8) 5 w base (fun k => k ≠ g) v l
theorem OWNO.own {g : Nat} {w : World} {base : Nat} {v : Value} {l : List Int} (h : OWNO g w base v l) : OWN w base v l := Kd.R_mono h (fun _ _ => trivial)
theorem own_append_o {ops : Array Oper} {rs : List Oper} {o : Oper} {a : Act} {w0 w : World} {Q : Exit → Act → World → Prop} (g0 : Nat) (hgd : o.guard = none) (s x : Operand)
    (ho : o.op = .call { callee := .builtin .append, args := #[s, x], argTypes := #[TB, TB] }) (base : Nat) (v : Value) (l m : List Int) (A : Option Addr) (c : Nat) (hs : a.eval s = v) (hx : a.eval x = .slice A m.length c)
    (HO : OWNO g0 w base v l) (hg0 : g0 < w.heap.size) (HR : RC w A m) (HB : Below base w0 w) (hbase : base ≤ w.heap.size) (hl : l.length + m.length ≤ 100000000)
    (h : ∀ v1 w1, OWNO g0 w1 base v1 (l ++ m) → Below base w0 w1 → w.heap.size ≤ w1.heap.size → w1.heap[g0]? = w.heap[g0]? → wpList Tryd.prog ops Q rs (a.put o.dst v1) w1) : wpList Tryd.prog ops Q (o :: rs) a w := by
  refine Kd.R_append_rows (Kd.int .u8) (w0 := w0) base hgd s x TB 5 (.int .u8 0) 1 ho Tryd.underlying24 info5 rfl (by decide) (by omega) v l m A m.length c (fun k => k ≠ g0) (fun _ => False) hs hx HO (HR.to_C (by omega)) (fun _ _ h => h) (fun _ h => h.elim) (fun k hk e => by omega) HB hbase (by omega) ?_
  intro v1 w1 h1 h2 h3 _
  exact h v1 w1 h1 h2 h3.size (h3.block g0 hg0 (fun e => HO.1 g0 e.symm rfl))
set_option maxRecDepth 100000 in
set_option maxHeartbeats 4000000 in
theorem lay_two (base : Nat) (w0 : World) (v : Value) (l R : List Int) (x y : Int) (g : Nat) (W : World) (hR : R = l ++ [x % 256, y % 256]) (hx0 : 0 ≤ x ∧ x < 18446744073709551616) (hy0 : 0 ≤ y ∧ y < 18446744073709551616) (hll : l.length ≤ 100000)
    (ho : OWNO g W base v l) (hb : Below base w0 W) (hbase : base ≤ W.heap.size) (hg : W.heap[g]? = some (.cells #[.int .u64 x, .int .u64 y] 22 (0, 0))) :
    Calls Tryd.prog 17 #[v, .int .i64 1, .slice (some ⟨g, 0, none⟩) 2 2] W fun e w' => ∃ v', e = .returned v' ∧ OWN w' base v' R ∧ Below base w0 w' ∧ W.heap.size ≤ w'.heap.size := by
  have HO := Lib.hid ho
  have HB := Lib.hid hb
  have HR := Lib.hid hR
  have HG := Lib.hid hg
  clear ho hb hR hg
  go_enter Tryd.func17, Tryd.ntmps17
  go_wp2
  go_loopw [0, 8, 9, 12] (fun v0 v8 v9 v12 wr => ∃ (k : Nat), k ≤ 2 ∧ v12 = .int .i64 (k : Int) ∧ OWNO g wr base v0 (l ++ [x % 256, y % 256].take k) ∧ Aside0 (wr.heap[g]? = some (.cells #[.int .u64 x, .int .u64 y] 22 (0, 0))) ∧ Below base w0 wr ∧ W.heap.size ≤ wr.heap.size) (fun _ _ _ v12 _ => 2 - (intOf v12).toNat)
  case atStart => exact ⟨0, by omega, rfl, by simpa using HO.out, ⟨HG.out⟩, HB.out, Nat.le_refl _⟩
  case round =>
    obtain ⟨k, hk, rfl, ho, hgr, hb, hz⟩ := hrel
    have HO1 := Lib.hid ho
    have HG1 := Lib.hid hgr.out
    have HB1 := Lib.hid hb
    clear ho hgr hb
    by_cases hlt : k < 2
    · obtain ⟨z, hzz⟩ : ∃ z, z = (if k = 0 then x else y) := ⟨_, rfl⟩
      have hcell : wr.cell? ⟨g, k, none⟩ = some (.int .u64 z) := by
        rw [blk_cell HG1.out, hzz]
        match k, hlt with
        | 0, _ => rfl
        | 1, _ => rfl
      have hz0 : 0 ≤ z ∧ z < 18446744073709551616 := by rw [hzz]; split <;> assumption
      have HT := Lib.hid (show [x % 256, y % 256].take k ++ [z % 256] = [x % 256, y % 256].take (k + 1) by
        rw [hzz]
        match k, hlt with
        | 0, _ => rfl
        | 1, _ => rfl)
      have hlt2 : (k : Int) < 2 := by omega
      have hgl := blk_lt HG1.out
      have htl : ([x % 256, y % 256].take k).length ≤ 2 := by rw [List.length_take]; simp; omega
      clear hzz
      go_wp2
      go_loopw [0, 9] (fun v0 v9 wr2 => (v9 = .int .i64 0 ∧ u0 = v0 ∧ wr = wr2) ∨ (v9 = .int .i64 (-1) ∧ OWNO g wr2 base v0 (l ++ [x % 256, y % 256].take (k + 1)) ∧ Aside0 (wr2.heap[g]? = some (.cells #[.int .u64 x, .int .u64 y] 22 (0, 0))) ∧ Below base w0 wr2 ∧ W.heap.size ≤ wr2.heap.size)) (fun _ v9 _ => (intOf v9 + 1).toNat)
      case atStart => exact .inl ⟨rfl, rfl, rfl⟩
      case round =>
        rcases hrel with ⟨rfl, rfl, rfl⟩ | ⟨rfl, ho, hgr, hb, hz2⟩
        · go_wp2_with ((with_reducible refine gate_builtin (b := .append) (xs := #[.tmp 22, .tmp 28]) rfl ?_); go_loud (refine own_append_o (w0 := w0) g rfl (.tmp 22) (.tmp 28) rfl base u0 _ [z % 256] _ _ rfl rfl (Kd.R_alloc HO1.out _) (by simp; omega) (bytes_new wr 5 [z % 256] (0, 0)) (HB1.out.alloc (Nat.le_trans hbase hz) _) (by simp; omega) (by rw [List.length_append]; simp; omega) ?_); intro v1 w1 ho1 hb1 hz1 hg1; have HO3 := Lib.hid ho1; have HB3 := Lib.hid hb1; have HZ3 := Lib.hid (show w1.heap.size ≥ W.heap.size by simp at hz1; omega); have HG3 := Lib.hid (hg1.trans (blk_alloc HG1.out _)); clear ho1 hb1 hz1 hg1)
          go_roundw
          case rel =>
            have h3 := HO3.out
            rw [List.append_assoc, HT.out] at h3
            exact .inr ⟨by go_num, h3, ⟨HG3.out⟩, HB3.out, HZ3.out⟩
          case measure => simp [intOf]
        · have HO3 := Lib.hid ho
          have HG3 := Lib.hid hgr.out
          have HB3 := Lib.hid hb
          clear ho hgr hb
          go_wp2
          go_roundw
          case rel => exact ⟨k + 1, by omega, by go_num, HO3.out, ⟨HG3.out⟩, HB3.out, hz2⟩
          case measure => simp [intOf]; omega
    · have HE := Lib.hid (show k = 2 by omega)
      go_wp2
      go_ret
      refine ⟨_, rfl, ?_, HB1.out, hz⟩
      have := HO1.out.own
      rw [HE.out] at this
      rw [HR.out]
      exact this
end Go.Proofs.YthmcigdkopadjaaDoor.Lay6
end

/- The table of sums that the Go program makes, and what More answers off it, for every sum and every row of bytes. -/
section
namespace Go.Proofs.YthmcigdkopadjaaDoor.Crc
open Go.Proofs.YthmcigdkopadjaaDoor Go.RowKit Go.Proofs.YthmcigdkopadjaaDoorW.PrintWords Go.Proofs.YthmcigdkopadjaaDoorW.PrintLast Go.Proofs.YthmcigdkopadjaaDoorW.PrintMore
set_option linter.unusedVariables false

/-- A register shifted by one bit. -/
def sh (x : Int) : Int := Go.bits .xor .u32 (x / 2) (2197175160 * Go.bits .and .u32 x 1 % 4294967296)
def shs : Nat → Int → Int
  | 0, x => x
  | n + 1, x => sh (shs n x)

def T0 : Array Value := (nums .u32 (List.replicate 256 0)).toArray
/-- The table behind k rounds. -/
def tab : Nat → List Int
  | 0 => List.replicate 256 0
  | k + 1 => (tab k).set k (shs 8 (k : Int))

theorem tab_len (k : Nat) : (tab k).length = 256 := by
  induction k with
  | zero => exact List.length_replicate
  | succ k ih => show ((tab k).set _ _).length = 256; simp [ih]

theorem nums_set' (k : IntKind) (l : List Int) (i : Nat) (v : Int) : (nums k l).toArray.setIfInBounds i (.int k v) = (nums k (l.set i v)).toArray := by
  simp [nums, List.map_set]

def TabPost (W : World) (e : Ending) (w' : World) : Prop :=
  e = .returned (.pointer (some ⟨W.heap.size, 0, none⟩)) ∧ w'.heap[W.heap.size]? = some (.cells (nums .u32 (tab 256)).toArray 68 (0, 0)) ∧ Below W.heap.size W w'

set_option maxRecDepth 100000 in
theorem table_any (W : World) : Calls Tryd.prog 38 #[] W (TabPost W) := by
  have hz : ∀ w, (zeroValue 68).run Tryd.prog w = .ok (.agg T0) w := fun _ => by kernel_rfl
  go_enter Tryd.func38, Tryd.ntmps38
  go_wp2
  go_loopw [6] (fun v6 wr => ∃ k : Nat, k ≤ 256 ∧ v6 = .int .i64 k ∧ wr.heap[W.heap.size]? = some (.cells (nums .u32 (tab k)).toArray 68 (0, 0)) ∧ Below W.heap.size W wr) (fun v6 _ => 256 - (intOf v6).toNat)
  case atStart =>
    exact ⟨0, by omega, rfl, blk_new _ _, (Below.refl _ _).alloc (Nat.le_refl _) _⟩
  case round =>
    obtain ⟨k, hk, rfl, hm, hb⟩ := hrel
    have HM := Lib.hid hm
    have HB := Lib.hid hb
    clear hm hb
    by_cases hlt : k < 256
    · have hlen := tab_len k
      have hS := Lib.hid (show tab (k + 1) = (tab k).set k (shs 8 (k : Int)) from rfl)
      obtain ⟨cv, hc⟩ : ∃ cv, wr.cell? ⟨W.heap.size, k, none⟩ = some (.int .u32 cv) := ⟨(tab k)[k]'(by omega), by rw [blk_cell HM.out]; simp [nums]⟩
      have hf := blk_frozen HM.out k
      have hk2 : (k : Int) < 256 := by omega
      clear hlen
      go_wp2
      obtain ⟨wo, rfl⟩ : ∃ wo : World, wo = wr := ⟨_, rfl⟩
      go_loop [3, 11] (fun v3 v11 => ∃ j : Nat, j ≤ 8 ∧ v3 = .int .u32 (shs j (k : Int)) ∧ v11 = .int .i64 j) (fun _ v11 => 8 - (intOf v11).toNat)
      case atStart => exact ⟨0, by omega, rfl, rfl⟩
      case round =>
        obtain ⟨j, hj, rfl, rfl⟩ := hrel
        by_cases hj8 : j < 8
        · have hS2 := Lib.hid (show shs (j + 1) (k : Int) = sh (shs j (k : Int)) from rfl)
          go_wp2
          go_round
          case rel => exact ⟨j + 1, by omega, by rw [hS2.out]; unfold sh; rfl, by go_num⟩
          case measure => simp [intOf]; omega
        · obtain rfl : j = 8 := by omega
          go_wp2
          go_roundw
          case rel =>
            refine ⟨k + 1, by omega, by go_num, ?_, HB.out.setCell (by simp) _⟩
            rw [blk_set HM.out, nums_set', hS.out]
          case measure => simp [intOf]; omega
    · go_wp2
      go_ret
      obtain rfl : k = 256 := by omega
      exact ⟨rfl, HM.out, HB.out⟩

/-- The table's number of a byte. -/
def tb (i : Int) : Int := rd (tab 256) i

theorem tb_cell {w' : World} {b : Nat} (h : w'.heap[b]? = some (.cells (nums .u32 (tab 256)).toArray 68 (0, 0))) (i : Int) (h0 : 0 ≤ i) (hi : i < 256) : w'.cell? ⟨b, i.toNat, none⟩ = some (.int .u32 (tb i)) := by
  rw [blk_cell h]
  have hl := tab_len 256
  unfold tb rd
  rw [List.getElem?_toArray]
  simp only [nums, List.getElem?_map]
  rw [List.getElem?_eq_getElem (by omega), List.getD_eq_getElem?_getD, List.getElem?_eq_getElem (by omega)]
  rfl

/-- The register behind one byte more. -/
def reg1 (x c : Int) : Int := Go.bits .xor .u32 (x / 256) (tb (Go.bits .xor .u8 (x % 256) c))
def regs : List Int → Int → Int
  | [], x => x
  | c :: r, x => regs r (reg1 x c)

def moreF (s : Int) (l : List Int) : Option Int := if l.length ≤ 140737488355328 then some (Go.bits .xor .u32 4294967295 (regs l (Go.bits .xor .u32 4294967295 s))) else none

theorem bits8_range (op : BinOp) (x y : Int) : 0 ≤ Go.bits op .u8 x y ∧ Go.bits op .u8 x y < 256 := by
  unfold Go.bits
  rw [IntKind.wrap_u8]
  omega

set_option maxRecDepth 100000 in
theorem more_calls (a0 : Int) (A1 : Option Addr) (c1 : Nat) (l1 : List Int) (r : Int) (w : World) (hr1 : Kd.C (Kd.int .u8) w A1 l1.length l1) (hc1 : l1.length ≤ c1) (h : moreF a0 l1 = some r) :
    Calls Tryd.prog 32 #[.int .u32 a0, .slice A1 l1.length c1] w fun e w' => e = .returned (.int .u32 r) ∧ Below w.heap.size w w' := by
  unfold moreF at h
  by_cases hL : l1.length ≤ 140737488355328
  case neg => rw [if_neg hL] at h; exact absurd h (by simp)
  rw [if_pos hL] at h
  obtain rfl := Option.some.inj h
  have HR := Lib.hid hr1
  clear hr1 h
  go_enter Tryd.func32, Tryd.ntmps32
  go_wp2_with (go_at_call 38; refine (table_any _).mono ?_; rintro e w1 ⟨rfl, hh, hb1⟩; have HH := Lib.hid hh; have HB := Lib.hid hb1; have HC := Lib.hid (Kd.C_below HR.out hb1); clear hh hb1)
  go_loop [6, 14] (fun v6 v14 => ∃ (k : Nat) (x : Int), k ≤ l1.length ∧ v6 = .int .u32 x ∧ v14 = .int .i64 k ∧ Aside0 (regs (l1.drop k) x = regs l1 (Go.bits .xor .u32 4294967295 a0))) (fun _ v14 => l1.length - (intOf v14).toNat)
  case atStart => exact ⟨0, _, by omega, rfl, rfl, ⟨rfl⟩⟩
  case round =>
    obtain ⟨k, x, hk, rfl, rfl, HA⟩ := hrel
    by_cases hlt : k < l1.length
    · obtain ⟨ad, e, hcell⟩ := Kd.at_int HC.out (k : Int) (by omega) (by omega)
      cases e
      rw [Int.toNat_natCast] at hcell
      have hix := bits8_range .xor (x % 256) (rd l1 (k : Int))
      obtain ⟨hi0, hi1⟩ := hix
      have ht := tb_cell HH.out (Go.bits .xor .u8 (x % 256) (rd l1 (k : Int))) hi0 hi1
      have hd : l1.drop k = rd l1 (k : Int) :: l1.drop (k + 1) := by
        rw [List.drop_eq_getElem_cons hlt]
        congr 1
        unfold rd; simp [List.getD_eq_getElem?_getD, List.getElem?_eq_getElem hlt]
      have HD := Lib.hid hd
      clear hd
      go_wp2
      go_round
      case rel => exact ⟨k + 1, reg1 x (rd l1 (k : Int)), by omega, rfl, by go_num, ⟨by have h := HA.out; rw [HD.out] at h; exact h⟩⟩
      case measure => simp [intOf]; omega
    · go_wp2
      go_ret
      have e : l1.drop k = [] := List.drop_eq_nil_of_le (by omega)
      have h := HA.out
      rw [e] at h
      exact ⟨by rw [← h]; rfl, HB.out⟩
end Go.Proofs.YthmcigdkopadjaaDoor.Crc
end

/- Sums that tell whether bytes were changed, in plain Lean: the register is additive over 'exclusive or', and a byte taken by the table is a byte taken bit by bit. -/
section
namespace Go.Proofs.YthmcigdkopadjaaDoor.CrcMath

def poly : Nat := 2197175160

/-- One bit. -/
def sh (x : Nat) : Nat := (x / 2) ^^^ (if x.testBit 0 then poly else 0)
def shs : Nat → Nat → Nat
  | 0, x => x
  | n + 1, x => sh (shs n x)

theorem xor4 (a b c d : Nat) : (a ^^^ b) ^^^ (c ^^^ d) = (a ^^^ c) ^^^ (b ^^^ d) := by
  rw [Nat.xor_assoc, ← Nat.xor_assoc b c d, Nat.xor_comm b c, Nat.xor_assoc c b d, ← Nat.xor_assoc]

theorem ite_xor (p q : Bool) (v : Nat) : (if (p ^^ q) then v else 0) = (if p then v else 0) ^^^ (if q then v else 0) := by
  cases p <;> cases q <;> simp

theorem half_xor (x y : Nat) : (x ^^^ y) / 2 = (x / 2) ^^^ (y / 2) := by
  have h : ∀ z : Nat, z / 2 = z >>> 1 := fun z => by rw [Nat.shiftRight_eq_div_pow]
  rw [h, h, h, Nat.shiftRight_xor_distrib]

theorem sh_add (x y : Nat) : sh (x ^^^ y) = sh x ^^^ sh y := by
  unfold sh
  rw [half_xor, Nat.testBit_xor, ite_xor, xor4]

theorem shs_add (n : Nat) : ∀ x y, shs n (x ^^^ y) = shs n x ^^^ shs n y := by
  induction n with
  | zero => intro x y; rfl
  | succ n ih => intro x y; simp only [shs]; rw [ih, sh_add]

theorem sh_dbl (m : Nat) : sh (2 * m) = m := by
  unfold sh
  rw [Nat.testBit_zero]
  have : (2 * m) % 2 = 0 := by omega
  rw [this]
  simp

theorem shs_step (n : Nat) : ∀ x, shs (n + 1) x = shs n (sh x) := by
  induction n with
  | zero => intro x; rfl
  | succ n ih => intro x; show sh (shs (n + 1) x) = _; rw [ih]; rfl

theorem shs_pow (n : Nat) : ∀ m, shs n (2 ^ n * m) = m := by
  induction n with
  | zero => intro m; simp [shs]
  | succ n ih =>
    intro m
    rw [shs_step, Nat.pow_succ, show 2 ^ n * 2 * m = 2 * (2 ^ n * m) by rw [Nat.mul_comm (2 ^ n) 2, Nat.mul_assoc], sh_dbl, ih]

theorem split_xor (y n : Nat) : (2 ^ n * (y / 2 ^ n)) ^^^ (y % 2 ^ n) = y := by
  apply Nat.eq_of_testBit_eq
  intro i
  rw [Nat.testBit_xor, Nat.testBit_two_pow_mul, Nat.testBit_mod_two_pow, Nat.testBit_div_two_pow]
  by_cases h : i < n
  · have h2 : ¬ n ≤ i := by omega
    simp [h, h2]
  · have h2 : n ≤ i := by omega
    simp [h, h2, Nat.sub_add_cancel h2]

/-- The register behind one byte more. -/
def take (x c : Nat) : Nat := shs 8 (x ^^^ c)
def takes : List Nat → Nat → Nat
  | [], x => x
  | c :: r, x => takes r (take x c)

theorem sh_lt {x : Nat} (h : x < 4294967296) : sh x < 4294967296 := by
  unfold sh
  refine Nat.xor_lt_two_pow (n := 32) (by omega) ?_
  split <;> decide

theorem shs_lt (n : Nat) {x : Nat} (h : x < 4294967296) : shs n x < 4294967296 := by
  induction n with
  | zero => exact h
  | succ n ih => exact sh_lt ih

theorem take_lt {x c : Nat} (h : x < 4294967296) (hc : c < 256) : take x c < 4294967296 :=
  shs_lt 8 (Nat.xor_lt_two_pow (n := 32) h (by omega))

theorem takes_lt (l : List Nat) : ∀ x, x < 4294967296 → (∀ c ∈ l, c < 256) → takes l x < 4294967296 := by
  induction l with
  | nil => intro x h _; exact h
  | cons c r ih => intro x h hc; exact ih _ (take_lt h (hc c (by simp))) (fun d hd => hc d (by simp [hd]))

/-- A byte by the table. -/
theorem take_table (x c : Nat) (hc : c < 256) : take x c = (x / 256) ^^^ shs 8 ((x % 256) ^^^ c) := by
  unfold take
  have h1 : x ^^^ c = (2 ^ 8 * (x / 2 ^ 8)) ^^^ ((x % 2 ^ 8) ^^^ c) := by
    rw [← Nat.xor_assoc, split_xor]
  have _ := hc
  rw [h1, shs_add, shs_pow]

theorem takes_append (a b : List Nat) : ∀ x, takes (a ++ b) x = takes b (takes a x) := by
  induction a with
  | nil => intro x; rfl
  | cons c r ih => intro x; exact ih _

/-- The sum of what a sum is of, and more bytes. -/
def more (s : Nat) (l : List Nat) : Nat := 4294967295 ^^^ takes l (4294967295 ^^^ s)

theorem more_lt (s : Nat) (l : List Nat) (hs : s < 4294967296) (hl : ∀ c ∈ l, c < 256) : more s l < 4294967296 :=
  Nat.xor_lt_two_pow (n := 32) (by decide) (takes_lt l _ (Nat.xor_lt_two_pow (n := 32) (by decide) hs) hl)

theorem more_append (s : Nat) (a b : List Nat) : more s (a ++ b) = more (more s a) b := by
  unfold more
  rw [takes_append, ← Nat.xor_assoc, Nat.xor_self, Nat.zero_xor]

/-- Bytes as one number, the first byte lowest. -/
def leNat : List Nat → Nat
  | [] => 0
  | c :: r => c ^^^ (2 ^ 8 * leNat r)

theorem shs_shs (a b : Nat) : ∀ x, shs (a + b) x = shs a (shs b x) := by
  induction b with
  | zero => intro x; rfl
  | succ b ih => intro x; rw [show a + (b + 1) = (a + b) + 1 by omega, shs_step, ih, ← shs_step]

/-- A row of bytes taken is one number taken. -/
theorem takes_eq (l : List Nat) : ∀ x, takes l x = shs (8 * l.length) (x ^^^ leNat l) := by
  induction l with
  | nil => intro x; simp [takes, leNat, shs]
  | cons c r ih =>
    intro x
    simp only [takes, leNat, take]
    have h : shs 8 (x ^^^ c ^^^ 2 ^ 8 * leNat r) = shs 8 (x ^^^ c) ^^^ leNat r := by rw [shs_add, shs_pow]
    rw [ih, List.length_cons, show 8 * (r.length + 1) = 8 * r.length + 8 by omega, shs_shs, ← Nat.xor_assoc, h]

theorem eq_of_xor {a b : Nat} (h : a ^^^ b = 0) : a = b := by
  have h4 : (a ^^^ b) ^^^ b = a := by rw [Nat.xor_assoc, Nat.xor_self, Nat.xor_zero]
  rw [← h4, h, Nat.zero_xor]

theorem sh_zero {x : Nat} (hx : x < 4294967296) (h : sh x = 0) : x = 0 := by
  unfold sh at h
  have h1 : x / 2 = (if x.testBit 0 then poly else 0) := eq_of_xor h
  rw [Nat.testBit_zero] at h1
  rcases Nat.mod_two_eq_zero_or_one x with h2 | h2
  · rw [h2] at h1
    simp at h1
    omega
  · rw [h2] at h1
    simp [poly] at h1
    omega

theorem shs_zero (n : Nat) : ∀ {x : Nat}, x < 4294967296 → shs n x = 0 → x = 0 := by
  induction n with
  | zero => intro x _ h; exact h
  | succ n ih => intro x hx h; rw [shs_step] at h; exact sh_zero hx (ih (sh_lt hx) h)

theorem takes_xor (a : List Nat) : ∀ (b : List Nat) (x y : Nat), a.length = b.length → takes (List.zipWith (· ^^^ ·) a b) (x ^^^ y) = takes a x ^^^ takes b y := by
  induction a with
  | nil => intro b x y h; cases b with
    | nil => rfl
    | cons d b => simp at h
  | cons c a ih => intro b x y h; cases b with
    | nil => simp at h
    | cons d b =>
      simp only [List.zipWith_cons_cons, takes]
      have : take (x ^^^ y) (c ^^^ d) = take x c ^^^ take y d := by
        unfold take; rw [← shs_add, xor4]
      rw [this]
      exact ih b _ _ (by simpa using h)

/-- A sum as four bytes, the lowest first. -/
def le4 (s : Nat) : List Nat := [s % 256, s / 256 % 256, s / 65536 % 256, s / 16777216 % 256]

theorem le4_small (s : Nat) : ∀ c ∈ le4 s, c < 256 := by
  intro c hc
  simp only [le4, List.mem_cons, List.not_mem_nil, or_false] at hc
  omega

theorem leNat_le4 (s : Nat) (h : s < 4294967296) : leNat (le4 s) = s := by
  simp only [le4, leNat, Nat.mul_zero, Nat.xor_zero]
  have e3 : s / 16777216 % 256 = s / 16777216 := by omega
  have h1 := split_xor s 8
  have h2 := split_xor (s / 256) 8
  have h3 := split_xor (s / 65536) 8
  have d2 : s / 256 / 2 ^ 8 = s / 65536 := by rw [Nat.div_div_eq_div_mul]
  have d3 : s / 65536 / 2 ^ 8 = s / 16777216 := by rw [Nat.div_div_eq_div_mul]
  rw [d2] at h2
  rw [d3] at h3
  have h1' : 2 ^ 8 * (s / 256) ^^^ s % 256 = s := h1
  have h2' : 2 ^ 8 * (s / 65536) ^^^ (s / 256) % 256 = s / 256 := h2
  have h3' : 2 ^ 8 * (s / 16777216) ^^^ (s / 65536) % 256 = s / 65536 := h3
  rw [e3, Nat.xor_comm (s / 65536 % 256), h3', Nat.xor_comm (s / 256 % 256), h2', Nat.xor_comm (s % 256), h1']

theorem takes_sealed (m : List Nat) (hm : ∀ c ∈ m, c < 256) : takes (m ++ le4 (more 0 m)) 4294967295 = shs 32 4294967295 := by
  have h1 := more_lt 0 m (by decide) hm
  rw [takes_append, takes_eq (le4 (more 0 m)), leNat_le4 _ h1]
  show shs 32 _ = _
  congr 1
  unfold more
  rw [Nat.xor_zero, Nat.xor_comm 4294967295, ← Nat.xor_assoc, Nat.xor_self, Nat.zero_xor]

/-- The number of bytes with one byte changed. -/
theorem leNat_set (l : List Nat) : ∀ (j d : Nat) (h : j < l.length), leNat (l.set j (l[j] ^^^ d)) = leNat l ^^^ (d * 2 ^ (8 * j)) := by
  induction l with
  | nil => intro j d h; simp at h
  | cons c r ih =>
    intro j d h
    cases j with
    | zero =>
      simp only [List.set_cons_zero, List.getElem_cons_zero, leNat, Nat.mul_zero, Nat.pow_zero, Nat.mul_one]
      rw [Nat.xor_assoc, Nat.xor_comm d, ← Nat.xor_assoc]
    | succ j =>
      simp only [List.set_cons_succ, List.getElem_cons_succ, leNat]
      rw [ih j d (by simpa using h)]
      have e : 2 ^ 8 * (leNat r ^^^ d * 2 ^ (8 * j)) = (2 ^ 8 * leNat r) ^^^ (2 ^ 8 * (d * 2 ^ (8 * j))) := by
        have hs : ∀ z : Nat, 2 ^ 8 * z = z <<< 8 := fun z => by rw [Nat.shiftLeft_eq, Nat.mul_comm]
        rw [hs, hs, hs, Nat.shiftLeft_xor_distrib]
      have e2 : 2 ^ 8 * (d * 2 ^ (8 * j)) = d * 2 ^ (8 * (j + 1)) := by
        rw [Nat.mul_add, Nat.pow_add, Nat.mul_left_comm, Nat.mul_comm (2 ^ 8)]
      rw [e, e2, Nat.xor_assoc]

/-- A change within 32 bits is noticed. -/
theorem notice (x y : List Nat) (by_ p : Nat) (hl : x.length = y.length) (hb : by_ < 4294967296) (hb0 : by_ ≠ 0) (hp : p ≤ 8 * x.length) (h : leNat y = leNat x ^^^ (by_ * 2 ^ p)) : takes y 4294967295 ≠ takes x 4294967295 := by
  intro e
  rw [takes_eq, takes_eq, ← hl, h, ← Nat.xor_assoc, shs_add] at e
  have h0 : shs (8 * x.length) (by_ * 2 ^ p) = 0 := by
    have : shs (8 * x.length) (4294967295 ^^^ leNat x) ^^^ (shs (8 * x.length) (4294967295 ^^^ leNat x) ^^^ shs (8 * x.length) (by_ * 2 ^ p)) = 0 := by rw [e, Nat.xor_self]
    rwa [← Nat.xor_assoc, Nat.xor_self, Nat.zero_xor] at this
  rw [show 8 * x.length = (8 * x.length - p) + p by omega, shs_shs, Nat.mul_comm by_, shs_pow] at h0
  exact hb0 (shs_zero _ hb h0)

end Go.Proofs.YthmcigdkopadjaaDoor.CrcMath
end

/- What the Go program's More answers, told by the plain sums of CrcMath. -/
section
namespace Go.Proofs.YthmcigdkopadjaaDoor.CrcPure
open Go.Proofs.YthmcigdkopadjaaDoor Go.RowKit Go.Proofs.YthmcigdkopadjaaDoorW.PrintWords Go.Proofs.YthmcigdkopadjaaDoorW.PrintLast Go.Proofs.YthmcigdkopadjaaDoorW.PrintMore
set_option linter.unusedVariables false

theorem w64 {a : Int} (h : -9223372036854775808 ≤ a ∧ a ≤ 9223372036854775807) : wrap64 a = a := by
  unfold wrap64; omega

/-- Are these bytes? -/
def AreBytes (l : List Int) : Prop := ∀ x ∈ l, 0 ≤ x ∧ x ≤ 255

theorem bytes_of_wf {l : List Int} (h : ∀ x ∈ l, (Lit.int .u8 x).wf = true) : AreBytes l := by
  intro x hx
  have h := h x hx
  simp only [Lit.wf, Bool.and_eq_true, decide_eq_true_eq] at h
  have hmin : IntKind.u8.min = 0 := rfl
  have hmax : IntKind.u8.max = 255 := rfl
  omega

theorem wf32u {a : Int} (h : (Lit.int .u32 a).wf = true) : 0 ≤ a ∧ a ≤ 4294967295 := by
  simp only [Lit.wf, Bool.and_eq_true, decide_eq_true_eq] at h
  have hmin : IntKind.u32.min = 0 := rfl
  have hmax : IntKind.u32.max = 4294967295 := rfl
  omega

/-- A row of bytes as whole numbers of the program's. -/
def ints (l : List Nat) : List Int := l.map Int.ofNat
def Small (l : List Nat) : Prop := ∀ c ∈ l, c < 256

theorem ints_of {l : List Int} (h : AreBytes l) : ∃ m : List Nat, l = ints m ∧ Small m := by
  refine ⟨l.map Int.toNat, ?_, ?_⟩
  · unfold ints
    rw [List.map_map]
    conv => lhs; rw [← List.map_id l]
    apply List.map_congr_left
    intro x hx
    have := h x hx
    simp only [Function.comp, id]
    show x = ((x.toNat : Nat) : Int)
    omega
  · intro c hc
    obtain ⟨x, hx, rfl⟩ := List.mem_map.mp hc
    have := h x hx
    omega

theorem ints_len (m : List Nat) : (ints m).length = m.length := List.length_map _
theorem ints_take (m : List Nat) (n : Nat) : (ints m).take n = ints (m.take n) := by unfold ints; rw [List.map_take]
theorem ints_drop (m : List Nat) (n : Nat) : (ints m).drop n = ints (m.drop n) := by unfold ints; rw [List.map_drop]
theorem ints_append (a b : List Nat) : ints a ++ ints b = ints (a ++ b) := by unfold ints; rw [List.map_append]
theorem ints_inj {a b : List Nat} (h : ints a = ints b) : a = b := by
  induction a generalizing b with
  | nil => cases b with
    | nil => rfl
    | cons y b => simp [ints] at h
  | cons x a ih => cases b with
    | nil => simp [ints] at h
    | cons y b =>
      simp only [ints, List.map_cons, List.cons.injEq] at h
      have h1 : x = y := by have := h.1; injection this
      rw [h1, ih h.2]
theorem rd_ints (m : List Nat) (i : Nat) : rd (ints m) (i : Int) = ((m.getD i 0 : Nat) : Int) := by
  unfold rd ints
  rw [Int.toNat_natCast, List.getD_eq_getElem?_getD, List.getD_eq_getElem?_getD, List.getElem?_map]
  cases m[i]? <;> rfl

theorem bits_xor (k : IntKind) (j : Nat) (hj : j ≤ k.bits) (hk : ∀ n : Int, 0 ≤ n → n < 2 ^ j → k.wrap n = n) (a b : Nat) (ha : a < 2 ^ j) (hb : b < 2 ^ j) :
    Go.bits .xor k a b = ((a ^^^ b : Nat) : Int) := by
  have hp : 2 ^ j ≤ 2 ^ k.bits := Nat.pow_le_pow_right (by decide) hj
  have ha' : a % 2 ^ k.bits = a := Nat.mod_eq_of_lt (Nat.lt_of_lt_of_le ha hp)
  have hb' : b % 2 ^ k.bits = b := Nat.mod_eq_of_lt (Nat.lt_of_lt_of_le hb hp)
  have cast : ∀ n : Nat, n < 2 ^ j → ((n : Nat) : Int) < 2 ^ j := fun n h => by exact_mod_cast h
  simp only [Go.bits, BitVec.ofInt_natCast, BitVec.toNat_xor, BitVec.toNat_ofNat, ha', hb']
  exact hk _ (Int.natCast_nonneg _) (cast _ (Nat.xor_lt_two_pow ha hb))

theorem xor8 (a b : Nat) (ha : a < 256) (hb : b < 256) : Go.bits .xor .u8 (a : Int) (b : Int) = ((a ^^^ b : Nat) : Int) :=
  bits_xor .u8 8 (by decide) wraps_u8 a b ha hb

theorem wraps_u32 (n : Int) (h0 : 0 ≤ n) (h1 : n < 2 ^ 32) : IntKind.u32.wrap n = n := by rw [IntKind.wrap_u32]; omega

theorem xor32 (a b : Nat) (ha : a < 4294967296) (hb : b < 4294967296) : Go.bits .xor .u32 (a : Int) (b : Int) = ((a ^^^ b : Nat) : Int) :=
  bits_xor .u32 32 (by decide) wraps_u32 a b ha hb

theorem and1 (x : Nat) (h : x < 4294967296) : Go.bits .and .u32 (x : Int) 1 = ((x % 2 : Nat) : Int) := by
  have h := bits_mask .u32 32 (by decide) wraps_u32 1 (by decide) (x : Int) (Int.natCast_nonneg _) (by omega)
  have h2 : ((2 : Int) ^ 1 - 1) = 1 := by decide
  rw [h2] at h
  rw [h]; omega

theorem sh_nat (x : Nat) (h : x < 4294967296) : Crc.sh (x : Int) = ((CrcMath.sh x : Nat) : Int) := by
  unfold Crc.sh CrcMath.sh
  rw [and1 x h, Nat.testBit_zero]
  have e1 : (x : Int) / 2 = ((x / 2 : Nat) : Int) := by omega
  rw [e1]
  rcases Nat.mod_two_eq_zero_or_one x with hx | hx
  · rw [hx]
    have := xor32 (x / 2) 0 (by omega) (by decide)
    simpa using this
  · rw [hx]
    have := xor32 (x / 2) 2197175160 (by omega) (by decide)
    simpa [CrcMath.poly] using this

theorem shs_nat (n : Nat) (x : Nat) (h : x < 4294967296) : Crc.shs n (x : Int) = ((CrcMath.shs n x : Nat) : Int) := by
  induction n with
  | zero => rfl
  | succ n ih => simp only [Crc.shs, CrcMath.shs]; rw [ih, sh_nat _ (CrcMath.shs_lt n h)]

theorem tab_get (k : Nat) : ∀ i, i < k → k ≤ 256 → (Crc.tab k)[i]? = some ((CrcMath.shs 8 i : Nat) : Int) := by
  induction k with
  | zero => intro i h; omega
  | succ k ih =>
    intro i hi hk
    simp only [Crc.tab]
    rw [List.getElem?_set]
    by_cases h : k = i
    · rw [if_pos h, if_pos (by rw [Crc.tab_len]; omega), shs_nat 8 k (by omega), h]
    · rw [if_neg h]; exact ih i (by omega) (by omega)

theorem tb_nat (i : Nat) (h : i < 256) : Crc.tb (i : Int) = ((CrcMath.shs 8 i : Nat) : Int) := by
  unfold Crc.tb rd
  rw [Int.toNat_natCast, List.getD_eq_getElem?_getD, tab_get 256 i h (by omega)]
  rfl

theorem reg1_nat (x c : Nat) (hx : x < 4294967296) (hc : c < 256) : Crc.reg1 (x : Int) (c : Int) = ((CrcMath.take x c : Nat) : Int) := by
  unfold Crc.reg1
  rw [CrcMath.take_table x c hc]
  have e1 : (x : Int) / 256 = ((x / 256 : Nat) : Int) := by omega
  have e2 : (x : Int) % 256 = ((x % 256 : Nat) : Int) := by omega
  have h1 : x % 256 < 256 := by omega
  have h2 : (x % 256) ^^^ c < 256 := Nat.xor_lt_two_pow (n := 8) h1 hc
  rw [e1, e2, xor8 _ _ h1 hc, tb_nat _ h2, xor32 _ _ (by omega) (CrcMath.shs_lt 8 (by omega))]

theorem regs_nat (l : List Nat) : ∀ x : Nat, x < 4294967296 → Small l → Crc.regs (ints l) (x : Int) = ((CrcMath.takes l x : Nat) : Int) := by
  induction l with
  | nil => intro x _ _; rfl
  | cons c r ih =>
    intro x hx hl
    have hc := hl c (by simp)
    show Crc.regs (ints r) (Crc.reg1 (x : Int) (c : Int)) = _
    rw [reg1_nat x c hx hc, ih _ (CrcMath.take_lt hx hc) (fun d hd => hl d (by simp [hd]))]
    rfl

theorem more_nat (s : Nat) (l : List Nat) (hs : s < 4294967296) (hl : Small l) (hn : l.length ≤ 140737488355328) : Crc.moreF (s : Int) (ints l) = some ((CrcMath.more s l : Nat) : Int) := by
  unfold Crc.moreF CrcMath.more
  have h1 := xor32 4294967295 s (by decide) hs
  have h2 : 4294967295 ^^^ s < 4294967296 := Nat.xor_lt_two_pow (n := 32) (by decide) hs
  have h3 := xor32 4294967295 (CrcMath.takes l (4294967295 ^^^ s)) (by decide) (CrcMath.takes_lt l _ h2 hl)
  rw [if_pos (by rw [ints_len]; exact hn)]
  have e : ((4294967295 : Nat) : Int) = 4294967295 := rfl
  rw [e] at h1 h3
  rw [h1, regs_nat l _ h2 hl, h3]

end Go.Proofs.YthmcigdkopadjaaDoor.CrcPure
end

/- Sealed bytes in plain words. -/
section
namespace Go.Proofs.YthmcigdkopadjaaDoor.Crc6
open Go.Proofs.YthmcigdkopadjaaDoor Go.RowKit Go.Proofs.YthmcigdkopadjaaDoorW.PrintWords Go.Proofs.YthmcigdkopadjaaDoorW.PrintLast Go.Proofs.YthmcigdkopadjaaDoorW.PrintMore Go.Proofs.YthmcigdkopadjaaDoor.CrcPure 
set_option linter.unusedVariables false
set_option linter.unusedSimpArgs false
theorem le4_ints (s : Nat) : ([((s : Nat) : Int) % 256, ((s : Nat) : Int) / 256 % 256, ((s : Nat) : Int) / 65536 % 256, ((s : Nat) : Int) / 16777216 % 256] : List Int) = ints (CrcMath.le4 s) := by
  show _ = [((s % 256 : Nat) : Int), ((s / 256 % 256 : Nat) : Int), ((s / 65536 % 256 : Nat) : Int), ((s / 16777216 % 256 : Nat) : Int)]
  simp
def sealN (m : List Nat) : List Nat := m ++ CrcMath.le4 (CrcMath.more 0 m)
theorem sealN_len (m : List Nat) : (sealN m).length = m.length + 4 := by unfold sealN; rw [List.length_append]; rfl
theorem small_append {a b : List Nat} (ha : Small a) (hb : Small b) : Small (a ++ b) := by
  intro c hc
  rcases List.mem_append.mp hc with h | h
  · exact ha c h
  · exact hb c h
theorem sealN_small {m : List Nat} (h : Small m) : Small (sealN m) := small_append h (CrcMath.le4_small _)
theorem sealN_take (m : List Nat) : (sealN m).take ((sealN m).length - 4) = m := by
  rw [sealN_len]
  unfold sealN
  rw [Nat.add_sub_cancel, List.take_append_of_le_length (Nat.le_refl _), List.take_length]
end Go.Proofs.YthmcigdkopadjaaDoor.Crc6
end

/- The library's Clone of bytes: what it answers are the same bytes in new memory. -/
section
namespace Go.Proofs.YthmcigdkopadjaaDoor.Clone
open Go.Proofs.YthmcigdkopadjaaDoor Go.RowKit Go.Proofs.YthmcigdkopadjaaDoorW.PrintWords Go.Proofs.YthmcigdkopadjaaDoorW.PrintLast Go.Proofs.YthmcigdkopadjaaDoorW.PrintMore
set_option linter.unusedVariables false
set_option linter.unusedSimpArgs false

theorem info5 : (Tryd.prog.info? 5).map (fun i => (i.zero, i.size, i.bytes)) = some (some (.int .u8 0), 1, 1) := by kernel_rfl

def cloneF (l : List Int) : Option (List Int) := if l.length < 140737488355328 then some l else none

set_option maxHeartbeats 8000000 in
set_option maxRecDepth 100000 in
theorem clone_calls (A0 : Option Addr) (c0 : Nat) (l0 : List Int) (r : List Int) (w : World) (hr0 : Kd.C (Kd.int .u8) w A0 l0.length l0) (hc0 : l0.length ≤ c0) (h : cloneF l0 = some r) :
    Calls Tryd.prog 24 #[.slice A0 l0.length c0] w fun e w' => ∃ v0_ : Value, e = .returned (v0_) ∧ Kd.R (Kd.int .u8) 5 w' w.heap.size (fun _ => True) v0_ r ∧ Below w.heap.size w w' := by
  unfold cloneF at h
  by_cases hl : l0.length < 140737488355328
  case neg => rw [if_neg hl] at h; exact absurd h (by simp)
  rw [if_pos hl] at h
  obtain rfl := Option.some.inj h
  have qT : ∀ (w : World) (a : Option Addr) (n c n' c' : Nat), (binOp .eql 24 (.slice a n c) (.slice none n' c')).run Tryd.prog w = .ok (.bool a.isNone) w := fun w a n c n' c' => Lib.run_eql_slice_nil w _ _ a n c n' c' Tryd.underlying24
  have HR0 := Aside0.mk hr0
  have HC0 := Aside0.mk hc0
  have HL := Aside0.mk hl
  have HB := Aside0.mk (Below.refl w.heap.size w)
  cases A0 with
  | none =>
    have h0 : l0 = [] := by
      cases l0 with
      | nil => rfl
      | cons c t =>
        obtain ⟨ad, e, _⟩ := Kd.at_int hr0 0 (by omega) (by simp)
        cases e
    subst h0
    clear hr0 hc0 hl h
    go_enter Tryd.func24, Tryd.ntmps24
    go_wp2
    go_ret
    exact ⟨_, rfl, Kd.R_nil _ _ _ _ _, HB.out⟩
  | some ad =>
    clear hr0 hc0 hl h
    go_enter Tryd.func24, Tryd.ntmps24
    go_wp2_with (first
      | ((with_reducible refine gate_dst (N := 5) rfl ?_); refine Kd.R_lit (Kd.int .u8) _ 5 ?hg (N := 5) ?hd (xs := ([] : List Int)) (inner := []) (ok := fun _ => True) (okp := fun _ => True) ?hr ?hp (fun _ hk => hk) trivial (Below.refl _ _) (Nat.le_refl _) (by simp) ?_; (case hd => rfl); (case hg => rfl); (case hr => first | (go_simp; done) | (go_simp; rfl)); (case hp => exact (Reps.none _ _)); intro v105 w7 ho8 hb hg_ hnew_; clear hg_ hnew_; have n1_ := Aside0.mk ho8; have n2_ := Aside0.mk hb; have n3_ := Aside0.mk (Kd.C_below HR0.out hb); clear HB; clear HR0; have HR0 := n3_; have HO106 := n1_; have HB := n2_; clear n1_ n2_ n3_; clear hb ho8)
      | ((with_reducible refine gate_builtin (b := .append) (xs := #[.tmp 5, .tmp 6]) rfl ?_); at_builtin; refine Kd.R_append_rows (Kd.int .u8) (w0 := w) w.heap.size rfl (.tmp 5) (.tmp 6) 24 5 (.int .u8 0) 1 rfl Tryd.underlying24 info5 rfl (by decide) (by omega) v105 ([] : List Int) l0 _ _ _ (fun _ => True) (fun _ => False) rfl rfl ?aO ?aR (fun _ _ h => h) (fun _ h => h.elim) ?aF ?aB ?aS ?aL ?_; (case aR => repeat (first | exact HR0.out | (with_reducible refine Kd.C_alloc ?_ _) | (with_reducible refine Kd.C_drewN ?_ _) | (with_reducible refine Kd.C_drew ?_))); (case aB => exact (by repeat (first | (with_reducible first | exact HB.out | apply below_alloc | apply pw_below_drewN | apply below_drew1) | exact HB.out))); (case aF => exact (fun _ _ => trivial)); (case aO => exact HO106.out); (case aS => exact (below_size (by repeat (first | (with_reducible first | exact HB.out | apply below_alloc | apply pw_below_drewN | apply below_drew1) | exact HB.out)))); (case aL => have := HL.out; simp; omega); intro v102 w6 ho hb hg hat; rw [List.nil_append] at ho; have n0_ := Aside0.mk (hb); have n1_ := Aside0.mk (ho); clear HB; have HB := n0_; have HO103 := n1_; clear n0_ n1_; clear ho hb hg hat))
    go_ret
    exact ⟨_, rfl, HO103.out, HB.out⟩
end Go.Proofs.YthmcigdkopadjaaDoor.Clone
end

-- Written by wip/tools/myprint.py, a program of this session over the print tool: not a printed text of the kit's
section
namespace Go.Proofs.YthmcigdkopadjaaDoor.PSeal
open Go.RowKit Go.Proofs.YthmcigdkopadjaaDoorW.PrintWords Go.Proofs.YthmcigdkopadjaaDoorW.PrintLast Go.Proofs.YthmcigdkopadjaaDoorW.PrintMore
attribute [local go_sem] max2_int min2_int max_two min_two max_three min_three max_four min_four   -- for this text's walks alone
set_option linter.unusedVariables false
set_option linter.unusedSimpArgs false
set_option maxRecDepth 20000



def errW : Option Int → Value
  | none => .nilIface
  | some c => .iface 0 (.int .i64 c)
theorem errW_none : errW none = .nilIface := rfl
theorem errW_some (c : Int) : errW (some c) = .iface 0 (.int .i64 c) := rfl

theorem info5 : (Tryd.prog.info? 5).map (fun i => (i.zero, i.size, i.bytes)) = some (some (.int .u8 0), 1, 1) := by kernel_rfl
-- the values' own types

end Go.Proofs.YthmcigdkopadjaaDoor.PSeal
end

-- Written by wip/tools/myprint.py, a program of this session over the print tool: not a printed text of the kit's
section
namespace Go.Proofs.YthmcigdkopadjaaDoor.PSeal
open Go.RowKit Go.Proofs.YthmcigdkopadjaaDoorW.PrintWords Go.Proofs.YthmcigdkopadjaaDoorW.PrintLast Go.Proofs.YthmcigdkopadjaaDoorW.PrintMore
attribute [local go_sem] max2_int min2_int max_two min_two max_three min_three max_four min_four   -- for this text's walks alone
set_option linter.unusedVariables false
set_option linter.unusedSimpArgs false
set_option maxRecDepth 20000

/-! ### slices_Clone_byte_byte: function 24 (proved by hand: Clone.clone_calls) -/
def slices_Clone_byte_byte.f (l0 : List Int) : Option (List Int) := Go.Proofs.YthmcigdkopadjaaDoor.Clone.cloneF l0
theorem slices_Clone_byte_byte.calls (A0 : Option Addr) (c0 : Nat) (l0 : List Int) (r : List Int) (w : World) (hr0 : Kd.C (Kd.int .u8) w A0 l0.length l0) (hc0 : l0.length ≤ c0) (h : slices_Clone_byte_byte.f l0 = some r) :
    Calls Tryd.prog 24 #[.slice A0 l0.length c0] w fun e w' => ∃ v0_ : Value, e = .returned (v0_) ∧ Kd.R (Kd.int .u8) 5 w' w.heap.size (fun _ => True) v0_ r ∧ Below w.heap.size w w' :=
  Go.Proofs.YthmcigdkopadjaaDoor.Clone.clone_calls A0 c0 l0 r w hr0 hc0 h

/-! ### crc_More: function 32 (proved by hand: Crc.more_calls) -/
def crc_More.f (a0 : Int) (l1 : List Int) : Option (Int) := Go.Proofs.YthmcigdkopadjaaDoor.Crc.moreF a0 l1
theorem crc_More.calls (a0 : Int) (A1 : Option Addr) (c1 : Nat) (l1 : List Int) (r : Int) (w : World) (hr1 : Kd.C (Kd.int .u8) w A1 l1.length l1) (hc1 : l1.length ≤ c1) (h : crc_More.f a0 l1 = some r) :
    Calls Tryd.prog 32 #[.int .u32 a0, .slice A1 l1.length c1] w fun e w' => e = .returned (.int .u32 r) ∧ Below w.heap.size w w' :=
  Go.Proofs.YthmcigdkopadjaaDoor.Crc.more_calls a0 A1 c1 l1 r w hr1 hc1 h

/-! ### crc_Sum: function 28 -/
def crc_Sum.f (l0 : List Int) : Option (Int) := (crc_More.f 0 l0).bind fun t101 => (some t101)
set_option maxHeartbeats 8000000 in
set_option maxRecDepth 100000 in
theorem crc_Sum.calls (A0 : Option Addr) (c0 : Nat) (l0 : List Int) (r : Int) (w : World) (hr0 : Kd.C (Kd.int .u8) w A0 l0.length l0) (hc0 : l0.length ≤ c0) (h : crc_Sum.f l0 = some r) :
    Calls Tryd.prog 28 #[.slice A0 l0.length c0] w fun e w' => e = .returned (.int .u32 r) ∧ Below w.heap.size w w' := by
  have HR0 := Aside0.mk hr0
  have HC0 := Aside0.mk hc0
  clear hr0 hc0
  have HB := Aside0.mk (Below.refl w.heap.size w)
  have H : ((crc_More.f 0 l0).bind fun t101 => (some t101)) = some r := h
  clear h
  replace H := Option.bind_eq_some_iff.mp H
  obtain ⟨t101, A20, H⟩ := H
  replace H : (some t101) = some r := H
  have A2 := Aside0.mk A20
  clear A20
  obtain rfl := Option.some.inj H
  go_enter Tryd.func28, Tryd.ntmps28
  go_wp2_with (first | ((with_reducible refine gate_callee (f := 32) rfl ?_); refine goesL_ (some 4) rfl rfl Tryd.func32 (by kernel_rfl) rfl #[.int .u32 0, .slice A0 l0.length c0] rfl (by (try simp only [List.map_toArray, List.map_cons, List.map_nil]); first | done | rfl | (simp only [List.length_drop, List.length_take]; rfl)) ?_; (with_reducible refine (crc_More.calls 0 _ _ l0 t101 _ ?side1 ?side2 A2.out).mono ?_); (case side1 => repeat (first | exact HR0.out | (with_reducible refine Kd.C_alloc ?_ _) | (with_reducible refine Kd.C_drewN ?_ _) | (with_reducible refine Kd.C_drew ?_))); (case side2 => exact HC0.out); rintro e w3 ⟨rfl, hb⟩; refine ⟨_, rfl, ?_⟩; have n0_ := Aside0.mk (below_step (by repeat (first | (with_reducible first | exact HB.out | apply below_alloc | apply pw_below_drewN | apply below_drew1) | exact HB.out)) hb); clear HB; have HB := n0_; clear n0_; (try clear hb); (try clear hb2); (try clear hk); (try clear hi)))
  go_ret
  exact ⟨by first | rfl | (simp [errW_none, errW_some] <;> rfl) | (simp [*, errW_none, errW_some] <;> rfl), by repeat (first | (with_reducible first | exact HB.out | apply below_alloc | apply pw_below_drewN | apply below_drew1) | exact HB.out)⟩

/-! ### crc_Seal: function 18 -/
def crc_Seal.f (l0 : List Int) : Option (List Int) := (crc_Sum.f l0).bind fun t102 => ((slices_Clone_byte_byte.f l0).bind fun t103 => ((some (([(t102) % 256, (t102 / 256) % 256, (t102 / 65536) % 256, (t102 / 16777216) % 256] : List Int) : List Int)).bind fun y106 => (if t103.length + y106.length < 140737488355328 then (some (t103 ++ y106)) else (none))))
set_option maxHeartbeats 8000000 in
set_option maxRecDepth 100000 in
theorem crc_Seal.calls (A0 : Option Addr) (c0 : Nat) (l0 : List Int) (r : List Int) (w : World) (hr0 : Kd.C (Kd.int .u8) w A0 l0.length l0) (hc0 : l0.length ≤ c0) (h : crc_Seal.f l0 = some r) :
    Calls Tryd.prog 18 #[.slice A0 l0.length c0] w fun e w' => ∃ v0_ : Value, e = .returned (v0_) ∧ Kd.R (Kd.int .u8) 5 w' w.heap.size (fun _ => True) v0_ r ∧ Below w.heap.size w w' := by
  have HR0 := Aside0.mk hr0
  have HC0 := Aside0.mk hc0
  clear hr0 hc0
  have HB := Aside0.mk (Below.refl w.heap.size w)
  have H : ((crc_Sum.f l0).bind fun t102 => ((slices_Clone_byte_byte.f l0).bind fun t103 => ((some (([(t102) % 256, (t102 / 256) % 256, (t102 / 65536) % 256, (t102 / 16777216) % 256] : List Int) : List Int)).bind fun y106 => (if t103.length + y106.length < 140737488355328 then (some (t103 ++ y106)) else (none))))) = some r := h
  clear h
  replace H := Option.bind_eq_some_iff.mp H
  obtain ⟨t102, A20, H⟩ := H
  replace H : ((slices_Clone_byte_byte.f l0).bind fun t103 => ((some (([(t102) % 256, (t102 / 256) % 256, (t102 / 65536) % 256, (t102 / 16777216) % 256] : List Int) : List Int)).bind fun y106 => (if t103.length + y106.length < 140737488355328 then (some (t103 ++ y106)) else (none)))) = some r := H
  have A2 := Aside0.mk A20
  clear A20
  replace H := Option.bind_eq_some_iff.mp H
  obtain ⟨t103, A30, H⟩ := H
  replace H : ((some (([(t102) % 256, (t102 / 256) % 256, (t102 / 65536) % 256, (t102 / 16777216) % 256] : List Int) : List Int)).bind fun y106 => (if t103.length + y106.length < 140737488355328 then (some (t103 ++ y106)) else (none))) = some r := H
  have A3 := Aside0.mk A30
  clear A30
  obtain ⟨y106, hy106⟩ : ∃ y_ : List Int, y_ = (([(t102) % 256, (t102 / 256) % 256, (t102 / 65536) % 256, (t102 / 16777216) % 256] : List Int)) := ⟨_, rfl⟩
  replace H : (if t103.length + y106.length < 140737488355328 then (some (t103 ++ y106)) else (none)) = some r := by first | (rw [hy106]; with_reducible exact H) | (have H2_ := (Option.bind_some _ _).symm.trans H; rw [hy106]; with_reducible exact H2_) | (have H2_ := (Option.bind_some _ _).symm.trans H; with_reducible exact H2_) | with_reducible exact H | (rw [hy106]; exact H) | exact H
  have Ny106 := Aside0.mk hy106
  clear hy106
  by_cases c4 : t103.length + y106.length < 140737488355328
  · rw [if_pos c4] at H
    have LMc4 := Aside0.mk c4
    clear c4
    obtain ⟨y109, hy109⟩ : ∃ y_ : List Int, y_ = (t103 ++ y106) := ⟨_, rfl⟩
    replace H : (some y109) = some r := by first | (rw [hy109]; with_reducible exact H) | (have H2_ := (Option.bind_some _ _).symm.trans H; rw [hy109]; with_reducible exact H2_) | (have H2_ := (Option.bind_some _ _).symm.trans H; with_reducible exact H2_) | with_reducible exact H | (rw [hy109]; exact H) | exact H
    have Ny109 := Aside0.mk hy109
    clear hy109
    obtain rfl := Option.some.inj H
    go_enter Tryd.func18, Tryd.ntmps18
    go_wp2_with (first | ((with_reducible refine gate_callee (f := 28) rfl ?_); refine goesL_ (some 5) rfl rfl Tryd.func28 (by kernel_rfl) rfl #[.slice A0 l0.length c0] rfl (by (try simp only [List.map_toArray, List.map_cons, List.map_nil]); first | done | rfl | (simp only [List.length_drop, List.length_take]; rfl)) ?_; (with_reducible refine (crc_Sum.calls _ _ l0 t102 _ ?side1 ?side2 A2.out).mono ?_); (case side1 => repeat (first | exact HR0.out | (with_reducible refine Kd.C_alloc ?_ _) | (with_reducible refine Kd.C_drewN ?_ _) | (with_reducible refine Kd.C_drew ?_))); (case side2 => exact HC0.out); rintro e w5 ⟨rfl, hb⟩; refine ⟨_, rfl, ?_⟩; have n0_ := Aside0.mk (below_step (by repeat (first | (with_reducible first | exact HB.out | apply below_alloc | apply pw_below_drewN | apply below_drew1) | exact HB.out)) hb); clear HB; have HB := n0_; clear n0_; (try clear hb); (try clear hb2); (try clear hk); (try clear hi)) | ((with_reducible refine gate_callee (f := 24) rfl ?_); refine goesL_ (some 7) rfl rfl Tryd.func24 (by kernel_rfl) rfl #[.slice A0 l0.length c0] rfl (by (try simp only [List.map_toArray, List.map_cons, List.map_nil]); first | done | rfl | (simp only [List.length_drop, List.length_take]; rfl)) ?_; (with_reducible refine (slices_Clone_byte_byte.calls _ _ l0 t103 _ ?side1 ?side2 A3.out).mono ?_); (case side1 => repeat (first | exact (Kd.C_below HR0.out HB.out) | (with_reducible refine Kd.C_alloc ?_ _) | (with_reducible refine Kd.C_drewN ?_ _) | (with_reducible refine Kd.C_drew ?_))); (case side2 => exact HC0.out); rintro e w6 ⟨v104, rfl, ho0, hb⟩; refine ⟨_, rfl, ?_⟩; have n0_ := Aside0.mk (Kd.R_lower ho0 (below_size (by repeat (first | (with_reducible first | exact HB.out | apply below_alloc | apply pw_below_drewN | apply below_drew1) | exact HB.out)))); have n1_ := Aside0.mk (below_step (by repeat (first | (with_reducible first | exact HB.out | apply below_alloc | apply pw_below_drewN | apply below_drew1) | exact HB.out)) hb); clear HB; have HO105 := n0_; have HB := n1_; clear n0_ n1_; (try clear hb); (try clear hb2); (try clear hk); (try clear hi); (try clear ho0)) | ((with_reducible refine gate_dst (N := 19) rfl ?_); refine Kd.R_lit (Kd.int .u8) _ 5 ?hg (N := 19) ?hd (xs := ([(t102) % 256, (t102 / 256) % 256, (t102 / 65536) % 256, (t102 / 16777216) % 256] : List Int)) (inner := [.int .u8 ((t102) % 256), .int .u8 ((t102 / 256) % 256), .int .u8 ((t102 / 65536) % 256), .int .u8 ((t102 / 16777216) % 256)]) (ok := fun _ => True) (okp := fun _ => True) ?hr ?hp (fun _ hk => hk) trivial (Below.refl _ _) (Nat.le_refl _) (by simp) ?_; (case hd => rfl); (case hg => rfl); (case hr => first | (go_simp; done) | (go_simp; rfl)); (case hp => exact (Reps.one (show Kd.M (Kd.int .u8) _ _ _ ((t102) % 256) [.int .u8 ((t102) % 256)] from rfl) (Reps.one (show Kd.M (Kd.int .u8) _ _ _ ((t102 / 256) % 256) [.int .u8 ((t102 / 256) % 256)] from rfl) (Reps.one (show Kd.M (Kd.int .u8) _ _ _ ((t102 / 65536) % 256) [.int .u8 ((t102 / 65536) % 256)] from rfl) (Reps.one (show Kd.M (Kd.int .u8) _ _ _ ((t102 / 16777216) % 256) [.int .u8 ((t102 / 16777216) % 256)] from rfl) (Reps.none _ _)))))); intro v107 w7 ho8 hb hg_ hnew_; clear hg_ hnew_; (first | rw [← Ny106.out] at ho8 | (simp only [Int.reduceToNat] at ho8; rw [← Ny106.out] at ho8)); have n0_ := Aside0.mk (Kd.R_elder' (by (with_reducible repeat (first | apply Kd.R_alloc | apply Kd.R_drewN | apply Kd.R_drew)); exact HO105.out) (Kd.R_base ho8) hb); have n1_ := Aside0.mk (Kd.R_lower (Kd.R_new' ho8 (Kd.R_lt (by (with_reducible repeat (first | apply Kd.R_alloc | apply Kd.R_drewN | apply Kd.R_drew)); exact HO105.out))) (below_size (by repeat (first | (with_reducible first | exact HB.out | apply below_alloc | apply pw_below_drewN | apply below_drew1) | exact HB.out)))); have n2_ := Aside0.mk (below_step (by repeat (first | (with_reducible first | exact HB.out | apply below_alloc | apply pw_below_drewN | apply below_drew1) | exact HB.out)) hb); clear HO105; clear HB; have HO105 := n0_; have HO108 := n1_; have HB := n2_; clear n0_ n1_ n2_; clear hb ho8; obtain ⟨Ao10, co10, eo10⟩ := Kd.R_slice HO108.out; subst eo10) | ((with_reducible refine gate_builtin (b := .append) (xs := #[.tmp 7, .tmp 19]) rfl ?_); at_builtin; refine Kd.R_append_rows (Kd.int .u8) (w0 := w) w.heap.size rfl (.tmp 7) (.tmp 19) 24 5 (.int .u8 0) 1 rfl Tryd.underlying24 info5 rfl (by decide) (by omega) v104 t103 y106 _ _ _ (fun k_ => some k_ ≠ (.slice Ao10 y106.length co10 : Value).ownBlock) (fun _ => False) rfl rfl ?aO ?aR (fun _ _ h => h) (fun _ h => h.elim) ?aF ?aB ?aS ?aL ?_; (case aR => repeat (first | exact (Kd.R_reads' HO108.out).2.2 | (with_reducible refine Kd.C_alloc ?_ _) | (with_reducible refine Kd.C_drewN ?_ _) | (with_reducible refine Kd.C_drew ?_))); (case aB => exact (by repeat (first | (with_reducible first | exact HB.out | apply below_alloc | apply pw_below_drewN | apply below_drew1) | exact HB.out))); (case aF => exact (fun k_ hk => Kd.fresh' (Kd.R_lt (by (with_reducible repeat (first | apply Kd.R_alloc | apply Kd.R_drewN | apply Kd.R_drew)); exact HO108.out)) k_ hk)); (case aO => exact (by (with_reducible repeat (first | apply Kd.R_alloc | apply Kd.R_drewN | apply Kd.R_drew)); exact Kd.R_mono HO105.out (fun _ hk => hk.2))); (case aS => exact (below_size (by repeat (first | (with_reducible first | exact HB.out | apply below_alloc | apply pw_below_drewN | apply below_drew1) | exact HB.out)))); (case aL => have := LMc4.out; omega); intro v110 w9 ho hb hg hat; rw [← Ny109.out] at ho; have n0_ := Aside0.mk (Kd.R_after (ok := (fun _ => True)) (by (with_reducible repeat (first | apply Kd.R_alloc | apply Kd.R_drewN | apply Kd.R_drew)); exact HO108.out) hg hat); have n1_ := Aside0.mk (hb); have n2_ := Aside0.mk (ho); clear HO108; clear HB; clear HO105; have HO108 := n0_; have HB := n1_; have HO111 := n2_; clear n0_ n1_ n2_; clear ho hb hg hat))
    go_ret
    exact ⟨_, by first | rfl | (simp [errW_none, errW_some] <;> rfl) | (simp [*, errW_none, errW_some] <;> rfl), by (with_reducible repeat (first | apply Kd.R_alloc | apply Kd.R_drewN | apply Kd.R_drew)); exact Kd.R_mono HO111.out (fun _ hk => trivial), by repeat (first | (with_reducible first | exact HB.out | apply below_alloc | apply pw_below_drewN | apply below_drew1) | exact HB.out)⟩
  · rw [if_neg c4] at H
    exact absurd H (by simp)

end Go.Proofs.YthmcigdkopadjaaDoor.PSeal
end

-- Written by wip/tools/myprint.py, a program of this session over the print tool: not a printed text of the kit's
section
namespace Go.Proofs.YthmcigdkopadjaaDoor.PSeal
open Go.RowKit Go.Proofs.YthmcigdkopadjaaDoorW.PrintWords Go.Proofs.YthmcigdkopadjaaDoorW.PrintLast Go.Proofs.YthmcigdkopadjaaDoorW.PrintMore
attribute [local go_sem] max2_int min2_int max_two min_two max_three min_three max_four min_four   -- for this text's walks alone
set_option linter.unusedVariables false
set_option linter.unusedSimpArgs false
set_option maxRecDepth 20000

end Go.Proofs.YthmcigdkopadjaaDoor.PSeal
end

/- Seal in plain words. -/
section
namespace Go.Proofs.YthmcigdkopadjaaDoor.Seal6
open Go.Proofs.YthmcigdkopadjaaDoor Go.RowKit Go.Proofs.YthmcigdkopadjaaDoorW.PrintWords Go.Proofs.YthmcigdkopadjaaDoorW.PrintLast Go.Proofs.YthmcigdkopadjaaDoorW.PrintMore Go.Proofs.YthmcigdkopadjaaDoor.CrcPure Go.Proofs.YthmcigdkopadjaaDoor.Crc6 Go.Proofs.YthmcigdkopadjaaDoor.PSeal
set_option linter.unusedVariables false
set_option linter.unusedSimpArgs false
theorem more_crc (s : Nat) (l : List Nat) (hs : s < 4294967296) (hl : Small l) (hn : l.length ≤ 140737488355328) : crc_More.f (s : Int) (ints l) = some ((CrcMath.more s l : Nat) : Int) := more_nat s l hs hl hn
theorem sum_crc (l : List Nat) (hl : Small l) (hn : l.length ≤ 140737488355328) : crc_Sum.f (ints l) = some ((CrcMath.more 0 l : Nat) : Int) := by
  unfold crc_Sum.f
  have := more_crc 0 l (by decide) hl hn
  rw [show (0 : Int) = ((0 : Nat) : Int) from rfl, this]
  rfl
theorem clone_ints (l : List Nat) (hn : l.length < 140737488355328) : slices_Clone_byte_byte.f (ints l) = some (ints l) := by
  show Clone.cloneF (ints l) = _
  unfold Clone.cloneF
  rw [if_pos (by rw [ints_len]; exact hn)]
theorem seal_crc (m : List Nat) (hm : Small m) (hn : m.length ≤ 1000000) : crc_Seal.f (ints m) = some (ints (sealN m)) := by
  unfold crc_Seal.f
  rw [sum_crc m hm (by omega)]
  simp only [Option.bind_some]
  rw [clone_ints m (by omega)]
  simp only [Option.bind_some]
  rw [le4_ints, ints_len, ints_len, if_pos (by show m.length + 4 < _; omega), ints_append]
  rfl
end Go.Proofs.YthmcigdkopadjaaDoor.Seal6
end

/- A block's bytes: the Go program's Pack, walked. -/
section
namespace Go.Proofs.YthmcigdkopadjaaDoor.Pack6
open Go.Proofs.YthmcigdkopadjaaDoor Go.RowKit Go.Proofs.YthmcigdkopadjaaDoorW.PrintWords Go.Proofs.YthmcigdkopadjaaDoorW.PrintLast Go.Proofs.YthmcigdkopadjaaDoorW.PrintMore Go.Proofs.YthmcigdkopadjaaDoor.Byt Go.Proofs.YthmcigdkopadjaaDoor.Lay6
set_option linter.unusedVariables false
set_option linter.unusedSimpArgs false
def nats (l : List Int) : List Nat := l.map Int.toNat
def AreB (l : List Int) : Prop := ∀ x ∈ l, 0 ≤ x ∧ x ≤ 255
instance (l : List Int) : Decidable (AreB l) := by unfold AreB; exact inferInstance
/-- Bytes with their sum behind them. -/
def sealI (l : List Int) : List Int := CrcPure.ints (Crc6.sealN (nats l))
theorem ints_nats {l : List Int} (h : AreB l) : CrcPure.ints (nats l) = l := by
  unfold CrcPure.ints nats
  rw [List.map_map]
  conv => rhs; rw [← List.map_id l]
  refine List.map_congr_left fun x hx => ?_
  have := h x hx
  show ((x.toNat : Nat) : Int) = x
  omega
theorem nats_small {l : List Int} (h : AreB l) : CrcPure.Small (nats l) := by
  intro c hc
  obtain ⟨x, hx, rfl⟩ := List.mem_map.1 hc
  have := h x hx
  omega
theorem ints_bytes {m : List Nat} (h : CrcPure.Small m) : AreB (CrcPure.ints m) := by
  intro x hx
  obtain ⟨c, hc, rfl⟩ := List.mem_map.1 hx
  have := h c hc
  constructor
  · exact Int.natCast_nonneg c
  · show ((c : Nat) : Int) ≤ 255; omega
theorem nats_ints (m : List Nat) : nats (CrcPure.ints m) = m := by
  unfold CrcPure.ints nats
  rw [List.map_map]
  conv => rhs; rw [← List.map_id m]
  exact List.map_congr_left fun x _ => rfl
theorem seal_bytes {l : List Int} (h : AreB l) : AreB (sealI l) := ints_bytes (Crc6.sealN_small (nats_small h))
theorem seal_len (l : List Int) : (sealI l).length = l.length + 4 := by unfold sealI; rw [CrcPure.ints_len, Crc6.sealN_len]; simp [nats]
theorem seal_at (A : Option Addr) (c : Nat) (l : List Int) (w : World) (h : RC w A l) (hc : l.length ≤ c) (hB : AreB l) (hl : l.length ≤ 1000000) :
    Calls Tryd.prog 18 #[.slice A l.length c] w fun e w' => ∃ v, e = .returned v ∧ Kd.R (Kd.int .u8) 5 w' w.heap.size (fun _ => True) v (sealI l) ∧ Below w.heap.size w w' := by
  have hf : PSeal.crc_Seal.f l = some (sealI l) := by
    have := Seal6.seal_crc (nats l) (nats_small hB) (by simp [nats]; omega)
    rw [ints_nats hB] at this
    exact this
  exact PSeal.crc_Seal.calls A c l _ w (h.to_C (by omega)) hc hf
/-- A block's bytes ahead of their sum. -/
def headP (key stripe shard : Int) (n : Nat) : List Int := [84, 66, 76, 75] ++ be key 8 ++ be stripe 4 ++ [shard % 256, (n : Int) % 256]
def bodyP (key stripe shard : Int) (data : List Int) : List Int := headP key stripe shard data.length ++ List.replicate 10 0 ++ data ++ List.replicate (96 - data.length) 0
theorem be_bytes (x : Int) : ∀ n, AreB (be x n)
  | 0 => fun y hy => by cases hy
  | n + 1 => fun y hy => by
    have hy : y ∈ be (x / 256) n ++ [x % 256] := hy
    rcases List.mem_append.1 hy with h | h
    · exact be_bytes _ n y h
    · rw [List.mem_singleton] at h; omega
theorem headP_len (key stripe shard : Int) (n : Nat) : (headP key stripe shard n).length = 18 := by
  unfold headP
  simp only [List.length_append, be_len, List.length_cons, List.length_nil]
theorem areB_append {a b : List Int} (ha : AreB a) (hb : AreB b) : AreB (a ++ b) := fun x hx => by
  rcases List.mem_append.1 hx with h | h
  · exact ha x h
  · exact hb x h
theorem areB_zeros (n : Nat) : AreB (List.replicate n 0) := fun x hx => by have := List.eq_of_mem_replicate hx; omega
theorem headP_bytes (key stripe shard : Int) (n : Nat) : AreB (headP key stripe shard n) := by
  refine areB_append (areB_append (areB_append (fun x hx => ?_) (be_bytes _ _)) (be_bytes _ _)) (fun x hx => ?_)
  · simp at hx; omega
  · simp at hx; omega
theorem bodyP_bytes (key stripe shard : Int) {data : List Int} (h : AreB data) : AreB (bodyP key stripe shard data) :=
  areB_append (areB_append (areB_append (headP_bytes _ _ _ _) (areB_zeros _)) h) (areB_zeros _)
theorem bodyP_len (key stripe shard : Int) {data : List Int} (h : data.length ≤ 96) : (bodyP key stripe shard data).length = 124 := by
  unfold bodyP
  simp only [List.length_append, headP_len, List.length_replicate]
  omega
def packF (key stripe shard : Int) (data : List Int) : Option (List Int × Int) :=
  if (0 ≤ key ∧ key < 18446744073709551616) ∧ (0 ≤ stripe ∧ stripe < 4294967296) ∧ (0 ≤ shard ∧ shard < 256) ∧ AreB data then
    (if 96 < data.length then some ([], 2) else some (sealI (bodyP key stripe shard data), 0)) else none
abbrev TP : Nat := 26
set_option maxRecDepth 100000 in
set_option maxHeartbeats 4000000 in
theorem pack_long (key stripe shard : Int) (A3 : Option Addr) (c3 : Nat) (l3 : List Int) (w : World) (h : 96 < l3.length) :
    Calls Tryd.prog 9 #[.agg #[.int .u64 key, .int .u32 stripe, .int .u8 shard, .slice A3 l3.length c3]] w fun e w' => e = .returned (.tuple #[.slice none 0 0, .int .i64 2]) ∧ Below w.heap.size w w' := by
  have hg : (96 : Int) < (l3.length : Int) := by omega
  clear h
  go_enter Tryd.func9, Tryd.ntmps9
  go_wp2
  go_ret2
  exact ⟨rfl, (Below.refl _ _).alloc (Nat.le_refl _) _⟩
abbrev MK : Array Value := #[.int .u8 84, .int .u8 66, .int .u8 76, .int .u8 75]
theorem lay_first (W1 : World) (key : Int) (hk : 0 ≤ key ∧ key < 18446744073709551616) (g g2 : Nat) (hg : g = W1.heap.size) (hg2 : g2 = W1.heap.size + 1) :
    Calls Tryd.prog 17 #[.slice (some ⟨g, 0, none⟩) 4 4, .int .i64 8, .slice (some ⟨g2, 0, none⟩) 1 1] ((W1.alloc (.cells MK 5 (4, 5))).alloc (.cells #[.int .u64 key] 22)) fun e w' => ∃ v', e = .returned v' ∧ OWN w' W1.heap.size v' ([84, 66, 76, 75] ++ be key 8) ∧ Below W1.heap.size W1 w' ∧ W1.heap.size ≤ w'.heap.size := by
  subst hg hg2
  have hb : Below W1.heap.size W1 ((W1.alloc (.cells MK 5 (4, 5))).alloc (.cells #[.int .u64 key] 22)) := ((Below.refl _ _).alloc (Nat.le_refl _) _).alloc (by simp) _
  have h1 : RC ((W1.alloc (.cells MK 5 (4, 5))).alloc (.cells #[.int .u64 key] 22)) (some ⟨W1.heap.size, 0, none⟩) [84, 66, 76, 75] := by
    have := bytes_new W1 5 [84, 66, 76, 75] (4, 5)
    exact this.below ((Below.refl _ _).alloc (Nat.le_refl _) _)
  have h2 : ((W1.alloc (.cells MK 5 (4, 5))).alloc (.cells #[.int .u64 key] 22)).heap[W1.heap.size + 1]? = some (.cells #[.int .u64 key] 22 (0, 0)) := by
    have := blk_new (W1.alloc (.cells MK 5 (4, 5))) (.cells #[.int .u64 key] 22)
    rwa [show (W1.alloc (.cells MK 5 (4, 5))).heap.size = W1.heap.size + 1 by simp] at this
  refine (lay_one W1.heap.size W1 _ [84, 66, 76, 75] _ key 8 8 rfl (W1.heap.size + 1) _ rfl (by decide) (by decide) hk (by decide) (.inr ⟨_, rfl, h1⟩) hb (by simp; omega) h2).mono ?_
  rintro e w' ⟨v', he, ho, hb', hz⟩
  exact ⟨v', he, ho, hb', hb'.size⟩
theorem lay_next (w0 w : World) (base : Nat) (v : Value) (l : List Int) (x : Int) (si : Int) (sz : Nat) (hsi : si = (sz : Int)) (g : Nat) (hg : g = w.heap.size) (hs1 : 1 ≤ sz) (hs : sz ≤ 8) (hx : 0 ≤ x ∧ x < 18446744073709551616) (hll : l.length ≤ 100000) (ho : OWN w base v l) (hb : Below base w0 w) (hbase : base ≤ w.heap.size) :
    Calls Tryd.prog 17 #[v, .int .i64 si, .slice (some ⟨g, 0, none⟩) 1 1] (w.alloc (.cells #[.int .u64 x] 22)) fun e w' => ∃ v', e = .returned v' ∧ OWN w' base v' (l ++ be x sz) ∧ Below base w0 w' ∧ w.heap.size ≤ w'.heap.size := by
  subst hg
  refine (lay_one base w0 v l _ x si sz hsi w.heap.size _ rfl hs1 hs hx hll (.inl (ho.alloc _)) (hb.alloc hbase _) (by simp; omega) (blk_new w _)).mono ?_
  rintro e w' ⟨v', he, ho, hb', hz⟩
  exact ⟨v', he, ho, hb', by simp at hz; omega⟩
theorem lay_last (w0 w : World) (base : Nat) (v : Value) (l : List Int) (x y : Int) (g : Nat) (hg : g = w.heap.size) (hx : 0 ≤ x ∧ x < 18446744073709551616) (hy : 0 ≤ y ∧ y < 18446744073709551616) (hll : l.length ≤ 100000) (ho : OWN w base v l) (hb : Below base w0 w) (hbase : base ≤ w.heap.size) :
    Calls Tryd.prog 17 #[v, .int .i64 1, .slice (some ⟨g, 0, none⟩) 2 2] (w.alloc (.cells #[.int .u64 x, .int .u64 y] 22)) fun e w' => ∃ v', e = .returned v' ∧ OWN w' base v' (l ++ [x % 256, y % 256]) ∧ Below base w0 w' ∧ w.heap.size ≤ w'.heap.size := by
  subst hg
  have h1 : OWNO w.heap.size (w.alloc (.cells #[.int .u64 x, .int .u64 y] 22)) base v l := Kd.R_alloc (Kd.R_mono (Kd.R_bound ho) (fun k hk e => by have := hk.2; omega)) _
  refine (lay_two base w0 v l _ x y w.heap.size _ rfl hx hy hll h1 (hb.alloc hbase _) (by simp; omega) (blk_new w _)).mono ?_
  rintro e w' ⟨v', he, ho, hb', hz⟩
  exact ⟨v', he, ho, hb', by simp at hz; omega⟩
theorem own_zeros_i {ops : Array Oper} {rs : List Oper} {o : Oper} {a : Act} {w0 w : World} {Q : Exit → Act → World → Prop} (hgd : o.guard = none) (s x : Operand)
    (ho : o.op = .call { callee := .builtin .append, args := #[s, x], argTypes := #[TB, 3] }) (base : Nat) (v : Value) (l : List Int) (ni : Int) (n : Nat) (hni : ni = (n : Int)) (hs : a.eval s = v) (hx : a.eval x = .int .i64 ni)
    (HO : OWN w base v l) (HB : Below base w0 w) (hbase : base ≤ w.heap.size) (hl : l.length + n ≤ 100000000)
    (h : ∀ v1 w1, OWN w1 base v1 (l ++ List.replicate n 0) → Below base w0 w1 → w.grownBy w1 v.ownBlock → wpList Tryd.prog ops Q rs (a.put o.dst v1) w1) : wpList Tryd.prog ops Q (o :: rs) a w := by
  subst hni
  exact own_zeros hgd s x ho base v l n hs hx HO HB hbase hl h
set_option maxRecDepth 100000 in
set_option maxHeartbeats 4000000 in
theorem pack_at (key stripe shard : Int) (A3 : Option Addr) (c3 : Nat) (l3 : List Int) (w : World) (hk : 0 ≤ key ∧ key < 18446744073709551616) (hs : 0 ≤ stripe ∧ stripe < 4294967296) (hd : 0 ≤ shard ∧ shard < 256) (hB : AreB l3) (h : l3.length ≤ 96) (hr : RC w A3 l3) (hc : l3.length ≤ c3) :
    Calls Tryd.prog 9 #[.agg #[.int .u64 key, .int .u32 stripe, .int .u8 shard, .slice A3 l3.length c3]] w fun e w' => ∃ v, e = .returned (.tuple #[v, .int .i64 0]) ∧ OWN w' w.heap.size v (sealI (bodyP key stripe shard l3)) ∧ Below w.heap.size w w' := by
  have hg : ¬ (l3.length : Int) > 96 := by omega
  have kc : (convert TB TB (.slice (some ⟨w.heap.size + 1, 0, none⟩) 4 4)).run Tryd.prog ((w.alloc (.cells #[.int .u64 key, .int .u32 stripe, .int .u8 shard, .slice A3 l3.length c3] TP)).alloc (.cells #[.int .u8 84, .int .u8 66, .int .u8 76, .int .u8 75] 5)) = .ok (.slice (some ⟨w.heap.size + 1, 0, none⟩) 4 4) ((w.alloc (.cells #[.int .u64 key, .int .u32 stripe, .int .u8 shard, .slice A3 l3.length c3] TP)).alloc (.cells #[.int .u8 84, .int .u8 66, .int .u8 76, .int .u8 75] 5 (4, 5))) := by
    have := Lib.run_convert_bytes_const (P := Tryd.prog) (w.alloc (.cells #[.int .u64 key, .int .u32 stripe, .int .u8 shard, .slice A3 l3.length c3] TP)) TB 5 #[.int .u8 84, .int .u8 66, .int .u8 76, .int .u8 75] 4 4 Tryd.underlying24 Tryd.underlying5
    rw [show (w.alloc (.cells #[.int .u64 key, .int .u32 stripe, .int .u8 shard, .slice A3 l3.length c3] TP)).heap.size = w.heap.size + 1 by simp] at this
    exact this
  have HK := Lib.hid hk
  have HS := Lib.hid hs
  have HD := Lib.hid hd
  have HR := Lib.hid hr
  have HB := Lib.hid hB
  clear hk hs hd hr hB
  go_enter Tryd.func9, Tryd.ntmps9
  have hws : IntKind.u64.wrap stripe = stripe := by rw [IntKind.wrap_u64]; have := HS.out; omega
  have hwd : IntKind.u64.wrap shard = shard := by rw [IntKind.wrap_u64]; have := HD.out; omega
  have hwl : IntKind.u64.wrap (l3.length : Int) = (l3.length : Int) := by rw [IntKind.wrap_u64]; omega
  have tk0 : True := trivial
  go_wp2_with (first
    | (go_at_call 17; have _tk := tk0; go_loud ((with_reducible refine (lay_first (w.alloc (.cells #[.int .u64 key, .int .u32 stripe, .int .u8 shard, .slice A3 l3.length c3] TP)) key HK.out _ _ (by simp) (by simp)).mono ?_); rintro e w1 ⟨v1, rfl, ho1, hb1, hz1⟩; have HO1 := Lib.hid ho1; have HB1 := Lib.hid hb1; have HZ1 := Lib.hid (show (w.alloc (.cells #[.int .u64 key, .int .u32 stripe, .int .u8 shard, .slice A3 l3.length c3] TP)).heap.size ≤ w1.heap.size from hb1.size); have bx1 : w1.heap[w.heap.size]? = some (.cells #[.int .u64 key, .int .u32 stripe, .int .u8 shard, .slice A3 l3.length c3] TP (0, 0)) := (hb1.block w.heap.size (by simp)).trans (blk_new w _); have hx1_1 : w1.cell? ⟨w.heap.size, 1, none⟩ = some (.int .u32 stripe) := (by rw [blk_cell bx1]; rfl); have tk1 : True := trivial; clear ho1 hb1 hz1 bx1 tk0 _tk))
    | (go_at_call 17; have _tk := tk1; go_loud ((with_reducible refine (lay_next (w.alloc (.cells #[.int .u64 key, .int .u32 stripe, .int .u8 shard, .slice A3 l3.length c3] TP)) w1 _ v1 _ stripe 4 4 rfl _ rfl (by decide) (by decide) (by have := HS.out; omega) (by simp only [List.length_append, be_len]; decide) HO1.out HB1.out HZ1.out).mono ?_); rintro e w2 ⟨v2, rfl, ho2, hb2, hz2⟩; have HO2 := Lib.hid ho2; have HB2 := Lib.hid hb2; have HZ2 := Lib.hid (show (w.alloc (.cells #[.int .u64 key, .int .u32 stripe, .int .u8 shard, .slice A3 l3.length c3] TP)).heap.size ≤ w2.heap.size from hb2.size); have bx2 : w2.heap[w.heap.size]? = some (.cells #[.int .u64 key, .int .u32 stripe, .int .u8 shard, .slice A3 l3.length c3] TP (0, 0)) := (hb2.block w.heap.size (by simp)).trans (blk_new w _); have hx2_2 : w2.cell? ⟨w.heap.size, 2, none⟩ = some (.int .u8 shard) := (by rw [blk_cell bx2]; rfl); have hx2_3 : w2.cell? ⟨w.heap.size, 3, none⟩ = some (.slice A3 l3.length c3) := (by rw [blk_cell bx2]; rfl); have tk2 : True := trivial; clear ho2 hb2 hz2 bx2 tk1 _tk))
    | (go_at_call 17; have _tk := tk2; go_loud ((with_reducible refine (lay_last (w.alloc (.cells #[.int .u64 key, .int .u32 stripe, .int .u8 shard, .slice A3 l3.length c3] TP)) w2 _ v2 _ shard (l3.length : Int) _ rfl (by have := HD.out; omega) (by omega) (by simp only [List.length_append, be_len]; decide) HO2.out HB2.out HZ2.out).mono ?_); rintro e w3 ⟨v3, rfl, ho3, hb3, hz3⟩; have ho3 : OWN w3 _ v3 (headP key stripe shard l3.length) := ho3; have HO3 := Lib.hid ho3; have HB3 := Lib.hid hb3; have HZ3 := Lib.hid (show (w.alloc (.cells #[.int .u64 key, .int .u32 stripe, .int .u8 shard, .slice A3 l3.length c3] TP)).heap.size ≤ w3.heap.size from hb3.size); have bx3 : w3.heap[w.heap.size]? = some (.cells #[.int .u64 key, .int .u32 stripe, .int .u8 shard, .slice A3 l3.length c3] TP (0, 0)) := (hb3.block w.heap.size (by simp)).trans (blk_new w _); have hx3_3 : w3.cell? ⟨w.heap.size, 3, none⟩ = some (.slice A3 l3.length c3) := (by rw [blk_cell bx3]; rfl); have tk3 : True := trivial; obtain ⟨A3v, c3v, hv3, hc3v, hr3, _⟩ := ho3.form; have HL3 := Lib.hid (headP_len key stripe shard l3.length); have hv3 := hv3.trans (show Value.slice A3v (headP key stripe shard l3.length).length c3v = .slice A3v 18 c3v by rw [HL3.out]); subst hv3; clear ho3 hb3 hz3 bx3 tk2 _tk hr3 hc3v))
    | ((with_reducible refine gate_builtin (b := .append) (xs := #[.tmp 31, .tmp 34]) rfl ?_); go_loud (refine own_zeros_i (w0 := (w.alloc (.cells #[.int .u64 key, .int .u32 stripe, .int .u8 shard, .slice A3 l3.length c3] TP))) rfl (.tmp 31) (.tmp 34) rfl (w.alloc (.cells #[.int .u64 key, .int .u32 stripe, .int .u8 shard, .slice A3 l3.length c3] TP)).heap.size _ _ _ 10 (by go_num) rfl rfl HO3.out HB3.out HZ3.out (by rw [HL3.out]; decide) ?_); intro v4 w4 ho4 hb4 hg4; obtain ⟨P4, hP4⟩ : ∃ P4, P4 = headP key stripe shard l3.length ++ List.replicate 10 0 := ⟨_, rfl⟩; rw [← hP4] at ho4; have HL4 := Lib.hid (show P4.length = 28 by rw [hP4, List.length_append, HL3.out, List.length_replicate]); have HP4 := Lib.hid hP4; clear hP4; have HO4 := Lib.hid ho4; have HB4 := Lib.hid hb4; have HZ4 := Lib.hid (show (w.alloc (.cells #[.int .u64 key, .int .u32 stripe, .int .u8 shard, .slice A3 l3.length c3] TP)).heap.size ≤ w4.heap.size from hb4.size); have bx4 : w4.heap[w.heap.size]? = some (.cells #[.int .u64 key, .int .u32 stripe, .int .u8 shard, .slice A3 l3.length c3] TP (0, 0)) := (hb4.block w.heap.size (by simp)).trans (blk_new w _); have hx4_3 : w4.cell? ⟨w.heap.size, 3, none⟩ = some (.slice A3 l3.length c3) := (by rw [blk_cell bx4]; rfl); have HR4 := Lib.hid (HR.out.below (((Below.refl w.heap.size w).alloc (Nat.le_refl _) _).trans (hb4.mono (by simp)))); clear ho4 hb4 hg4 bx4)
    | ((with_reducible refine gate_builtin (b := .append) (xs := #[.tmp 36, .tmp 38]) rfl ?_); go_loud (refine own_append (w0 := (w.alloc (.cells #[.int .u64 key, .int .u32 stripe, .int .u8 shard, .slice A3 l3.length c3] TP))) rfl (.tmp 36) (.tmp 38) rfl (w.alloc (.cells #[.int .u64 key, .int .u32 stripe, .int .u8 shard, .slice A3 l3.length c3] TP)).heap.size v4 _ l3 A3 c3 rfl rfl HO4.out HR4.out HB4.out HZ4.out (by rw [HL4.out]; omega) ?_); intro v5 w5 ho5 hb5 hg5; obtain ⟨P5, hP5⟩ : ∃ P5, P5 = P4 ++ l3 := ⟨_, rfl⟩; rw [← hP5] at ho5; have HL5 := Lib.hid (show P5.length = 28 + l3.length by rw [hP5, List.length_append, HL4.out]); have HP5 := Lib.hid hP5; clear hP5; have HO5 := Lib.hid ho5; have HB5 := Lib.hid hb5; have HZ5 := Lib.hid (show (w.alloc (.cells #[.int .u64 key, .int .u32 stripe, .int .u8 shard, .slice A3 l3.length c3] TP)).heap.size ≤ w5.heap.size from hb5.size); obtain ⟨A5v, c5v, hv5, _, _, _⟩ := ho5.form; rw [HL5.out] at hv5; subst hv5; clear ho5 hb5 hg5)
    | ((with_reducible refine gate_builtin (b := .append) (xs := #[.tmp 40, .tmp 43]) rfl ?_); go_loud (refine own_zeros_i (w0 := (w.alloc (.cells #[.int .u64 key, .int .u32 stripe, .int .u8 shard, .slice A3 l3.length c3] TP))) rfl (.tmp 40) (.tmp 43) rfl (w.alloc (.cells #[.int .u64 key, .int .u32 stripe, .int .u8 shard, .slice A3 l3.length c3] TP)).heap.size _ _ _ (96 - l3.length) (by omega) rfl rfl HO5.out HB5.out HZ5.out (by rw [HL5.out]; omega) ?_); intro v6 w6 ho6 hb6 hg6; have HB6 := Lib.hid hb6; rw [HP5.out, HP4.out, show headP key stripe shard l3.length ++ List.replicate 10 0 ++ l3 ++ List.replicate (96 - l3.length) 0 = bodyP key stripe shard l3 from rfl] at ho6; obtain ⟨A6v, c6v, rfl, hc6, hr6, _⟩ := ho6.form; have HR6 := Lib.hid hr6; clear ho6 hb6 hg6 hr6)
    | (go_at_call 18; go_loud ((with_reducible refine (seal_at A6v c6v _ _ HR6.out hc6 (bodyP_bytes key stripe shard HB.out) (by rw [bodyP_len key stripe shard h]; decide)).mono ?_); rintro e w7 ⟨v7, rfl, ho7, hb7⟩; have HO7 := Lib.hid ho7; have HB7 := Lib.hid hb7; clear ho7 hb7)))
  go_ret2
  have h6 : Below w.heap.size w w6 := ((Below.refl w.heap.size w).alloc (Nat.le_refl _) _).trans (HB6.out.mono (by simp))
  exact ⟨_, rfl, Kd.R_lower HO7.out h6.size, h6.trans (HB7.out.mono h6.size)⟩
theorem pack_calls (a0_0 a0_1 a0_2 : Int) (A0_3 : Option Addr) (c0_3 : Nat) (l0_3 : List Int) (r1 : List Int) (r2 : Int) (w : World) (hr : Kd.C (Kd.int .u8) w A0_3 l0_3.length l0_3) (hc : l0_3.length ≤ c0_3) (h : packF a0_0 a0_1 a0_2 l0_3 = some (r1, r2)) :
    Calls Tryd.prog 9 #[.agg #[.int .u64 a0_0, .int .u32 a0_1, .int .u8 a0_2, .slice A0_3 l0_3.length c0_3]] w fun e w' => ∃ v0_ : Value, e = .returned (.tuple #[v0_, .int .i64 r2]) ∧ Kd.R (Kd.int .u8) 5 w' w.heap.size (fun _ => True) v0_ r1 ∧ Below w.heap.size w w' := by
  unfold packF at h
  by_cases hq : (0 ≤ a0_0 ∧ a0_0 < 18446744073709551616) ∧ (0 ≤ a0_1 ∧ a0_1 < 4294967296) ∧ (0 ≤ a0_2 ∧ a0_2 < 256) ∧ AreB l0_3
  · rw [if_pos hq] at h
    by_cases hl : 96 < l0_3.length
    · rw [if_pos hl] at h
      simp only [Option.some.injEq, Prod.mk.injEq] at h
      obtain ⟨rfl, rfl⟩ := h
      refine (pack_long a0_0 a0_1 a0_2 A0_3 c0_3 l0_3 w hl).mono ?_
      rintro e w' ⟨rfl, hb⟩
      exact ⟨_, rfl, Kd.R_nil _ _ _ _ _, hb⟩
    · rw [if_neg hl] at h
      simp only [Option.some.injEq, Prod.mk.injEq] at h
      obtain ⟨rfl, rfl⟩ := h
      exact pack_at a0_0 a0_1 a0_2 A0_3 c0_3 l0_3 w hq.1 hq.2.1 hq.2.2.1 hq.2.2.2 (by omega) (RC.of_C hr) hc
  · rw [if_neg hq] at h; cases h
end Go.Proofs.YthmcigdkopadjaaDoor.Pack6
end
