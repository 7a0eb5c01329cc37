/- Texts of this claim, laid together by wip/tools/squash.py: Byt, GfMath, Lin, Elim, Gf, Clone, PMatrixInversesx0. -/
import Derived.Test.YtjkmaobfpgfdnaaProg
import Derived.Test.YtjkmaobfpgfdnaaWMore
import Derived.Test.YtjkmaobfpgfdnaaWLast
import Derived.Lib.Hide
import Derived.Deep.AppendSrc
import Derived.StillTailTactics
import Derived.Stop.BytesEq
import Derived.Outline
import Derived.RegionTactic
import Derived.BigRegion
import Derived.Deep.QuietTactic
import Derived.BigQuiet
import Derived.Laws.Rows
import Derived.Lib.SliceRun
import Derived.Lib.SlBytesConst
import Derived.KernelRfl
import Derived.WalkKit
import Derived.Below
import Derived.Deep.Draws
import Derived.Deep.AppendLies
import Derived.Maps.AppendAt
import Derived.OwnWalk
import Derived.Laws.BytesArg
import Derived.Laws.MakeOwn
import Derived.Laws.OwnMore
import Derived.Deep.OwnRows
import Derived.Tactics
import Derived.Lib.ConvBytes
import Derived.Laws.Slices
import Derived.RowKit3
import Derived.Deep.LoopGhost
import Derived.WideLaws
import Derived.Deep.DeepCutAuto
import Derived.Deep.CutBlock
import Derived.Deep.RegionHeld3
import Derived.Lib.AppendStr
import Derived.ArgAppend
import Derived.Laws.IdiomCopy
import Derived.OrdersHeld
import Derived.Laws.BitsLemmas
import Derived.RowKit
import Derived.Test.YtjkmaobfpgfdnaaWWords
import Derived.Test.YtjkmaobfpgfdnaaWTab
import Derived.Test.YtjkmaobfpgfdnaaWFour
import Derived.Test.YtjkmaobfpgfdnaaWQPut
import Derived.Test.YtjkmaobfpgfdnaaWApart
import Derived.Test.YtjkmaobfpgfdnaaWArr
import Derived.Test.YtjkmaobfpgfdnaaWZeros
import Derived.Test.YtjkmaobfpgfdnaaWFoot
import Derived.Test.YtjkmaobfpgfdnaaWKept
import Derived.Test.YtjkmaobfpgfdnaaWShare
import Derived.Test.YtjkmaobfpgfdnaaWN
import Derived.Test.YtjkmaobfpgfdnaaWFootNe
import Derived.Test.YtjkmaobfpgfdnaaWAt
import Derived.Test.YtjkmaobfpgfdnaaWEqStruct
import Derived.Test.YtjkmaobfpgfdnaaWRepsOne
import Derived.Test.YtjkmaobfpgfdnaaWInv
import Derived.Test.YtjkmaobfpgfdnaaWInvWords
import Derived.Test.YtjkmaobfpgfdnaaWGuard
import Derived.Test.YtjkmaobfpgfdnaaWNEv

/- Bytes in memory: read at an address, owned, cut, put behind one another; what stays as it was. (Written by tools/mkbyt.py out of this session's own texts.) -/
section
namespace Go.Proofs.Ytjkmaobfpgfdnaa.Byt
open Go.Proofs.Ytjkmaobfpgfdnaa Go.RowKit Go.Proofs.YtjkmaobfpgfdnaaW.PrintWords Go.Proofs.YtjkmaobfpgfdnaaW.PrintLast Go.Proofs.YtjkmaobfpgfdnaaW.PrintMore
set_option linter.unusedVariables false
set_option linter.unusedSimpArgs false

def bn (b : List Int) (j : Nat) : Int := rd b (j : Int)
theorem nums_set' (k : IntKind) (l : List Int) (i : Nat) (v : Int) : (nums k l).toArray.setIfInBounds i (.int k v) = (nums k (l.set i v)).toArray := by
  simp [nums, List.map_set]
theorem below_setRow {B : Nat} {a w : World} (h : Below B a w) {g : Nat} (hg : B ≤ g) (cs : Array Value) : Below B a (w.setRow g cs) :=
  h.trans ⟨rfl, rfl, rfl, by simp, fun k hk => setRow_other _ _ _ _ (by omega)⟩
theorem byte_at {w : World} {A : Option Addr} {l : List Int} (h : Kd.C (Kd.int .u8) w A l.length l) (j : Nat) (h1 : j < l.length) : ∃ ad, A = some ad ∧ w.cell? (ad.add j) = some (.int .u8 (bn l j)) := by
  obtain ⟨ad, e, hx⟩ := Kd.at_int h (j : Int) (by omega) (by omega)
  rw [Int.toNat_natCast] at hx
  exact ⟨ad, e, hx⟩
def Bytes (l : List Int) : Prop := ∀ j : Nat, 0 ≤ bn l j ∧ bn l j ≤ 255
/-- The first cells of a block, read as a whole. -/
theorem run_load_front {P : Program} (w : World) (g : Nat) (t ty : TypeId) (cs rest : List Value) (fr : Nat × Nat) (d : TypeDesc) (hg : w.heap[g]? = some (.cells (cs ++ rest).toArray t fr))
    (hu : P.underlying ty = some d) (hd : (match d with | .struct _ | .array _ _ => true | _ => false) = true) (hi : (P.info? ty).map (·.size) = some cs.length) :
    (loadVar ty ⟨g, 0, none⟩).run P w = .ok (.agg cs.toArray) w := by
  have hl : (loadCells ⟨g, 0, none⟩ cs.length).run P w = .ok cs.toArray w :=
    run_loadCells_list (P := P) w ⟨g, 0, none⟩ cs (fun j v hv => by
      have hadd : (⟨g, 0, none⟩ : Addr).add j = ⟨g, j, none⟩ := by unfold Addr.add; split <;> simp_all
      rw [hadd, cell_of_row w g j _ t fr hg, List.getElem?_toArray, List.getElem?_append_left (List.getElem?_eq_some_iff.mp hv).1]
      exact hv)
  cases hq : P.info? ty with
  | none => simp [hq] at hi
  | some i =>
    have hs : i.size = cs.length := by simpa [hq] using hi
    have hagg : (isAgg ty).run P w = .ok true w := by
      unfold isAgg
      rw [Sem.run_bind, run_underlying hu w]
      cases d <;> simp_all
    simp [loadVar, Sem.run_bind, hagg, sizeOf, typeInfo, hq, hs, hl]
theorem wpList_load_front {P : Program} {ops : Array Oper} {rs : List Oper} {o : Oper} {a : Act} {w : World} {Q : Exit → Act → World → Prop} (hgd : o.guard = none) (ty : TypeId) (x : Operand) (ho : o.op = .load ty x)
    (g : Nat) (hx : a.eval x = .pointer (some ⟨g, 0, none⟩)) (t : TypeId) (cs rest : List Value) (fr : Nat × Nat) (d : TypeDesc) (hg : w.heap[g]? = some (.cells (cs ++ rest).toArray t fr))
    (hu : P.underlying ty = some d) (hd : (match d with | .struct _ | .array _ _ => true | _ => false) = true) (hi : (P.info? ty).map (·.size) = some cs.length)
    (h : wpList P ops Q rs (a.put o.dst (.agg cs.toArray)) w) : wpList P ops Q (o :: rs) a w :=
  wpList_plain hgd fun K hK => by
    unfold Oper.wp execOp
    simp only [ho, hx, Instr.loadAt, Instr.sureAddr, Sem.run_bind, Sem.run_pure, Result.andThen_ok, run_load_front w g t ty cs rest fr d hg hu hd hi]
    exact hK _ _ h
/-- Of what was there only the block g has turned. -/
structure Wrote (g : Nat) (w w' : World) : Prop where
  os : w'.os = w.os
  tape : w'.tape = w.tape
  output : w'.output = w.output
  size : w.heap.size ≤ w'.heap.size
  block : ∀ k, k < w.heap.size → k ≠ g → w'.heap[k]? = w.heap[k]?
theorem Wrote.refl (g : Nat) (w : World) : Wrote g w w := ⟨rfl, rfl, rfl, Nat.le_refl _, fun _ _ _ => rfl⟩
theorem Wrote.of_below {g : Nat} {w w' : World} (h : Below w.heap.size w w') : Wrote g w w' := ⟨h.os, h.tape, h.output, h.size, fun k hk _ => h.block k hk⟩
theorem Wrote.trans {g : Nat} {a b c : World} (h : Wrote g a b) (k : Wrote g b c) : Wrote g a c :=
  ⟨k.os.trans h.os, k.tape.trans h.tape, k.output.trans h.output, Nat.le_trans h.size k.size, fun i hi hn => (k.block i (Nat.lt_of_lt_of_le hi h.size) hn).trans (h.block i hi hn)⟩
theorem Wrote.drew {g : Nat} {a b : World} (h : Wrote g a b) : Wrote g a b.drew := ⟨h.os, h.tape, h.output, h.size, h.block⟩
theorem Wrote.below {g : Nat} {B : Nat} {a b : World} (h : Wrote g a b) (hB : B ≤ g) (hs : B ≤ a.heap.size) : Below B a b := ⟨h.os, h.tape, h.output, h.size, fun k hk => h.block k (by omega) (by omega)⟩
theorem wrote_setCell {g : Nat} {a b : World} (h : Wrote g a b) (i : Nat) (u : Value) : Wrote g a (b.setCell ⟨g, i, none⟩ u) :=
  h.trans ⟨rfl, rfl, rfl, by simp [World.setCell], fun k hk hn => heap_setCell_other _ _ _ _ hn⟩
/-- Bytes that are read at an address. -/
def RC (w : World) (A : Option Addr) (l : List Int) : Prop := l ≠ [] → ∃ a, A = some a ∧ a.block < w.heap.size ∧ ∀ j : Nat, j < l.length → w.cell? (a.add j) = some (.int .u8 (bn l j))
/-- They lie in another block than g. -/
def Off (g : Nat) (A : Option Addr) : Prop := ∀ a, A = some a → a.block ≠ g
theorem add_block (a : Addr) (j : Nat) : (a.add j).block = a.block := by
  unfold Addr.add; split <;> rfl
theorem RC.of_C {w : World} {A : Option Addr} {l : List Int} (h : Kd.C (Kd.int .u8) w A l.length l) : RC w A l := by
  intro hl
  have h0 : 0 < l.length := List.length_pos_iff.mpr hl
  obtain ⟨a, rfl, hc⟩ := byte_at h 0 h0
  refine ⟨a, rfl, ?_, fun j hj => ?_⟩
  · have := block_lt_of_cell hc
    rwa [add_block] at this
  · obtain ⟨b, e, hx⟩ := byte_at h j hj
    cases e
    exact hx
theorem RC.to_C {w : World} {A : Option Addr} {l : List Int} (h : RC w A l) (hl : l.length ≤ 9223372036854775807) : Kd.C (Kd.int .u8) w A l.length l := by
  refine Kd.C_of_reads (d := (0 : Int)) (h1 := fun _ => rfl) ?_
  refine ⟨rfl, hl, fun hn => ?_⟩
  obtain ⟨a, e, _, hc⟩ := h (by intro e; subst e; simp at hn)
  refine ⟨a, e, fun j hj => ?_⟩
  rw [hc j hj]
  simp [bn, rd]
theorem RC.wrote {g : Nat} {w w' : World} {A : Option Addr} {l : List Int} (h : RC w A l) (hg : Off g A) (hw : Wrote g w w') : RC w' A l := by
  intro hl
  obtain ⟨a, rfl, hs, hc⟩ := h hl
  refine ⟨a, rfl, Nat.lt_of_lt_of_le hs hw.size, fun j hj => ?_⟩
  rw [World.cell?_of_block (w := w) (by rw [add_block]; exact hw.block _ hs (hg a rfl))]
  exact hc j hj
theorem RC.wrote' {g : Nat} {w w' : World} {A : Option Addr} {l : List Int} (h : RC w A l) (hg : l ≠ [] → Off g A) (hw : Wrote g w w') : RC w' A l := fun hl => (h.wrote (hg hl) hw) hl
theorem RC.off {g : Nat} {w : World} {A : Option Addr} {l : List Int} (h : RC w A l) (hg : w.heap.size ≤ g) : l ≠ [] → Off g A := by
  intro hl a ha
  obtain ⟨b, e, hb, _⟩ := h hl
  rw [ha] at e
  cases e
  omega
theorem RC.below {w w' : World} {A : Option Addr} {l : List Int} (h : RC w A l) (hw : Below w.heap.size w w') : RC w' A l := by
  intro hl
  obtain ⟨a, rfl, hs, hc⟩ := h hl
  refine ⟨a, rfl, Nat.lt_of_lt_of_le hs hw.size, fun j hj => ?_⟩
  rw [World.cell?_of_block (w := w) (by rw [add_block]; exact hw.block _ hs)]
  exact hc j hj
theorem RC.nil (w : World) (A : Option Addr) : RC w A [] := fun h => absurd rfl h
theorem bn_drop (l : List Int) (k j : Nat) : bn (l.drop k) j = bn l (k + j) := by
  unfold bn rd
  rw [Int.toNat_natCast, Int.toNat_natCast, List.getD_eq_getElem?_getD, List.getD_eq_getElem?_getD, List.getElem?_drop]
theorem bn_take (l : List Int) (k j : Nat) (h : j < k) : bn (l.take k) j = bn l j := by
  unfold bn rd
  rw [Int.toNat_natCast, List.getD_eq_getElem?_getD, List.getD_eq_getElem?_getD, List.getElem?_take, if_pos h]
theorem RC.drop {w : World} {a : Addr} {l : List Int} (h : RC w (some a) l) (k : Nat) : RC w (some (a.add k)) (l.drop k) := by
  intro hl
  have hlt : k < l.length := by
    rcases Nat.lt_or_ge k l.length with h | h
    · exact h
    · exact absurd (List.drop_eq_nil_of_le h) hl
  obtain ⟨b, e, hs, hc⟩ := h (by intro e; subst e; simp at hlt)
  cases e
  refine ⟨_, rfl, by rw [add_block]; exact hs, fun j hj => ?_⟩
  rw [Addr.add_add, bn_drop]
  exact hc (k + j) (by rw [List.length_drop] at hj; omega)
theorem RC.take {w : World} {A : Option Addr} {l : List Int} (h : RC w A l) (k : Nat) : RC w A (l.take k) := by
  intro hl
  obtain ⟨a, rfl, hs, hc⟩ := h (by intro e; subst e; simp at hl)
  refine ⟨a, rfl, hs, fun j hj => ?_⟩
  rw [List.length_take] at hj
  rw [bn_take l k j (by omega)]
  exact hc j (by omega)
/-- A new block that begins with bytes. -/
theorem RC.row {w : World} {g : Nat} {l : List Int} {rest : Array Value} {t : TypeId} {fr : Nat × Nat} (h : w.heap[g]? = some (.cells ((nums .u8 l).toArray ++ rest) t fr)) : RC w (some ⟨g, 0, none⟩) l := by
  intro _
  refine ⟨_, rfl, (Array.getElem?_eq_some_iff.1 h).1, fun j hj => ?_⟩
  have hadd : (⟨g, 0, none⟩ : Addr).add j = ⟨g, j, none⟩ := by unfold Addr.add; split <;> simp_all
  rw [hadd, cell_of_row w g j _ t fr h, Array.getElem?_append_left (by simpa [nums] using hj), List.getElem?_toArray]
  simp only [nums, List.getElem?_map]
  rw [List.getElem?_eq_getElem hj]
  simp [bn, rd, List.getD_eq_getElem?_getD, List.getElem?_eq_getElem hj]
theorem cells_of_RC {w : World} {a : Addr} {l : List Int} (h : RC w (some a) l) : ∀ j v, (nums .u8 l)[j]? = some v → w.cell? (a.add j) = some v := by
  intro j v hv
  have hj : j < l.length := by simpa [nums] using (List.getElem?_eq_some_iff.mp hv).1
  obtain ⟨b, e, _, hc⟩ := h (by intro e; subst e; simp at hj)
  cases e
  rw [hc j hj, ← hv]
  simp [nums, bn, rd, List.getD_eq_getElem?_getD, List.getElem?_eq_getElem hj]
abbrev TB : Nat := 38
theorem info5 : (Try.prog.info? 5).map (fun i => (i.zero, i.size, i.bytes)) = some (some (.int .u8 0), 1, 1) := by kernel_rfl
theorem bytes_drop {l : List Int} (h : Bytes l) (k : Nat) : Bytes (l.drop k) := fun j => by rw [bn_drop]; exact h _
theorem bytes_take {l : List Int} (h : Bytes l) (k : Nat) : Bytes (l.take k) := fun j => by
  by_cases hj : j < k
  · rw [bn_take l k j hj]; exact h j
  · unfold bn rd
    rw [Int.toNat_natCast, List.getD_eq_getElem?_getD, List.getElem?_take, if_neg hj]
    simp
theorem bytes_append {a b : List Int} (ha : Bytes a) (hb : Bytes b) : Bytes (a ++ b) := fun j => by
  by_cases hj : j < a.length
  · have : bn (a ++ b) j = bn a j := by
      unfold bn rd
      rw [Int.toNat_natCast, List.getD_eq_getElem?_getD, List.getElem?_append_left hj, List.getD_eq_getElem?_getD]
    rw [this]; exact ha j
  · have : bn (a ++ b) j = bn b (j - a.length) := by
      unfold bn rd
      rw [Int.toNat_natCast, Int.toNat_natCast, List.getD_eq_getElem?_getD, List.getElem?_append_right (by omega), List.getD_eq_getElem?_getD]
    rw [this]; exact hb _
/-- The slice v holds just these bytes, in a block from base on. -/
def OWN (w : World) (base : Nat) (v : Value) (l : List Int) : Prop := Kd.R (Kd.int .u8) 5 w base (fun _ => True) v l
theorem OWN.none (w : World) (base : Nat) : OWN w base (.slice none 0 0) [] := Kd.R_nil _ _ _ _ _
theorem OWN.form {w : World} {base : Nat} {v : Value} {l : List Int} (h : OWN w base v l) : ∃ A c, v = .slice A l.length c ∧ l.length ≤ c ∧ RC w A l ∧ (∀ a, A = some a → base ≤ a.block ∧ a.block < w.heap.size) := by
  obtain ⟨A, c, rfl⟩ := Kd.R_slice h
  have hr := Kd.R_reads' h
  exact ⟨A, c, rfl, hr.2.1, RC.of_C hr.2.2, fun a e => ⟨Kd.R_base h a.block (by rw [e]; rfl), Kd.R_lt h a.block (by rw [e]; rfl)⟩⟩
theorem OWN.alloc {w : World} {base : Nat} {v : Value} {l : List Int} (h : OWN w base v l) (o : Obj) : OWN (w.alloc o) base v l := Kd.R_alloc h o
theorem OWN.drew {w : World} {base : Nat} {v : Value} {l : List Int} (h : OWN w base v l) : OWN w.drew base v l := Kd.R_drew h
theorem OWN.below {w w' : World} {base : Nat} {v : Value} {l : List Int} (h : OWN w base v l) (hb : Below w.heap.size w w') : OWN w' base v l := Kd.R_below h hb
theorem bytes_new (W : World) (e : TypeId) (l : List Int) (fz : Nat × Nat) : RC (W.alloc (.cells (nums .u8 l).toArray e fz)) (some ⟨W.heap.size, 0, none⟩) l := by
  refine RC.row (g := W.heap.size) (t := e) (fr := fz) (rest := #[]) ?_
  rw [Array.append_empty]; exact blk_new _ _
theorem own_append {ops : Array Oper} {rs : List Oper} {o : Oper} {a : Act} {w0 w : World} {Q : Exit → Act → World → Prop} (hgd : o.guard = none) (s x : Operand)
    (ho : o.op = .call { callee := .builtin .append, args := #[s, x], argTypes := #[TB, TB] }) (base : Nat) (v : Value) (l m : List Int) (A : Option Addr) (c : Nat) (hs : a.eval s = v) (hx : a.eval x = .slice A m.length c)
    (HO : OWN w base v l) (HR : RC w A m) (HB : Below base w0 w) (hbase : base ≤ w.heap.size) (hl : l.length + m.length ≤ 100000000)
    (h : ∀ v1 w1, OWN w1 base v1 (l ++ m) → Below base w0 w1 → w.grownBy w1 v.ownBlock → wpList Try.prog ops Q rs (a.put o.dst v1) w1) : wpList Try.prog ops Q (o :: rs) a w := by
  refine Kd.R_append_rows (Kd.int .u8) (w0 := w0) base hgd s x TB 5 (.int .u8 0) 1 ho Try.underlying38 info5 rfl (by decide) (by omega) v l m A m.length c (fun _ => True) (fun _ => False) hs hx HO (HR.to_C (by omega)) (fun _ _ h => h) (fun _ h => h.elim) (fun _ _ => trivial) HB hbase (by omega) ?_
  intro v1 w1 h1 h2 h3 _
  exact h v1 w1 h1 h2 h3
theorem own_append_step {ops : Array Oper} {o : Oper} {a : Act} {w0 w : World} {K : Act → World → Prop} {Q : Exit → Act → World → Prop} (hw : Region.wanted o (yielded ops a.tmps) = true) (s x : Operand)
    (ho : o.op = .call { callee := .builtin .append, args := #[s, x], argTypes := #[TB, TB] }) (base : Nat) (v : Value) (l m : List Int) (A : Option Addr) (c : Nat) (hs : a.eval s = v) (hx : a.eval x = .slice A m.length c)
    (HO : OWN w base v l) (HR : RC w A m) (HB : Below base w0 w) (hbase : base ≤ w.heap.size) (hl : l.length + m.length ≤ 100000000)
    (h : ∀ v1 w1, OWN w1 base v1 (l ++ m) → Below base w0 w1 → w.grownBy w1 v.ownBlock → K (a.put o.dst v1) w1) :
    if Region.wanted o (yielded ops a.tmps) = true then Oper.wp Try.prog o a w K Q else K (a.put o.dst undef) w := by
  refine Kd.R_append_rows_step (Kd.int .u8) (w0 := w0) base hw s x TB 5 (.int .u8 0) 1 ho Try.underlying38 info5 rfl (by decide) (by omega) v l m A m.length c (fun _ => True) (fun _ => False) hs hx HO (HR.to_C (by omega)) (fun _ _ h => h) (fun _ h => h.elim) (fun _ _ => trivial) HB hbase (by omega) ?_
  intro v1 w1 h1 h2 h3 _
  exact h v1 w1 h1 h2 h3
theorem own_zeros {ops : Array Oper} {rs : List Oper} {o : Oper} {a : Act} {w0 w : World} {Q : Exit → Act → World → Prop} (hgd : o.guard = none) (s x : Operand)
    (ho : o.op = .call { callee := .builtin .append, args := #[s, x], argTypes := #[TB, 3] }) (base : Nat) (v : Value) (l : List Int) (n : Nat) (hs : a.eval s = v) (hx : a.eval x = .int .i64 (n : Int))
    (HO : OWN w base v l) (HB : Below base w0 w) (hbase : base ≤ w.heap.size) (hl : l.length + n ≤ 100000000)
    (h : ∀ v1 w1, OWN w1 base v1 (l ++ List.replicate n 0) → Below base w0 w1 → w.grownBy w1 v.ownBlock → wpList Try.prog ops Q rs (a.put o.dst v1) w1) : wpList Try.prog ops Q (o :: rs) a w := by
  refine Kd.R_append_zeros (Kd.int .u8) (w0 := w0) base hgd s x TB 3 5 (.int .u8 0) 1 ho Try.underlying38 (k := .i64) Try.underlying3 info5 rfl (by decide) (by omega) v l 0 (n : Int) (fun _ => True) hs hx rfl (fun _ _ => trivial) HO (by omega) HB hbase (by rw [Int.toNat_natCast]; omega) ?_
  intro v1 w1 h1 h2 h3 _
  rw [Int.toNat_natCast] at h1
  exact h v1 w1 h1 h2 h3
theorem own_lit {ops : Array Oper} {rs : List Oper} {o : Oper} {a : Act} {w0 w : World} {Q : Exit → Act → World → Prop} (base : Nat) (hgd : o.guard = none) {N : Tmp} (hd : o.dst = some N) (l : List Int)
    (hrun : (execOp a.eval o).run Try.prog w = .ok (.value (.slice (some ⟨w.heap.size, 0, none⟩) l.length l.length)) (w.alloc (.cells (nums .u8 l).toArray 5)))
    (HB : Below base w0 w) (hbase : base ≤ w.heap.size) (hm : l.length ≤ 9223372036854775807)
    (h : ∀ v1 w1, OWN w1 base v1 l → Below base w0 w1 → w.grownBy w1 none → wpList Try.prog ops Q rs (a.put o.dst v1) w1) : wpList Try.prog ops Q (o :: rs) a w := by
  refine Kd.R_lit (Kd.int .u8) (w0 := w0) base 5 hgd hd (xs := l) (inner := nums .u8 l) (ok := fun _ => True) (okp := fun _ => True) hrun ?_ (fun _ h => h) trivial HB hbase hm ?_
  · refine ⟨by show (nums .u8 l).length = l.length * 1; simp [nums], fun j x hx => ?_⟩
    obtain ⟨hj, rfl⟩ := List.getElem?_eq_some_iff.mp hx
    show ((nums .u8 l).drop (j * 1)).take 1 = [.int .u8 l[j]]
    rw [Nat.mul_one, List.drop_eq_getElem_cons (by simpa [nums] using hj)]
    simp [nums]
  · intro v1 w1 h1 h2 h3 _
    exact h v1 w1 h1 h2 h3
theorem bytes_one (l : List Int) : (nums .u8 l).toArray.all (·.oneCell') = true := by
  rw [Array.all_eq_true_iff_forall_mem]
  intro v hv
  simp only [nums, List.mem_toArray, List.mem_map] at hv
  obtain ⟨n, _, rfl⟩ := hv
  rfl
theorem run_index_nums8 {P : Program} (t e : TypeId) (n : Nat) (l : List Int) (i : Nat) (w : World) (ht : P.underlying t = some (.array n e)) (he : P.underlying e = some (.int .u8)) (hs : (P.info? e).map (·.size) = some 1) (hl : l.length = n) (hi : i < n) :
    (Instr.index t (.agg (nums .u8 l).toArray) (.int .i64 (i : Int))).run P w = .ok (.int .u8 (bn l i)) w := by
  cases hq : P.info? e with
  | none => simp [hq] at hs
  | some f =>
    have hf : f.size = 1 := by simpa [hq] using hs
    have hagg : (isAgg e).run P w = .ok false w := by
      unfold isAgg
      rw [Sem.run_bind, run_underlying he w]
      rfl
    have hc : (nums .u8 l)[i]? = some (.int .u8 (bn l i)) := by
      unfold bn rd
      simp only [nums, List.getElem?_map]
      rw [List.getElem?_eq_getElem (by omega), Int.toNat_natCast, List.getD_eq_getElem?_getD, List.getElem?_eq_getElem (by omega)]
      rfl
    simp [Instr.index, asIntOf, Sem.run_bind, run_underlying ht w, hagg, part, sizeOf, typeInfo, hq, hf, hc, hi]
theorem info1 : (Try.prog.info? 5).map (·.size) = some 1 := by kernel_rfl
theorem cells8 {w : World} {b : Nat} {l : List Int} {t : TypeId} (h : w.heap[b]? = some (.cells (nums .u8 l).toArray t (0, 0))) (j : Nat) (hj : j < l.length) : w.cell? ⟨b, j, none⟩ = some (.int .u8 (bn l j)) := by
  rw [blk_cell h, List.getElem?_toArray]
  unfold bn rd
  simp only [nums, List.getElem?_map]
  rw [List.getElem?_eq_getElem hj, Int.toNat_natCast, List.getD_eq_getElem?_getD, List.getElem?_eq_getElem hj]
  rfl
theorem exec_load {P : Program} {o : Oper} {a : Act} {w : World} {ty : TypeId} {x : Operand} {g : Addr} {v : Value} (ho : o.op = .load ty x) (hx : a.eval x = .pointer (some g)) (h : (loadVar ty g).run P w = .ok v w) : (execOp a.eval o).run P w = .ok (.value v) w := by
  unfold execOp
  simp only [ho, hx, Instr.loadAt, Instr.sureAddr, Sem.run_bind, Sem.run_pure, Result.andThen_ok, h]
theorem exec_store_row {P : Program} {o : Oper} {a : Act} {w : World} {ty : TypeId} {x y : Operand} {g : Nat} {cells : Array Value} {t : TypeId} {old : Array Value} (ho : o.op = .store ty x y) (hx : a.eval x = .pointer (some ⟨g, 0, none⟩)) (hy : a.eval y = .agg cells)
    (hg : w.heap[g]? = some (.cells old t (0, 0))) (hi : (P.info? ty).map (·.size) = some cells.size) (hold : old.size = cells.size) (h1 : cells.all (·.oneCell') = true) : (execOp a.eval o).run P w = .ok .skip (w.setRow g cells) := by
  unfold execOp
  simp only [ho, hx, hy, Instr.storeAt, Instr.sureAddr, Sem.run_bind, Sem.run_pure, Result.andThen_ok, run_storeVar_row w g t ty old cells hg hi hold h1]
theorem all_bn_eq : ∀ (xs ys : List Int), xs.length = ys.length → ((List.range xs.length).all fun i => xs.getD i 0 == ys.getD i 0) = (xs == ys)
  | [], [], _ => rfl
  | x :: xs, y :: ys, h => by
    have ih := all_bn_eq xs ys (by simpa using h)
    rw [List.length_cons, List.range_succ_eq_map, List.all_cons, List.all_map]
    simp only [List.getD_cons_zero, Function.comp_def, List.getD_cons_succ, ih]
    simp [List.cons_beq_cons]
  | [], _ :: _, h => by simp at h
  | _ :: _, [], h => by simp at h
theorem run_equalIn_nums8 {P : Program} (w : World) (d : Nat) (t e : TypeId) (n : Nat) (ht : P.underlying t = some (.array n e)) (he : P.underlying e = some (.int .u8)) (hsz : ∀ w, (sizeOf e).run P w = .ok 1 w)
    (xs ys : List Int) (hx : xs.length = n) (hy : ys.length = n) :
    (Op.equalIn (d + 2) t (.agg (nums .u8 xs).toArray) (.agg (nums .u8 ys).toArray)).run P w = .ok (xs == ys) w := by
  rw [← all_bn_eq xs ys (hx.trans hy.symm), hx, List.range_eq_range', Op.equalIn]
  simp only [Sem.run_bind, run_underlying ht, Result.andThen_ok, hsz, Std.Legacy.Range.forIn_eq_forIn_range', Std.Legacy.Range.size, Nat.sub_zero, Nat.add_sub_cancel, Nat.div_one]
  have hl : ∀ i ∈ List.range' 0 n 1, i < n := fun i hi => by simpa using (List.mem_range'_1.1 hi).2
  generalize List.range' 0 n 1 = l at hl ⊢
  induction l with
  | nil => simp
  | cons i l ih =>
    have hi : i < n := hl i (by simp)
    have px : (part e (nums .u8 xs).toArray (i * 1)).run P w = .ok (.int .u8 (xs.getD i 0)) w := by
      simp [part, isAgg, run_underlying he, List.getD, nums, List.getElem?_eq_getElem (show i < xs.length by omega)]
    have py : (part e (nums .u8 ys).toArray (i * 1)).run P w = .ok (.int .u8 (ys.getD i 0)) w := by
      simp [part, isAgg, run_underlying he, List.getD, nums, List.getElem?_eq_getElem (show i < ys.length by omega)]
    have pe : (Op.equalIn (d + 1) e (.int .u8 (xs.getD i 0)) (.int .u8 (ys.getD i 0))).run P w = .ok (xs.getD i 0 == ys.getD i 0) w := run_equalIn_int w d e .u8 .u8 _ _ he
    simp only [List.forIn_cons, Sem.run_bind, px, py, pe, Result.andThen_ok, List.all_cons]
    cases hb : (xs.getD i 0 == ys.getD i 0)
    · simp
    · simp only [Bool.not_true, Bool.false_eq_true, if_false, Sem.run_pure, Result.andThen_ok, Bool.true_and]
      exact ih fun j hj => hl j (by simp [hj])
theorem sizeB (w : World) : (sizeOf 5).run Try.prog w = .ok 1 w := by
  obtain ⟨i, hi, _, hsz, _⟩ := info_parts info5
  simp [sizeOf, typeInfo, hi, hsz]
theorem bn_getD (l : List Int) (j : Nat) : bn l j = l.getD j 0 := by unfold bn rd; rw [Int.toNat_natCast]
theorem bytes_of_mem {l : List Int} (h : ∀ x ∈ l, 0 ≤ x ∧ x ≤ 255) : Bytes l := by
  intro j
  rw [bn_getD, List.getD_eq_getElem?_getD]
  cases hj : l[j]? with
  | none => simp
  | some x => exact h x (List.mem_of_getElem? hj)
theorem mem_of_bytes {l : List Int} (h : Bytes l) : ∀ x ∈ l, 0 ≤ x ∧ x ≤ 255 := by
  intro x hx
  obtain ⟨j, hj, rfl⟩ := List.mem_iff_getElem.mp hx
  have := h j
  rwa [bn_getD, List.getD_eq_getElem?_getD, List.getElem?_eq_getElem hj] at this
theorem bytes_nil : Bytes [] := fun j => by simp [bn, rd]
/-- What lies behind a place in bytes. -/
theorem run_cutB (A : Option Addr) (n c p : Nat) (hp : p ≤ n) (hc : n ≤ c) (hn : n ≤ 9223372036854775807) :
    ∃ A', (∀ W : World, (Instr.slice TB (.slice A n c) (some (.int .i64 (p : Int))) none none).run Try.prog W = .ok (.slice A' (n - p) (c - p)) W) ∧ ∀ w l, n = l.length → RC w A l → RC w A' (l.drop p) := by
  obtain ⟨i, hi, hz, hsz, hby⟩ := info_parts info5
  obtain ⟨A', h1, h2⟩ := print_cut (P := Try.prog) TB 5 .i64 Try.underlying38 hi hsz A n c p hp
  refine ⟨A', h1, fun w l hl h => ?_⟩
  subst hl
  have h3 : ReadsInt w .u8 A l.length l := ⟨rfl, hn, fun h0 => by
    obtain ⟨ad, e, _, hcell⟩ := h (by intro e; subst e; simp at h0)
    refine ⟨ad, e, fun j hj => ?_⟩
    rw [hcell j hj, bn_getD]⟩
  have h4 := h2 w .u8 l hc h3
  intro hne
  have h0 : 0 < (l.drop p).length := List.length_pos_iff.mpr hne
  obtain ⟨ad, e, hcell⟩ := h4.2.2 (by rw [List.length_drop] at h0; exact h0)
  refine ⟨ad, e, ?_, fun j hj => ?_⟩
  · have := block_lt_of_cell (hcell 0 (by rw [List.length_drop] at h0; exact h0))
    rwa [Byt.add_block] at this
  · rw [hcell j (by rw [List.length_drop] at hj; exact hj), bn_getD]
theorem run_takeB (A : Option Addr) (n c p : Nat) (hp : p ≤ c) (hc : n ≤ c) :
    ∀ W : World, (Instr.slice TB (.slice A n c) none (some (.int .i64 (p : Int))) none).run Try.prog W = .ok (.slice A p c) W := by
  intro W
  have hel : Try.prog.elem TB = 5 := by simp [Program.elem, Try.underlying38]
  have hu : Try.prog.underlying TB = some (.slice (Try.prog.elem TB)) := by rw [hel]; exact Try.underlying38
  obtain ⟨i, hi, hz, hsz, hby⟩ := info_parts info5
  rw [run_slice_h W TB A n c hu .i64 (p : Int) (Int.natCast_nonneg _) (by omega), hel]
  have h0 : A.map (fun x => x.add 0) = A := by cases A <;> simp [Addr.add]
  simp [sizeOf, typeInfo, hi, hsz, sliced, Result.andThen, h0]
/-- An element of whole numbers that are read. -/
theorem int_at {w : World} {k : IntKind} {ad : Addr} {n : Nat} {l : List Int} (h : Kd.C (Kd.int k) w (some ad) n l) (j : Nat) (hj : j < l.length) : ∃ x, l[j]? = some x ∧ w.cell? (ad.add j) = some (.int k x) := by
  obtain ⟨ad', e, hc⟩ := h.2.2 (by have := h.1; omega)
  cases e
  obtain ⟨c, _, h2, h3⟩ := hc j _ (List.getElem?_eq_getElem hj)
  refine ⟨l[j], List.getElem?_eq_getElem hj, ?_⟩
  have h2' : c = [.int k l[j]] := h2
  have := h3 0 (.int k l[j]) (by rw [h2']; rfl)
  simpa [Kd.int, Kd.scalar] using this
theorem int_none {w : World} {k : IntKind} {l : List Int} (h : Kd.C (Kd.int k) w none l.length l) : l.length = 0 := by
  rcases Nat.eq_zero_or_pos l.length with h0 | h0
  · exact h0
  · obtain ⟨ad, e, _⟩ := h.2.2 h0
    cases e
/-- The place of an element, whatever the slice's address. -/
theorem int_place {w : World} {T E : TypeId} {k : IntKind} {A : Option Addr} {n c : Nat} {l : List Int} (ht : Try.prog.underlying T = some (.slice E)) (hs : (Try.prog.info? E).map (·.size) = some 1) (h : Kd.C (Kd.int k) w A n l) (j : Nat) (hj : j < n) :
    ∃ (a : Addr) (x : Int), l[j]? = some x ∧ a.block < w.heap.size ∧ w.cell? a = some (.int k x) ∧ ∀ W : World, (Instr.indexAt T (.slice A n c) (.int .i64 (j : Int))).run Try.prog W = .ok (.pointer (some a)) W := by
  have hln : l.length = n := h.1
  rcases A with _ | ad
  · obtain ⟨ad, e, _⟩ := h.2.2 (by omega)
    cases e
  · obtain ⟨x, h1, h2⟩ := int_at h j (by omega)
    refine ⟨ad.add j, x, h1, ?_, h2, fun W => ?_⟩
    · exact block_lt_of_cell h2
    · obtain ⟨i, hi, hsz⟩ := Option.map_eq_some_iff.1 hs
      simp [Instr.indexAt, run_underlying ht, asIntOf, sizeOf, typeInfo, hi, hsz, hj, Sem.run_bind]
end Go.Proofs.Ytjkmaobfpgfdnaa.Byt
end

/- The field of 256 numbers, in plain Lean: its product is bilinear over 'exclusive or', commutative, associative, has 1 and inverses; the powers of 2 go through all numbers but 0. -/
section
namespace Go.Proofs.Ytjkmaobfpgfdnaa.GfMath

/-- The double of a number. -/
def xt (x : Nat) : Nat := if 255 < 2 * x then (2 * x) ^^^ 285 else 2 * x

/-- The part of a product that d bits of b, from bit i on, make; x is a times 2 to the power i. -/
def mulFrom : Nat → Nat → Nat → Nat → Nat
  | 0, _, _, _ => 0
  | d + 1, b, x, i => (if b.testBit i then x else 0) ^^^ mulFrom d b (xt x) (i + 1)

/-- The product. -/
def mul (a b : Nat) : Nat := mulFrom 8 b a 0

theorem xt_lt {x : Nat} (h : x < 256) : xt x < 256 := by
  have : (List.range 256).all (fun x => decide (xt x < 256)) = true := by kernel_rfl
  exact of_decide_eq_true (List.all_eq_true.mp this x (List.mem_range.mpr h))

theorem xor_lt {x y : Nat} (hx : x < 256) (hy : y < 256) : x ^^^ y < 256 := Nat.xor_lt_two_pow (n := 8) hx hy

theorem dbl_xor (x y : Nat) : 2 * (x ^^^ y) = (2 * x) ^^^ (2 * y) := by
  have h : ∀ z : Nat, 2 * z = z <<< 1 := fun z => by rw [Nat.shiftLeft_eq]; omega
  rw [h, h, h, Nat.shiftLeft_xor_distrib]

theorem xt_bit {x : Nat} (h : x < 256) : xt x = (2 * x) ^^^ (if x.testBit 7 then 285 else 0) := by
  have : (List.range 256).all (fun x => decide (xt x = (2 * x) ^^^ (if x.testBit 7 then 285 else 0))) = true := by kernel_rfl
  exact of_decide_eq_true (List.all_eq_true.mp this x (List.mem_range.mpr h))

theorem xor4 (a b c d : Nat) : (a ^^^ b) ^^^ (c ^^^ d) = (a ^^^ c) ^^^ (b ^^^ d) := by
  rw [Nat.xor_assoc, ← Nat.xor_assoc b c d, Nat.xor_comm b c, Nat.xor_assoc c b d, ← Nat.xor_assoc]

theorem ite_xor (p q : Bool) (v : Nat) : (if (p ^^ q) then v else 0) = (if p then v else 0) ^^^ (if q then v else 0) := by
  cases p <;> cases q <;> simp

theorem xt_add {x y : Nat} (hx : x < 256) (hy : y < 256) : xt (x ^^^ y) = xt x ^^^ xt y := by
  rw [xt_bit (xor_lt hx hy), xt_bit hx, xt_bit hy, dbl_xor, Nat.testBit_xor, ite_xor, xor4]

theorem mulFrom_lt (d : Nat) : ∀ b x i, x < 256 → mulFrom d b x i < 256 := by
  induction d with
  | zero => intro b x i h; simp [mulFrom]
  | succ d ih =>
    intro b x i h
    simp only [mulFrom]
    refine xor_lt ?_ (ih _ _ _ (xt_lt h))
    split <;> omega

theorem mul_lt {a : Nat} (b : Nat) (h : a < 256) : mul a b < 256 := mulFrom_lt 8 b a 0 h

theorem mulFrom_addl (d : Nat) : ∀ b x y i, x < 256 → y < 256 → mulFrom d b (x ^^^ y) i = mulFrom d b x i ^^^ mulFrom d b y i := by
  induction d with
  | zero => intro b x y i hx hy; simp [mulFrom]
  | succ d ih =>
    intro b x y i hx hy
    simp only [mulFrom]
    rw [xt_add hx hy, ih _ _ _ _ (xt_lt hx) (xt_lt hy), xor4]
    congr 1
    split <;> simp

theorem mulFrom_addr (d : Nat) : ∀ b c x i, mulFrom d (b ^^^ c) x i = mulFrom d b x i ^^^ mulFrom d c x i := by
  induction d with
  | zero => intro b c x i; simp [mulFrom]
  | succ d ih =>
    intro b c x i
    simp only [mulFrom]
    rw [ih, Nat.testBit_xor, xor4, ite_xor]

theorem mul_addl {a b : Nat} (c : Nat) (ha : a < 256) (hb : b < 256) : mul (a ^^^ b) c = mul a c ^^^ mul b c := mulFrom_addl 8 c a b 0 ha hb
theorem mul_addr (a b c : Nat) : mul a (b ^^^ c) = mul a b ^^^ mul a c := mulFrom_addr 8 b c a 0

theorem top_bit {n x : Nat} (hn : n < 8) (h0 : 2 ^ n ≤ x) (h1 : x < 2 ^ (n + 1)) : 2 ^ n ^^^ (x - 2 ^ n) = x := by
  have : (List.range 8).all (fun n => (List.range 256).all (fun x => decide (2 ^ n ≤ x → x < 2 ^ (n + 1) → 2 ^ n ^^^ (x - 2 ^ n) = x))) = true := by kernel_rfl
  have h2 : x < 256 := Nat.lt_of_lt_of_le h1 (Nat.pow_le_pow_right (by decide) (show n + 1 ≤ 8 by omega))
  exact of_decide_eq_true (List.all_eq_true.mp (List.all_eq_true.mp this n (List.mem_range.mpr hn)) x (List.mem_range.mpr h2)) h0 h1

/-- Additive functions that agree at the powers of 2 agree. -/
theorem lin_ext (f g : Nat → Nat) (hf : ∀ x y, x < 256 → y < 256 → f (x ^^^ y) = f x ^^^ f y) (hg : ∀ x y, x < 256 → y < 256 → g (x ^^^ y) = g x ^^^ g y)
    (h : ∀ i, i < 8 → f (2 ^ i) = g (2 ^ i)) : ∀ x, x < 256 → f x = g x := by
  have key : ∀ n, n ≤ 8 → ∀ x, x < 2 ^ n → f x = g x := by
    intro n
    induction n with
    | zero =>
      intro _ x hx
      have : x = 0 := by simpa using hx
      subst this
      have h1 := hf 0 0 (by decide) (by decide)
      have h2 := hg 0 0 (by decide) (by decide)
      rw [Nat.xor_self, Nat.xor_self] at h1 h2
      rw [h1, h2]
    | succ n ih =>
      intro hn x hx
      by_cases h2 : x < 2 ^ n
      · exact ih (by omega) x h2
      · have hp : 2 ^ (n + 1) = 2 * 2 ^ n := by rw [Nat.pow_succ]; omega
        have h256 : 2 ^ (n + 1) ≤ 256 := Nat.pow_le_pow_right (n := 2) (by decide) (show n + 1 ≤ 8 by omega)
        have ht := top_bit (by omega) (show 2 ^ n ≤ x by omega) hx
        rw [← ht, hf _ _ (by omega) (by omega), hg _ _ (by omega) (by omega), h n (by omega), ih (by omega) (x - 2 ^ n) (by omega)]
  exact fun x hx => key 8 (by omega) x hx

theorem pow_lt {i : Nat} (h : i < 8) : 2 ^ i < 256 := Nat.pow_lt_pow_right (a := 2) (by decide) h

theorem comm_basis {i j : Nat} (hi : i < 8) (hj : j < 8) : mul (2 ^ i) (2 ^ j) = mul (2 ^ j) (2 ^ i) := by
  have : (List.range 8).all (fun i => (List.range 8).all (fun j => decide (mul (2 ^ i) (2 ^ j) = mul (2 ^ j) (2 ^ i)))) = true := by kernel_rfl
  exact of_decide_eq_true (List.all_eq_true.mp (List.all_eq_true.mp this i (List.mem_range.mpr hi)) j (List.mem_range.mpr hj))

theorem mul_comm {a b : Nat} (ha : a < 256) (hb : b < 256) : mul a b = mul b a := by
  refine lin_ext (fun a => mul a b) (fun a => mul b a) (fun x y hx hy => mul_addl b hx hy) (fun x y _ _ => mul_addr b x y) ?_ a ha
  intro i hi
  refine lin_ext (fun b => mul (2 ^ i) b) (fun b => mul b (2 ^ i)) (fun x y _ _ => mul_addr _ x y) (fun x y hx hy => mul_addl _ hx hy) ?_ b hb
  intro j hj
  exact comm_basis hi hj

theorem assoc_basis {i j k : Nat} (hi : i < 8) (hj : j < 8) (hk : k < 8) : mul (mul (2 ^ i) (2 ^ j)) (2 ^ k) = mul (2 ^ i) (mul (2 ^ j) (2 ^ k)) := by
  have : (List.range 8).all (fun i => (List.range 8).all (fun j => (List.range 8).all (fun k => decide (mul (mul (2 ^ i) (2 ^ j)) (2 ^ k) = mul (2 ^ i) (mul (2 ^ j) (2 ^ k)))))) = true := by kernel_rfl
  exact of_decide_eq_true (List.all_eq_true.mp (List.all_eq_true.mp (List.all_eq_true.mp this i (List.mem_range.mpr hi)) j (List.mem_range.mpr hj)) k (List.mem_range.mpr hk))

theorem mul_assoc {a b c : Nat} (ha : a < 256) (hb : b < 256) (hc : c < 256) : mul (mul a b) c = mul a (mul b c) := by
  refine lin_ext (fun a => mul (mul a b) c) (fun a => mul a (mul b c)) (fun x y hx hy => ?_) (fun x y hx hy => mul_addl _ hx hy) ?_ a ha
  · show mul (mul (x ^^^ y) b) c = _
    rw [mul_addl b hx hy, mul_addl c (mul_lt b hx) (mul_lt b hy)]
  intro i hi
  refine lin_ext (fun b => mul (mul (2 ^ i) b) c) (fun b => mul (2 ^ i) (mul b c)) (fun x y hx hy => ?_) (fun x y hx hy => ?_) ?_ b hb
  · show mul (mul _ (x ^^^ y)) c = _
    rw [mul_addr, mul_addl c (mul_lt _ (pow_lt hi)) (mul_lt _ (pow_lt hi))]
  · show mul _ (mul (x ^^^ y) c) = _
    rw [mul_addl c hx hy, mul_addr]
  intro j hj
  refine lin_ext (fun c => mul (mul (2 ^ i) (2 ^ j)) c) (fun c => mul (2 ^ i) (mul (2 ^ j) c)) (fun x y _ _ => mul_addr _ x y) (fun x y _ _ => ?_) ?_ c hc
  · show mul _ (mul _ (x ^^^ y)) = _
    rw [mul_addr, mul_addr]
  intro k hk
  exact assoc_basis hi hj hk

theorem mul_one {a : Nat} (ha : a < 256) : mul a 1 = a := by
  have : (List.range 256).all (fun a => decide (mul a 1 = a)) = true := by kernel_rfl
  exact of_decide_eq_true (List.all_eq_true.mp this a (List.mem_range.mpr ha))

theorem one_mul {a : Nat} (ha : a < 256) : mul 1 a = a := by rw [mul_comm (by decide) ha, mul_one ha]

theorem mul_zero (a : Nat) : mul a 0 = 0 := by
  have := mul_addr a 0 0
  rw [Nat.xor_self, Nat.xor_self] at this
  exact this

theorem zero_mul {a : Nat} (ha : a < 256) : mul 0 a = 0 := by rw [mul_comm (by decide) ha, mul_zero]

/-- 2 to a power. -/
def pw : Nat → Nat
  | 0 => 1
  | n + 1 => xt (pw n)

theorem pw_lt (n : Nat) : pw n < 256 := by
  induction n with
  | zero => decide
  | succ n ih => exact xt_lt ih

theorem mul_two {a : Nat} (ha : a < 256) : mul a 2 = xt a := by
  have : (List.range 256).all (fun a => decide (mul a 2 = xt a)) = true := by kernel_rfl
  exact of_decide_eq_true (List.all_eq_true.mp this a (List.mem_range.mpr ha))

theorem pw_add (i j : Nat) : mul (pw i) (pw j) = pw (i + j) := by
  induction j with
  | zero => exact mul_one (pw_lt i)
  | succ j ih =>
    have h : pw (j + 1) = mul (pw j) 2 := (mul_two (pw_lt j)).symm
    rw [h, ← mul_assoc (pw_lt i) (pw_lt j) (by decide), ih, mul_two (pw_lt _)]
    rfl

theorem pw_255 : pw 255 = 1 := by kernel_rfl

theorem pw_mod (n : Nat) : pw (n % 255) = pw n := by
  have key : ∀ q r, pw (255 * q + r) = pw r := by
    intro q
    induction q with
    | zero => intro r; simp
    | succ q ih =>
      intro r
      have e : 255 * (q + 1) + r = 255 + (255 * q + r) := by omega
      rw [e, ← pw_add, pw_255, one_mul (pw_lt _), ih]
  have h := Nat.div_add_mod n 255
  rw [← h, key]
  congr 1
  omega

/-- The table: the powers of 2, then which power each number is. -/
def tabN : List Nat := [1, 2, 4, 8, 16, 32, 64, 128, 29, 58, 116, 232, 205, 135, 19, 38, 76, 152, 45, 90, 180, 117, 234, 201, 143, 3, 6, 12, 24, 48, 96, 192, 157, 39, 78, 156, 37, 74, 148, 53, 106, 212, 181, 119, 238, 193, 159, 35, 70, 140, 5, 10, 20, 40, 80, 160, 93, 186, 105, 210, 185, 111, 222, 161, 95, 190, 97, 194, 153, 47, 94, 188, 101, 202, 137, 15, 30, 60, 120, 240, 253, 231, 211, 187, 107, 214, 177, 127, 254, 225, 223, 163, 91, 182, 113, 226, 217, 175, 67, 134, 17, 34, 68, 136, 13, 26, 52, 104, 208, 189, 103, 206, 129, 31, 62, 124, 248, 237, 199, 147, 59, 118, 236, 197, 151, 51, 102, 204, 133, 23, 46, 92, 184, 109, 218, 169, 79, 158, 33, 66, 132, 21, 42, 84, 168, 77, 154, 41, 82, 164, 85, 170, 73, 146, 57, 114, 228, 213, 183, 115, 230, 209, 191, 99, 198, 145, 63, 126, 252, 229, 215, 179, 123, 246, 241, 255, 227, 219, 171, 75, 150, 49, 98, 196, 149, 55, 110, 220, 165, 87, 174, 65, 130, 25, 50, 100, 200, 141, 7, 14, 28, 56, 112, 224, 221, 167, 83, 166, 81, 162, 89, 178, 121, 242, 249, 239, 195, 155, 43, 86, 172, 69, 138, 9, 18, 36, 72, 144, 61, 122, 244, 245, 247, 243, 251, 235, 203, 139, 11, 22, 44, 88, 176, 125, 250, 233, 207, 131, 27, 54, 108, 216, 173, 71, 142, 0, 0, 1, 25, 2, 50, 26, 198, 3, 223, 51, 238, 27, 104, 199, 75, 4, 100, 224, 14, 52, 141, 239, 129, 28, 193, 105, 248, 200, 8, 76, 113, 5, 138, 101, 47, 225, 36, 15, 33, 53, 147, 142, 218, 240, 18, 130, 69, 29, 181, 194, 125, 106, 39, 249, 185, 201, 154, 9, 120, 77, 228, 114, 166, 6, 191, 139, 98, 102, 221, 48, 253, 226, 152, 37, 179, 16, 145, 34, 136, 54, 208, 148, 206, 143, 150, 219, 189, 241, 210, 19, 92, 131, 56, 70, 64, 30, 66, 182, 163, 195, 72, 126, 110, 107, 58, 40, 84, 250, 133, 186, 61, 202, 94, 155, 159, 10, 21, 121, 43, 78, 212, 229, 172, 115, 243, 167, 87, 7, 112, 192, 247, 140, 128, 99, 13, 103, 74, 222, 237, 49, 197, 254, 24, 227, 165, 153, 119, 38, 184, 180, 124, 17, 68, 146, 217, 35, 32, 137, 46, 55, 63, 209, 91, 149, 188, 207, 205, 144, 135, 151, 178, 220, 252, 190, 97, 242, 86, 211, 171, 20, 42, 93, 158, 132, 60, 57, 83, 71, 109, 65, 162, 31, 45, 67, 216, 183, 123, 164, 118, 196, 23, 73, 236, 127, 12, 111, 246, 108, 161, 59, 82, 41, 157, 85, 170, 251, 96, 134, 177, 187, 204, 62, 90, 203, 89, 95, 176, 156, 169, 160, 81, 11, 245, 22, 235, 122, 117, 44, 215, 79, 174, 213, 233, 230, 231, 173, 232, 116, 214, 244, 234, 168, 80, 88, 175]

def lg (a : Nat) : Nat := tabN.getD (255 + a) 0
def ex (i : Nat) : Nat := tabN.getD i 0

theorem ex_pw {i : Nat} (h : i < 255) : ex i = pw i := by
  have : (List.range 255).all (fun i => decide (ex i = pw i)) = true := by kernel_rfl
  exact of_decide_eq_true (List.all_eq_true.mp this i (List.mem_range.mpr h))

theorem pw_lg {a : Nat} (h : a < 256) (h0 : a ≠ 0) : pw (lg a) = a := by
  have : (List.range 256).all (fun a => decide (a ≠ 0 → pw (lg a) = a)) = true := by kernel_rfl
  exact of_decide_eq_true (List.all_eq_true.mp this a (List.mem_range.mpr h)) h0

theorem lg_lt {a : Nat} (h : a < 256) : lg a < 255 := by
  have : (List.range 256).all (fun a => decide (lg a < 255)) = true := by kernel_rfl
  exact of_decide_eq_true (List.all_eq_true.mp this a (List.mem_range.mpr h))

theorem lg_pw {i : Nat} (h : i < 255) : lg (pw i) = i := by
  have : (List.range 255).all (fun i => decide (lg (pw i) = i)) = true := by kernel_rfl
  exact of_decide_eq_true (List.all_eq_true.mp this i (List.mem_range.mpr h))

theorem pw_ne (i : Nat) : pw i ≠ 0 := by
  rw [← pw_mod]
  have : (List.range 255).all (fun i => decide (pw i ≠ 0)) = true := by kernel_rfl
  exact of_decide_eq_true (List.all_eq_true.mp this (i % 255) (List.mem_range.mpr (Nat.mod_lt _ (by decide))))

/-- The inverse. -/
def inv (a : Nat) : Nat := ex ((255 - lg a) % 255)

theorem inv_pw (a : Nat) : inv a = pw (255 - lg a) := by
  unfold inv
  rw [ex_pw (Nat.mod_lt _ (by decide)), pw_mod]

theorem inv_lt (a : Nat) : inv a < 256 := by rw [inv_pw]; exact pw_lt _
theorem inv_ne (a : Nat) : inv a ≠ 0 := by rw [inv_pw]; exact pw_ne _

theorem mul_inv {a : Nat} (h : a < 256) (h0 : a ≠ 0) : mul a (inv a) = 1 := by
  have hl := lg_lt h
  conv => lhs; arg 1; rw [← pw_lg h h0]
  rw [inv_pw, pw_add, show lg a + (255 - lg a) = 255 by omega, pw_255]

theorem mul_eq_zero {a b : Nat} (ha : a < 256) (hb : b < 256) (h : mul a b = 0) : a = 0 ∨ b = 0 := by
  by_cases h0 : a = 0
  · exact .inl h0
  · right
    have h1 : mul (mul (inv a) a) b = 0 := by rw [mul_assoc (inv_lt a) ha hb, h, mul_zero]
    rw [mul_comm (inv_lt a) ha, mul_inv ha h0, one_mul hb] at h1
    exact h1

theorem inv_unique {a b : Nat} (ha : a < 256) (hb : b < 256) (h : mul a b = 1) : b = inv a := by
  have h0 : a ≠ 0 := by
    intro e; subst e; rw [zero_mul hb] at h; exact absurd h (by decide)
  have h1 : mul (inv a) (mul a b) = inv a := by rw [h, mul_one (inv_lt a)]
  rw [← mul_assoc (inv_lt a) ha hb, mul_comm (inv_lt a) ha, mul_inv ha h0, one_mul hb] at h1
  exact h1

theorem inv_inv {a : Nat} (ha : a < 256) (h0 : a ≠ 0) : inv (inv a) = a := by
  refine (inv_unique (inv_lt a) ha ?_).symm
  rw [mul_comm (inv_lt a) ha, mul_inv ha h0]

/-- A power of a number. -/
def npw (a : Nat) : Nat → Nat
  | 0 => 1
  | n + 1 => mul (npw a n) a

theorem npw_pw (i : Nat) (m : Nat) : npw (pw i) m = pw (i * m) := by
  induction m with
  | zero => rfl
  | succ m ih => rw [npw, ih, pw_add, Nat.mul_succ]

theorem npw_lt {a : Nat} (_h : a < 256) (m : Nat) : npw a m < 256 := by
  induction m with
  | zero => show 1 < 256; decide
  | succ m ih => exact mul_lt _ ih

end Go.Proofs.Ytjkmaobfpgfdnaa.GfMath
end

/- Bytes as a field, sums, tables of numbers: plain mathematics, nothing of Go in it. -/
section
namespace Go.Proofs.Ytjkmaobfpgfdnaa.Lin
open Go.Proofs.Ytjkmaobfpgfdnaa
set_option linter.unusedVariables false

/-- A byte as a number of the field. -/
structure G where
  v : Nat
  lt : v < 256
namespace G
theorem ext {a b : G} (h : a.v = b.v) : a = b := by
  cases a; cases b
  simp only at h
  subst h
  rfl
def add (a b : G) : G := ⟨a.v ^^^ b.v, GfMath.xor_lt a.lt b.lt⟩
def mul (a b : G) : G := ⟨GfMath.mul a.v b.v, GfMath.mul_lt b.v a.lt⟩
def zero : G := ⟨0, by decide⟩
def one : G := ⟨1, by decide⟩
def inv (a : G) : G := ⟨GfMath.inv a.v, GfMath.inv_lt _⟩
instance : Add G := ⟨add⟩
instance : Mul G := ⟨mul⟩
instance : OfNat G 0 := ⟨zero⟩
instance : OfNat G 1 := ⟨one⟩
instance : Inhabited G := ⟨zero⟩
instance : DecidableEq G := fun a b => if h : a.v = b.v then isTrue (ext h) else isFalse (fun e => h (congrArg G.v e))
theorem v_add (a b : G) : (a + b).v = a.v ^^^ b.v := rfl
theorem v_mul (a b : G) : (a * b).v = GfMath.mul a.v b.v := rfl
theorem v_zero : (0 : G).v = 0 := rfl
theorem v_one : (1 : G).v = 1 := rfl
theorem add_comm (a b : G) : a + b = b + a := ext (Nat.xor_comm _ _)
theorem add_assoc (a b c : G) : a + b + c = a + (b + c) := ext (Nat.xor_assoc _ _ _)
theorem add_zero (a : G) : a + 0 = a := ext (Nat.xor_zero _)
theorem zero_add (a : G) : 0 + a = a := ext (Nat.zero_xor _)
theorem add_self (a : G) : a + a = 0 := ext (Nat.xor_self _)
theorem mul_comm (a b : G) : a * b = b * a := ext (GfMath.mul_comm a.lt b.lt)
theorem mul_assoc (a b c : G) : a * b * c = a * (b * c) := ext (GfMath.mul_assoc a.lt b.lt c.lt)
theorem mul_one (a : G) : a * 1 = a := ext (GfMath.mul_one a.lt)
theorem one_mul (a : G) : 1 * a = a := ext (GfMath.one_mul a.lt)
theorem mul_zero (a : G) : a * 0 = 0 := ext (GfMath.mul_zero a.v)
theorem zero_mul (a : G) : 0 * a = 0 := ext (GfMath.zero_mul a.lt)
theorem mul_add (a b c : G) : a * (b + c) = a * b + a * c := ext (GfMath.mul_addr a.v b.v c.v)
theorem add_mul (a b c : G) : (a + b) * c = a * c + b * c := ext (GfMath.mul_addl c.v a.lt b.lt)
theorem ne_v {a : G} (h : a ≠ 0) : a.v ≠ 0 := fun e => h (ext e)
theorem mul_inv {a : G} (h : a ≠ 0) : a * inv a = 1 := ext (GfMath.mul_inv a.lt (ne_v h))
theorem inv_mul {a : G} (h : a ≠ 0) : inv a * a = 1 := by rw [mul_comm]; exact mul_inv h
theorem mul_eq_zero {a b : G} (h : a * b = 0) : a = 0 ∨ b = 0 := by
  rcases GfMath.mul_eq_zero a.lt b.lt (congrArg G.v h) with h | h
  · exact .inl (ext h)
  · exact .inr (ext h)
theorem one_ne_zero : (1 : G) ≠ 0 := fun h => absurd (congrArg G.v h) (by decide)
theorem add_four (a b c d : G) : (a + b) + (c + d) = (a + c) + (b + d) := by
  rw [add_assoc, add_assoc, ← add_assoc b c d, add_comm b c, add_assoc c b d]
theorem add_cancel {a b c : G} (h : a + c = b + c) : a = b := by
  have := congrArg (· + c) h
  simpa only [add_assoc, add_self, add_zero] using this
theorem eq_of_add_zero {a b : G} (h : a + b = 0) : a = b := add_cancel (c := b) (by rw [h, add_self])
theorem add_back (a b : G) : a + b + b = a := by rw [add_assoc, add_self, add_zero]
end G
open G

/-- A sum over the numbers below n. -/
def sm : Nat → (Nat → G) → G
  | 0, _ => 0
  | n + 1, f => sm n f + f n
theorem sm_congr {f g : Nat → G} : ∀ n, (∀ i, i < n → f i = g i) → sm n f = sm n g
  | 0, _ => rfl
  | n + 1, h => by
    show sm n f + f n = sm n g + g n
    rw [sm_congr n (fun i hi => h i (by omega)), h n (by omega)]
theorem sm_zero : ∀ n, sm n (fun _ => 0) = 0
  | 0 => rfl
  | n + 1 => by
    show sm n (fun _ => 0) + 0 = 0
    rw [sm_zero n, add_zero]
theorem sm_zero' {f : Nat → G} (n : Nat) (h : ∀ i, i < n → f i = 0) : sm n f = 0 := (sm_congr n h).trans (sm_zero n)
theorem sm_add (f g : Nat → G) : ∀ n, sm n (fun i => f i + g i) = sm n f + sm n g
  | 0 => (add_zero 0).symm
  | n + 1 => by
    show sm n (fun i => f i + g i) + (f n + g n) = (sm n f + f n) + (sm n g + g n)
    rw [sm_add f g n, add_four]
theorem sm_mul (c : G) (f : Nat → G) : ∀ n, sm n (fun i => c * f i) = c * sm n f
  | 0 => (mul_zero c).symm
  | n + 1 => by
    show sm n (fun i => c * f i) + c * f n = c * (sm n f + f n)
    rw [sm_mul c f n, mul_add]
theorem sm_mulr (c : G) (f : Nat → G) (n : Nat) : sm n (fun i => f i * c) = sm n f * c := by
  rw [mul_comm, ← sm_mul c f n]
  exact sm_congr n fun i _ => mul_comm _ _
theorem sm_swap (f : Nat → Nat → G) (m : Nat) : ∀ n, sm n (fun i => sm m (fun j => f i j)) = sm m (fun j => sm n (fun i => f i j))
  | 0 => (sm_zero m).symm
  | n + 1 => by
    show sm n (fun i => sm m (fun j => f i j)) + sm m (fun j => f n j) = sm m (fun j => sm n (fun i => f i j) + f n j)
    rw [sm_swap f m n, sm_add]
theorem sm_only {f : Nat → G} (k : Nat) : ∀ n, k < n → (∀ i, i < n → i ≠ k → f i = 0) → sm n f = f k
  | 0, h, _ => by omega
  | n + 1, h, h0 => by
    show sm n f + f n = f k
    by_cases hk : k = n
    · subst hk
      rw [sm_zero' k (fun i hi => h0 i (by omega) (by omega)), zero_add]
    · rw [sm_only k n (by omega) (fun i hi hn => h0 i (by omega) hn), h0 n (by omega) (fun e => hk e.symm), add_zero]
/-- What lies behind m is nought. -/
theorem sm_short {f : Nat → G} (m : Nat) : ∀ n, m ≤ n → (∀ i, m ≤ i → i < n → f i = 0) → sm n f = sm m f
  | 0, h, _ => by
    obtain rfl : m = 0 := by omega
    rfl
  | n + 1, h, h0 => by
    by_cases hm : m = n + 1
    · subst hm; rfl
    · show sm n f + f n = sm m f
      rw [sm_short m n (by omega) (fun i h1 h2 => h0 i h1 (by omega)), h0 n (by omega) (by omega), add_zero]

/-- A table of numbers. -/
abbrev Tb := Nat → Nat → G
def mm (k : Nat) (A B : Tb) : Tb := fun i j => sm k (fun t => A i t * B t j)
def I : Tb := fun i j => if i = j then 1 else 0
theorem I_same (i : Nat) : I i i = 1 := if_pos rfl
theorem I_diff {i j : Nat} (h : i ≠ j) : I i j = 0 := if_neg h
theorem mm_assoc (k l : Nat) (A B C : Tb) (i j : Nat) : mm l (mm k A B) C i j = mm k A (mm l B C) i j := by
  unfold mm
  have h1 : ∀ t, t < l → sm k (fun s => A i s * B s t) * C t j = sm k (fun s => A i s * (B s t * C t j)) := fun t _ => by
    rw [← sm_mulr]
    exact sm_congr k fun s _ => mul_assoc _ _ _
  rw [sm_congr l h1, sm_swap]
  exact sm_congr k fun s _ => sm_mul _ _ _
theorem I_mm {m : Nat} (A : Tb) {i : Nat} (j : Nat) (h : i < m) : mm m I A i j = A i j := by
  unfold mm
  rw [sm_only i m h (fun t _ hn => by rw [I_diff (fun e => hn e.symm), zero_mul]), I_same, one_mul]
theorem mm_I {n : Nat} (A : Tb) (i : Nat) {j : Nat} (h : j < n) : mm n A I i j = A i j := by
  unfold mm
  rw [sm_only j n h (fun t _ hn => by rw [I_diff hn, mul_zero]), I_same, mul_one]
theorem mm_congr {k : Nat} {A A' B B' : Tb} (i j : Nat) (hA : ∀ t, t < k → A i t = A' i t) (hB : ∀ t, t < k → B t j = B' t j) : mm k A B i j = mm k A' B' i j :=
  sm_congr k fun t ht => by rw [hA t ht, hB t ht]
theorem mm_addl (k : Nat) (A A' B : Tb) (i j : Nat) : mm k (fun a b => A a b + A' a b) B i j = mm k A B i j + mm k A' B i j := by
  unfold mm
  rw [← sm_add]
  exact sm_congr k fun t _ => add_mul _ _ _
theorem mm_addr (k : Nat) (A B B' : Tb) (i j : Nat) : mm k A (fun a b => B a b + B' a b) i j = mm k A B i j + mm k A B' i j := by
  unfold mm
  rw [← sm_add]
  exact sm_congr k fun t _ => mul_add _ _ _

/-- More unknowns than equations: there is an answer that is not nought. -/
theorem solve : ∀ (r s : Nat) (Y : Tb), r < s → ∃ x : Nat → G, (∃ k, k < s ∧ x k ≠ 0) ∧ ∀ i, i < r → sm s (fun t => Y i t * x t) = 0
  | 0, s, Y, h => ⟨fun _ => 1, ⟨0, h, one_ne_zero⟩, fun i hi => by omega⟩
  | r + 1, s, Y, h => by
    by_cases hz : ∀ t, t < s → Y r t = 0
    · obtain ⟨x, hx, hs⟩ := solve r s Y (by omega)
      refine ⟨x, hx, fun i hi => ?_⟩
      by_cases hr : i = r
      · subst hr
        exact sm_zero' s fun t ht => by rw [hz t ht, zero_mul]
      · exact hs i (by omega)
    · have hz' : ∃ c, c < s ∧ Y r c ≠ 0 := by
        apply Classical.byContradiction
        intro hn
        exact hz fun t ht => Classical.byContradiction fun hne => hn ⟨t, ht, hne⟩
      obtain ⟨c, hc, hne⟩ := hz'
      obtain ⟨s', rfl⟩ : ∃ s', s = s' + 1 := ⟨s - 1, by omega⟩
      -- the unknown c changed about with the last one
      let p : Nat → Nat := fun t => if t = c then s' else if t = s' then c else t
      have pp : ∀ t, p (p t) = t := by
        intro t
        show (if (if t = c then s' else if t = s' then c else t) = c then s' else if (if t = c then s' else if t = s' then c else t) = s' then c else (if t = c then s' else if t = s' then c else t)) = t
        by_cases h1 : t = c
        · subst h1
          by_cases h2 : s' = t
          · simp [h2]
          · simp [h2]
        · by_cases h2 : t = s'
          · subst h2
            simp [h1]
          · simp [h1, h2]
      have ps : p s' = c := by
        show (if s' = c then s' else if s' = s' then c else s') = c
        by_cases h1 : s' = c
        · simp [h1]
        · simp [h1]
      have plt : ∀ t, t < s' + 1 → p t < s' + 1 := by
        intro t ht
        show (if t = c then s' else if t = s' then c else t) < s' + 1
        split
        · omega
        · split <;> omega
      have psum : ∀ f : Nat → G, sm (s' + 1) (fun t => f (p t)) = sm (s' + 1) f := by
        intro f
        by_cases h1 : c = s'
        · refine sm_congr _ fun t ht => ?_
          show f (if t = c then s' else if t = s' then c else t) = f t
          by_cases h2 : t = c
          · rw [if_pos h2, h2, h1]
          · rw [if_neg h2, if_neg (by omega)]
        · have key : ∀ g : Nat → G, sm s' g = sm s' (fun t => if t = c then 0 else g t) + g c := by
            intro g
            have e : sm s' g = sm s' (fun t => (if t = c then 0 else g t) + (if t = c then g t else 0)) := sm_congr _ fun t _ => by
              by_cases h : t = c
              · rw [if_pos h, if_pos h, zero_add]
              · rw [if_neg h, if_neg h, add_zero]
            rw [e, sm_add, sm_only (f := fun t => if t = c then g t else 0) c s' (by omega) (fun i _ hi => if_neg hi)]
            rw [if_pos rfl]
          show sm s' (fun t => f (p t)) + f (p s') = sm s' f + f s'
          rw [ps, key (fun t => f (p t)), key f]
          have e1 : f (p c) = f s' := by
            show f (if c = c then s' else _) = _
            rw [if_pos rfl]
          have e2 : sm s' (fun t => if t = c then 0 else f (p t)) = sm s' (fun t => if t = c then 0 else f t) := sm_congr _ fun t ht => by
            by_cases h : t = c
            · rw [if_pos h, if_pos h]
            · rw [if_neg h, if_neg h]
              show f (if t = c then s' else if t = s' then c else t) = f t
              rw [if_neg h, if_neg (by omega)]
          rw [e1, e2, add_assoc, add_assoc, add_comm (f s')]
      let d := inv (Y r c)
      -- the last equation taken from the others
      obtain ⟨x, ⟨k, hk, hxk⟩, hs⟩ := solve r s' (fun i t => Y i (p t) + Y i c * (d * Y r (p t))) (by omega)
      let z : Nat → G := fun t => if t = s' then sm s' (fun u => d * (Y r (p u) * x u)) else x t
      have zlt : ∀ t, t < s' → z t = x t := fun t ht => if_neg (by omega)
      have zs : z s' = sm s' (fun u => d * (Y r (p u) * x u)) := if_pos rfl
      refine ⟨fun t => z (p t), ⟨p k, plt k (by omega), ?_⟩, fun i hi => ?_⟩
      · show z (p (p k)) ≠ 0
        rw [pp, zlt k hk]
        exact hxk
      · have e0 : sm (s' + 1) (fun t => Y i t * z (p t)) = sm (s' + 1) (fun t => Y i (p t) * z t) := by
          rw [← psum (fun t => Y i t * z (p t))]
          exact sm_congr _ fun t _ => by rw [pp]
        rw [e0]
        show sm s' (fun t => Y i (p t) * z t) + Y i (p s') * z s' = 0
        rw [ps, zs, sm_congr s' (fun t ht => by rw [zlt t ht])]
        by_cases hir : i = r
        · subst hir
          rw [sm_mul, ← mul_assoc, mul_inv hne, one_mul, add_self]
        · have hq := hs i (by omega)
          rw [sm_congr s' (fun t _ => add_mul _ _ _), sm_add] at hq
          have e3 : sm s' (fun t => Y i c * (d * Y r (p t)) * x t) = Y i c * sm s' (fun u => d * (Y r (p u) * x u)) := by
            rw [← sm_mul]
            exact sm_congr s' fun t _ => by rw [mul_assoc, mul_assoc]
          rw [e3] at hq
          exact hq

/-- Rows that do not hang on others are no more than what they are made of. -/
theorem rank_le (s r : Nat) (X Y : Tb) (h : ∀ i j, i < s → j < s → mm r X Y i j = I i j) : s ≤ r := by
  apply Classical.byContradiction
  intro hn
  obtain ⟨x, ⟨k, hk, hx⟩, hs⟩ := solve r s Y (by omega)
  apply hx
  have e1 : sm s (fun t => I k t * x t) = x k := by
    rw [sm_only k s hk (fun t _ ht => by rw [I_diff (fun e => ht e.symm), zero_mul]), I_same, one_mul]
  rw [← e1, sm_congr s (fun t ht => by rw [← h k t hk ht])]
  have := mm_assoc r s X Y (fun t _ => x t) k 0
  unfold mm at this ⊢
  rw [this]
  exact sm_zero' r fun t ht => by rw [hs t ht, mul_zero]
end Go.Proofs.Ytjkmaobfpgfdnaa.Lin
end

/- Rows brought to steps, in plain mathematics: what is made of what, inverses, and as many rows as columns that do not hang on others. -/
section
namespace Go.Proofs.Ytjkmaobfpgfdnaa.Elim
open Go.Proofs.Ytjkmaobfpgfdnaa Go.Proofs.Ytjkmaobfpgfdnaa.Lin Go.Proofs.Ytjkmaobfpgfdnaa.Lin.G
set_option linter.unusedVariables false

/-- Each table's rows are made of the other's. -/
def Eqv (m : Nat) (A B : Tb) : Prop := ∃ E E' : Tb, (∀ i, i < m → ∀ t, B i t = mm m E A i t) ∧ (∀ i, i < m → ∀ t, A i t = mm m E' B i t)
theorem Eqv.refl (m : Nat) (A : Tb) : Eqv m A A := ⟨I, I, fun i hi t => (I_mm A t hi).symm, fun i hi t => (I_mm A t hi).symm⟩
theorem Eqv.trans {m : Nat} {A B C : Tb} (h : Eqv m A B) (k : Eqv m B C) : Eqv m A C := by
  obtain ⟨E, E', h1, h2⟩ := h
  obtain ⟨F, F', k1, k2⟩ := k
  refine ⟨mm m F E, mm m E' F', fun i hi t => ?_, fun i hi t => ?_⟩
  · rw [k1 i hi t, mm_assoc]
    exact mm_congr i t (fun _ _ => rfl) (fun u hu => h1 u hu t)
  · rw [h2 i hi t, mm_assoc]
    exact mm_congr i t (fun _ _ => rfl) (fun u hu => k2 u hu t)

/-- Two rows changed about. -/
def sg (n p i : Nat) : Nat := if i = n then p else if i = p then n else i
def swp (A : Tb) (n p : Nat) : Tb := fun i => A (sg n p i)
theorem sg_sg (n p i : Nat) : sg n p (sg n p i) = i := by
  unfold sg
  by_cases h1 : i = n
  · subst h1
    by_cases h2 : p = i
    · simp [h2]
    · simp [h2]
  · by_cases h2 : i = p
    · subst h2
      simp [h1]
    · simp [h1, h2]
theorem sg_lt {m n p i : Nat} (hn : n < m) (hp : p < m) (hi : i < m) : sg n p i < m := by
  unfold sg
  split
  · exact hp
  · split
    · exact hn
    · exact hi
theorem mm_pick {m k : Nat} (A : Tb) (f : Nat → Nat) (i t : Nat) (h : f i < m) : mm m (fun i k => I (f i) k) A i t = A (f i) t := by
  show sm m (fun u => I (f i) u * A u t) = A (f i) t
  rw [sm_only (f i) m h (fun u _ hu => by rw [I_diff (fun e => hu e.symm), zero_mul]), I_same, one_mul]
theorem eqv_swp {m n p : Nat} (A : Tb) (hn : n < m) (hp : p < m) : Eqv m A (swp A n p) := by
  refine ⟨fun i k => I (sg n p i) k, fun i k => I (sg n p i) k, fun i hi t => ?_, fun i hi t => ?_⟩
  · rw [mm_pick (k := 0) A (sg n p) i t (sg_lt hn hp hi)]; rfl
  · rw [mm_pick (k := 0) (swp A n p) (sg n p) i t (sg_lt hn hp hi)]
    show A i t = A (sg n p (sg n p i)) t
    rw [sg_sg]

/-- A row made to begin with 1, and taken from all others. -/
def clr (A : Tb) (n j : Nat) : Tb := fun i t => if i = n then inv (A n j) * A n t else A i t + A i j * (inv (A n j) * A n t)
theorem clr_at (A : Tb) (n j t : Nat) : clr A n j n t = inv (A n j) * A n t := if_pos rfl
theorem clr_off (A : Tb) {n j i : Nat} (h : i ≠ n) (t : Nat) : clr A n j i t = A i t + A i j * clr A n j n t := by
  rw [clr_at]; exact if_neg h
theorem mm_two {m n i : Nat} (A : Tb) (c : Nat → G) (t : Nat) (hn : n < m) (hi : i < m) (hne : i ≠ n) :
    mm m (fun i k => (if k = i then 1 else 0) + (if k = n then c i else 0)) A i t = A i t + c i * A n t := by
  rw [mm_addl]
  congr 1
  · show sm m (fun u => (if u = i then 1 else 0) * A u t) = A i t
    rw [sm_only i m hi (fun u _ hu => by rw [if_neg hu, zero_mul]), if_pos rfl, one_mul]
  · show sm m (fun u => (if u = n then c i else 0) * A u t) = c i * A n t
    rw [sm_only n m hn (fun u _ hu => by rw [if_neg hu, zero_mul]), if_pos rfl]
theorem mm_one {m n i : Nat} (A : Tb) (c : G) (t : Nat) (hn : n < m) : mm m (fun i k => if k = n then c else 0) A i t = c * A n t := by
  show sm m (fun u => (if u = n then c else 0) * A u t) = c * A n t
  rw [sm_only n m hn (fun u _ hu => by rw [if_neg hu, zero_mul]), if_pos rfl]
theorem mm_if {m n i : Nat} (E F A : Tb) (t : Nat) : mm m (fun i k => if i = n then E i k else F i k) A i t = if i = n then mm m E A i t else mm m F A i t := by
  unfold mm
  by_cases h : i = n
  · simp only [if_pos h]
  · simp only [if_neg h]
theorem eqv_clr {m n : Nat} (A : Tb) (j : Nat) (hn : n < m) (hne : A n j ≠ 0) : Eqv m A (clr A n j) := by
  refine ⟨fun i k => if i = n then (fun _ k => if k = n then inv (A n j) else 0) i k else (fun i k => (if k = i then 1 else 0) + (if k = n then A i j * inv (A n j) else 0)) i k,
    fun i k => if i = n then (fun _ k => if k = n then A n j else 0) i k else (fun i k => (if k = i then 1 else 0) + (if k = n then A i j else 0)) i k, fun i hi t => ?_, fun i hi t => ?_⟩
  · rw [mm_if]
    by_cases h : i = n
    · subst h
      rw [if_pos rfl, mm_one A _ t hn, clr_at]
    · rw [if_neg h, mm_two A (fun i => A i j * inv (A n j)) t hn hi h, clr_off A h, clr_at, mul_assoc]
  · rw [mm_if]
    by_cases h : i = n
    · subst h
      rw [if_pos rfl, mm_one _ _ t hn, clr_at, ← mul_assoc, mul_inv hne, one_mul]
    · rw [if_neg h, mm_two _ (fun i => A i j) t hn hi h, clr_off A h, add_back]

/-- The first row from p on, of d rows, that has another number than 0 in column j. -/
def fnd (A : Tb) (j : Nat) : Nat → Nat → Option Nat
  | 0, _ => none
  | d + 1, p => if A p j = 0 then fnd A j d (p + 1) else some p
theorem fnd_some {A : Tb} {j : Nat} : ∀ {d p q : Nat}, fnd A j d p = some q → p ≤ q ∧ q < p + d ∧ A q j ≠ 0
  | 0, p, q, h => by cases h
  | d + 1, p, q, h => by
    unfold fnd at h
    by_cases hz : A p j = 0
    · rw [if_pos hz] at h
      have := fnd_some h
      exact ⟨by omega, by omega, this.2.2⟩
    · rw [if_neg hz] at h
      cases h
      exact ⟨by omega, by omega, hz⟩
theorem fnd_none {A : Tb} {j : Nat} : ∀ {d p : Nat}, fnd A j d p = none → ∀ q, p ≤ q → q < p + d → A q j = 0
  | 0, p, _, q, h1, h2 => by omega
  | d + 1, p, h, q, h1, h2 => by
    unfold fnd at h
    by_cases hz : A p j = 0
    · rw [if_pos hz] at h
      by_cases hq : q = p
      · rw [hq, hz]
      · exact fnd_none h q (by omega) (by omega)
    · rw [if_neg hz] at h
      cases h
theorem fnd_congr {A B : Tb} {j : Nat} : ∀ {d p : Nat}, (∀ q, A q j = B q j) → fnd A j d p = fnd B j d p
  | 0, _, _ => rfl
  | d + 1, p, h => by
    unfold fnd
    rw [h p, fnd_congr h]

/-- One column. -/
def stp (m : Nat) (s : Tb × Nat) (j : Nat) : Tb × Nat := match fnd s.1 j (m - s.2) s.2 with
  | none => s
  | some p => (clr (swp s.1 s.2 p) s.2 j, s.2 + 1)
/-- The columns below j. -/
def stps (m : Nat) (A : Tb) : Nat → Tb × Nat
  | 0 => (A, 0)
  | j + 1 => stp m (stps m A j) j

structure Inv (m : Nat) (A0 : Tb) (j : Nat) (A : Tb) (n : Nat) : Prop where
  eqv : Eqv m A0 A
  nj : n ≤ j
  nm : n ≤ m
  piv : ∃ pv : Nat → Nat, (∀ k, k < n → pv k < j) ∧ (∀ k l, k < l → l < n → pv k < pv l) ∧ ∀ k, k < n → ∀ i, i < m → A i (pv k) = I i k
  low : ∀ i, n ≤ i → i < m → ∀ t, t < j → A i t = 0

theorem inv_step {m : Nat} {A0 : Tb} {j : Nat} {A : Tb} {n : Nat} (h : Inv m A0 j A n) : Inv m A0 (j + 1) (stp m (A, n) j).1 (stp m (A, n) j).2 := by
  unfold stp
  show Inv m A0 (j + 1) (match fnd A j (m - n) n with | none => (A, n) | some p => (clr (swp A n p) n j, n + 1)).1 (match fnd A j (m - n) n with | none => (A, n) | some p => (clr (swp A n p) n j, n + 1)).2
  cases hf : fnd A j (m - n) n with
  | none =>
    have hz := fnd_none hf
    obtain ⟨pv, p1, p2, p3⟩ := h.piv
    exact ⟨h.eqv, Nat.le_succ_of_le h.nj, h.nm, ⟨pv, fun k hk => Nat.lt_succ_of_lt (p1 k hk), p2, p3⟩, fun i h1 h2 t ht => by
      by_cases htj : t = j
      · rw [htj]; exact hz i h1 (by omega)
      · exact h.low i h1 h2 t (by omega)⟩
  | some p =>
    obtain ⟨hp1, hp2, hp3⟩ := fnd_some hf
    have hnm := h.nm
    have hn : n < m := by omega
    have hp : p < m := by omega
    obtain ⟨pv, p1, p2, p3⟩ := h.piv
    show Inv m A0 (j + 1) (clr (swp A n p) n j) (n + 1)
    have hB : swp A n p n j ≠ 0 := by
      show A (sg n p n) j ≠ 0
      unfold sg; rw [if_pos rfl]; exact hp3
    have hlow : ∀ i, n ≤ i → i < m → ∀ t, t < j → swp A n p i t = 0 := by
      intro i h1 h2 t ht
      show A (sg n p i) t = 0
      refine h.low _ ?_ (sg_lt hn hp h2) t ht
      unfold sg
      split
      · exact hp1
      · split
        · exact Nat.le_refl _
        · exact h1
    have hpv : ∀ k, k < n → ∀ i, i < m → swp A n p i (pv k) = I i k := by
      intro k hk i hi
      show A (sg n p i) (pv k) = I i k
      rw [p3 k hk _ (sg_lt hn hp hi)]
      unfold sg I
      by_cases h1 : i = n
      · rw [if_pos h1, if_neg (by omega), if_neg (by omega)]
      · rw [if_neg h1]
        by_cases h2 : i = p
        · rw [if_pos h2, if_neg (by omega), if_neg (by omega)]
        · rw [if_neg h2]
    have hEq : Eqv m A0 (clr (swp A n p) n j) := h.eqv.trans ((eqv_swp A hn hp).trans (eqv_clr _ j hn hB))
    generalize swp A n p = B at hB hlow hpv hEq
    have hE : Eqv m A0 (clr B n j) → Inv m A0 (j + 1) (clr B n j) (n + 1) := by
      intro hE
      have hnn : clr B n j n j = 1 := by rw [clr_at, inv_mul hB]
      refine ⟨hE, Nat.succ_le_succ h.nj, hn, ⟨fun k => if k < n then pv k else j, ?_, ?_, ?_⟩, ?_⟩
      · intro k hk
        show (if k < n then pv k else j) < j + 1
        split
        · rename_i hk2
          have := p1 k hk2
          omega
        · omega
      · intro k l hkl hl
        show (if k < n then pv k else j) < (if l < n then pv l else j)
        rw [if_pos (by omega)]
        split
        · rename_i hl2
          exact p2 k l hkl hl2
        · exact p1 k (by omega)
      · intro k hk i hi
        show clr B n j i (if k < n then pv k else j) = I i k
        by_cases hkn : k < n
        · rw [if_pos hkn]
          have h0 : clr B n j n (pv k) = 0 := by rw [clr_at, hpv k hkn n hn, I_diff (by omega), mul_zero]
          by_cases hin : i = n
          · subst hin
            rw [h0, I_diff (by omega)]
          · rw [clr_off B hin, h0, mul_zero, add_zero, hpv k hkn i hi]
        · obtain rfl : k = n := by omega
          rw [if_neg hkn]
          by_cases hin : i = k
          · subst hin
            rw [hnn, I_same]
          · rw [clr_off B hin, hnn, mul_one, add_self, I_diff hin]
      · intro i h1 h2 t ht
        rw [clr_off B (show i ≠ n by omega)]
        by_cases htj : t = j
        · rw [htj, hnn, mul_one, add_self]
        · rw [hlow i (by omega) h2 t (by omega), clr_at, hlow n (Nat.le_refl _) hn t (by omega), mul_zero, mul_zero, add_zero]
    exact hE hEq

theorem inv_stps (m : Nat) (A : Tb) : ∀ j, Inv m A j (stps m A j).1 (stps m A j).2
  | 0 => ⟨Eqv.refl m A, Nat.le_refl _, Nat.zero_le _, ⟨fun _ => 0, (fun k hk => absurd hk (Nat.not_lt_zero k)), (fun _ l _ h => absurd h (Nat.not_lt_zero l)), (fun k hk => absurd hk (Nat.not_lt_zero k))⟩, fun _ _ _ t ht => absurd ht (Nat.not_lt_zero t)⟩
  | j + 1 => inv_step (inv_stps m A j)

/-- What stands in columns from c on has no say in what is done to those below c. -/
theorem stps_congr {m : Nat} {A B : Tb} (c : Nat) (h : ∀ i t, t < c → A i t = B i t) : ∀ j, j ≤ c → (stps m A j).2 = (stps m B j).2 ∧ ∀ i t, t < c → (stps m A j).1 i t = (stps m B j).1 i t
  | 0, _ => ⟨rfl, h⟩
  | j + 1, hj => by
    obtain ⟨h1, h2⟩ := stps_congr c h j (by omega)
    show (stp m (stps m A j) j).2 = (stp m (stps m B j) j).2 ∧ ∀ i t, t < c → (stp m (stps m A j) j).1 i t = (stp m (stps m B j) j).1 i t
    generalize stps m A j = s at h1 h2
    generalize stps m B j = u at h1 h2
    obtain ⟨X, n⟩ := s
    obtain ⟨Y, n'⟩ := u
    simp only at h1 h2
    subst h1
    unfold stp
    show (match fnd X j (m - n) n with | none => (X, n) | some p => (clr (swp X n p) n j, n + 1)).2 = (match fnd Y j (m - n) n with | none => (Y, n) | some p => (clr (swp Y n p) n j, n + 1)).2 ∧ ∀ i t, t < c → (match fnd X j (m - n) n with | none => (X, n) | some p => (clr (swp X n p) n j, n + 1)).1 i t = (match fnd Y j (m - n) n with | none => (Y, n) | some p => (clr (swp Y n p) n j, n + 1)).1 i t
    rw [fnd_congr (A := X) (B := Y) (fun q => h2 q j (by omega))]
    cases fnd Y j (m - n) n with
    | none => exact ⟨rfl, h2⟩
    | some p =>
      refine ⟨rfl, fun i t ht => ?_⟩
      show clr (swp X n p) n j i t = clr (swp Y n p) n j i t
      have e : ∀ i t, t < c → swp X n p i t = swp Y n p i t := fun i t ht => h2 _ t ht
      unfold clr
      rw [e n j (by omega), e n t ht, e i t ht, e i j (by omega)]

/-- A step in each column: the pivots stand on the slope. -/
theorem pivots_all {n : Nat} {pv : Nat → Nat} (p1 : ∀ k, k < n → pv k < n) (p2 : ∀ k l, k < l → l < n → pv k < pv l) : ∀ k, k < n → pv k = k := by
  have lo : ∀ k, k < n → k ≤ pv k := by
    intro k
    induction k with
    | zero => intro _; exact Nat.zero_le _
    | succ k ih =>
      intro hk
      have := ih (by omega)
      have := p2 k (k + 1) (by omega) hk
      omega
  have hi : ∀ d k, k + d + 1 = n → pv k ≤ k := by
    intro d
    induction d with
    | zero =>
      intro k hk
      have := p1 k (by omega)
      omega
    | succ d ih =>
      intro k hk
      have := ih (k + 1) (by omega)
      have := p2 k (k + 1) (by omega) (by omega)
      omega
  intro k hk
  have := lo k hk
  have := hi (n - 1 - k) k (by omega)
  omega

/-- A table beside the one that changes nothing. -/
def wide (n : Nat) (A : Tb) : Tb := fun i t => if t < n then A i t else I i (t - n)
theorem wide_l {n : Nat} (A : Tb) (i : Nat) {t : Nat} (h : t < n) : wide n A i t = A i t := if_pos h
theorem wide_r (n : Nat) (A : Tb) (i t : Nat) : wide n A i (n + t) = I i t := by
  unfold wide
  rw [if_neg (by omega), Nat.add_sub_cancel_left]
theorem mm_at {k : Nat} (E A B : Tb) (i t u : Nat) (h : ∀ s, s < k → A s t = B s u) : mm k E A i t = mm k E B i u := sm_congr k fun s hs => by rw [h s hs]

/-- Where there is a step in each column, what stands at the right takes the table back, from both sides. -/
theorem inverse_right {n : Nat} {A : Tb} (hr : (stps n (wide n A) n).2 = n) :
    (∀ i t, i < n → t < n → mm n (fun i t => (stps n (wide n A) n).1 i (n + t)) A i t = I i t) ∧ (∀ i t, i < n → t < n → mm n A (fun i t => (stps n (wide n A) n).1 i (n + t)) i t = I i t) := by
  have h := inv_stps n (wide n A) n
  rw [hr] at h
  generalize (stps n (wide n A) n).1 = W at h ⊢
  obtain ⟨pv, p1, p2, p3⟩ := h.piv
  have hp := pivots_all p1 p2
  have hl : ∀ i t, i < n → t < n → W i t = I i t := fun i t hi ht => by
    have := p3 t ht i hi
    rwa [hp t ht] at this
  obtain ⟨E, E', h1, h2⟩ := h.eqv
  have hE : ∀ i t, i < n → t < n → W i (n + t) = E i t := fun i t hi ht => by
    rw [h1 i hi, mm_at E (wide n A) I i (n + t) t (fun s _ => wide_r n A s t), mm_I E i ht]
  have hE' : ∀ i t, i < n → t < n → A i t = E' i t := fun i t hi ht => by
    have := h2 i hi t
    rw [wide_l A i ht] at this
    rw [this, mm_at E' W I i t t (fun s hs => hl s t hs ht), mm_I E' i ht]
  refine ⟨fun i t hi ht => ?_, fun i t hi ht => ?_⟩
  · have := h1 i hi t
    rw [hl i t hi ht] at this
    rw [this]
    exact mm_congr i t (fun s hs => hE i s hi hs) (fun s hs => (wide_l A s ht).symm)
  · have := h2 i hi (n + t)
    rw [wide_r] at this
    rw [this]
    show mm n A (fun i t => W i (n + t)) i t = mm n E' W i (n + t)
    exact sm_congr n fun s hs => by rw [hE' i s hi hs]

/-- What takes a table back has a step in each column. -/
theorem steps_of_inverse {n : Nat} {A X : Tb} (h : ∀ i t, i < n → t < n → mm n X A i t = I i t) : (stps n (wide n X) n).2 = n := by
  have hI := inv_stps n (wide n X) n
  generalize (stps n (wide n X) n).1 = W at hI
  generalize (stps n (wide n X) n).2 = r at hI
  apply Classical.byContradiction
  intro hne
  have hrn : r < n := by have := hI.nm; omega
  obtain ⟨F, F', h1, h2⟩ := hI.eqv
  have hz : ∀ t, t < n → W (n - 1) t = 0 := fun t ht => hI.low (n - 1) (by omega) (by omega) t ht
  have hFX : ∀ t, t < n → mm n F X (n - 1) t = 0 := fun t ht => by
    rw [← hz t ht, h1 (n - 1) (by omega)]
    exact mm_congr _ t (fun _ _ => rfl) (fun s _ => (wide_l X s ht).symm)
  have hF : ∀ t, t < n → F (n - 1) t = 0 := fun t ht => by
    rw [← mm_I F (n - 1) ht, mm_congr (n - 1) t (fun _ _ => rfl) (fun s hs => (h s t hs ht).symm), ← mm_assoc]
    exact sm_zero' n fun s hs => by rw [hFX s hs, zero_mul]
  have hR : ∀ i t, i < n → t < n → mm (n - 1) F' (fun i t => W i (n + t)) i t = I i t := fun i t hi ht => by
    have h3 : I i t = mm n F' W i (n + t) := by rw [← h2 i hi, wide_r]
    have h4 : W (n - 1) (n + t) = 0 := by
      rw [h1 (n - 1) (by omega)]
      exact sm_zero' n fun s hs => by rw [hF s hs, zero_mul]
    rw [h3]
    show sm (n - 1) (fun s => F' i s * W s (n + t)) = sm n (fun s => F' i s * W s (n + t))
    refine (sm_short (n - 1) n (by omega) fun s hs1 hs2 => ?_).symm
    obtain rfl : s = n - 1 := by omega
    rw [h4, mul_zero]
  have := rank_le n (n - 1) F' (fun i t => W i (n + t)) hR
  omega

/-- What takes back what takes back. -/
theorem inverse_unique {n : Nat} {A X Y : Tb} (h1 : ∀ i t, i < n → t < n → mm n X A i t = I i t) (h2 : ∀ i t, i < n → t < n → mm n Y X i t = I i t) : ∀ i t, i < n → t < n → Y i t = A i t := by
  intro i t hi ht
  have e1 : mm n (mm n Y X) A i t = A i t := by
    rw [mm_congr i t (fun s hs => h2 i s hi hs) (fun _ _ => rfl), I_mm A t hi]
  have e2 : mm n Y (mm n X A) i t = Y i t := by
    rw [mm_congr i t (fun _ _ => rfl) (fun s hs => h1 s t hs ht), mm_I Y i ht]
  rw [← e2, ← mm_assoc, e1]

/-- As many rows as columns do not hang on others. -/
theorem rank_turned_le {m c : Nat} (A : Tb) : (stps c (fun i j => A j i) m).2 ≤ (stps m A c).2 := by
  have hA := inv_stps m A c
  have hB := inv_stps c (fun i j => A j i) m
  generalize (stps m A c).1 = R at hA
  generalize (stps m A c).2 = r at hA ⊢
  generalize (stps c (fun i j => A j i) m).1 = S at hB
  generalize (stps c (fun i j => A j i) m).2 = s at hB ⊢
  obtain ⟨E, E', h1, h2⟩ := hA.eqv
  obtain ⟨F, F', k1, k2⟩ := hB.eqv
  obtain ⟨pv, p1, p2, p3⟩ := hB.piv
  refine rank_le s r (fun i v => sm c (fun u => F i u * R v u)) (fun v k => E' (pv k) v) fun i k hi hk => ?_
  have hic : i < c := by have := hB.nm; omega
  have e1 : I i k = sm c (fun u => F i u * A (pv k) u) := by
    rw [← p3 k hk i hic, k1 i hic]
    rfl
  have e2 : ∀ u, u < c → A (pv k) u = sm r (fun v => E' (pv k) v * R v u) := fun u hu => by
    rw [h2 (pv k) (p1 k hk) u]
    show sm m (fun v => E' (pv k) v * R v u) = _
    exact sm_short r m hA.nm fun v hv1 hv2 => by rw [hA.low v hv1 hv2 u hu, mul_zero]
  rw [e1, sm_congr c (fun u hu => by rw [e2 u hu, ← sm_mul]), sm_swap]
  show sm r (fun v => sm c (fun u => F i u * R v u) * E' (pv k) v) = _
  refine sm_congr r fun v _ => ?_
  rw [← sm_mulr]
  exact sm_congr c fun u _ => by rw [mul_assoc, mul_comm (R v u)]
theorem rank_turned {m c : Nat} (A : Tb) : (stps c (fun i j => A j i) m).2 = (stps m A c).2 :=
  Nat.le_antisymm (rank_turned_le A) (rank_turned_le (m := c) (c := m) (fun i j => A j i))
end Go.Proofs.Ytjkmaobfpgfdnaa.Elim
end

/- The tables of the field's powers, made by the Go program, and what Inverse, Log, Exp and Pow answer off them: contracts of these functions for every argument. -/
section
namespace Go.Proofs.Ytjkmaobfpgfdnaa.Gf
open Go.Proofs.Ytjkmaobfpgfdnaa Go.RowKit Go.Proofs.YtjkmaobfpgfdnaaW.PrintWords Go.Proofs.YtjkmaobfpgfdnaaW.PrintLast Go.Proofs.YtjkmaobfpgfdnaaW.PrintMore

/-- The closure's captured variables, and the table, as they stand. -/
def Mem (b0 b1 b2 : Nat) (l : List Int) (x : Int) (W : World) : Prop :=
  W.heap[b0]? = some (.cells (nums .u8 l).toArray 67 (0, 0)) ∧ W.heap[b1]? = some (.cells #[.pointer (some ⟨b0, 0, none⟩)] 62 (0, 0)) ∧ W.heap[b2]? = some (.cells #[.int .i64 x] 3 (0, 0))

def next (l : List Int) (x k : Int) : List Int := (l.set k.toNat (x % 256)).set (255 + x.toNat) (k % 256)
def xnext (x : Int) : Int := if 255 < x * 2 then Go.bits .xor .i64 (x * 2) 285 else x * 2

def Post (B b0 b1 b2 : Nat) (l : List Int) (x : Int) (W : World) (e : Ending) (w' : World) : Prop := e = .returned (.tuple #[]) ∧ Mem b0 b1 b2 l x w' ∧ Below B W w'

theorem nums_set (k : IntKind) (l : List Int) (i : Nat) (v : Int) : (nums k l).toArray.setIfInBounds i (.int k v) = (nums k (l.set i v)).toArray := by
  simp [nums, List.map_set]

theorem mem_set0 {b0 b1 b2 : Nat} {l : List Int} {x : Int} {W : World} (h : Mem b0 b1 b2 l x W) (h01 : b0 ≠ b1) (h02 : b0 ≠ b2) (i : Nat) (v : Int) :
    Mem b0 b1 b2 (l.set i v) x (W.setCell ⟨b0, i, none⟩ (.int .u8 v)) :=
  ⟨by rw [blk_set h.1, nums_set], blk_far h.2.1 (fun e => h01 e.symm) _, blk_far h.2.2 (fun e => h02 e.symm) _⟩
theorem mem_set2 {b0 b1 b2 : Nat} {l : List Int} {x : Int} {W : World} (h : Mem b0 b1 b2 l x W) (h02 : b0 ≠ b2) (h12 : b1 ≠ b2) (v : Int) :
    Mem b0 b1 b2 l v (W.setCell ⟨b2, 0, none⟩ (.int .i64 v)) :=
  ⟨blk_far h.1 h02 _, blk_far h.2.1 h12 _, by rw [blk_set h.2.2]; rfl⟩
theorem mem_drew {b0 b1 b2 : Nat} {l : List Int} {x : Int} {W : World} (h : Mem b0 b1 b2 l x W) : Mem b0 b1 b2 l x W.drew := h

theorem made1 (W : World) (B b0 b1 b2 : Nat) (l : List Int) (k x : Int) (hm : Mem b0 b1 b2 l x W) (hl : l.length = 511)
    (hk0 : 0 ≤ k) (hk1 : k < 255) (hx0 : 1 ≤ x) (hx1 : x ≤ 255) (h01 : b0 ≠ b1) (h02 : b0 ≠ b2) (h12 : b1 ≠ b2) (hB0 : B ≤ b0) (hB2 : B ≤ b2) :
    Calls Try.prog 51 #[.int .i64 k, .pointer (some ⟨b2, 0, none⟩), .pointer (some ⟨b1, 0, none⟩)] W (Post B b0 b1 b2 (next l x k) (xnext x) W) := by
  obtain ⟨H0, H1, H2⟩ := hm
  have M0 := Lib.hid H0
  have M1 := Lib.hid H1
  have M2 := Lib.hid H2
  have h1 : W.cell? ⟨b1, 0, none⟩ = some (.pointer (some ⟨b0, 0, none⟩)) := by rw [blk_cell H1]; rfl
  have h2 : W.cell? ⟨b2, 0, none⟩ = some (.int .i64 x) := by rw [blk_cell H2]; rfl
  have c1 : W.cell? ⟨b0, k.toNat, none⟩ = some (.int .u8 (l[k.toNat]'(by omega))) := by rw [blk_cell H0]; simp [nums]
  have c2 : W.cell? ⟨b0, 255 + x.toNat, none⟩ = some (.int .u8 (l[255 + x.toNat]'(by omega))) := by rw [blk_cell H0]; simp [nums]
  have f1 : W.frozen? ⟨b0, k.toNat, none⟩ = false := blk_frozen H0 _
  have f2 : W.frozen? ⟨b0, 255 + x.toNat, none⟩ = false := blk_frozen H0 _
  have f3 : W.frozen? ⟨b2, 0, none⟩ = false := blk_frozen H2 _
  clear H0 H1 H2
  go_enter Try.func51, Try.ntmps51
  go_wp2
  go_region
  all_goals (try go_wp2)
  all_goals go_end0
  · refine ⟨rfl, ?_, (((((Below.refl _ _).setCell (by simpa using hB0) _).setCell (by simpa using hB0) _).setCell (by simpa using hB2) _).setCell (by simpa using hB2) _).drew⟩
    have hx : xnext x = bits .xor .i64 (x * 2) 285 := by unfold xnext; rw [if_pos (by assumption)]
    rw [hx, next, Int.emod_eq_of_lt hk0 (show k < 256 by omega), Int.emod_eq_of_lt (show 0 ≤ x by omega) (show x < 256 by omega)]
    exact mem_drew (mem_set2 (mem_set2 (mem_set0 (mem_set0 ⟨M0.out, M1.out, M2.out⟩ h01 h02 _ _) h01 h02 _ _) h02 h12 _) h02 h12 _)
  · refine ⟨rfl, ?_, ((((Below.refl _ _).setCell (by simpa using hB0) _).setCell (by simpa using hB0) _).setCell (by simpa using hB2) _).drew⟩
    have hx : xnext x = x * 2 := by unfold xnext; rw [if_neg (by omega)]
    rw [hx, next, Int.emod_eq_of_lt hk0 (show k < 256 by omega), Int.emod_eq_of_lt (show 0 ≤ x by omega) (show x < 256 by omega)]
    exact mem_drew (mem_set2 (mem_set0 (mem_set0 ⟨M0.out, M1.out, M2.out⟩ h01 h02 _ _) h01 h02 _ _) h02 h12 _)


/-- The table and x behind k rounds. -/
def tabs : Nat → List Int × Int
  | 0 => (List.replicate 511 0, 1)
  | k + 1 => (next (tabs k).1 (tabs k).2 k, xnext (tabs k).2)

theorem tabs_len (k : Nat) : (tabs k).1.length = 511 := by
  induction k with
  | zero => exact List.length_replicate
  | succ k ih => show (next (tabs k).1 (tabs k).2 k).length = 511; simp [next, ih]

theorem xs_ok : (List.range 256).all (fun k => decide (1 ≤ (Nat.rec 1 (fun _ x => xnext x) k : Int) ∧ (Nat.rec 1 (fun _ x => xnext x) k : Int) ≤ 255)) = true := by kernel_rfl

theorem tabs_rec (k : Nat) : (tabs k).2 = (Nat.rec 1 (fun _ x => xnext x) k : Int) := by
  induction k with
  | zero => rfl
  | succ k ih => show xnext (tabs k).2 = _; rw [ih]

theorem tabs_x (k : Nat) (h : k ≤ 255) : 1 ≤ (tabs k).2 ∧ (tabs k).2 ≤ 255 := by
  rw [tabs_rec]
  have := List.all_eq_true.mp xs_ok k (List.mem_range.mpr (by omega))
  exact of_decide_eq_true this

/-- The table's cells at first. -/
def Z0 : Array Value := (nums .u8 (List.replicate 511 0)).toArray

def MadePost (W : World) (e : Ending) (w' : World) : Prop :=
  e = .returned (.pointer (some ⟨W.heap.size, 0, none⟩)) ∧ w'.heap[W.heap.size]? = some (.cells (nums .u8 (tabs 255).1).toArray 67 (0, 0)) ∧ Below W.heap.size W w'

set_option maxRecDepth 100000 in
theorem made_any (W : World) : Calls Try.prog 50 #[] W (MadePost W) := by
  have hz : ∀ w, (zeroValue 67).run Try.prog w = .ok (.agg Z0) w := fun _ => by kernel_rfl
  go_enter Try.func50, Try.ntmps50
  go_wp2
  go_loopw [8] (fun v8 wr => ∃ k : Nat, k ≤ 255 ∧ v8 = .int .i64 k ∧ Mem W.heap.size (W.heap.size + 1) (W.heap.size + 1 + 1) (tabs k).1 (tabs k).2 wr ∧ Below W.heap.size W wr) (fun v8 _ => 255 - (intOf v8).toNat)
  case atStart =>
    refine ⟨0, by omega, rfl, ⟨?_, ?_, ?_⟩, (((Below.refl _ _).alloc (Nat.le_refl _) _).alloc (by simp) _).alloc (by simp; omega) _⟩
    · exact blk_alloc (blk_alloc (blk_new _ _) _) _
    · have h := blk_new (W.alloc (Obj.cells Z0 67)) (Obj.cells #[Value.pointer (some { block := W.heap.size, off := 0 })] 62)
      simp only [World.size_alloc] at h
      exact blk_alloc h _
    · have h := blk_new ((W.alloc (Obj.cells Z0 67)).alloc (Obj.cells #[Value.pointer (some { block := W.heap.size, off := 0 })] 62)) (Obj.cells #[Value.int IntKind.i64 1] 3)
      simp only [World.size_alloc] at h
      exact h
  case round =>
    obtain ⟨k, hk, rfl, hm, hb⟩ := hrel
    have hx := tabs_x k hk
    have hxa := hx.1
    have hxb := hx.2
    have hc1 : wr.cell? ⟨W.heap.size + 1, 0, none⟩ = some (.pointer (some ⟨W.heap.size, 0, none⟩)) := by rw [blk_cell hm.2.1]; rfl
    have MM := Lib.hid hm
    have m0 := Lib.hid hm.1
    have BB := Lib.hid hb
    clear hm hb hx
    by_cases hlt : k < 255
    · go_wp2_with (go_at_call 51; refine (made1 _ W.heap.size _ _ _ _ _ _ MM.out (tabs_len k) (by omega) (by omega) hxa hxb (by omega) (by omega) (by omega) (by omega) (by omega)).mono ?_; rintro e w' ⟨rfl, hm', hb'⟩)
      go_roundw
      case rel => exact ⟨k + 1, by omega, by go_num, hm', BB.out.trans hb'⟩
      case measure => simp [intOf]; omega
    · go_wp2
      go_ret
      obtain rfl : k = 255 := by omega
      exact ⟨rfl, m0.out, BB.out⟩

/-- The table as it stands at the end. -/
def TBL : List Int := GfMath.tabN.map Int.ofNat
theorem tabs_lit : (tabs 255).1 = TBL := by kernel_rfl

theorem tbl_len : TBL.length = 511 := by kernel_rfl

/-- The table's number at a place. -/
def tb (i : Int) : Int := rd TBL i

theorem tb_cell {w' : World} {b : Nat} (h : w'.heap[b]? = some (.cells (nums .u8 (tabs 255).1).toArray 67 (0, 0))) (i : Int) (h0 : 0 ≤ i) (hi : i < 511) : w'.cell? ⟨b, i.toNat, none⟩ = some (.int .u8 (tb i)) := by
  rw [blk_cell h, tabs_lit]
  have hl : TBL.length = 511 := tbl_len
  unfold tb rd
  rw [List.getElem?_toArray]
  simp only [nums, List.getElem?_map]
  rw [List.getElem?_eq_getElem (by omega), List.getD_eq_getElem?_getD, List.getElem?_eq_getElem (by omega)]
  rfl

theorem tb_range_all : TBL.all (fun x => decide (0 ≤ x ∧ x ≤ 255)) = true := by kernel_rfl
theorem tb_range (i : Int) : 0 ≤ tb i ∧ tb i ≤ 255 := by
  unfold tb rd
  rw [List.getD_eq_getElem?_getD]
  cases h : TBL[i.toNat]? with
  | none => simp
  | some v => exact of_decide_eq_true (List.all_eq_true.mp tb_range_all v (List.mem_of_getElem? h))
theorem log_range_all : (TBL.drop 255).all (fun x => decide (x ≤ 254)) = true := by kernel_rfl
theorem log_range (a : Int) (h0 : 0 ≤ a) (h1 : a ≤ 255) : tb (255 + a) ≤ 254 := by
  unfold tb rd
  have hl : TBL.length = 511 := tbl_len
  rw [List.getD_eq_getElem?_getD, List.getElem?_eq_getElem (by omega)]
  refine of_decide_eq_true (List.all_eq_true.mp log_range_all _ ?_)
  have e : (255 + a).toNat = 255 + a.toNat := by omega
  simp only [Option.getD_some]
  have h2 : (TBL.drop 255)[a.toNat]? = some (TBL[(255 + a).toNat]'(by omega)) := by
    rw [List.getElem?_drop, ← e, List.getElem?_eq_getElem (by omega)]
  exact List.mem_of_getElem? h2

def invF (a0 : Int) : Option (Int × Int) := if 0 ≤ a0 ∧ a0 ≤ 255 then (if a0 = 0 then some (0, 1) else some (tb (-tb (255 + a0) % 255), 0)) else none

set_option maxRecDepth 100000 in
theorem inv_calls (a0 : Int) (r1 : Int) (r2 : Int) (w : World) (h : invF a0 = some (r1, r2)) :
    Calls Try.prog 46 #[.int .u8 a0] w fun e w' => e = .returned (.tuple #[.int .u8 r1, .int .i64 r2]) ∧ Below w.heap.size w w' := by
  unfold invF at h
  by_cases hr : 0 ≤ a0 ∧ a0 ≤ 255
  · rw [if_pos hr] at h
    by_cases h0 : a0 = 0
    · subst h0
      rw [if_pos rfl] at h
      simp only [Option.some.injEq, Prod.mk.injEq] at h
      obtain ⟨rfl, rfl⟩ := h
      go_enter Try.func46, Try.ntmps46
      go_wp2
      go_ret2
      exact ⟨rfl, Below.refl _ _⟩
    · rw [if_neg h0] at h
      simp only [Option.some.injEq, Prod.mk.injEq] at h
      obtain ⟨rfl, rfl⟩ := h
      have hb : (a0 == 0) = false := by simpa using h0
      obtain ⟨ha0, ha1⟩ := hr
      have hlr := log_range a0 ha0 ha1
      have hlr0 := (tb_range (255 + a0)).1
      have e1 : (255 + a0).toNat = 255 + a0.toNat := by omega
      have E1 := Lib.hid e1
      clear e1
      go_enter Try.func46, Try.ntmps46
      go_wp2_with (go_at_call 50; refine (made_any _).mono ?_; rintro e w' ⟨rfl, hh, hbel⟩)
      have c1 := tb_cell hh (255 + a0) (by omega) (by omega)
      rw [E1.out] at c1
      have c2 := tb_cell hh (-tb (255 + a0) % 255) (by omega) (by omega)
      have b1 : a0 < 256 := by omega
      go_region
      all_goals (go_wp2; go_ret2)
      all_goals exact ⟨rfl, hbel.drew⟩
  · rw [if_neg hr] at h; exact absurd h (by simp)

def logF (a0 : Int) : Option (Int × Int) := if 0 ≤ a0 ∧ a0 ≤ 255 then (if a0 = 0 then some (0, 1) else some (tb (255 + a0), 0)) else none

/-- A whole number modulo 255. -/
def mod255 (n : Int) : Int := (Int.tmod n 255 + 255) % 255
theorem mod255_range (n : Int) : 0 ≤ mod255 n ∧ mod255 n ≤ 254 := by unfold mod255; omega
theorem tmod_range (n : Int) : -254 ≤ Int.tmod n 255 ∧ Int.tmod n 255 ≤ 254 := by
  rcases Int.le_total 0 n with h | h
  · have := Int.tmod_eq_emod_of_nonneg h (b := 255); omega
  · have h1 : Int.tmod (-n) 255 = -Int.tmod n 255 := Int.neg_tmod n 255
    have := Int.tmod_eq_emod_of_nonneg (a := -n) (by omega) (b := 255); omega

def expF (n : Int) : Option Int := some (tb (mod255 n))

def powF (a0 n : Int) : Option Int := if 0 ≤ a0 ∧ a0 ≤ 255 then (if n = 0 then some 1 else if a0 = 0 then some 0 else some (tb (tb (255 + a0) * mod255 n % 255))) else none

end Go.Proofs.Ytjkmaobfpgfdnaa.Gf
end

/- The library's Clone of bytes: what it answers are the same bytes in new memory. -/
section
namespace Go.Proofs.Ytjkmaobfpgfdnaa.Clone
open Go.Proofs.Ytjkmaobfpgfdnaa Go.RowKit Go.Proofs.YtjkmaobfpgfdnaaW.PrintWords Go.Proofs.YtjkmaobfpgfdnaaW.PrintLast Go.Proofs.YtjkmaobfpgfdnaaW.PrintMore
set_option linter.unusedVariables false
set_option linter.unusedSimpArgs false

theorem info5 : (Try.prog.info? 5).map (fun i => (i.zero, i.size, i.bytes)) = some (some (.int .u8 0), 1, 1) := by kernel_rfl

def cloneF (l : List Int) : Option (List Int) := if l.length < 140737488355328 then some l else none

set_option maxHeartbeats 8000000 in
set_option maxRecDepth 100000 in
theorem clone_calls (A0 : Option Addr) (c0 : Nat) (l0 : List Int) (r : List Int) (w : World) (hr0 : Kd.C (Kd.int .u8) w A0 l0.length l0) (hc0 : l0.length ≤ c0) (h : cloneF l0 = some r) :
    Calls Try.prog 39 #[.slice A0 l0.length c0] w fun e w' => ∃ v0_ : Value, e = .returned (v0_) ∧ Kd.R (Kd.int .u8) 5 w' w.heap.size (fun _ => True) v0_ r ∧ Below w.heap.size w w' := by
  unfold cloneF at h
  by_cases hl : l0.length < 140737488355328
  case neg => rw [if_neg hl] at h; exact absurd h (by simp)
  rw [if_pos hl] at h
  obtain rfl := Option.some.inj h
  have qT : ∀ (w : World) (a : Option Addr) (n c n' c' : Nat), (binOp .eql 38 (.slice a n c) (.slice none n' c')).run Try.prog w = .ok (.bool a.isNone) w := fun w a n c n' c' => Lib.run_eql_slice_nil w _ _ a n c n' c' Try.underlying38
  have HR0 := Aside0.mk hr0
  have HC0 := Aside0.mk hc0
  have HL := Aside0.mk hl
  have HB := Aside0.mk (Below.refl w.heap.size w)
  cases A0 with
  | none =>
    have h0 : l0 = [] := by
      cases l0 with
      | nil => rfl
      | cons c t =>
        obtain ⟨ad, e, _⟩ := Kd.at_int hr0 0 (by omega) (by simp)
        cases e
    subst h0
    clear hr0 hc0 hl h
    go_enter Try.func39, Try.ntmps39
    go_wp2
    go_ret
    exact ⟨_, rfl, Kd.R_nil _ _ _ _ _, HB.out⟩
  | some ad =>
    clear hr0 hc0 hl h
    go_enter Try.func39, Try.ntmps39
    go_wp2_with (first
      | ((with_reducible refine gate_dst (N := 5) rfl ?_); refine Kd.R_lit (Kd.int .u8) _ 5 ?hg (N := 5) ?hd (xs := ([] : List Int)) (inner := []) (ok := fun _ => True) (okp := fun _ => True) ?hr ?hp (fun _ hk => hk) trivial (Below.refl _ _) (Nat.le_refl _) (by simp) ?_; (case hd => rfl); (case hg => rfl); (case hr => first | (go_simp; done) | (go_simp; rfl)); (case hp => exact (Reps.none _ _)); intro v105 w7 ho8 hb hg_ hnew_; clear hg_ hnew_; have n1_ := Aside0.mk ho8; have n2_ := Aside0.mk hb; have n3_ := Aside0.mk (Kd.C_below HR0.out hb); clear HB; clear HR0; have HR0 := n3_; have HO106 := n1_; have HB := n2_; clear n1_ n2_ n3_; clear hb ho8)
      | ((with_reducible refine gate_builtin (b := .append) (xs := #[.tmp 5, .tmp 6]) rfl ?_); at_builtin; refine Kd.R_append_rows (Kd.int .u8) (w0 := w) w.heap.size rfl (.tmp 5) (.tmp 6) 38 5 (.int .u8 0) 1 rfl Try.underlying38 info5 rfl (by decide) (by omega) v105 ([] : List Int) l0 _ _ _ (fun _ => True) (fun _ => False) rfl rfl ?aO ?aR (fun _ _ h => h) (fun _ h => h.elim) ?aF ?aB ?aS ?aL ?_; (case aR => repeat (first | exact HR0.out | (with_reducible refine Kd.C_alloc ?_ _) | (with_reducible refine Kd.C_drewN ?_ _) | (with_reducible refine Kd.C_drew ?_))); (case aB => exact (by repeat (first | (with_reducible first | exact HB.out | apply below_alloc | apply pw_below_drewN | apply below_drew1) | exact HB.out))); (case aF => exact (fun _ _ => trivial)); (case aO => exact HO106.out); (case aS => exact (below_size (by repeat (first | (with_reducible first | exact HB.out | apply below_alloc | apply pw_below_drewN | apply below_drew1) | exact HB.out)))); (case aL => have := HL.out; simp; omega); intro v102 w6 ho hb hg hat; rw [List.nil_append] at ho; have n0_ := Aside0.mk (hb); have n1_ := Aside0.mk (ho); clear HB; have HB := n0_; have HO103 := n1_; clear n0_ n1_; clear ho hb hg hat))
    go_ret
    exact ⟨_, rfl, HO103.out, HB.out⟩
end Go.Proofs.Ytjkmaobfpgfdnaa.Clone
end

-- Written by wip/tools/myprint.py, a program of this session over the print tool: not a printed text of the kit's
section
namespace Go.Proofs.Ytjkmaobfpgfdnaa.PMatrixInverses
open Go.RowKit Go.Proofs.YtjkmaobfpgfdnaaW.PrintWords Go.Proofs.YtjkmaobfpgfdnaaW.PrintLast Go.Proofs.YtjkmaobfpgfdnaaW.PrintMore
attribute [local go_sem] max2_int min2_int max_two min_two max_three min_three max_four min_four   -- for this text's walks alone
set_option linter.unusedVariables false
set_option linter.unusedSimpArgs false
set_option maxRecDepth 20000



def errW : Option Int → Value
 | none => .nilIface
 | some c => .iface 0 (.int .i64 c)
theorem errW_none : errW none = .nilIface := rfl
theorem errW_some (c : Int) : errW (some c) = .iface 0 (.int .i64 c) := rfl

theorem info5 : (Try.prog.info? 5).map (fun i => (i.zero, i.size, i.bytes)) = some (some (.int .u8 0), 1, 1) := by kernel_rfl
theorem info38 : (Try.prog.info? 38).map (fun i => (i.zero, i.size, i.bytes)) = some (some (.slice none 0 0), 1, 24) := by kernel_rfl
-- the values' own types
def rd_L1 (xs : List (List Int)) (i : Int) : (List Int) := xs.getD i.toNat ([] : List Int)
theorem at_L1 {w : World} {A : Option Addr} {n : Nat} {xs : List (List Int)} (h : Kd.C (Kd.slice 5 (Kd.int .u8)) w A n xs) (i : Int) (h0 : 0 ≤ i) (h1 : i < n) : ∃ ad A0 c0, A = some ad ∧ w.cell? (ad.add i.toNat) = some (.slice A0 (rd_L1 xs i).length c0) ∧ (rd_L1 xs i).length ≤ c0 ∧ (Kd.int .u8).C w A0 (rd_L1 xs i).length (rd_L1 xs i) := by
 obtain ⟨ad, c, e, _, hK, hc0⟩ := Kd.C_get h ([] : List Int) i h0 h1
 have hc : ∀ j u, c[j]? = some u → w.cell? (ad.add (i.toNat * 1 + j)) = some u := hc0
 obtain ⟨A0, c0, rfl, l0, g0⟩ := hK
 exact ⟨ad, A0, c0, e, by have hq := hc 0 _ rfl; rwa [Nat.mul_one, Nat.add_zero] at hq, l0, g0⟩

end Go.Proofs.Ytjkmaobfpgfdnaa.PMatrixInverses
end
