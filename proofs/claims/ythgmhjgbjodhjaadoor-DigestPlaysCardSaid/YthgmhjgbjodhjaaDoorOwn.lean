/- Rows of bytes that a call owns: made of a few numbers, gone on with by bytes that are read, or by noughts. -/
import Derived.Test.YthgmhjgbjodhjaaDoorSha3
namespace Go.Proofs.YthgmhjgbjodhjaaDoor.Own
open Go.Proofs.YthgmhjgbjodhjaaDoor Go.RowKit Go.Proofs.YthgmhjgbjodhjaaDoorW.PrintWords Go.Proofs.YthgmhjgbjodhjaaDoorW.PrintLast Go.Proofs.YthgmhjgbjodhjaaDoorW.PrintMore Go.Proofs.YthgmhjgbjodhjaaDoor.Sha Go.Proofs.YthgmhjgbjodhjaaDoor.Sha3
set_option linter.unusedVariables false

/-- The slice v holds just these bytes, in a block from base on. -/
def OWN (w : World) (base : Nat) (v : Value) (l : List Int) : Prop := Kd.R (Kd.int .u8) 5 w base (fun _ => True) v l

theorem OWN.none (w : World) (base : Nat) : OWN w base (.slice none 0 0) [] := Kd.R_nil _ _ _ _ _
theorem OWN.form {w : World} {base : Nat} {v : Value} {l : List Int} (h : OWN w base v l) : ∃ A c, v = .slice A l.length c ∧ l.length ≤ c ∧ RC w A l ∧ (∀ a, A = some a → base ≤ a.block ∧ a.block < w.heap.size) := by
  obtain ⟨A, c, rfl⟩ := Kd.R_slice h
  have hr := Kd.R_reads' h
  exact ⟨A, c, rfl, hr.2.1, RC.of_C hr.2.2, fun a e => ⟨Kd.R_base h a.block (by rw [e]; rfl), Kd.R_lt h a.block (by rw [e]; rfl)⟩⟩
theorem OWN.alloc {w : World} {base : Nat} {v : Value} {l : List Int} (h : OWN w base v l) (o : Obj) : OWN (w.alloc o) base v l := Kd.R_alloc h o
theorem OWN.drew {w : World} {base : Nat} {v : Value} {l : List Int} (h : OWN w base v l) : OWN w.drew base v l := Kd.R_drew h
theorem OWN.below {w w' : World} {base : Nat} {v : Value} {l : List Int} (h : OWN w base v l) (hb : Below w.heap.size w w') : OWN w' base v l := Kd.R_below h hb

theorem bytes_new (W : World) (e : TypeId) (l : List Int) (fz : Nat × Nat) : RC (W.alloc (.cells (nums .u8 l).toArray e fz)) (some ⟨W.heap.size, 0, none⟩) l := by
  refine RC.row (g := W.heap.size) (t := e) (fr := fz) (rest := #[]) ?_
  rw [Array.append_empty]; exact blk_new _ _

theorem own_append {ops : Array Oper} {rs : List Oper} {o : Oper} {a : Act} {w0 w : World} {Q : Exit → Act → World → Prop} (hgd : o.guard = none) (s x : Operand)
    (ho : o.op = .call { callee := .builtin .append, args := #[s, x], argTypes := #[TB, TB] }) (base : Nat) (v : Value) (l m : List Int) (A : Option Addr) (c : Nat) (hs : a.eval s = v) (hx : a.eval x = .slice A m.length c)
    (HO : OWN w base v l) (HR : RC w A m) (HB : Below base w0 w) (hbase : base ≤ w.heap.size) (hl : l.length + m.length ≤ 100000000)
    (h : ∀ v1 w1, OWN w1 base v1 (l ++ m) → Below base w0 w1 → w.grownBy w1 v.ownBlock → wpList Tryd.prog ops Q rs (a.put o.dst v1) w1) : wpList Tryd.prog ops Q (o :: rs) a w := by
  refine Kd.R_append_rows (Kd.int .u8) (w0 := w0) base hgd s x TB 5 (.int .u8 0) 1 ho Tryd.underlying22 info5 rfl (by decide) (by omega) v l m A m.length c (fun _ => True) (fun _ => False) hs hx HO (HR.to_C (by omega)) (fun _ _ h => h) (fun _ h => h.elim) (fun _ _ => trivial) HB hbase (by omega) ?_
  intro v1 w1 h1 h2 h3 _
  exact h v1 w1 h1 h2 h3

theorem own_append_step {ops : Array Oper} {o : Oper} {a : Act} {w0 w : World} {K : Act → World → Prop} {Q : Exit → Act → World → Prop} (hw : Region.wanted o (yielded ops a.tmps) = true) (s x : Operand)
    (ho : o.op = .call { callee := .builtin .append, args := #[s, x], argTypes := #[TB, TB] }) (base : Nat) (v : Value) (l m : List Int) (A : Option Addr) (c : Nat) (hs : a.eval s = v) (hx : a.eval x = .slice A m.length c)
    (HO : OWN w base v l) (HR : RC w A m) (HB : Below base w0 w) (hbase : base ≤ w.heap.size) (hl : l.length + m.length ≤ 100000000)
    (h : ∀ v1 w1, OWN w1 base v1 (l ++ m) → Below base w0 w1 → w.grownBy w1 v.ownBlock → K (a.put o.dst v1) w1) :
    if Region.wanted o (yielded ops a.tmps) = true then Oper.wp Tryd.prog o a w K Q else K (a.put o.dst undef) w := by
  refine Kd.R_append_rows_step (Kd.int .u8) (w0 := w0) base hw s x TB 5 (.int .u8 0) 1 ho Tryd.underlying22 info5 rfl (by decide) (by omega) v l m A m.length c (fun _ => True) (fun _ => False) hs hx HO (HR.to_C (by omega)) (fun _ _ h => h) (fun _ h => h.elim) (fun _ _ => trivial) HB hbase (by omega) ?_
  intro v1 w1 h1 h2 h3 _
  exact h v1 w1 h1 h2 h3

theorem own_zeros {ops : Array Oper} {rs : List Oper} {o : Oper} {a : Act} {w0 w : World} {Q : Exit → Act → World → Prop} (hgd : o.guard = none) (s x : Operand)
    (ho : o.op = .call { callee := .builtin .append, args := #[s, x], argTypes := #[TB, 3] }) (base : Nat) (v : Value) (l : List Int) (n : Nat) (hs : a.eval s = v) (hx : a.eval x = .int .i64 (n : Int))
    (HO : OWN w base v l) (HB : Below base w0 w) (hbase : base ≤ w.heap.size) (hl : l.length + n ≤ 100000000)
    (h : ∀ v1 w1, OWN w1 base v1 (l ++ List.replicate n 0) → Below base w0 w1 → w.grownBy w1 v.ownBlock → wpList Tryd.prog ops Q rs (a.put o.dst v1) w1) : wpList Tryd.prog ops Q (o :: rs) a w := by
  refine Kd.R_append_zeros (Kd.int .u8) (w0 := w0) base hgd s x TB 3 5 (.int .u8 0) 1 ho Tryd.underlying22 (k := .i64) Tryd.underlying3 info5 rfl (by decide) (by omega) v l 0 (n : Int) (fun _ => True) hs hx rfl (fun _ _ => trivial) HO (by omega) HB hbase (by rw [Int.toNat_natCast]; omega) ?_
  intro v1 w1 h1 h2 h3 _
  rw [Int.toNat_natCast] at h1
  exact h v1 w1 h1 h2 h3

theorem own_lit {ops : Array Oper} {rs : List Oper} {o : Oper} {a : Act} {w0 w : World} {Q : Exit → Act → World → Prop} (base : Nat) (hgd : o.guard = none) {N : Tmp} (hd : o.dst = some N) (l : List Int)
    (hrun : (execOp a.eval o).run Tryd.prog w = .ok (.value (.slice (some ⟨w.heap.size, 0, none⟩) l.length l.length)) (w.alloc (.cells (nums .u8 l).toArray 5)))
    (HB : Below base w0 w) (hbase : base ≤ w.heap.size) (hm : l.length ≤ 9223372036854775807)
    (h : ∀ v1 w1, OWN w1 base v1 l → Below base w0 w1 → w.grownBy w1 none → wpList Tryd.prog ops Q rs (a.put o.dst v1) w1) : wpList Tryd.prog ops Q (o :: rs) a w := by
  refine Kd.R_lit (Kd.int .u8) (w0 := w0) base 5 hgd hd (xs := l) (inner := nums .u8 l) (ok := fun _ => True) (okp := fun _ => True) hrun ?_ (fun _ h => h) trivial HB hbase hm ?_
  · refine ⟨by show (nums .u8 l).length = l.length * 1; simp [nums], fun j x hx => ?_⟩
    obtain ⟨hj, rfl⟩ := List.getElem?_eq_some_iff.mp hx
    show ((nums .u8 l).drop (j * 1)).take 1 = [.int .u8 l[j]]
    rw [Nat.mul_one, List.drop_eq_getElem_cons (by simpa [nums] using hj)]
    simp [nums]
  · intro v1 w1 h1 h2 h3 _
    exact h v1 w1 h1 h2 h3
end Go.Proofs.YthgmhjgbjodhjaaDoor.Own
