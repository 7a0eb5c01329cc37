/- An act that came in, laid open. -/
import Derived.Test.YthgmhjgbjodhjaaDoorPlays
import Derived.Test.YthgmhjgbjodhjaaDoorOpn
namespace Go.Proofs.YthgmhjgbjodhjaaDoor.OpnA
open Go.Proofs.YthgmhjgbjodhjaaDoor Go.RowKit Go.Proofs.YthgmhjgbjodhjaaDoorW.PrintWords Go.Proofs.YthgmhjgbjodhjaaDoorW.PrintLast Go.Proofs.YthgmhjgbjodhjaaDoorW.PrintMore Go.Proofs.YthgmhjgbjodhjaaDoor.Plays
set_option linter.unusedVariables false
theorem wf8 {x : Int} (h : (Lit.int .u8 x).wf = true) : 0 ≤ x ∧ x ≤ 255 := by
  simp only [Lit.wf, Bool.and_eq_true, decide_eq_true_eq] at h
  have hmin : IntKind.u8.min = 0 := rfl
  have hmax : IntKind.u8.max = 255 := rfl
  omega
theorem opnA : Opn.Opn Tryd.prog kA.K 31 (fun x => (∀ y ∈ x.2, 0 ≤ y ∧ y ≤ 255) ∧ x.2.length ≤ 140737488351232) := by
  intro H enc w sp held fuel cs x h hw
  obtain ⟨hl, hF⟩ := Opn.fields Tryd.underlying31 h hw
  rw [show Tryd.prog.cellsOf 31 = 2 by kernel_rfl] at hl
  obtain ⟨x0, K0, w0⟩ := hF 0 _ _ _ rfl (Opn.of_int (k := .i64) Tryd.underlying3)
  obtain ⟨x1, K1, w1⟩ := hF 1 _ _ _ rfl (Opn.of_slice (P := Tryd.prog) (B := 1) Tryd.underlying22 (by kernel_rfl) (by kernel_rfl) (Opn.of_int (k := .u8) Tryd.underlying5))
  obtain ⟨a, b, rfl⟩ : ∃ a b, cs = [a, b] := by
    match cs, hl with
    | [a, b], _ => exact ⟨a, b, rfl⟩
  have e0 : [a] = [.int .i64 x0] := K0
  simp only [List.cons.injEq, and_true] at e0
  subst e0
  exact ⟨(x0, x1), ⟨[.int .i64 x0], [b], rfl, rfl, K1⟩, fun y hy => wf8 (w1.2.2 y hy), show x1.length ≤ 140737488351232 by have := w1.1; omega⟩
end Go.Proofs.YthgmhjgbjodhjaaDoor.OpnA
