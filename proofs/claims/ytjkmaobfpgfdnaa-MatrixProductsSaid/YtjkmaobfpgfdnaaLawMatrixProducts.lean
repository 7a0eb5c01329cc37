/- MatrixProducts holds, whatever comes in. No condition of ours. -/
import Derived.Test.YtjkmaobfpgfdnaaQMatrixProducts4
import Derived.Test.YtjkmaobfpgfdnaaRows
import Derived.WalkKit
import Derived.ProofKit
import Derived.OpenShut
import Derived.ShutString
import Derived.ChangeOld
import Derived.Below
import Derived.SizedLaws
import Derived.LaidMore
namespace Go.Proofs.Ytjkmaobfpgfdnaa.matrixProducts
open Go.ChangeShapes Go.WideShapes Go.ChangeAt Go.RowKit Go.Proofs.Ytjkmaobfpgfdnaa Go.Proofs.YtjkmaobfpgfdnaaW.PrintWords
set_option linter.unusedVariables false
theorem own : ownKnob Try.prog.godebug = none := by kernel_rfl
theorem laidOut : laidOutB Try.prog = true := by kernel_rfl
theorem cell_cons {cs : List Value} {o s : Nat} {b : List Value} (h : (cs.drop o).take s = b) : cs.drop o = b ++ cs.drop (o + s) := by rw [← h]; exact (Opn.split_at cs o s).symm
set_option maxRecDepth 100000 in
set_option maxHeartbeats 4000000 in
theorem lifted (os : Os) (started : os.Started) (H : Type) (enc : TypeId × Value → H) :
    ReturnsInHanded {} Try.checked os 4 .any (Rows.matrixProductsSpec.pre6 enc Try.prog Try.f4 Rows.matrixProductsRow.domain false) (Rows.matrixProductsSpec.post enc Try.prog Try.f4 false true false false) := by
  refine returnsInHanded_of_change_sized (C := Try.checked) own started (by kernel_rfl) Try.func4
    (ChangeSpec.witness6 (enc := enc) (C := Try.checked) false ⟨#[], #[.slice none 0 0, .slice none 0 0, .int .i64 0], []⟩ 8 (by kernel_rfl) (by kernel_rfl) (by kernel_rfl) (by kernel_rfl)) ?_
  intro W base args ds gs before hval0 hW hcnd hsz0 _
  have hval : ∀ (j : Nat) t v, Try.f4.params[j]? = some t → args[j]? = some v → Value.okWide Try.prog W .any base t v := hval0
  have hW' := hW
  obtain ⟨p, q, hA0, hV, rfl, hfz, hnd⟩ := hW
  have hA : DataW.TrodAll enc Try.prog W 0 (fun _ => true) true Try.f4.params.toList args.toList ds p := hA0
  rw [Try.params4] at hA hval
  have hsz := hsz0
  rw [Try.params4] at hsz
  obtain ⟨v0, vs0, d0, ds0, p0, q0, hargs, rfl, rfl, h0, r0⟩ := trodAll_cons hA
  obtain ⟨v1, vs1, d1, ds1, p1, q1, rfl, rfl, rfl, h1, r1⟩ := trodAll_cons r0
  obtain ⟨v2, vs2, d2, ds2, p2, q2, rfl, rfl, rfl, h2, r2⟩ := trodAll_cons r1
  obtain ⟨rfl, rfl, rfl⟩ := trodAll_nil r2
  obtain rfl : args = #[v0, v1, v2] := by cases args; simp_all
  obtain ⟨rfl, rfl⟩ := trodVars_none hV
  have k0 := h0
  have lt0 : ∀ x ∈ p0, x.block < W.heap.size := by obtain ⟨m, hm⟩ := k0; exact DataW.trod_lt m _ _ _ hm
  obtain ⟨a0, len0, cap0, rfl⟩ := okWide_slice Try.underlying22 (hval 0 22 v0 rfl rfl)
  obtain ⟨fuel0, hf0⟩ := h0
  obtain ⟨x0, K0, w0⟩ := (Opn.of_slice (P := Try.prog) (B := 24) Try.underlying22 (by kernel_rfl) (by kernel_rfl) (Opn.of_slice (P := Try.prog) (B := 1) Try.underlying38 (by kernel_rfl) (by kernel_rfl) (Opn.of_int (P := Try.prog) Try.underlying5))) H enc W _ _ _ _ _ hf0 (Opn.sized_at hsz 0 rfl rfl)
  obtain ⟨A0, c0, e0, m0, C0⟩ := K0
  simp only [Value.cells, List.cons.injEq, and_true, Value.slice.injEq] at e0
  obtain ⟨rfl, rfl, rfl⟩ := e0
  have k1 := h1
  have lt1 : ∀ x ∈ p1, x.block < W.heap.size := by obtain ⟨m, hm⟩ := k1; exact DataW.trod_lt m _ _ _ hm
  obtain ⟨a1, len1, cap1, rfl⟩ := okWide_slice Try.underlying22 (hval 1 22 v1 rfl rfl)
  obtain ⟨fuel1, hf1⟩ := h1
  obtain ⟨x1, K1, w1⟩ := (Opn.of_slice (P := Try.prog) (B := 24) Try.underlying22 (by kernel_rfl) (by kernel_rfl) (Opn.of_slice (P := Try.prog) (B := 1) Try.underlying38 (by kernel_rfl) (by kernel_rfl) (Opn.of_int (P := Try.prog) Try.underlying5))) H enc W _ _ _ _ _ hf1 (Opn.sized_at hsz 1 rfl rfl)
  obtain ⟨A1, c1, e1, m1, C1⟩ := K1
  simp only [Value.cells, List.cons.injEq, and_true, Value.slice.injEq] at e1
  obtain ⟨rfl, rfl, rfl⟩ := e1
  have k2 := h2
  have lt2 : ∀ x ∈ p2, x.block < W.heap.size := by obtain ⟨m, hm⟩ := k2; exact DataW.trod_lt m _ _ _ hm
  obtain ⟨n2, rfl⟩ := okWide_int Try.underlying3 (hval 2 3 v2 rfl rfl)
  obtain ⟨fuel2, hf2⟩ := h2
  obtain ⟨x2, K2, w2⟩ := (Opn.of_int (P := Try.prog) Try.underlying3) H enc W _ _ _ _ _ hf2 (Opn.sized_at hsz 2 rfl rfl)
  have e2 : [(.int .i64 n2 : Value)] = [.int .i64 x2] := K2
  simp only [List.cons.injEq, and_true, Value.int.injEq, true_and] at e2
  subst e2
  clear hA0 hval0 hsz0 hsz hval hf0 hf1 hf2 
  refine (WalkMatrixProducts.walk _ _ _ _ _ _ x0 x1 n2 W rfl rfl C0 m0 C1 m1 (fun r hr x hx => GfPure.wf8 ((w0.2.2 r hr).2.2 x hx)) (fun r hr x hx => GfPure.wf8 ((w1.2.2 r hr).2.2 x hx)) (by have := w0.1; omega) (by have := w1.1; omega) (WalkMatrixProducts.rows_len (fun r hr => (w0.2.2 r hr).1)) (WalkMatrixProducts.rows_len (fun r hr => (w1.2.2 r hr).1))).mono fun e W' ⟨he, bel⟩ => ?_
  subst he
  exact ⟨_, rfl, _, _, _, [], _, [], hW', trodAll_mk1 (shut_bool Try.underlying4 _), (trodAll_cons_mk (Below.trod laidOut (by kernel_rfl) (of_decide_eq_true (by kernel_rfl)) k0 bel lt0) (trodAll_cons_mk (Below.trod laidOut (by kernel_rfl) (of_decide_eq_true (by kernel_rfl)) k1 bel lt1) (trodAll_cons_mk (Below.trod laidOut (by kernel_rfl) (of_decide_eq_true (by kernel_rfl)) k2 bel lt2) trodAll_mk0))), rfl, bel.frame _, fun h => by cases h⟩
theorem over : Rows.matrixProductsRow.holds Try.pinned (OpenSpec.ofChange Rows.matrixProductsSpec) :=
  OpenClaim.holds_of_wide 4 Try.f4 rfl rfl rfl rfl rfl rfl rfl ⟨rfl, rfl, rfl, rfl, rfl⟩ rfl rfl rfl rfl rfl (by kernel_rfl) Try.func4 (by kernel_rfl)
    (of_decide_eq_true (by kernel_rfl)) (by unfold Func.isWrapper; first | (rw [if_pos (by decide +kernel)]; kernel_rfl) | (rw [if_neg (by decide +kernel)]; exact ⟨rfl, rfl⟩))
    (fun os started H enc _ => lifted os started H enc)
theorem proved : Rows.MatrixProductsSaid := over
end Go.Proofs.Ytjkmaobfpgfdnaa.matrixProducts
namespace Go.Proofs.Ytjkmaobfpgfdnaa
/-- The row, under a short name, for the claim. -/
theorem matrixProducts_holds : Rows.MatrixProductsSaid := matrixProducts.proved
#print axioms matrixProducts_holds
end Go.Proofs.Ytjkmaobfpgfdnaa
