/- HeadGets holds, whatever comes in. No condition of ours. -/
import Derived.Test.YtdmpbfhbjklajaaQHeadGets10
import Derived.Test.YtdmpbfhbjklajaaRows
import Derived.WalkKit
import Derived.ProofKit
import Derived.OpenShut
import Derived.ShutString
import Derived.ChangeOld
import Derived.Below
import Derived.SizedLaws
import Derived.LaidMore
namespace Go.Proofs.Ytdmpbfhbjklajaa.headGets
open Go.ChangeShapes Go.WideShapes Go.ChangeAt Go.RowKit Go.Proofs.Ytdmpbfhbjklajaa Go.Proofs.YtdmpbfhbjklajaaW.PrintWords
set_option linter.unusedVariables false
theorem own : ownKnob Try.prog.godebug = none := by kernel_rfl
theorem laidOut : laidOutB Try.prog = true := by kernel_rfl
theorem cell_cons {cs : List Value} {o s : Nat} {b : List Value} (h : (cs.drop o).take s = b) : cs.drop o = b ++ cs.drop (o + s) := by rw [← h]; exact (Opn.split_at cs o s).symm
set_option maxRecDepth 100000 in
set_option maxHeartbeats 4000000 in
theorem lifted (os : Os) (started : os.Started) (H : Type) (enc : TypeId × Value → H) :
    ReturnsInHanded {} Try.checked os 5 .any (Rows.headGetsSpec.pre6 enc Try.prog Try.f5 Rows.headGetsRow.domain false) (Rows.headGetsSpec.post enc Try.prog Try.f5 false true false false) := by
  refine returnsInHanded_of_change_sized (C := Try.checked) own started (by kernel_rfl) Try.func5
    (ChangeSpec.witness6 (enc := enc) (C := Try.checked) false ⟨#[], #[.slice none 0 0, .agg #[.string ⟨#[]⟩, .string ⟨#[]⟩, .int .i64 0, .int .i64 0, .int .i64 0, .int .u8 0, .string ⟨#[]⟩], .slice none 0 0, .bool false], []⟩ 8 (by kernel_rfl) (by kernel_rfl) (by kernel_rfl) (by kernel_rfl)) ?_
  intro W base args ds gs before hval0 hW hcnd hsz0 _
  have hval : ∀ (j : Nat) t v, Try.f5.params[j]? = some t → args[j]? = some v → Value.okWide Try.prog W .any base t v := hval0
  have hW' := hW
  obtain ⟨p, q, hA0, hV, rfl, hfz, hnd⟩ := hW
  have hA : DataW.TrodAll enc Try.prog W 0 (fun _ => true) true Try.f5.params.toList args.toList ds p := hA0
  rw [Try.params5] at hA hval
  have hsz := hsz0
  rw [Try.params5] at hsz
  obtain ⟨v0, vs0, d0, ds0, p0, q0, hargs, rfl, rfl, h0, r0⟩ := trodAll_cons hA
  obtain ⟨v1, vs1, d1, ds1, p1, q1, rfl, rfl, rfl, h1, r1⟩ := trodAll_cons r0
  obtain ⟨v2, vs2, d2, ds2, p2, q2, rfl, rfl, rfl, h2, r2⟩ := trodAll_cons r1
  obtain ⟨v3, vs3, d3, ds3, p3, q3, rfl, rfl, rfl, h3, r3⟩ := trodAll_cons r2
  obtain ⟨rfl, rfl, rfl⟩ := trodAll_nil r3
  obtain rfl : args = #[v0, v1, v2, v3] := by cases args; simp_all
  obtain ⟨rfl, rfl⟩ := trodVars_none hV
  have k0 := h0
  have lt0 : ∀ x ∈ p0, x.block < W.heap.size := by obtain ⟨m, hm⟩ := k0; exact DataW.trod_lt m _ _ _ hm
  obtain ⟨a0, len0, cap0, rfl⟩ := okWide_slice Try.underlying22 (hval 0 22 v0 rfl rfl)
  obtain ⟨fuel0, hf0⟩ := h0
  obtain ⟨x0, K0, w0⟩ := (Opn.of_slice (P := Try.prog) (B := 1) Try.underlying22 (by kernel_rfl) (by kernel_rfl) (Opn.of_int (P := Try.prog) Try.underlying5)) H enc W _ _ _ _ _ hf0 (Opn.sized_at hsz 0 rfl rfl)
  obtain ⟨A0, c0, e0, m0, C0⟩ := K0
  simp only [Value.cells, List.cons.injEq, and_true, Value.slice.injEq] at e0
  obtain ⟨rfl, rfl, rfl⟩ := e0
  have k1 := h1
  have lt1 : ∀ x ∈ p1, x.block < W.heap.size := by obtain ⟨m, hm⟩ := k1; exact DataW.trod_lt m _ _ _ hm
  obtain ⟨cs1, rfl, hcs1⟩ := okWide_struct Try.underlying24 (hval 1 24 v1 rfl rfl)
  obtain ⟨fuel1, hf1⟩ := h1
  obtain ⟨hl1, hF1⟩ := Opn.fields Try.underlying24 hf1 (Opn.sized_at hsz 1 rfl rfl)
  rw [show Try.prog.cellsOf 24 = 7 by kernel_rfl] at hl1
  obtain ⟨x1_0, K1_0, w1_0⟩ := hF1 0 _ _ _ rfl (Opn.of_string (P := Try.prog) Try.underlying9)
  replace K1_0 : Kd.string.K W x1_0 ((cs1.toList.drop 0).take (Try.prog.cellsOf 9)) := K1_0
  rw [show Try.prog.cellsOf 9 = 1 by kernel_rfl] at K1_0
  have g1_0 : (cs1.toList.drop 0).take 1 = [.string x1_0] := K1_0
  obtain ⟨x1_1, K1_1, w1_1⟩ := hF1 1 _ _ _ rfl (Opn.of_string (P := Try.prog) Try.underlying9)
  replace K1_1 : Kd.string.K W x1_1 ((cs1.toList.drop 1).take (Try.prog.cellsOf 9)) := K1_1
  rw [show Try.prog.cellsOf 9 = 1 by kernel_rfl] at K1_1
  have g1_1 : (cs1.toList.drop 1).take 1 = [.string x1_1] := K1_1
  obtain ⟨x1_2, K1_2, w1_2⟩ := hF1 2 _ _ _ rfl (Opn.of_int (P := Try.prog) Try.underlying3)
  replace K1_2 : (Kd.int .i64).K W x1_2 ((cs1.toList.drop 2).take (Try.prog.cellsOf 3)) := K1_2
  rw [show Try.prog.cellsOf 3 = 1 by kernel_rfl] at K1_2
  have g1_2 : (cs1.toList.drop 2).take 1 = [.int .i64 x1_2] := K1_2
  obtain ⟨x1_3, K1_3, w1_3⟩ := hF1 3 _ _ _ rfl (Opn.of_int (P := Try.prog) Try.underlying3)
  replace K1_3 : (Kd.int .i64).K W x1_3 ((cs1.toList.drop 3).take (Try.prog.cellsOf 3)) := K1_3
  rw [show Try.prog.cellsOf 3 = 1 by kernel_rfl] at K1_3
  have g1_3 : (cs1.toList.drop 3).take 1 = [.int .i64 x1_3] := K1_3
  obtain ⟨x1_4, K1_4, w1_4⟩ := hF1 4 _ _ _ rfl (Opn.of_int (P := Try.prog) Try.underlying3)
  replace K1_4 : (Kd.int .i64).K W x1_4 ((cs1.toList.drop 4).take (Try.prog.cellsOf 3)) := K1_4
  rw [show Try.prog.cellsOf 3 = 1 by kernel_rfl] at K1_4
  have g1_4 : (cs1.toList.drop 4).take 1 = [.int .i64 x1_4] := K1_4
  obtain ⟨x1_5, K1_5, w1_5⟩ := hF1 5 _ _ _ rfl (Opn.of_int (P := Try.prog) Try.underlying5)
  replace K1_5 : (Kd.int .u8).K W x1_5 ((cs1.toList.drop 5).take (Try.prog.cellsOf 5)) := K1_5
  rw [show Try.prog.cellsOf 5 = 1 by kernel_rfl] at K1_5
  have g1_5 : (cs1.toList.drop 5).take 1 = [.int .u8 x1_5] := K1_5
  obtain ⟨x1_6, K1_6, w1_6⟩ := hF1 6 _ _ _ rfl (Opn.of_string (P := Try.prog) Try.underlying9)
  replace K1_6 : Kd.string.K W x1_6 ((cs1.toList.drop 6).take (Try.prog.cellsOf 9)) := K1_6
  rw [show Try.prog.cellsOf 9 = 1 by kernel_rfl] at K1_6
  have g1_6 : (cs1.toList.drop 6).take 1 = [.string x1_6] := K1_6
  have e1 : cs1.toList = [.string x1_0] ++ ([.string x1_1] ++ ([.int .i64 x1_2] ++ ([.int .i64 x1_3] ++ ([.int .i64 x1_4] ++ ([.int .u8 x1_5] ++ ([.string x1_6] ++ [])))))) := by
    have h0 : cs1.toList = cs1.toList.drop 0 := rfl
    rw [h0, cell_cons g1_0, cell_cons g1_1, cell_cons g1_2, cell_cons g1_3, cell_cons g1_4, cell_cons g1_5, cell_cons g1_6, List.drop_eq_nil_of_le (by rw [show cs1.toList.length = 7 from hl1]; decide)]
  have ea1 : cs1 = #[.string x1_0, .string x1_1, .int .i64 x1_2, .int .i64 x1_3, .int .i64 x1_4, .int .u8 x1_5, .string x1_6] := Array.toList_inj.1 (by rw [e1]; rfl)
  subst ea1
  have k2 := h2
  have lt2 : ∀ x ∈ p2, x.block < W.heap.size := by obtain ⟨m, hm⟩ := k2; exact DataW.trod_lt m _ _ _ hm
  obtain ⟨a2, len2, cap2, rfl⟩ := okWide_slice Try.underlying25 (hval 2 25 v2 rfl rfl)
  obtain ⟨fuel2, hf2⟩ := h2
  obtain ⟨x2, K2, w2⟩ := (Opn.of_slice (P := Try.prog) (B := 16) Try.underlying25 (by kernel_rfl) (by kernel_rfl) Turned.opn57) H enc W _ _ _ _ _ hf2 (Opn.sized_at hsz 2 rfl rfl)
  obtain ⟨A2, c2, e2, m2, C2⟩ := K2
  simp only [Value.cells, List.cons.injEq, and_true, Value.slice.injEq] at e2
  obtain ⟨rfl, rfl, rfl⟩ := e2
  have k3 := h3
  have lt3 : ∀ x ∈ p3, x.block < W.heap.size := by obtain ⟨m, hm⟩ := k3; exact DataW.trod_lt m _ _ _ hm
  obtain ⟨n3, rfl⟩ := okWide_bool Try.underlying4 (hval 3 4 v3 rfl rfl)
  obtain ⟨fuel3, hf3⟩ := h3
  obtain ⟨x3, K3, w3⟩ := (Opn.of_bool (P := Try.prog) Try.underlying4) H enc W _ _ _ _ _ hf3 (Opn.sized_at hsz 3 rfl rfl)
  have e3 : [(.bool n3 : Value)] = [.bool x3] := K3
  simp only [List.cons.injEq, and_true, Value.bool.injEq] at e3
  subst e3
  clear hA0 hval0 hsz0 hsz hval hf0 hf1 hf2 hf3 hF1
  refine (WalkHeadGets.walk _ _ x0 x1_0 x1_1 x1_2 x1_3 x1_4 x1_5 x1_6 _ _ x2 n3 W C0 m0 (by have := w0.1; omega) w0.2.2 w1_5 C2 m2 (by have := w2.1; omega) w2.2.2).mono fun e W' ⟨he, bel⟩ => ?_
  subst he
  exact ⟨_, rfl, _, _, _, [], _, [], hW', trodAll_mk1 (shut_bool Try.underlying4 _), (trodAll_cons_mk (Below.trod laidOut (by kernel_rfl) (of_decide_eq_true (by kernel_rfl)) k0 bel lt0) (trodAll_cons_mk (Below.trod laidOut (by kernel_rfl) (of_decide_eq_true (by kernel_rfl)) k1 bel lt1) (trodAll_cons_mk (Below.trod laidOut (by kernel_rfl) (of_decide_eq_true (by kernel_rfl)) k2 bel lt2) (trodAll_cons_mk (Below.trod laidOut (by kernel_rfl) (of_decide_eq_true (by kernel_rfl)) k3 bel lt3) trodAll_mk0)))), rfl, bel.frame _, fun h => by cases h⟩
theorem over : Rows.headGetsRow.holds Try.pinned (OpenSpec.ofChange Rows.headGetsSpec) :=
  OpenClaim.holds_of_wide 5 Try.f5 rfl rfl rfl rfl rfl rfl rfl ⟨rfl, rfl, rfl, rfl, rfl⟩ rfl rfl rfl rfl rfl (by kernel_rfl) Try.func5 (by kernel_rfl)
    (of_decide_eq_true (by kernel_rfl)) (by unfold Func.isWrapper; first | (rw [if_pos (by decide +kernel)]; kernel_rfl) | (rw [if_neg (by decide +kernel)]; exact ⟨rfl, rfl⟩))
    (fun os started H enc _ => lifted os started H enc)
theorem proved : Rows.HeadGetsSaid := over
end Go.Proofs.Ytdmpbfhbjklajaa.headGets
namespace Go.Proofs.Ytdmpbfhbjklajaa
/-- The row, under a short name, for the claim. -/
theorem headGets_holds : Rows.HeadGetsSaid := headGets.proved
#print axioms headGets_holds
end Go.Proofs.Ytdmpbfhbjklajaa
