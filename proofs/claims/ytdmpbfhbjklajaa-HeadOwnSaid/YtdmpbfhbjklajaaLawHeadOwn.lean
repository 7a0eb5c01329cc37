/- HeadOwn holds, whatever comes in. No condition of ours. -/
import Derived.Test.YtdmpbfhbjklajaaQHeadOwn1
import Derived.Test.YtdmpbfhbjklajaaRows
import Derived.WalkKit
import Derived.ProofKit
import Derived.OpenShut
import Derived.ShutString
import Derived.ChangeOld
import Derived.Below
import Derived.SizedLaws
import Derived.LaidMore
namespace Go.Proofs.Ytdmpbfhbjklajaa.headOwn
open Go.ChangeShapes Go.WideShapes Go.ChangeAt Go.RowKit Go.Proofs.Ytdmpbfhbjklajaa Go.Proofs.YtdmpbfhbjklajaaW.PrintWords
set_option linter.unusedVariables false
theorem own : ownKnob Try.prog.godebug = none := by kernel_rfl
theorem laidOut : laidOutB Try.prog = true := by kernel_rfl
theorem cell_cons {cs : List Value} {o s : Nat} {b : List Value} (h : (cs.drop o).take s = b) : cs.drop o = b ++ cs.drop (o + s) := by rw [← h]; exact (Opn.split_at cs o s).symm
set_option maxRecDepth 100000 in
set_option maxHeartbeats 4000000 in
theorem lifted (os : Os) (started : os.Started) (H : Type) (enc : TypeId × Value → H) :
    ReturnsInHanded {} Try.checked os 9 .any (Rows.headOwnSpec.pre6 enc Try.prog Try.f9 Rows.headOwnRow.domain false) (Rows.headOwnSpec.post enc Try.prog Try.f9 false true false false) := by
  refine returnsInHanded_of_change_sized (C := Try.checked) own started (by kernel_rfl) Try.func9
    (ChangeSpec.witness6 (enc := enc) (C := Try.checked) false ⟨#[], #[.agg #[.string ⟨#[]⟩, .string ⟨#[]⟩, .int .i64 0, .int .i64 0, .int .i64 0, .int .u8 0, .string ⟨#[]⟩], .int .u8 0], []⟩ 8 (by kernel_rfl) (by kernel_rfl) (by kernel_rfl) (by kernel_rfl)) ?_
  intro W base args ds gs before hval0 hW hcnd hsz0 _
  have hval : ∀ (j : Nat) t v, Try.f9.params[j]? = some t → args[j]? = some v → Value.okWide Try.prog W .any base t v := hval0
  have hW' := hW
  obtain ⟨p, q, hA0, hV, rfl, hfz, hnd⟩ := hW
  have hA : DataW.TrodAll enc Try.prog W 0 (fun _ => true) true Try.f9.params.toList args.toList ds p := hA0
  rw [Try.params9] at hA hval
  have hsz := hsz0
  rw [Try.params9] at hsz
  obtain ⟨v0, vs0, d0, ds0, p0, q0, hargs, rfl, rfl, h0, r0⟩ := trodAll_cons hA
  obtain ⟨v1, vs1, d1, ds1, p1, q1, rfl, rfl, rfl, h1, r1⟩ := trodAll_cons r0
  obtain ⟨rfl, rfl, rfl⟩ := trodAll_nil r1
  obtain rfl : args = #[v0, v1] := by cases args; simp_all
  obtain ⟨rfl, rfl⟩ := trodVars_none hV
  have k0 := h0
  have lt0 : ∀ x ∈ p0, x.block < W.heap.size := by obtain ⟨m, hm⟩ := k0; exact DataW.trod_lt m _ _ _ hm
  obtain ⟨cs0, rfl, hcs0⟩ := okWide_struct Try.underlying24 (hval 0 24 v0 rfl rfl)
  obtain ⟨fuel0, hf0⟩ := h0
  obtain ⟨hl0, hF0⟩ := Opn.fields Try.underlying24 hf0 (Opn.sized_at hsz 0 rfl rfl)
  rw [show Try.prog.cellsOf 24 = 7 by kernel_rfl] at hl0
  obtain ⟨x0_0, K0_0, w0_0⟩ := hF0 0 _ _ _ rfl (Opn.of_string (P := Try.prog) Try.underlying9)
  replace K0_0 : Kd.string.K W x0_0 ((cs0.toList.drop 0).take (Try.prog.cellsOf 9)) := K0_0
  rw [show Try.prog.cellsOf 9 = 1 by kernel_rfl] at K0_0
  have g0_0 : (cs0.toList.drop 0).take 1 = [.string x0_0] := K0_0
  obtain ⟨x0_1, K0_1, w0_1⟩ := hF0 1 _ _ _ rfl (Opn.of_string (P := Try.prog) Try.underlying9)
  replace K0_1 : Kd.string.K W x0_1 ((cs0.toList.drop 1).take (Try.prog.cellsOf 9)) := K0_1
  rw [show Try.prog.cellsOf 9 = 1 by kernel_rfl] at K0_1
  have g0_1 : (cs0.toList.drop 1).take 1 = [.string x0_1] := K0_1
  obtain ⟨x0_2, K0_2, w0_2⟩ := hF0 2 _ _ _ rfl (Opn.of_int (P := Try.prog) Try.underlying3)
  replace K0_2 : (Kd.int .i64).K W x0_2 ((cs0.toList.drop 2).take (Try.prog.cellsOf 3)) := K0_2
  rw [show Try.prog.cellsOf 3 = 1 by kernel_rfl] at K0_2
  have g0_2 : (cs0.toList.drop 2).take 1 = [.int .i64 x0_2] := K0_2
  obtain ⟨x0_3, K0_3, w0_3⟩ := hF0 3 _ _ _ rfl (Opn.of_int (P := Try.prog) Try.underlying3)
  replace K0_3 : (Kd.int .i64).K W x0_3 ((cs0.toList.drop 3).take (Try.prog.cellsOf 3)) := K0_3
  rw [show Try.prog.cellsOf 3 = 1 by kernel_rfl] at K0_3
  have g0_3 : (cs0.toList.drop 3).take 1 = [.int .i64 x0_3] := K0_3
  obtain ⟨x0_4, K0_4, w0_4⟩ := hF0 4 _ _ _ rfl (Opn.of_int (P := Try.prog) Try.underlying3)
  replace K0_4 : (Kd.int .i64).K W x0_4 ((cs0.toList.drop 4).take (Try.prog.cellsOf 3)) := K0_4
  rw [show Try.prog.cellsOf 3 = 1 by kernel_rfl] at K0_4
  have g0_4 : (cs0.toList.drop 4).take 1 = [.int .i64 x0_4] := K0_4
  obtain ⟨x0_5, K0_5, w0_5⟩ := hF0 5 _ _ _ rfl (Opn.of_int (P := Try.prog) Try.underlying5)
  replace K0_5 : (Kd.int .u8).K W x0_5 ((cs0.toList.drop 5).take (Try.prog.cellsOf 5)) := K0_5
  rw [show Try.prog.cellsOf 5 = 1 by kernel_rfl] at K0_5
  have g0_5 : (cs0.toList.drop 5).take 1 = [.int .u8 x0_5] := K0_5
  obtain ⟨x0_6, K0_6, w0_6⟩ := hF0 6 _ _ _ rfl (Opn.of_string (P := Try.prog) Try.underlying9)
  replace K0_6 : Kd.string.K W x0_6 ((cs0.toList.drop 6).take (Try.prog.cellsOf 9)) := K0_6
  rw [show Try.prog.cellsOf 9 = 1 by kernel_rfl] at K0_6
  have g0_6 : (cs0.toList.drop 6).take 1 = [.string x0_6] := K0_6
  have e0 : cs0.toList = [.string x0_0] ++ ([.string x0_1] ++ ([.int .i64 x0_2] ++ ([.int .i64 x0_3] ++ ([.int .i64 x0_4] ++ ([.int .u8 x0_5] ++ ([.string x0_6] ++ [])))))) := by
    have h0 : cs0.toList = cs0.toList.drop 0 := rfl
    rw [h0, cell_cons g0_0, cell_cons g0_1, cell_cons g0_2, cell_cons g0_3, cell_cons g0_4, cell_cons g0_5, cell_cons g0_6, List.drop_eq_nil_of_le (by rw [show cs0.toList.length = 7 from hl0]; decide)]
  have ea0 : cs0 = #[.string x0_0, .string x0_1, .int .i64 x0_2, .int .i64 x0_3, .int .i64 x0_4, .int .u8 x0_5, .string x0_6] := Array.toList_inj.1 (by rw [e0]; rfl)
  subst ea0
  have k1 := h1
  have lt1 : ∀ x ∈ p1, x.block < W.heap.size := by obtain ⟨m, hm⟩ := k1; exact DataW.trod_lt m _ _ _ hm
  obtain ⟨n1, rfl⟩ := okWide_int Try.underlying5 (hval 1 5 v1 rfl rfl)
  obtain ⟨fuel1, hf1⟩ := h1
  obtain ⟨x1, K1, w1⟩ := (Opn.of_int (P := Try.prog) Try.underlying5) H enc W _ _ _ _ _ hf1 (Opn.sized_at hsz 1 rfl rfl)
  have e1 : [(.int .u8 n1 : Value)] = [.int .u8 x1] := K1
  simp only [List.cons.injEq, and_true, Value.int.injEq, true_and] at e1
  subst e1
  clear hA0 hval0 hsz0 hsz hval hf0 hf1 hF0
  refine (WalkHeadOwn.walk x0_0 x0_1 x0_2 x0_3 x0_4 x0_5 x0_6 n1 W ⟨RefPlug.wf8 w0_5, RefPlug.wf64 w0_2, RefPlug.wf64 w0_3, RefPlug.wf64 w0_4⟩ (RefPlug.wf8 w1)).mono fun e W' ⟨he, bel⟩ => ?_
  subst he
  exact ⟨_, rfl, _, _, _, [], _, [], hW', trodAll_mk1 (shut_bool Try.underlying4 _), (trodAll_cons_mk (Below.trod laidOut (by kernel_rfl) (of_decide_eq_true (by kernel_rfl)) k0 bel lt0) (trodAll_cons_mk (Below.trod laidOut (by kernel_rfl) (of_decide_eq_true (by kernel_rfl)) k1 bel lt1) trodAll_mk0)), rfl, bel.frame _, fun h => by cases h⟩
theorem over : Rows.headOwnRow.holds Try.pinned (OpenSpec.ofChange Rows.headOwnSpec) :=
  OpenClaim.holds_of_wide 9 Try.f9 rfl rfl rfl rfl rfl rfl rfl ⟨rfl, rfl, rfl, rfl, rfl⟩ rfl rfl rfl rfl rfl (by kernel_rfl) Try.func9 (by kernel_rfl)
    (of_decide_eq_true (by kernel_rfl)) (by unfold Func.isWrapper; first | (rw [if_pos (by decide +kernel)]; kernel_rfl) | (rw [if_neg (by decide +kernel)]; exact ⟨rfl, rfl⟩))
    (fun os started H enc _ => lifted os started H enc)
theorem proved : Rows.HeadOwnSaid := over
end Go.Proofs.Ytdmpbfhbjklajaa.headOwn
namespace Go.Proofs.Ytdmpbfhbjklajaa
/-- The row, under a short name, for the claim. -/
theorem headOwn_holds : Rows.HeadOwnSaid := headOwn.proved
#print axioms headOwn_holds
end Go.Proofs.Ytdmpbfhbjklajaa
