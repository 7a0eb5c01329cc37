/- BlockParses holds, whatever comes in. No condition of ours. -/
import Derived.Test.YthmcigdkopadjaaDoorQBlockParses5
import Derived.Test.YthmcigdkopadjaaDoorRows
import Derived.WalkKit
import Derived.ProofKit
import Derived.OpenShut
import Derived.ShutString
import Derived.ChangeOld
import Derived.Below
import Derived.SizedLaws
import Derived.LaidMore
import Derived.Test.YthmcigdkopadjaaDoorCards
import Derived.Test.YthmcigdkopadjaaDoorTie
import Derived.LaidMore
import Derived.Lay
import Derived.SevenTiedAt
import Derived.Stop.Joined
namespace Go.Proofs.YthmcigdkopadjaaDoor.blockParses
open Go.ChangeShapes Go.WideShapes Go.ChangeAt Go.RowKit Go.Proofs.YthmcigdkopadjaaDoor Go.Proofs.YthmcigdkopadjaaDoorW.PrintWords
set_option linter.unusedVariables false
theorem own : ownKnob Tryd.prog.godebug = none := by kernel_rfl
theorem laidOut : laidOutB Tryd.prog = true := by kernel_rfl
theorem cell_cons {cs : List Value} {o s : Nat} {b : List Value} (h : (cs.drop o).take s = b) : cs.drop o = b ++ cs.drop (o + s) := by rw [← h]; exact (Opn.split_at cs o s).symm
set_option maxRecDepth 100000 in
set_option maxHeartbeats 4000000 in
theorem lifted (os : Os) (started : os.Started) (H : Type) (enc : TypeId × Value → H) :
    ReturnsInHanded {} Tryd.checked os 4 .any (fun w args => (Rows.blockParsesSpec.pre enc Tryd.prog Tryd.f4 Rows.blockParsesRow.domain false w args ∧ laidMetH Tryd.prog Rows.blockParsesRow.laid w) ∧ sizedMet enc Tryd.prog Tryd.f4 (OpenSpec.ofChange Rows.blockParsesSpec) false w args)
      (Rows.blockParsesSpec.post enc Tryd.prog Tryd.f4 false true false false) := by
  refine returnsInHanded_of_change_and (C := Tryd.checked) (X := fun w _ => laidMetH Tryd.prog Rows.blockParsesRow.laid w) (fun _ _ _ hh h => h.of_heap hh) own started (by kernel_rfl) Tryd.func4
    (ChangeSpec.witness_shaped (enc := enc) (C := Tryd.checked) (os := os) (X := fun w _ => laidMetH Tryd.prog Rows.blockParsesRow.laid w) false (World.laidAll Tryd.prog os Rows.blockParsesRow.laid) #[.slice none 0 0, .agg #[.int .u64 0, .int .u32 0, .int .u8 0, .slice none 0 0]] 8 (World.laidAll_os _ _ _)
      (World.shaped_of_ZipB (by kernel_rfl) (by kernel_rfl)) (by kernel_rfl) (by kernel_rfl) (by kernel_rfl)
      (by rw [MakeChecks.laidMetH_plain _ _ _ (by kernel_rfl)]; exact laidMet_laidAll _ (by kernel_rfl) (by kernel_rfl))) ?_
  intro W base args ds gs before hval0 hW hcnd hsz0 hL _
  have hval : ∀ (j : Nat) t v, Tryd.f4.params[j]? = some t → args[j]? = some v → Value.okWide Tryd.prog W .any base t v := hval0
  have hW' := hW
  obtain ⟨p, q, hA0, hV, rfl, hfz, hnd⟩ := hW
  have hA : DataW.TrodAll enc Tryd.prog W 0 (fun _ => true) true Tryd.f4.params.toList args.toList ds p := hA0
  rw [Tryd.params4] at hA hval
  have hsz := hsz0
  rw [Tryd.params4] at hsz
  obtain ⟨v0, vs0, d0, ds0, p0, q0, hargs, rfl, rfl, h0, r0⟩ := trodAll_cons hA
  obtain ⟨v1, vs1, d1, ds1, p1, q1, rfl, rfl, rfl, h1, r1⟩ := trodAll_cons r0
  obtain ⟨rfl, rfl, rfl⟩ := trodAll_nil r1
  obtain rfl : args = #[v0, v1] := by cases args; simp_all
  obtain ⟨rfl, rfl⟩ := trodVars_none hV
  have k0 := h0
  have lt0 : ∀ x ∈ p0, x.block < W.heap.size := by obtain ⟨m, hm⟩ := k0; exact DataW.trod_lt m _ _ _ hm
  obtain ⟨a0, len0, cap0, rfl⟩ := okWide_slice Tryd.underlying24 (hval 0 24 v0 rfl rfl)
  obtain ⟨fuel0, hf0⟩ := h0
  obtain ⟨x0, K0, w0⟩ := (Opn.of_slice (P := Tryd.prog) (B := 1) Tryd.underlying24 (by kernel_rfl) (by kernel_rfl) (Opn.of_int (P := Tryd.prog) Tryd.underlying5)) H enc W _ _ _ _ _ hf0 (Opn.sized_at hsz 0 rfl rfl)
  obtain ⟨A0, c0, e0, m0, C0⟩ := K0
  simp only [Value.cells, List.cons.injEq, and_true, Value.slice.injEq] at e0
  obtain ⟨rfl, rfl, rfl⟩ := e0
  have k1 := h1
  have lt1 : ∀ x ∈ p1, x.block < W.heap.size := by obtain ⟨m, hm⟩ := k1; exact DataW.trod_lt m _ _ _ hm
  obtain ⟨cs1, rfl, hcs1⟩ := okWide_struct Tryd.underlying26 (hval 1 26 v1 rfl rfl)
  obtain ⟨fuel1, hf1⟩ := h1
  obtain ⟨hl1, hF1⟩ := Opn.fields Tryd.underlying26 hf1 (Opn.sized_at hsz 1 rfl rfl)
  rw [show Tryd.prog.cellsOf 26 = 4 by kernel_rfl] at hl1
  obtain ⟨x1_0, K1_0, w1_0⟩ := hF1 0 _ _ _ rfl (Opn.of_int (P := Tryd.prog) Tryd.underlying22)
  replace K1_0 : (Kd.int .u64).K W x1_0 ((cs1.toList.drop 0).take (Tryd.prog.cellsOf 22)) := K1_0
  rw [show Tryd.prog.cellsOf 22 = 1 by kernel_rfl] at K1_0
  have g1_0 : (cs1.toList.drop 0).take 1 = [.int .u64 x1_0] := K1_0
  obtain ⟨x1_1, K1_1, w1_1⟩ := hF1 1 _ _ _ rfl (Opn.of_int (P := Tryd.prog) Tryd.underlying23)
  replace K1_1 : (Kd.int .u32).K W x1_1 ((cs1.toList.drop 1).take (Tryd.prog.cellsOf 23)) := K1_1
  rw [show Tryd.prog.cellsOf 23 = 1 by kernel_rfl] at K1_1
  have g1_1 : (cs1.toList.drop 1).take 1 = [.int .u32 x1_1] := K1_1
  obtain ⟨x1_2, K1_2, w1_2⟩ := hF1 2 _ _ _ rfl (Opn.of_int (P := Tryd.prog) Tryd.underlying5)
  replace K1_2 : (Kd.int .u8).K W x1_2 ((cs1.toList.drop 2).take (Tryd.prog.cellsOf 5)) := K1_2
  rw [show Tryd.prog.cellsOf 5 = 1 by kernel_rfl] at K1_2
  have g1_2 : (cs1.toList.drop 2).take 1 = [.int .u8 x1_2] := K1_2
  obtain ⟨x1_3, K1_3, w1_3⟩ := hF1 3 _ _ _ rfl (Opn.of_slice (P := Tryd.prog) (B := 1) Tryd.underlying24 (by kernel_rfl) (by kernel_rfl) (Opn.of_int (P := Tryd.prog) Tryd.underlying5))
  replace K1_3 : (Kd.slice 5 (Kd.int .u8)).K W x1_3 ((cs1.toList.drop 3).take (Tryd.prog.cellsOf 24)) := K1_3
  rw [show Tryd.prog.cellsOf 24 = 1 by kernel_rfl] at K1_3
  obtain ⟨A1_3, c1_3, e1_3, m1_3, C1_3⟩ := K1_3
  have g1_3 : (cs1.toList.drop 3).take 1 = [.slice A1_3 x1_3.length c1_3] := e1_3
  have e1 : cs1.toList = [.int .u64 x1_0] ++ ([.int .u32 x1_1] ++ ([.int .u8 x1_2] ++ ([.slice A1_3 x1_3.length c1_3] ++ []))) := by
    have h0 : cs1.toList = cs1.toList.drop 0 := rfl
    rw [h0, cell_cons g1_0, cell_cons g1_1, cell_cons g1_2, cell_cons g1_3, List.drop_eq_nil_of_le (by rw [show cs1.toList.length = 4 from hl1]; decide)]
  have ea1 : cs1 = #[.int .u64 x1_0, .int .u32 x1_1, .int .u8 x1_2, .slice A1_3 x1_3.length c1_3] := Array.toList_inj.1 (by rw [e1]; rfl)
  subst ea1
  clear hA0 hval0 hsz0 hsz hval hf0 hf1 hF1
  refine (WalkBlockParses.walk _ _ x0 x1_0 x1_1 x1_2 _ _ _ W (Byt.RC.of_C C0) m0 (Block6.areB_wf w0.2.2)).mono fun e W' ⟨he, bel⟩ => ?_
  subst he
  exact ⟨_, rfl, _, _, _, [], _, [], hW', trodAll_mk1 (shut_bool Tryd.underlying4 _), (trodAll_cons_mk (Below.trod laidOut (by kernel_rfl) (of_decide_eq_true (by kernel_rfl)) k0 bel lt0) (trodAll_cons_mk (Below.trod laidOut (by kernel_rfl) (of_decide_eq_true (by kernel_rfl)) k1 bel lt1) trodAll_mk0)), rfl, bel.frame _, fun h => by cases h⟩
theorem over : Rows.blockParsesRow.holds Tryd.pinned (OpenSpec.ofChange Rows.blockParsesSpec) :=
  OpenClaim.holds_of_wide 4 Tryd.f4 rfl rfl rfl rfl rfl rfl rfl ⟨rfl, rfl, rfl, rfl, rfl⟩ rfl rfl rfl rfl rfl (by kernel_rfl) Tryd.func4 (by kernel_rfl)
    (of_decide_eq_true (by kernel_rfl)) (by unfold Func.isWrapper; first | (rw [if_pos (by decide +kernel)]; kernel_rfl) | (rw [if_neg (by decide +kernel)]; exact ⟨rfl, rfl⟩))
    (fun os started H enc _ => lifted os started H enc)
theorem proved : Rows.BlockParsesCardSaid :=
  Claim7.holds_tied_plain_at .later [] [.data, .pinned] true (true, "1b12771cc270fa244944eef716219064d86a0043ecc26ebbc3855a8c3886983c") false over (fun _ h => by cases h) (by kernel_rfl) (fun _ h => by cases h) blockParses_row_tie rfl ⟨rfl, rfl⟩ (by kernel_rfl) rfl
    (fun f fn hf hfn => by
      obtain rfl : f = 4 := Option.some.inj ((show Tryd.prog.funcNamed "tabulary/tabularylaw06.BlockParses" = some 4 by kernel_rfl).symm.trans hf) |>.symm
      obtain rfl : fn = Tryd.f4 := (Option.some.inj (Tryd.func4.symm.trans hfn)).symm
      exact ⟨by kernel_rfl, fun j t ht => by
        rw [Tryd.params4] at ht
        have hm : t ∈ [24, 26] := by simpa using Array.mem_of_getElem? ht
        have hall : ([24, 26].all fun u => !Tryd.prog.wantsStandIn u) = true := by kernel_rfl
        exact (show Tryd.prog.wantsStandIn t = false by simpa using List.all_eq_true.1 hall t hm)⟩)
    (by kernel_rfl)
end Go.Proofs.YthmcigdkopadjaaDoor.blockParses
namespace Go.Proofs.YthmcigdkopadjaaDoor
/-- The row, under a short name, for the claim. -/
theorem blockParses_holds : Rows.BlockParsesCardSaid := blockParses.proved
#print axioms blockParses_holds
end Go.Proofs.YthmcigdkopadjaaDoor
