/- BlockBack holds, whatever comes in. No condition of ours. -/
import Derived.Test.YthmcigdkopadjaaDoorQBlockBack6
import Derived.Test.YthmcigdkopadjaaDoorRows
import Derived.WalkKit
import Derived.ProofKit
import Derived.OpenShut
import Derived.ShutString
import Derived.ChangeOld
import Derived.Below
import Derived.SizedLaws
import Derived.LaidMore
import Derived.Test.YthmcigdkopadjaaDoorCards
import Derived.Test.YthmcigdkopadjaaDoorTie
import Derived.LaidMore
import Derived.Lay
import Derived.SevenTiedAt
import Derived.Stop.Joined
namespace Go.Proofs.YthmcigdkopadjaaDoor.blockBack
open Go.ChangeShapes Go.WideShapes Go.ChangeAt Go.RowKit Go.Proofs.YthmcigdkopadjaaDoor Go.Proofs.YthmcigdkopadjaaDoorW.PrintWords
set_option linter.unusedVariables false
theorem own : ownKnob Tryd.prog.godebug = none := by kernel_rfl
theorem laidOut : laidOutB Tryd.prog = true := by kernel_rfl
theorem cell_cons {cs : List Value} {o s : Nat} {b : List Value} (h : (cs.drop o).take s = b) : cs.drop o = b ++ cs.drop (o + s) := by rw [← h]; exact (Opn.split_at cs o s).symm
set_option maxRecDepth 100000 in
set_option maxHeartbeats 4000000 in
theorem lifted (os : Os) (started : os.Started) (H : Type) (enc : TypeId × Value → H) :
    ReturnsInHanded {} Tryd.checked os 5 .any (fun w args => (Rows.blockBackSpec.pre enc Tryd.prog Tryd.f5 Rows.blockBackRow.domain false w args ∧ laidMetH Tryd.prog Rows.blockBackRow.laid w) ∧ sizedMet enc Tryd.prog Tryd.f5 (OpenSpec.ofChange Rows.blockBackSpec) false w args)
      (Rows.blockBackSpec.post enc Tryd.prog Tryd.f5 false true false false) := by
  refine returnsInHanded_of_change_and (C := Tryd.checked) (X := fun w _ => laidMetH Tryd.prog Rows.blockBackRow.laid w) (fun _ _ _ hh h => h.of_heap hh) own started (by kernel_rfl) Tryd.func5
    (ChangeSpec.witness_shaped (enc := enc) (C := Tryd.checked) (os := os) (X := fun w _ => laidMetH Tryd.prog Rows.blockBackRow.laid w) false (World.laidAll Tryd.prog os Rows.blockBackRow.laid) #[.agg #[.int .u64 0, .int .u32 0, .int .u8 0, .slice none 0 0], .slice none 0 0] 8 (World.laidAll_os _ _ _)
      (World.shaped_of_ZipB (by kernel_rfl) (by kernel_rfl)) (by kernel_rfl) (by kernel_rfl) (by kernel_rfl)
      (by rw [MakeChecks.laidMetH_plain _ _ _ (by kernel_rfl)]; exact laidMet_laidAll _ (by kernel_rfl) (by kernel_rfl))) ?_
  intro W base args ds gs before hval0 hW hcnd hsz0 hL _
  have hval : ∀ (j : Nat) t v, Tryd.f5.params[j]? = some t → args[j]? = some v → Value.okWide Tryd.prog W .any base t v := hval0
  have hW' := hW
  obtain ⟨p, q, hA0, hV, rfl, hfz, hnd⟩ := hW
  have hA : DataW.TrodAll enc Tryd.prog W 0 (fun _ => true) true Tryd.f5.params.toList args.toList ds p := hA0
  rw [Tryd.params5] at hA hval
  have hsz := hsz0
  rw [Tryd.params5] at hsz
  obtain ⟨v0, vs0, d0, ds0, p0, q0, hargs, rfl, rfl, h0, r0⟩ := trodAll_cons hA
  obtain ⟨v1, vs1, d1, ds1, p1, q1, rfl, rfl, rfl, h1, r1⟩ := trodAll_cons r0
  obtain ⟨rfl, rfl, rfl⟩ := trodAll_nil r1
  obtain rfl : args = #[v0, v1] := by cases args; simp_all
  obtain ⟨rfl, rfl⟩ := trodVars_none hV
  have k0 := h0
  have lt0 : ∀ x ∈ p0, x.block < W.heap.size := by obtain ⟨m, hm⟩ := k0; exact DataW.trod_lt m _ _ _ hm
  obtain ⟨cs0, rfl, hcs0⟩ := okWide_struct Tryd.underlying26 (hval 0 26 v0 rfl rfl)
  obtain ⟨fuel0, hf0⟩ := h0
  obtain ⟨hl0, hF0⟩ := Opn.fields Tryd.underlying26 hf0 (Opn.sized_at hsz 0 rfl rfl)
  rw [show Tryd.prog.cellsOf 26 = 4 by kernel_rfl] at hl0
  obtain ⟨x0_0, K0_0, w0_0⟩ := hF0 0 _ _ _ rfl (Opn.of_int (P := Tryd.prog) Tryd.underlying22)
  replace K0_0 : (Kd.int .u64).K W x0_0 ((cs0.toList.drop 0).take (Tryd.prog.cellsOf 22)) := K0_0
  rw [show Tryd.prog.cellsOf 22 = 1 by kernel_rfl] at K0_0
  have g0_0 : (cs0.toList.drop 0).take 1 = [.int .u64 x0_0] := K0_0
  obtain ⟨x0_1, K0_1, w0_1⟩ := hF0 1 _ _ _ rfl (Opn.of_int (P := Tryd.prog) Tryd.underlying23)
  replace K0_1 : (Kd.int .u32).K W x0_1 ((cs0.toList.drop 1).take (Tryd.prog.cellsOf 23)) := K0_1
  rw [show Tryd.prog.cellsOf 23 = 1 by kernel_rfl] at K0_1
  have g0_1 : (cs0.toList.drop 1).take 1 = [.int .u32 x0_1] := K0_1
  obtain ⟨x0_2, K0_2, w0_2⟩ := hF0 2 _ _ _ rfl (Opn.of_int (P := Tryd.prog) Tryd.underlying5)
  replace K0_2 : (Kd.int .u8).K W x0_2 ((cs0.toList.drop 2).take (Tryd.prog.cellsOf 5)) := K0_2
  rw [show Tryd.prog.cellsOf 5 = 1 by kernel_rfl] at K0_2
  have g0_2 : (cs0.toList.drop 2).take 1 = [.int .u8 x0_2] := K0_2
  obtain ⟨x0_3, K0_3, w0_3⟩ := hF0 3 _ _ _ rfl (Opn.of_slice (P := Tryd.prog) (B := 1) Tryd.underlying24 (by kernel_rfl) (by kernel_rfl) (Opn.of_int (P := Tryd.prog) Tryd.underlying5))
  replace K0_3 : (Kd.slice 5 (Kd.int .u8)).K W x0_3 ((cs0.toList.drop 3).take (Tryd.prog.cellsOf 24)) := K0_3
  rw [show Tryd.prog.cellsOf 24 = 1 by kernel_rfl] at K0_3
  obtain ⟨A0_3, c0_3, e0_3, m0_3, C0_3⟩ := K0_3
  have g0_3 : (cs0.toList.drop 3).take 1 = [.slice A0_3 x0_3.length c0_3] := e0_3
  have e0 : cs0.toList = [.int .u64 x0_0] ++ ([.int .u32 x0_1] ++ ([.int .u8 x0_2] ++ ([.slice A0_3 x0_3.length c0_3] ++ []))) := by
    have h0 : cs0.toList = cs0.toList.drop 0 := rfl
    rw [h0, cell_cons g0_0, cell_cons g0_1, cell_cons g0_2, cell_cons g0_3, List.drop_eq_nil_of_le (by rw [show cs0.toList.length = 4 from hl0]; decide)]
  have ea0 : cs0 = #[.int .u64 x0_0, .int .u32 x0_1, .int .u8 x0_2, .slice A0_3 x0_3.length c0_3] := Array.toList_inj.1 (by rw [e0]; rfl)
  subst ea0
  have k1 := h1
  have lt1 : ∀ x ∈ p1, x.block < W.heap.size := by obtain ⟨m, hm⟩ := k1; exact DataW.trod_lt m _ _ _ hm
  obtain ⟨a1, len1, cap1, rfl⟩ := okWide_slice Tryd.underlying24 (hval 1 24 v1 rfl rfl)
  obtain ⟨fuel1, hf1⟩ := h1
  obtain ⟨x1, K1, w1⟩ := (Opn.of_slice (P := Tryd.prog) (B := 1) Tryd.underlying24 (by kernel_rfl) (by kernel_rfl) (Opn.of_int (P := Tryd.prog) Tryd.underlying5)) H enc W _ _ _ _ _ hf1 (Opn.sized_at hsz 1 rfl rfl)
  obtain ⟨A1, c1, e1, m1, C1⟩ := K1
  simp only [Value.cells, List.cons.injEq, and_true, Value.slice.injEq] at e1
  obtain ⟨rfl, rfl, rfl⟩ := e1
  clear hA0 hval0 hsz0 hsz hval hf0 hf1 hF0
  refine (WalkBlockBack.walk x0_0 x0_1 x0_2 A0_3 c0_3 x0_3 _ _ x1 W (Byt.RC.of_C C0_3) m0_3 (Block6.okay_wf w0_0 w0_1 w0_2 w0_3.2.2) (Byt.RC.of_C C1) m1 (Block6.areB_wf w1.2.2)).mono fun e W' ⟨he, bel⟩ => ?_
  subst he
  exact ⟨_, rfl, _, _, _, [], _, [], hW', trodAll_mk1 (shut_bool Tryd.underlying4 _), (trodAll_cons_mk (Below.trod laidOut (by kernel_rfl) (of_decide_eq_true (by kernel_rfl)) k0 bel lt0) (trodAll_cons_mk (Below.trod laidOut (by kernel_rfl) (of_decide_eq_true (by kernel_rfl)) k1 bel lt1) trodAll_mk0)), rfl, bel.frame _, fun h => by cases h⟩
theorem over : Rows.blockBackRow.holds Tryd.pinned (OpenSpec.ofChange Rows.blockBackSpec) :=
  OpenClaim.holds_of_wide 5 Tryd.f5 rfl rfl rfl rfl rfl rfl rfl ⟨rfl, rfl, rfl, rfl, rfl⟩ rfl rfl rfl rfl rfl (by kernel_rfl) Tryd.func5 (by kernel_rfl)
    (of_decide_eq_true (by kernel_rfl)) (by unfold Func.isWrapper; first | (rw [if_pos (by decide +kernel)]; kernel_rfl) | (rw [if_neg (by decide +kernel)]; exact ⟨rfl, rfl⟩))
    (fun os started H enc _ => lifted os started H enc)
theorem proved : Rows.BlockBackCardSaid :=
  Claim7.holds_tied_plain_at .later [] [.data, .pinned] true (true, "1b12771cc270fa244944eef716219064d86a0043ecc26ebbc3855a8c3886983c") false over (fun _ h => by cases h) (by kernel_rfl) (fun _ h => by cases h) blockBack_row_tie rfl ⟨rfl, rfl⟩ (by kernel_rfl) rfl
    (fun f fn hf hfn => by
      obtain rfl : f = 5 := Option.some.inj ((show Tryd.prog.funcNamed "tabulary/tabularylaw06.BlockBack" = some 5 by kernel_rfl).symm.trans hf) |>.symm
      obtain rfl : fn = Tryd.f5 := (Option.some.inj (Tryd.func5.symm.trans hfn)).symm
      exact ⟨by kernel_rfl, fun j t ht => by
        rw [Tryd.params5] at ht
        have hm : t ∈ [26, 24] := by simpa using Array.mem_of_getElem? ht
        have hall : ([26, 24].all fun u => !Tryd.prog.wantsStandIn u) = true := by kernel_rfl
        exact (show Tryd.prog.wantsStandIn t = false by simpa using List.all_eq_true.1 hall t hm)⟩)
    (by kernel_rfl)
end Go.Proofs.YthmcigdkopadjaaDoor.blockBack
namespace Go.Proofs.YthmcigdkopadjaaDoor
/-- The row, under a short name, for the claim. -/
theorem blockBack_holds : Rows.BlockBackCardSaid := blockBack.proved
#print axioms blockBack_holds
end Go.Proofs.YthmcigdkopadjaaDoor
