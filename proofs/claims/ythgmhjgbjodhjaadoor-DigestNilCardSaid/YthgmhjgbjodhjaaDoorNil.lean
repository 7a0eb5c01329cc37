/- DigestNil walked: what a nil Hash answers. -/
import Derived.Test.YthgmhjgbjodhjaaDoorSha8
namespace Go.Proofs.YthgmhjgbjodhjaaDoor.Nil
open Go.Proofs.YthgmhjgbjodhjaaDoor Go.RowKit Go.Proofs.YthgmhjgbjodhjaaDoorW.PrintWords Go.Proofs.YthgmhjgbjodhjaaDoorW.PrintLast Go.Proofs.YthgmhjgbjodhjaaDoorW.PrintMore Go.Proofs.YthgmhjgbjodhjaaDoor.Sha Go.Proofs.YthgmhjgbjodhjaaDoor.Sha2 Go.Proofs.YthgmhjgbjodhjaaDoor.Sha3 Go.Proofs.YthgmhjgbjodhjaaDoor.Own Go.Proofs.YthgmhjgbjodhjaaDoor.Sha4 Go.Proofs.YthgmhjgbjodhjaaDoor.Sha5 Go.Proofs.YthgmhjgbjodhjaaDoor.Sha6 Go.Proofs.YthgmhjgbjodhjaaDoor.Sha7 Go.Proofs.YthgmhjgbjodhjaaDoor.ShaPure Go.Proofs.YthgmhjgbjodhjaaDoor.Sha8
set_option linter.unusedVariables false
set_option linter.unusedSimpArgs false
theorem rof_n (A : Option Addr) (c n : Nat) (l R : List Int) (W : World) (hn : n = l.length) (hRF : R = ofS l) (hA : RC W A l) (hc : l.length ≤ c) (hl : l.length ≤ 10000000) (hB : Bytes l) :
    Calls Tryd.prog 11 #[.slice A n c] W fun e w' => e = .returned (.agg (nums .u8 R).toArray) ∧ Below W.heap.size W w' := by
  subst hn
  exact rof_gen A c l R W (hRF.trans (ofS_eq l)) hA hc hl hB
theorem nilS : ofS [] = final IV [] 0 := rfl
set_option maxHeartbeats 8000000 in
set_option maxRecDepth 100000 in
theorem nil_walk (v : Value) (W : World) (hK : KB W) :
    Calls Tryd.prog 7 #[v] W fun e w' => e = .returned (.bool true) ∧ Below W.heap.size W w' := by
  obtain ⟨D, hD⟩ : ∃ D : List Int, D = ofS [] := ⟨_, rfl⟩
  have HD := Lib.hid hD
  have HDF := Lib.hid (show D = final IV [] 0 from hD.trans nilS)
  have hDL : D.length = 32 := by rw [hD]; exact ofS_len _
  have HK := Lib.hid hK
  have HB0 := Lib.hid (show Bytes [] from fun j => by simp [bn, rd])
  have he : ∀ w, (binOp .eql T32 (.agg (nums .u8 D).toArray) (.agg (nums .u8 D).toArray)).run Tryd.prog w = .ok (.bool true) w := fun w => by rw [run_eql32 w D D hDL hDL, beq_self_eq_true]
  clear hK hD hDL
  go_enter Tryd.func7, Tryd.ntmps7
  go_wp2_with (first
    | (go_at_call 15; (with_reducible refine (write_nil _ _).mono ?_); rintro e w1 ⟨rfl, rfl⟩)
    | (go_at_call 16; (with_reducible refine (sum_nil_gen IV [] 0 D _ HDF.out rfl HB0.out (by decide) (by decide) HK.out ⟨rfl, rfl, rfl⟩).mono ?_); rintro e w2 ⟨rfl, hb2⟩; have HB2 := Lib.hid hb2; clear hb2)
    | (go_at_call 11; (with_reducible refine (rof_n none 0 0 [] D _ rfl HD.out (RC.nil _ _) (by decide) (by decide) HB0.out).mono ?_); rintro e w3 ⟨rfl, hb3⟩; have HB3 := Lib.hid (HB2.out.trans (hb3.mono HB2.out.size)); clear hb3)
    | (go_at_call 17; (with_reducible refine (len_nil _).mono ?_); rintro e w4 ⟨rfl, rfl⟩)
    | (go_at_call 18; (with_reducible refine (twin_nil _).mono ?_); rintro e w5 ⟨rfl, rfl⟩)
    | (go_at_call 9; (with_reducible refine (wakes_any _ (HK.out.below HB3.out)).mono ?_); rintro e w6 ⟨rfl, hb6⟩; have HB6 := Lib.hid (HB3.out.trans (hb6.mono HB3.out.size)); clear hb6))
  go_ret
  exact ⟨rfl, HB6.out⟩
end Go.Proofs.YthgmhjgbjodhjaaDoor.Nil
