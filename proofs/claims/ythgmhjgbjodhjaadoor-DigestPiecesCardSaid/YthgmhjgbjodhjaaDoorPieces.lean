/- DigestPieces walked: however bytes are cut, their digest is one. -/
import Derived.Test.YthgmhjgbjodhjaaDoorHs
namespace Go.Proofs.YthgmhjgbjodhjaaDoor.Pieces
open Go.Proofs.YthgmhjgbjodhjaaDoor Go.RowKit Go.Proofs.YthgmhjgbjodhjaaDoorW.PrintWords Go.Proofs.YthgmhjgbjodhjaaDoorW.PrintLast Go.Proofs.YthgmhjgbjodhjaaDoorW.PrintMore Go.Proofs.YthgmhjgbjodhjaaDoor.Sha Go.Proofs.YthgmhjgbjodhjaaDoor.Sha2 Go.Proofs.YthgmhjgbjodhjaaDoor.Sha3 Go.Proofs.YthgmhjgbjodhjaaDoor.Own Go.Proofs.YthgmhjgbjodhjaaDoor.Sha4 Go.Proofs.YthgmhjgbjodhjaaDoor.Sha5 Go.Proofs.YthgmhjgbjodhjaaDoor.Sha7 Go.Proofs.YthgmhjgbjodhjaaDoor.ShaPure Go.Proofs.YthgmhjgbjodhjaaDoor.Sha8 Go.Proofs.YthgmhjgbjodhjaaDoor.Hs
set_option linter.unusedVariables false
set_option linter.unusedSimpArgs false
/-- The place of a cut. -/
theorem place (x : Int) (n : Nat) : ∃ (y : Int) (p : Nat), Int.tmod x (n + 1) = y ∧ -(n : Int) ≤ y ∧ y ≤ n ∧ Int.tmod (y + n + 1) (n + 1) = p ∧ (y + n + 1) % ((n : Int) + 1) = p ∧ p ≤ n := by
  have h1 := Int.tmod_lt_of_pos x (show (0 : Int) < n + 1 by omega)
  have h2 := Int.neg_tmod x (n + 1)
  have h3 := Int.tmod_lt_of_pos (-x) (show (0 : Int) < n + 1 by omega)
  rw [h2] at h3
  refine ⟨Int.tmod x (n + 1), ((Int.tmod x (n + 1) + n + 1) % ((n : Int) + 1)).toNat, rfl, by omega, by omega, ?_, ?_, ?_⟩
  · rw [Int.tmod_eq_emod_of_nonneg (by omega)]
    have := Int.emod_nonneg (Int.tmod x (n + 1) + n + 1) (show ((n : Int) + 1) ≠ 0 by omega)
    omega
  · have := Int.emod_nonneg (Int.tmod x (n + 1) + n + 1) (show ((n : Int) + 1) ≠ 0 by omega)
    omega
  · have := Int.emod_lt_of_pos (Int.tmod x (n + 1) + n + 1) (show (0 : Int) < (n : Int) + 1 by omega)
    omega

set_option maxHeartbeats 8000000 in
set_option maxRecDepth 100000 in
theorem pieces_walk (A : Option Addr) (c : Nat) (b : List Int) (B : Option Addr) (d : Nat) (cuts : List Int) (W : World) (hA : RC W A b) (hc : b.length ≤ c) (hbm : b.length ≤ 9223372036854775807) (hB : Bytes b) (hC : Kd.C (Kd.int .i64) W B cuts.length cuts) (hK : KB W) :
    Calls Tryd.prog 8 #[.slice A b.length c, .slice B cuts.length d] W fun e w' => e = .returned (.bool true) ∧ Below W.heap.size W w' := by
  obtain ⟨D, hD⟩ : ∃ D : List Int, D = ofS b := ⟨_, rfl⟩
  obtain ⟨m, hm⟩ : ∃ m : Nat, m = cuts.length := ⟨_, rfl⟩
  have hcm := hC.2.1
  have HD := Lib.hid hD
  have HDL := Lib.hid (show D.length = 32 by rw [hD]; exact ofS_len _)
  have HA := Lib.hid hA
  have HB := Lib.hid hB
  have HK := Lib.hid hK
  have HG0 := Lib.hid hK.1
  have HM := Lib.hid hm
  rw [← hm] at hcm hC
  have HC := Lib.hid hC
  have hq2 : ∀ w, (binOp .eql T32 (.agg (nums .u8 D).toArray) (.agg (nums .u8 D).toArray)).run Tryd.prog w = .ok (.bool true) w := fun w => by rw [run_eql32 w D D HDL.out HDL.out, beq_self_eq_true]
  rw [← hm]
  clear hD hA hB hK hC hm
  by_cases h1 : b.length ≤ 65536
  · by_cases h2 : m ≤ 300
    · have HP := Lib.hid (fun k (h : k < m) => int_place (T := 39) Tryd.underlying39 (by kernel_rfl) (c := d) HC.out k h)
      · go_enter Tryd.func8, Tryd.ntmps8
        go_wp2_with (go_at_call 14; (with_reducible refine (new_on _).mono ?_); rintro e w1 ⟨rfl, hh1, hb1⟩; have HH1 := Lib.hid hh1; have HB1 := Lib.hid hb1; clear hh1 hb1)
        go_loopw [6, 7] (fun v6 v7 wr => ∃ (k q n : Nat) (A' : Option Addr), k ≤ m ∧ v7 = .int .i64 k ∧ v6 = .slice A' n (c - q) ∧ Aside0 (q + n = b.length) ∧ n ≤ 65536 ∧ n ≤ c - q ∧ Aside0 (RC W A' (b.drop q)) ∧ HS wr W.heap.size (b.take q) ∧ Below W.heap.size W wr) (fun _ v7 _ => m - (intOf v7).toNat)
        case atStart => exact ⟨0, 0, b.length, A, by omega, rfl, rfl, ⟨by omega⟩, h1, hc, ⟨HA.out⟩, by simpa using HH1.out, HB1.out⟩
        case round =>
          obtain ⟨k, q, n, A', hk, rfl, rfl, hqn, hn, hnc, hA', hh, hb⟩ := hrel
          have HH := Lib.hid hh
          have HBW := Lib.hid hb
          clear hh hb
          by_cases hlt : k < m
          · obtain ⟨ak, x, _, hx1, hx2, hix⟩ := HP.out k hlt
            have hxr := (HBW.out.cell (p := ak) hx1).trans hx2
            clear hx1 hx2
            obtain ⟨y, p, hy, hy1, hy2, hp1, hp2, hp⟩ := place x n
            have htk := run_takeB A' n (c - q) p (by omega) hnc
            obtain ⟨A2, hcut, hA2⟩ := run_cutB A' n (c - q) p hp hnc (by omega)
            have hql := hqn.out
            have HL1 := Lib.hid (show p = ((b.drop q).take p).length by rw [List.length_take, List.length_drop]; omega)
            have HR1 := Lib.hid (show b.take (q + p) = b.take q ++ (b.drop q).take p from List.take_add)
            have HA2 := Lib.hid (show RC W A2 (b.drop (q + p)) by rw [← List.drop_drop]; exact hA2 W _ (by rw [List.length_drop]; omega) hA'.out)
            have HRW := Lib.hid ((hA'.out.take p).below HBW.out)
            have HOF := Lib.hid ((hA'.out.take p).off (Nat.le_refl _))
            have HBT := Lib.hid (show Bytes (b.take (q + p)) from bytes_take HB.out _)
            have HLT := Lib.hid (show (b.take (q + p)).length ≤ 65536 by rw [List.length_take]; omega)
            have HLQ := Lib.hid (show (b.take q).length ≤ 65536 by rw [List.length_take]; omega)
            clear hA2 hql
            go_wp2_with (first
              | (go_at_call 15; (with_reducible refine (write_on W.heap.size (b.take q) ((b.drop q).take p) (b.take (q + p)) p HL1.out HR1.out A' (c - q) _ (bytes_take HB.out _) (bytes_take (bytes_drop HB.out _) _) (by rw [← HL1.out]; omega) (by have := HLQ.out; omega) HG0.out (HK.out.below HBW.out) HH.out HRW.out HOF.out (by omega)).mono ?_); rintro e w2 ⟨rfl, hh2, hw2⟩; have HH2 := Lib.hid hh2; have HB2 := Lib.hid (HBW.out.trans (hw2.below (Nat.le_refl _) HBW.out.size)); clear hh2 hw2)
              | (go_at_call 16; go_loud (with_reducible refine (sum_on W.heap.size (b.take (q + p)) (ofS (b.take (q + p))) _ rfl HBT.out (by have := HLT.out; omega) (HK.out.below HB2.out) HH2.out).mono ?_); (rintro e w3 ⟨rfl, hb3⟩; have HH3 := Lib.hid (HH2.out.below hb3); have HB3 := Lib.hid (HB2.out.trans (hb3.mono HB2.out.size)); clear hb3)))
            · go_roundw
              case rel => exact ⟨k + 1, q + p, n - p, A2, by omega, by go_num, by rw [Nat.sub_sub], ⟨by have := hqn.out; omega⟩, by omega, by omega, ⟨HA2.out⟩, HH3.out, HB3.out⟩
              case measure => simp [intOf]; omega
            · go_roundw
              case rel => exact ⟨k + 1, q + p, n - p, A2, by omega, by go_num, by rw [Nat.sub_sub], ⟨by have := hqn.out; omega⟩, by omega, by omega, ⟨HA2.out⟩, HH2.out, HB2.out⟩
              case measure => simp [intOf]; omega
          · have hql := hqn.out
            have HL1 := Lib.hid (show n = (b.drop q).length by rw [List.length_drop]; omega)
            have HR1 := Lib.hid (show b = b.take q ++ b.drop q from (List.take_append_drop q b).symm)
            have HRW := Lib.hid (hA'.out.below HBW.out)
            have HOF := Lib.hid (hA'.out.off (Nat.le_refl _))
            have HLQ := Lib.hid (show (b.take q).length ≤ 65536 by rw [List.length_take]; omega)
            clear hql
            go_wp2_with (first
              | (go_at_call 15; go_loud (with_reducible refine (write_on W.heap.size (b.take q) (b.drop q) b n HL1.out HR1.out A' (c - q) _ (bytes_take HB.out _) (bytes_drop HB.out _) (by rw [← HL1.out]; omega) (by have := HLQ.out; omega) HG0.out (HK.out.below HBW.out) HH.out HRW.out HOF.out (by omega)).mono ?_); (rintro e w2 ⟨rfl, hh2, hw2⟩; have HH2 := Lib.hid hh2; have HB2 := Lib.hid (HBW.out.trans (hw2.below (Nat.le_refl _) HBW.out.size)); clear hh2 hw2))
              | (go_at_call 16; go_loud ((with_reducible refine (sum_on W.heap.size b D _ HD.out HB.out (by omega) (HK.out.below HB2.out) HH2.out).mono ?_); rintro e w3 ⟨rfl, hb3⟩; have HH3 := Lib.hid (HH2.out.below hb3); have HB3 := Lib.hid (HB2.out.trans (hb3.mono HB2.out.size)); clear hb3))
              | (go_at_call 10; go_loud ((with_reducible refine (of_gen A c b D _ HD.out (HA.out.below HB3.out) hc (by omega) HB.out (HK.out.below HB3.out)).mono ?_); rintro e w4 ⟨rfl, hb4⟩; have HH4 := Lib.hid (HH3.out.below hb4); have HB4 := Lib.hid (HB3.out.trans (hb4.mono HB3.out.size)); clear hb4))
              | (go_at_call 17; go_loud ((with_reducible refine (len_on W.heap.size b b.length rfl _ HH4.out).mono ?_); rintro e w5 ⟨rfl, rfl⟩))
              | (go_at_call 9; go_loud ((with_reducible refine (wakes_any _ (HK.out.below HB4.out)).mono ?_); rintro e w7 ⟨rfl, hb7⟩; have HB7 := Lib.hid (HB4.out.trans (hb7.mono HB4.out.size)); clear hb7)))
            go_ret
            exact ⟨rfl, HB7.out⟩
    · have h3 : (300 : Int) < (m : Int) := by omega
      have h4 : ¬ (65536 : Int) < (b.length : Int) := by omega
      go_enter Tryd.func8, Tryd.ntmps8
      go_wp2_with (go_at_call 9; ((with_reducible refine (wakes_any _ HK.out).mono ?_); rintro e w7 ⟨rfl, hb7⟩; have HB7 := Lib.hid hb7; clear hb7))
      go_ret
      exact ⟨rfl, HB7.out⟩
  · have h3 : (65536 : Int) < (b.length : Int) := by omega
    go_enter Tryd.func8, Tryd.ntmps8
    go_wp2_with (go_at_call 9; ((with_reducible refine (wakes_any _ HK.out).mono ?_); rintro e w7 ⟨rfl, hb7⟩; have HB7 := Lib.hid hb7; clear hb7))
    go_ret
    exact ⟨rfl, HB7.out⟩
end Go.Proofs.YthgmhjgbjodhjaaDoor.Pieces
