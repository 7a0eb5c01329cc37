/- DigestKnown walked: three digests anyone can look up. (Written by tools/known5.py.) -/
import Derived.Test.YthgmhjgbjodhjaaDoorSha8
import Derived.Laws.OwnMore
namespace Go.Proofs.YthgmhjgbjodhjaaDoor.Known
open Go.Proofs.YthgmhjgbjodhjaaDoor Go.RowKit Go.Proofs.YthgmhjgbjodhjaaDoorW.PrintWords Go.Proofs.YthgmhjgbjodhjaaDoorW.PrintLast Go.Proofs.YthgmhjgbjodhjaaDoorW.PrintMore Go.Proofs.YthgmhjgbjodhjaaDoor.Sha Go.Proofs.YthgmhjgbjodhjaaDoor.Sha2 Go.Proofs.YthgmhjgbjodhjaaDoor.Sha3 Go.Proofs.YthgmhjgbjodhjaaDoor.Own Go.Proofs.YthgmhjgbjodhjaaDoor.Sha4 Go.Proofs.YthgmhjgbjodhjaaDoor.Sha5 Go.Proofs.YthgmhjgbjodhjaaDoor.Sha6 Go.Proofs.YthgmhjgbjodhjaaDoor.Sha7 Go.Proofs.YthgmhjgbjodhjaaDoor.ShaPure Go.Proofs.YthgmhjgbjodhjaaDoor.Sha8
set_option linter.unusedVariables false
set_option linter.unusedSimpArgs false
def L56 : List Int := [97, 98, 99, 100, 98, 99, 100, 101, 99, 100, 101, 102, 100, 101, 102, 103, 101, 102, 103, 104, 102, 103, 104, 105, 103, 104, 105, 106, 104, 105, 106, 107, 105, 106, 107, 108, 106, 107, 108, 109, 107, 108, 109, 110, 108, 109, 110, 111, 109, 110, 111, 112, 110, 111, 112, 113]
def T1L : List Int := [101, 51, 98, 48, 99, 52, 52, 50, 57, 56, 102, 99, 49, 99, 49, 52, 57, 97, 102, 98, 102, 52, 99, 56, 57, 57, 54, 102, 98, 57, 50, 52, 50, 55, 97, 101, 52, 49, 101, 52, 54, 52, 57, 98, 57, 51, 52, 99, 97, 52, 57, 53, 57, 57, 49, 98, 55, 56, 53, 50, 98, 56, 53, 53]
def T2L : List Int := [50, 52, 56, 100, 54, 97, 54, 49, 100, 50, 48, 54, 51, 56, 98, 56, 101, 53, 99, 48, 50, 54, 57, 51, 48, 99, 51, 101, 54, 48, 51, 57, 97, 51, 51, 99, 101, 52, 53, 57, 54, 52, 102, 102, 50, 49, 54, 55, 102, 54, 101, 99, 101, 100, 100, 52, 49, 57, 100, 98, 48, 54, 99, 49]
def T3L : List Int := [52, 49, 101, 100, 101, 99, 101, 52, 50, 100, 54, 51, 101, 56, 100, 57, 98, 102, 53, 49, 53, 97, 57, 98, 97, 54, 57, 51, 50, 101, 49, 99, 50, 48, 99, 98, 99, 57, 102, 53, 97, 53, 100, 49, 51, 52, 54, 52, 53, 97, 100, 98, 53, 100, 98, 49, 98, 57, 55, 51, 55, 101, 97, 51]
set_option maxRecDepth 100000 in
theorem text1 : texts (ofS []) 32 = T1L := by decide +kernel
set_option maxRecDepth 100000 in
theorem text2 : texts (ofS L56) 32 = T2L := by decide +kernel
set_option maxRecDepth 100000 in
theorem text3 : texts (ofS (List.replicate 1000 97)) 32 = T3L := by decide +kernel
def fillA (k : Nat) : Nat → List Int
  | 0 => List.replicate k 0
  | j + 1 => (fillA k j).set j 97
theorem fill0 (k : Nat) : fillA k 0 = List.replicate k 0 := rfl
theorem fillA_len (k j : Nat) : (fillA k j).length = k := by
  induction j with
  | zero => simp [fillA]
  | succ j ih => simp [fillA, ih]
theorem fillA_eq (k : Nat) : ∀ j, j ≤ k → fillA k j = List.replicate j 97 ++ List.replicate (k - j) 0
  | 0, _ => by simp [fillA]
  | j + 1, h => by
    rw [fillA, fillA_eq k j (by omega)]
    apply List.ext_getElem?
    intro i
    simp only [List.getElem?_set, List.getElem?_append, List.getElem?_replicate, List.length_append, List.length_replicate]
    split <;> split <;> split <;> (try split) <;> (try split) <;> first | rfl | omega | (simp; omega) | skip
theorem fillA_all (k : Nat) : fillA k k = List.replicate k 97 := by rw [fillA_eq k k (Nat.le_refl _)]; simp
theorem bytesRep (k : Nat) (x : Int) (h0 : 0 ≤ x) (h1 : x ≤ 255) : Bytes (List.replicate k x) := bytes_of_mem fun y hy => by
  obtain ⟨_, rfl⟩ := List.mem_replicate.1 hy
  exact ⟨h0, h1⟩
theorem run_make1000 (M : Nat) (hM : M = 1000) (w : World) : (Instr.makeSlice TB (.int .i64 1000) (.int .i64 1000)).run Tryd.prog w = .ok (.slice (some ⟨w.heap.size, 0, none⟩) M M) (w.alloc (.cells (nums .u8 (fillA M 0)).toArray 5)) := by
  obtain ⟨i, hi, hz⟩ := Option.map_eq_some_iff.1 info5
  simp only [Prod.mk.injEq] at hz
  obtain ⟨h1, h2, h3⟩ := hz
  subst hM
  rw [run_makeSlice w TB 5 i (.int .u8 0) Tryd.underlying22 hi h1 .i64 .i64 1000 1000 (by decide) (by decide) (by rw [h2]; decide) (by rw [h3]; decide) (by decide)]
  rw [h2, show madeCells (Value.int IntKind.u8 0).cells (Int.toNat 1000 * 1) = (nums .u8 (fillA 1000 0)).toArray from Array.toList_inj.1 (by rw [show (Value.int IntKind.u8 0).cells = #[.int .u8 0] from rfl, show Int.toNat 1000 * 1 = 1000 from rfl, toList_madeCells_one, fill0, nums, List.map_replicate])]
  rfl
set_option maxHeartbeats 8000000 in
set_option maxRecDepth 100000 in
theorem known_walk (W : World) (hK : KB W) :
    Calls Tryd.prog 5 #[] W fun e w' => e = .returned (.bool true) ∧ Below W.heap.size W w' := by
  obtain ⟨M, hM⟩ : ∃ M : Nat, M = 1000 := ⟨_, rfl⟩
  have hmk := run_make1000 M hM
  have HMM := Lib.hid hM
  have kc := fun (w : World) (C : Array Value) (n c : Nat) => Lib.run_convert_bytes_const (P := Tryd.prog) w TB 5 C n c Tryd.underlying22 Tryd.underlying5
  obtain ⟨D1, hD1⟩ : ∃ D : List Int, D = ofS [] := ⟨_, rfl⟩
  obtain ⟨D2, hD2⟩ : ∃ D : List Int, D = ofS L56 := ⟨_, rfl⟩
  obtain ⟨D3, hD3⟩ : ∃ D : List Int, D = ofS (List.replicate M 97) := ⟨_, rfl⟩
  have HD1 := Lib.hid hD1
  have HD2 := Lib.hid hD2
  have HD3 := Lib.hid hD3
  have HDL1 := Lib.hid (show D1.length = 32 by rw [hD1]; exact ofS_len _)
  have HDL2 := Lib.hid (show D2.length = 32 by rw [hD2]; exact ofS_len _)
  have HDL3 := Lib.hid (show D3.length = 32 by rw [hD3]; exact ofS_len _)
  have HDB1 := Lib.hid (show Bytes D1 by rw [hD1]; exact ofS_bytes _)
  have HDB2 := Lib.hid (show Bytes D2 by rw [hD2]; exact ofS_bytes _)
  have HDB3 := Lib.hid (show Bytes D3 by rw [hD3]; exact ofS_bytes _)
  have hT1 : strOfNums (texts D1 32) = ⟨#[101, 51, 98, 48, 99, 52, 52, 50, 57, 56, 102, 99, 49, 99, 49, 52, 57, 97, 102, 98, 102, 52, 99, 56, 57, 57, 54, 102, 98, 57, 50, 52, 50, 55, 97, 101, 52, 49, 101, 52, 54, 52, 57, 98, 57, 51, 52, 99, 97, 52, 57, 53, 57, 57, 49, 98, 55, 56, 53, 50, 98, 56, 53, 53]⟩ := by rw [hD1, text1]; rfl
  have hT2 : strOfNums (texts D2 32) = ⟨#[50, 52, 56, 100, 54, 97, 54, 49, 100, 50, 48, 54, 51, 56, 98, 56, 101, 53, 99, 48, 50, 54, 57, 51, 48, 99, 51, 101, 54, 48, 51, 57, 97, 51, 51, 99, 101, 52, 53, 57, 54, 52, 102, 102, 50, 49, 54, 55, 102, 54, 101, 99, 101, 100, 100, 52, 49, 57, 100, 98, 48, 54, 99, 49]⟩ := by rw [hD2, text2]; rfl
  have hT3 : strOfNums (texts D3 32) = ⟨#[52, 49, 101, 100, 101, 99, 101, 52, 50, 100, 54, 51, 101, 56, 100, 57, 98, 102, 53, 49, 53, 97, 57, 98, 97, 54, 57, 51, 50, 101, 49, 99, 50, 48, 99, 98, 99, 57, 102, 53, 97, 53, 100, 49, 51, 52, 54, 52, 53, 97, 100, 98, 53, 100, 98, 49, 98, 57, 55, 51, 55, 101, 97, 51]⟩ := by rw [hD3, hM, text3]; rfl
  have HT1 := Lib.hid hT1.symm
  have HT2 := Lib.hid hT2.symm
  have HT3 := Lib.hid hT3.symm
  have HK := Lib.hid hK
  have HB0 := Lib.hid (show Bytes [] from fun j => by simp [bn, rd])
  have HB2L := Lib.hid (show Bytes L56 from bytes_of_mem (by decide))
  have HB3L := Lib.hid (bytesRep M 97 (by decide) (by decide))
  have HRC := Lib.hid (show ∀ (W : World) (fz : Nat × Nat), RC (W.alloc (.cells #[.int .u8 97, .int .u8 98, .int .u8 99, .int .u8 100, .int .u8 98, .int .u8 99, .int .u8 100, .int .u8 101, .int .u8 99, .int .u8 100, .int .u8 101, .int .u8 102, .int .u8 100, .int .u8 101, .int .u8 102, .int .u8 103, .int .u8 101, .int .u8 102, .int .u8 103, .int .u8 104, .int .u8 102, .int .u8 103, .int .u8 104, .int .u8 105, .int .u8 103, .int .u8 104, .int .u8 105, .int .u8 106, .int .u8 104, .int .u8 105, .int .u8 106, .int .u8 107, .int .u8 105, .int .u8 106, .int .u8 107, .int .u8 108, .int .u8 106, .int .u8 107, .int .u8 108, .int .u8 109, .int .u8 107, .int .u8 108, .int .u8 109, .int .u8 110, .int .u8 108, .int .u8 109, .int .u8 110, .int .u8 111, .int .u8 109, .int .u8 110, .int .u8 111, .int .u8 112, .int .u8 110, .int .u8 111, .int .u8 112, .int .u8 113] 5 fz)) (some ⟨W.heap.size, 0, none⟩) L56 from fun W fz => bytes_new W 5 L56 fz)
  clear hK hD1 hD2 hD3 hT1 hT2 hT3 hM
  go_enter Tryd.func5, Tryd.ntmps5
  go_wp2
  go_loopw [2] (fun v2 wr => ∃ k : Nat, k ≤ M ∧ v2 = .int .i64 k ∧ wr.heap[W.heap.size]? = some (.cells (nums .u8 (fillA M k)).toArray 5 (0, 0)) ∧ Below W.heap.size W wr) (fun v2 _ => M - (intOf v2).toNat)
  case atStart => exact ⟨0, by omega, rfl, blk_new _ _, (Below.refl _ _).alloc (Nat.le_refl _) _⟩
  case round =>
    obtain ⟨k, hk, rfl, hm, hb⟩ := hrel
    have HM := Lib.hid hm
    have HB := Lib.hid hb
    clear hm hb
    by_cases hlt : k < M
    · have hlen := fillA_len M k
      have hS := Lib.hid (show fillA M (k + 1) = (fillA M k).set k 97 from rfl)
      obtain ⟨cv, hc⟩ : ∃ cv, wr.cell? ⟨W.heap.size, k, none⟩ = some (.int .u8 cv) := ⟨(fillA M k)[k]'(by omega), by rw [blk_cell HM.out]; simp [nums]⟩
      have hf := blk_frozen HM.out k
      have hM9 : (M : Int) ≤ 1000 := by have := HMM.out; omega
      clear hlen
      go_wp2
      go_roundw
      case rel =>
        refine ⟨k + 1, by omega, by go_num, ?_, HB.out.setCell (Nat.le_refl _) _⟩
        rw [blk_set HM.out, nums_set', hS.out]
      case measure => simp [intOf]; omega
    · have hkM : k = M := by omega
      have HRR := Lib.hid (show RC wr (some ⟨W.heap.size, 0, none⟩) (List.replicate M 97) by
        have h := HM.out
        rw [hkM, fillA_all] at h
        exact RC.row (rest := #[]) (by simpa using h))
      have HLN := Lib.hid (show M = (List.replicate M (97 : Int)).length by simp)
      have hM9 : M ≤ 1000 := by have := HMM.out; omega
      have HM9 := Lib.hid (show (List.replicate M (97 : Int)).length ≤ M by simp)
      have HM8 := Lib.hid (show (List.replicate M (97 : Int)).length ≤ 10000000 by simp; omega)
      go_wp2_with (first
        | (go_at_call 10; (with_reducible refine (of_n none 0 [] D1 0 _ rfl HD1.out (RC.nil _ _) (by decide) (by decide) HB0.out (HK.out.below HB.out)).mono ?_); rintro e w1 ⟨rfl, hb1⟩; have HX1 := Lib.hid (HB.out.trans (hb1.mono HB.out.size)); have HR1 := Lib.hid (HRR.out.below hb1); clear hb1)
        | (go_at_call 12; (with_reducible refine (text_gen D1 _ _ HDL1.out HDB1.out HT1.out).mono ?_); rintro e w2 ⟨rfl, hb2⟩; have HX2 := Lib.hid (HX1.out.trans (hb2.mono HX1.out.size)); have HR2 := Lib.hid (HR1.out.below hb2); clear hb2)
        | (go_at_call 10; (with_reducible refine (of_n _ 56 L56 D2 56 _ rfl HD2.out (HRC.out w2 _) (by decide) (by decide) HB2L.out (HK.out.below (HX2.out.alloc HX2.out.size _))).mono ?_); rintro e w3 ⟨rfl, hb3⟩; have HX3 := Lib.hid (below_then (HX2.out.alloc HX2.out.size _) (by have := HX2.out.size; simp; omega) hb3); have HR3 := Lib.hid ((HR2.out.below ((Below.refl _ _).alloc (Nat.le_refl _) _)).below hb3); clear hb3)
        | (go_at_call 12; (with_reducible refine (text_gen D2 _ _ HDL2.out HDB2.out HT2.out).mono ?_); rintro e w4 ⟨rfl, hb4⟩; have HX4 := Lib.hid (HX3.out.trans (hb4.mono HX3.out.size)); have HR4 := Lib.hid (HR3.out.below hb4); clear hb4)
        | (go_at_call 10; (with_reducible refine (of_n _ M _ D3 M _ HLN.out HD3.out HR4.out HM9.out HM8.out HB3L.out (HK.out.below HX4.out)).mono ?_); rintro e w5 ⟨rfl, hb5⟩; have HX5 := Lib.hid (HX4.out.trans (hb5.mono HX4.out.size)); clear hb5)
        | (go_at_call 12; (with_reducible refine (text_gen D3 _ _ HDL3.out HDB3.out HT3.out).mono ?_); rintro e w6 ⟨rfl, hb6⟩; have HX6 := Lib.hid (HX5.out.trans (hb6.mono HX5.out.size)); clear hb6)
        | (go_at_call 9; (with_reducible refine (wakes_any _ (HK.out.below HX6.out)).mono ?_); rintro e w7 ⟨rfl, hb7⟩; have HX7 := Lib.hid (HX6.out.trans (hb7.mono HX6.out.size)); clear hb7))
      go_ret
      exact ⟨rfl, HX7.out⟩
#print axioms known_walk
end Go.Proofs.YthgmhjgbjodhjaaDoor.Known
