/- The digest of bytes, and a digest's text. -/
import Derived.Test.YthgmhjgbjodhjaaDoorSha4
namespace Go.Proofs.YthgmhjgbjodhjaaDoor.Sha5
open Go.Proofs.YthgmhjgbjodhjaaDoor Go.RowKit Go.Proofs.YthgmhjgbjodhjaaDoorW.PrintWords Go.Proofs.YthgmhjgbjodhjaaDoorW.PrintLast Go.Proofs.YthgmhjgbjodhjaaDoorW.PrintMore Go.Proofs.YthgmhjgbjodhjaaDoor.Sha Go.Proofs.YthgmhjgbjodhjaaDoor.Sha2 Go.Proofs.YthgmhjgbjodhjaaDoor.Sha3 Go.Proofs.YthgmhjgbjodhjaaDoor.Own Go.Proofs.YthgmhjgbjodhjaaDoor.Sha4
set_option linter.unusedVariables false
set_option linter.unusedSimpArgs false

/-- The digest of bytes. -/
def ofS (l : List Int) : List Int := final (eaten IV l) (left l) l.length

theorem left_bytes {l : List Int} (h : Bytes l) : Bytes (left l) := bytes_drop h _

set_option maxHeartbeats 4000000 in
set_option maxRecDepth 100000 in
theorem of_gen (A : Option Addr) (c : Nat) (l R : List Int) (W : World) (hRF : R = ofS l) (hA : RC W A l) (hc : l.length ≤ c) (hl : l.length ≤ 10000000) (hB : Bytes l) (hK : KB W) :
    Calls Tryd.prog 10 #[.slice A l.length c] W fun e w' => e = .returned (.agg (nums .u8 R).toArray) ∧ Below W.heap.size W w' := by
  have hz : ∀ w, (zeroValue T32).run Tryd.prog w = .ok (.agg Z32) w := fun _ => by kernel_rfl
  have HA := Lib.hid hA
  have HBY := Lib.hid hB
  have HK := Lib.hid hK
  have hRl : R.length = 32 := by rw [hRF]; exact sums_len _ _
  have HR := Lib.hid (show R = final (eaten IV ([] ++ l)) (left ([] ++ l)) (0 + l.length) by rw [hRF, Nat.zero_add, List.nil_append]; unfold ofS; exact Eq.refl _)
  have HI := Lib.hid (show (Tryd.prog.info? T32).map (·.size) = some (nums .u8 R).toArray.size by rw [show (nums .u8 R).toArray.size = 32 by simp [nums, hRl]]; exact info32)
  have HT := Lib.hid (show Z32.size = (nums .u8 R).toArray.size by rw [show (nums .u8 R).toArray.size = 32 by simp [nums, hRl]]; rfl)
  have HE8 := Lib.hid (show (eaten IV ([] ++ l)).length = 8 by unfold eaten; exact eats_len _ rfl _)
  have HLB := Lib.hid (show Bytes (left ([] ++ l)) from left_bytes hB)
  have HLL := Lib.hid (show (left ([] ++ l)).length < 64 from left_len _)
  have HB0 := Lib.hid (show Bytes [] from fun j => by simp [bn, rd])
  clear hA hB hK hRF hRl
  go_enter Tryd.func10, Tryd.ntmps10
  go_wp2_with (first
    | (go_at_call 14; (with_reducible refine (new_at IV [] 0 ⟨rfl, rfl, rfl⟩ _).mono ?_); rintro e w1 ⟨g1, rfl, hg1, hh1, hb1⟩; have HH1 := Lib.hid hh1; have HB1 := Lib.hid (below_then ((Below.refl _ _).alloc (Nat.le_refl _) _) (by simp) hb1); have HZ1 := Lib.hid (blk_below (blk_new W (.cells Z32 T32)) hb1); have HG1 := Lib.hid hg1; have HA1 := Lib.hid ((HA.out.below ((Below.refl _ _).alloc (Nat.le_refl _) _)).below hb1); have HK1 := Lib.hid ((HK.out.below ((Below.refl _ _).alloc (Nat.le_refl _) _)).below hb1); clear hh1 hb1 hg1; have HOFF := Lib.hid ((HA.out.below ((Below.refl _ _).alloc (Nat.le_refl _) (.cells Z32 T32))).off HG1.out))
    | (go_at_call 15; (with_reducible refine (write_any g1 IV [] l 0 A c _ rfl HB0.out HBY.out (by simp) (by omega) (by omega) (by have := HG1.out; simp at this; omega) HK1.out HH1.out HA1.out HOFF.out hc).mono ?_); rintro e w2 ⟨rfl, hh2, hw2⟩; have HH2 := Lib.hid hh2; have HW2 := Lib.hid hw2; clear hh2 hw2)
    | (go_at_call 16; (with_reducible refine (sum_gen g1 _ _ _ R _ HR.out HE8.out HLB.out HLL.out (by omega) (HK1.out.wrote HW2.out (by have := HG1.out; simp at this; omega)) HH2.out).mono ?_); rintro e w3 ⟨rfl, hb3⟩; have HB3 := Lib.hid hb3; have HZ3 := Lib.hid (blk_below ((HW2.out.block W.heap.size (blk_lt HZ1.out) (by have := HG1.out; simp at this; omega)).trans HZ1.out) hb3); clear hb3)
    | (refine wpList_store_row rfl T32 (.tmp 2) (.tmp 9) rfl W.heap.size (nums .u8 R).toArray rfl rfl T32 Z32 HZ3.out HI.out HT.out (bytes_one R) ?_))
  have HRR := setRow_heap w3 W.heap.size Z32 (nums .u8 R).toArray T32 (0, 0) HZ3.out
  refine bodyPost_ret (v := .agg (nums .u8 R).toArray) (results_cell_row rfl _ _ W.heap.size T32 _ (0, 0) _ rfl HRR Tryd.underlying23 rfl HI.out) rfl ⟨rfl, ?_⟩
  have b1 : Below W.heap.size W w2 := HB1.out.trans (HW2.out.below (by have := HG1.out; simp at this; omega) HB1.out.size)
  exact below_setRow (b1.trans (HB3.out.mono b1.size)) (Nat.le_refl _) _

theorem of_any (A : Option Addr) (c : Nat) (l : List Int) (W : World) (hA : RC W A l) (hc : l.length ≤ c) (hl : l.length ≤ 10000000) (hB : Bytes l) (hK : KB W) :
    Calls Tryd.prog 10 #[.slice A l.length c] W fun e w' => e = .returned (.agg (nums .u8 (ofS l)).toArray) ∧ Below W.heap.size W w' :=
  of_gen A c l _ W rfl hA hc hl hB hK

/-- The sixteen digits. -/
def DIG : List Int := [48, 49, 50, 51, 52, 53, 54, 55, 56, 57, 97, 98, 99, 100, 101, 102]
/-- A digest's text, below k. -/
def texts (d : List Int) : Nat → List Int
  | 0 => []
  | k + 1 => texts d k ++ [rd DIG (bn d k / 16), rd DIG (Go.bits .and .u8 (bn d k) 15)]
theorem texts_len (d : List Int) (k : Nat) : (texts d k).length = 2 * k := by
  induction k with
  | zero => rfl
  | succ k ih => show (texts d k ++ _).length = _; rw [List.length_append, ih]; simp; omega

theorem run_index_nums8 {P : Program} (t e : TypeId) (n : Nat) (l : List Int) (i : Nat) (w : World) (ht : P.underlying t = some (.array n e)) (he : P.underlying e = some (.int .u8)) (hs : (P.info? e).map (·.size) = some 1) (hl : l.length = n) (hi : i < n) :
    (Instr.index t (.agg (nums .u8 l).toArray) (.int .i64 (i : Int))).run P w = .ok (.int .u8 (bn l i)) w := by
  cases hq : P.info? e with
  | none => simp [hq] at hs
  | some f =>
    have hf : f.size = 1 := by simpa [hq] using hs
    have hagg : (isAgg e).run P w = .ok false w := by
      unfold isAgg
      rw [Sem.run_bind, run_underlying he w]
      rfl
    have hc : (nums .u8 l)[i]? = some (.int .u8 (bn l i)) := by
      unfold bn rd
      simp only [nums, List.getElem?_map]
      rw [List.getElem?_eq_getElem (by omega), Int.toNat_natCast, List.getD_eq_getElem?_getD, List.getElem?_eq_getElem (by omega)]
      rfl
    simp [Instr.index, asIntOf, Sem.run_bind, run_underlying ht w, hagg, part, sizeOf, typeInfo, hq, hf, hc, hi]
theorem info1 : (Tryd.prog.info? 5).map (·.size) = some 1 := by kernel_rfl

def SD : ByteArray := ⟨#[48, 49, 50, 51, 52, 53, 54, 55, 56, 57, 97, 98, 99, 100, 101, 102]⟩
theorem run_digit (x : Int) (h0 : 0 ≤ x) (h1 : x < 16) (w : World) : (Instr.index 9 (.string SD) (.int .u8 x)).run Tryd.prog w = .ok (.int .u8 (rd DIG x)) w := by
  obtain ⟨j, rfl⟩ := Int.eq_ofNat_of_zero_le h0
  have hj : j < 16 := by omega
  have hall : ∀ j : Nat, j < 16 → (SD[j]?.map (fun b => (b.toNat : Int))) = some (rd DIG (j : Int)) := by decide
  obtain ⟨b, hb, hd⟩ := Option.map_eq_some_iff.mp (hall j hj)
  simp [Instr.index, asIntOf, Sem.run_bind, run_underlying Tryd.underlying9 w, hb, hd]

theorem bits8_range15 (x : Int) (h0 : 0 ≤ x) (h1 : x ≤ 255) : 0 ≤ Go.bits .and .u8 x 15 ∧ Go.bits .and .u8 x 15 < 16 := by
  have h := bits_mask .u8 8 (by decide) wraps_u8 4 (by decide) x h0 (by omega)
  have h2 : ((2 : Int) ^ 4 - 1) = 15 := by decide
  rw [h2] at h
  rw [h]; omega

set_option maxHeartbeats 4000000 in
set_option maxRecDepth 100000 in
theorem text_gen (d : List Int) (T : ByteArray) (W : World) (hd : d.length = 32) (hB : Bytes d) (hT : T = strOfNums (texts d 32)) :
    Calls Tryd.prog 12 #[.agg (nums .u8 d).toArray] W fun e w' => e = .returned (.string T) ∧ Below W.heap.size W w' := by
  have HD := Lib.hid hd
  have HBY := Lib.hid hB
  have HT := Lib.hid hT
  have HI := Lib.hid (show (Tryd.prog.info? T32).map (·.size) = some (nums .u8 d).toArray.size by rw [show (nums .u8 d).toArray.size = 32 by simp [nums, hd]]; exact info32)
  clear hd hB hT
  go_enter Tryd.func12, Tryd.ntmps12
  go_wp2_with ((with_reducible refine gate_dst (N := 6) rfl ?_); refine wpList_load_row rfl T32 (.tmp 1) rfl W.heap.size rfl T32 _ (0, 0) _ (blk_new _ _) Tryd.underlying23 rfl HI.out ?_)
  go_loopw [3, 7] (fun v3 v7 wr => ∃ k : Nat, k ≤ 32 ∧ v7 = .int .i64 k ∧ OWN wr W.heap.size v3 (texts d k) ∧ Below W.heap.size W wr) (fun _ v7 _ => 32 - (intOf v7).toNat)
  case atStart => exact ⟨0, by omega, rfl, OWN.none _ _, (Below.refl _ _).alloc (Nat.le_refl _) _⟩
  case round =>
    obtain ⟨k, hk, rfl, ho, hb⟩ := hrel
    have HO := Lib.hid ho
    have HB := Lib.hid hb
    clear ho hb
    by_cases hlt : k < 32
    · have hix : ∀ w : World, (Instr.index T32 (.agg (nums .u8 d).toArray) (.int .i64 (k : Int))).run Tryd.prog w = .ok (.int .u8 (bn d k)) w := fun w => run_index_nums8 (P := Tryd.prog) T32 5 32 d k w Tryd.underlying23 Tryd.underlying5 info1 HD.out hlt
      obtain ⟨b0, b1⟩ := HBY.out k
      have hS := Lib.hid (show texts d (k + 1) = texts d k ++ [rd DIG (bn d k / 16), rd DIG (Go.bits .and .u8 (bn d k) 15)] from rfl)
      have hL := Lib.hid (texts_len d k)
      generalize bn d k = x at hix b0 b1 hS
      have ha := bits8_range15 x b0 b1
      have d1 : ∀ w : World, (Instr.index 9 (.string SD) (.int .u8 (x / 16))).run Tryd.prog w = .ok (.int .u8 (rd DIG (x / 16))) w := fun w => run_digit _ (by omega) (by omega) w
      have d2 : ∀ w : World, (Instr.index 9 (.string SD) (.int .u8 (Go.bits .and .u8 x 15))).run Tryd.prog w = .ok (.int .u8 (rd DIG (Go.bits .and .u8 x 15))) w := fun w => run_digit _ ha.1 ha.2 w
      unfold SD at d1 d2
      clear ha
      go_wp2
      refine start_ (n := 10) (S := fun w' => True) (ds := []) #[false, false, false, false, false, false, false, false, false, false] (by kernel_rfl) rfl rfl trivial (fun hHeld => ?_)
      refine pure_ (i := 0) (N := some 10) (v := ?_) (a' := ?_) #[true, false, false, false, false, false, false, false, false, false] rfl rfl (by kernel_rfl) (fun _ _ _ h => h) (Or.inl ⟨by rfl, ?_⟩) ?_ ?_
      rotate_left
      · intro w'
        go_simp
        (first | (with_reducible rfl) | ((try simp only [*]); (with_reducible rfl)))
      rotate_left
      · simp only [Act.put, List.setIfInBounds_toArray, List.set_cons_zero, List.set_cons_succ, i64_w, i32_w]
        rfl
      refine pure_ (i := 1) (N := some 11) (v := ?_) (a' := ?_) #[true, true, false, false, false, false, false, false, false, false] rfl rfl (by kernel_rfl) (fun _ _ _ h => h) (Or.inl ⟨by rfl, ?_⟩) ?_ ?_
      rotate_left
      · intro w'
        go_simp
        (first | (with_reducible rfl) | ((try simp only [*]); (with_reducible rfl)))
      rotate_left
      · simp only [Act.put, List.setIfInBounds_toArray, List.set_cons_zero, List.set_cons_succ, i64_w, i32_w]
        rfl
      refine pure_ (i := 2) (N := some 12) (v := ?_) (a' := ?_) #[true, true, true, false, false, false, false, false, false, false] rfl rfl (by kernel_rfl) (fun _ _ _ h => h) (Or.inl ⟨by rfl, ?_⟩) ?_ ?_
      rotate_left
      · intro w'
        go_simp
        (first | (with_reducible rfl) | ((try simp only [*]); (with_reducible rfl)))
      rotate_left
      · simp only [Act.put, List.setIfInBounds_toArray, List.set_cons_zero, List.set_cons_succ, i64_w, i32_w]
        rfl
      refine pure_ (i := 4) (N := some 14) (v := ?_) (a' := ?_) #[true, true, true, false, true, false, false, false, false, false] rfl rfl (by kernel_rfl) (fun _ _ _ h => h) (Or.inl ⟨by rfl, ?_⟩) ?_ ?_
      rotate_left
      · intro w'
        go_simp
        (first | (with_reducible rfl) | ((try simp only [*]); (with_reducible rfl)))
      rotate_left
      · simp only [Act.put, List.setIfInBounds_toArray, List.set_cons_zero, List.set_cons_succ, i64_w, i32_w]
        rfl
      refine pure_ (i := 5) (N := some 15) (v := ?_) (a' := ?_) #[true, true, true, false, true, true, false, false, false, false] rfl rfl (by kernel_rfl) (fun _ _ _ h => h) (Or.inl ⟨by rfl, ?_⟩) ?_ ?_
      rotate_left
      · intro w'
        go_simp
        (first | (with_reducible rfl) | ((try simp only [*]); (with_reducible rfl)))
      rotate_left
      · simp only [Act.put, List.setIfInBounds_toArray, List.set_cons_zero, List.set_cons_succ, i64_w, i32_w]
        rfl
      refine take_ (i := 3) (N := some 13) (v := ?_) (a' := ?_) #[true, true, true, true, true, true, false, false, false, false] rfl rfl (by kernel_rfl) (fun _ _ _ h => h) (Or.inl ⟨by rfl, ?_⟩) hHeld ?_ ?_
      rotate_left
      · intro w' _
        go_simp
        (first | (with_reducible rfl) | ((try simp only [*]); (with_reducible rfl)))
      rotate_left
      · simp only [Act.put, List.setIfInBounds_toArray, List.set_cons_zero, List.set_cons_succ, i64_w, i32_w]
        rfl
      refine take_ (i := 6) (N := some 16) (v := ?_) (a' := ?_) #[true, true, true, true, true, true, true, false, false, false] rfl rfl (by kernel_rfl) (fun _ _ _ h => h) (Or.inl ⟨by rfl, ?_⟩) hHeld ?_ ?_
      rotate_left
      · intro w' _
        go_simp
        (first | (with_reducible rfl) | ((try simp only [*]); (with_reducible rfl)))
      rotate_left
      · simp only [Act.put, List.setIfInBounds_toArray, List.set_cons_zero, List.set_cons_succ, i64_w, i32_w]
        rfl
      refine one_ (i := 7) (N := some 17) #[true, true, true, true, true, true, true, true, false, false] rfl rfl (by kernel_rfl) (by decide) (fun K hK => ?_)
      refine value_ (w1 := ?_) (v := ?_) (by rfl) rfl ?_ ?_
      rotate_left 2
      · go_simp
        constructor
        · rfl
        · rfl
      refine hK.out _ _ trivial (fun hHeld => ?_)
      clear hK K
      refine norm_ (a' := ?_) ?_ ?_
      rotate_left
      · show Act.put _ (some 17) _ = _
        simp only [Act.put, List.setIfInBounds_toArray, List.set_cons_zero, List.set_cons_succ, i64_w, i32_w]
        rfl
      refine one_ (i := 8) (N := some 18) #[true, true, true, true, true, true, true, true, true, false] rfl rfl (by kernel_rfl) (by decide) (fun K hK => ?_)
      refine own_append_step (w0 := W) (by rfl) (.tmp 10) (.tmp 17) rfl W.heap.size _ _ [rd DIG (x / 16), rd DIG (Go.bits .and .u8 x 15)] _ _ rfl rfl (HO.out.drew.alloc _) (bytes_new wr.drew 5 [rd DIG (x / 16), rd DIG (Go.bits .and .u8 x 15)] (0, 0)) ((below_drew1 HB.out).alloc HB.out.size _) (by have := HB.out.size; simp; omega) (by rw [hL.out]; simp; omega) ?_
      intro v8 w8 ho8 hb8 hg8
      have HO8 := Lib.hid ho8
      have HB8 := Lib.hid hb8
      clear ho8 hb8 hg8
      refine hK.out _ _ trivial (fun hHeld => ?_)
      clear hK K
      refine norm_ (a' := ?_) ?_ ?_
      rotate_left
      · show Act.put _ (some 18) _ = _
        simp only [Act.put, List.setIfInBounds_toArray, List.set_cons_zero, List.set_cons_succ, i64_w, i32_w]
        rfl
      refine pure_ (i := 9) (N := some 3) (v := ?_) (a' := ?_) #[true, true, true, true, true, true, true, true, true, true] rfl rfl (by kernel_rfl) (fun _ _ _ h => h) (Or.inl ⟨by rfl, ?_⟩) ?_ ?_
      rotate_left
      · intro w'
        go_simp
        (first | (with_reducible rfl) | ((try simp only [*]); (with_reducible rfl)))
      rotate_left
      · simp only [Act.put, List.setIfInBounds_toArray, List.set_cons_zero, List.set_cons_succ, i64_w, i32_w]
        rfl
      refine done_ (by kernel_rfl) ?_
      go_wp2
      go_roundw
      case rel => exact ⟨k + 1, by omega, by go_num, by rw [hS.out]; exact HO8.out, HB8.out⟩
      case measure => simp [intOf]; omega
    · have HK := Lib.hid (show k = 32 by omega)
      have ho := HO.out
      rw [show k = 32 from HK.out] at ho
      have hlen := texts_len d 32
      obtain ⟨X, hX⟩ : ∃ X : List Int, X = texts d 32 := ⟨_, rfl⟩
      have HTX := Lib.hid (show T = strOfNums X by rw [HT.out, hX])
      rw [← hX] at ho hlen
      obtain ⟨A, c, rfl, hc, hrc, _⟩ := ho.form
      have hcv := Kd.C_string (P := Tryd.prog) Tryd.underlying22 Tryd.underlying5 Tryd.underlying9 (c := c) (hrc.to_C (by omega))
      rw [← HTX.out] at hcv
      clear hX ho hrc hlen HO HT
      go_wp2
      go_ret
      exact ⟨rfl, HB.out⟩

theorem text_any (d : List Int) (W : World) (hd : d.length = 32) (hB : Bytes d) :
    Calls Tryd.prog 12 #[.agg (nums .u8 d).toArray] W fun e w' => e = .returned (.string (strOfNums (texts d 32))) ∧ Below W.heap.size W w' :=
  text_gen d _ W hd hB rfl
end Go.Proofs.YthgmhjgbjodhjaaDoor.Sha5
