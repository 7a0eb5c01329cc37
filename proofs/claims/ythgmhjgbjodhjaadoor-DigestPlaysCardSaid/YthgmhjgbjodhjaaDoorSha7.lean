/- The document's own digest of bytes, and text. -/
import Derived.Test.YthgmhjgbjodhjaaDoorSha6
namespace Go.Proofs.YthgmhjgbjodhjaaDoor.Sha7
open Go.Proofs.YthgmhjgbjodhjaaDoor Go.RowKit Go.Proofs.YthgmhjgbjodhjaaDoorW.PrintWords Go.Proofs.YthgmhjgbjodhjaaDoorW.PrintLast Go.Proofs.YthgmhjgbjodhjaaDoorW.PrintMore Go.Proofs.YthgmhjgbjodhjaaDoor.Sha Go.Proofs.YthgmhjgbjodhjaaDoor.Sha2 Go.Proofs.YthgmhjgbjodhjaaDoor.Sha3 Go.Proofs.YthgmhjgbjodhjaaDoor.Own Go.Proofs.YthgmhjgbjodhjaaDoor.Sha4 Go.Proofs.YthgmhjgbjodhjaaDoor.Sha5 Go.Proofs.YthgmhjgbjodhjaaDoor.Sha6
set_option linter.unusedVariables false
set_option linter.unusedSimpArgs false

theorem cells8 {w : World} {b : Nat} {l : List Int} {t : TypeId} (h : w.heap[b]? = some (.cells (nums .u8 l).toArray t (0, 0))) (j : Nat) (hj : j < l.length) : w.cell? ⟨b, j, none⟩ = some (.int .u8 (bn l j)) := by
  rw [blk_cell h, List.getElem?_toArray]
  unfold bn rd
  simp only [nums, List.getElem?_map]
  rw [List.getElem?_eq_getElem hj, Int.toNat_natCast, List.getD_eq_getElem?_getD, List.getElem?_eq_getElem hj]
  rfl
theorem exec_load {P : Program} {o : Oper} {a : Act} {w : World} {ty : TypeId} {x : Operand} {g : Addr} {v : Value} (ho : o.op = .load ty x) (hx : a.eval x = .pointer (some g)) (h : (loadVar ty g).run P w = .ok v w) : (execOp a.eval o).run P w = .ok (.value v) w := by
  unfold execOp
  simp only [ho, hx, Instr.loadAt, Instr.sureAddr, Sem.run_bind, Sem.run_pure, Result.andThen_ok, h]
theorem exec_store_row {P : Program} {o : Oper} {a : Act} {w : World} {ty : TypeId} {x y : Operand} {g : Nat} {cells : Array Value} {t : TypeId} {old : Array Value} (ho : o.op = .store ty x y) (hx : a.eval x = .pointer (some ⟨g, 0, none⟩)) (hy : a.eval y = .agg cells)
    (hg : w.heap[g]? = some (.cells old t (0, 0))) (hi : (P.info? ty).map (·.size) = some cells.size) (hold : old.size = cells.size) (h1 : cells.all (·.oneCell') = true) : (execOp a.eval o).run P w = .ok .skip (w.setRow g cells) := by
  unfold execOp
  simp only [ho, hx, hy, Instr.storeAt, Instr.sureAddr, Sem.run_bind, Sem.run_pure, Result.andThen_ok, run_storeVar_row w g t ty old cells hg hi hold h1]

set_option maxHeartbeats 4000000 in
set_option maxRecDepth 100000 in
theorem rtext_gen (d : List Int) (T : ByteArray) (W : World) (hd : d.length = 32) (hB : Bytes d) (hT : T = strOfNums (texts d 32)) :
    Calls Tryd.prog 13 #[.agg (nums .u8 d).toArray] W fun e w' => e = .returned (.string T) ∧ Below W.heap.size W w' := by
  have HD := Lib.hid hd
  have HBY := Lib.hid hB
  have HT := Lib.hid hT
  clear hd hB hT
  go_enter Tryd.func13, Tryd.ntmps13
  go_wp2
  go_loopw [3, 4] (fun v3 v4 wr => ∃ k : Nat, k ≤ 32 ∧ v4 = .int .i64 k ∧ wr.heap[W.heap.size]? = some (.cells (nums .u8 d).toArray T32 (0, 0)) ∧ OWN wr (W.heap.size + 1) v3 (texts d k) ∧ Below (W.heap.size + 1) (W.alloc (.cells (nums .u8 d).toArray T32)) wr) (fun _ v4 _ => 32 - (intOf v4).toNat)
  case atStart => exact ⟨0, by omega, rfl, blk_new _ _, OWN.none _ _, Below.refl _ _⟩
  case round =>
    obtain ⟨k, hk, rfl, hm, ho, hb⟩ := hrel
    have HM := Lib.hid hm
    have HO := Lib.hid ho
    have HB := Lib.hid hb
    by_cases hlt : k < 32
    · have hx := cells8 hm k (by rw [HD.out]; exact hlt)
      obtain ⟨b0, b1⟩ := HBY.out k
      have hS := Lib.hid (show texts d (k + 1) = texts d k ++ [rd DIG (bn d k / 16), rd DIG (Go.bits .and .u8 (bn d k) 15)] from rfl)
      have hL := Lib.hid (texts_len d k)
      generalize bn d k = x at hx b0 b1 hS
      have ha := bits8_range15 x b0 b1
      have d1 : ∀ w : World, (Instr.index 9 (.string SD) (.int .u8 (x / 16))).run Tryd.prog w = .ok (.int .u8 (rd DIG (x / 16))) w := fun w => run_digit _ (by omega) (by omega) w
      have d2 : ∀ w : World, (Instr.index 9 (.string SD) (.int .u8 (Go.bits .and .u8 x 15))).run Tryd.prog w = .ok (.int .u8 (rd DIG (Go.bits .and .u8 x 15))) w := fun w => run_digit _ ha.1 ha.2 w
      unfold SD at d1 d2
      have hk32 : (k : Int) < 32 := by omega
      have p0 : wr.drew.cell? ⟨W.heap.size, k, none⟩ = some (.int .u8 x) := hx
      have HSB := Lib.hid hb.size
      clear ha hm ho hb
      go_wp2
      refine start_ (n := 14) (S := fun w' => w'.cell? ⟨W.heap.size, k, none⟩ = some (.int .u8 x)) (ds := []) #[false, false, false, false, false, false, false, false, false, false, false, false, false, false] (by kernel_rfl) rfl rfl (p0) (fun hHeld => ?_)
      refine pure_ (i := 0) (N := some 9) (v := ?_) (a' := ?_) #[true, false, false, false, false, false, false, false, false, false, false, false, false, false] rfl rfl (by kernel_rfl) (fun _ _ _ h => h) (Or.inl ⟨by rfl, ?_⟩) ?_ ?_
      rotate_left
      · intro w'
        go_simp
        (first | (with_reducible rfl) | ((try simp only [*]); (with_reducible rfl)))
      rotate_left
      · simp only [Act.put, List.setIfInBounds_toArray, List.set_cons_zero, List.set_cons_succ, i64_w, i32_w]
        rfl
      refine pure_ (i := 1) (N := some 10) (v := ?_) (a' := ?_) #[true, true, false, false, false, false, false, false, false, false, false, false, false, false] rfl rfl (by kernel_rfl) (fun _ _ _ h => h) (Or.inl ⟨by rfl, ?_⟩) ?_ ?_
      rotate_left
      · intro w'
        go_simp
        (first | (with_reducible rfl) | ((try simp only [*]); (with_reducible rfl)))
      rotate_left
      · simp only [Act.put, List.setIfInBounds_toArray, List.set_cons_zero, List.set_cons_succ, i64_w, i32_w]
        rfl
      refine pure_ (i := 2) (N := some 11) (v := ?_) (a' := ?_) #[true, true, true, false, false, false, false, false, false, false, false, false, false, false] rfl rfl (by kernel_rfl) (fun _ _ _ h => h) (Or.inl ⟨by rfl, ?_⟩) ?_ ?_
      rotate_left
      · intro w'
        go_simp
        (first | (with_reducible rfl) | ((try simp only [*]); (with_reducible rfl)))
      rotate_left
      · simp only [Act.put, List.setIfInBounds_toArray, List.set_cons_zero, List.set_cons_succ, i64_w, i32_w]
        rfl
      refine pure_ (i := 6) (N := some 15) (v := ?_) (a' := ?_) #[true, true, true, false, false, false, true, false, false, false, false, false, false, false] rfl rfl (by kernel_rfl) (fun _ _ _ h => h) (Or.inl ⟨by rfl, ?_⟩) ?_ ?_
      rotate_left
      · intro w'
        go_simp
        (first | (with_reducible rfl) | ((try simp only [*]); (with_reducible rfl)))
      rotate_left
      · simp only [Act.put, List.setIfInBounds_toArray, List.set_cons_zero, List.set_cons_succ, i64_w, i32_w]
        rfl
      refine pure_ (i := 7) (N := some 16) (v := ?_) (a' := ?_) #[true, true, true, false, false, false, true, true, false, false, false, false, false, false] rfl rfl (by kernel_rfl) (fun _ _ _ h => h) (Or.inl ⟨by rfl, ?_⟩) ?_ ?_
      rotate_left
      · intro w'
        go_simp
        (first | (with_reducible rfl) | ((try simp only [*]); (with_reducible rfl)))
      rotate_left
      · simp only [Act.put, List.setIfInBounds_toArray, List.set_cons_zero, List.set_cons_succ, i64_w, i32_w]
        rfl
      refine take_ (i := 3) (N := some 12) (v := ?_) (a' := ?_) #[true, true, true, true, false, false, true, true, false, false, false, false, false, false] rfl rfl (by kernel_rfl) (fun _ _ _ h => h) (Or.inl ⟨by rfl, ?_⟩) hHeld ?_ ?_
      rotate_left
      · intro w' s0
        go_simp
        (first | (with_reducible rfl) | ((try simp only [*]); (with_reducible rfl)))
      rotate_left
      · simp only [Act.put, List.setIfInBounds_toArray, List.set_cons_zero, List.set_cons_succ, i64_w, i32_w]
        rfl
      refine pure_ (i := 4) (N := some 13) (v := ?_) (a' := ?_) #[true, true, true, true, true, false, true, true, false, false, false, false, false, false] rfl rfl (by kernel_rfl) (fun _ _ _ h => h) (Or.inl ⟨by rfl, ?_⟩) ?_ ?_
      rotate_left
      · intro w'
        go_simp
        (first | (with_reducible rfl) | ((try simp only [*]); (with_reducible rfl)))
      rotate_left
      · simp only [Act.put, List.setIfInBounds_toArray, List.set_cons_zero, List.set_cons_succ, i64_w, i32_w]
        rfl
      refine take_ (i := 5) (N := some 14) (v := ?_) (a' := ?_) #[true, true, true, true, true, true, true, true, false, false, false, false, false, false] rfl rfl (by kernel_rfl) (fun _ _ _ h => h) (Or.inl ⟨by rfl, ?_⟩) hHeld ?_ ?_
      rotate_left
      · intro w' s0
        go_simp
        (first | (with_reducible rfl) | ((try simp only [*]); (with_reducible rfl)))
      rotate_left
      · simp only [Act.put, List.setIfInBounds_toArray, List.set_cons_zero, List.set_cons_succ, i64_w, i32_w]
        rfl
      refine take_ (i := 8) (N := some 17) (v := ?_) (a' := ?_) #[true, true, true, true, true, true, true, true, true, false, false, false, false, false] rfl rfl (by kernel_rfl) (fun _ _ _ h => h) (Or.inl ⟨by rfl, ?_⟩) hHeld ?_ ?_
      rotate_left
      · intro w' s0
        go_simp
        (first | (with_reducible rfl) | ((try simp only [*]); (with_reducible rfl)))
      rotate_left
      · simp only [Act.put, List.setIfInBounds_toArray, List.set_cons_zero, List.set_cons_succ, i64_w, i32_w]
        rfl
      refine pure_ (i := 9) (N := some 18) (v := ?_) (a' := ?_) #[true, true, true, true, true, true, true, true, true, true, false, false, false, false] rfl rfl (by kernel_rfl) (fun _ _ _ h => h) (Or.inl ⟨by rfl, ?_⟩) ?_ ?_
      rotate_left
      · intro w'
        go_simp
        (first | (with_reducible rfl) | ((try simp only [*]); (with_reducible rfl)))
      rotate_left
      · simp only [Act.put, List.setIfInBounds_toArray, List.set_cons_zero, List.set_cons_succ, i64_w, i32_w]
        rfl
      refine take_ (i := 10) (N := some 19) (v := ?_) (a' := ?_) #[true, true, true, true, true, true, true, true, true, true, true, false, false, false] rfl rfl (by kernel_rfl) (fun _ _ _ h => h) (Or.inl ⟨by rfl, ?_⟩) hHeld ?_ ?_
      rotate_left
      · intro w' s0
        go_simp
        (first | (with_reducible rfl) | ((try simp only [*]); (with_reducible rfl)))
      rotate_left
      · simp only [Act.put, List.setIfInBounds_toArray, List.set_cons_zero, List.set_cons_succ, i64_w, i32_w]
        rfl
      refine one_ (i := 11) (N := some 20) #[true, true, true, true, true, true, true, true, true, true, true, true, false, false] rfl rfl (by kernel_rfl) (by decide) (fun K hK => ?_)
      refine value_ (w1 := ?_) (v := ?_) (by rfl) rfl ?_ ?_
      rotate_left 2
      · go_simp
        constructor
        · rfl
        · rfl
      have q0 : (wr.drew.alloc (.cells #[.int .u8 (rd DIG (x / 16)), .int .u8 (rd DIG (Go.bits .and .u8 x 15))] 5)).cell? ⟨W.heap.size, k, none⟩ = some (.int .u8 x) := (World.cell?_of_block (w := wr) ((blk_alloc (w := wr.drew) HM.out _).trans HM.out.symm)).trans hx
      refine hK.out _ _ (q0) (fun hHeld => ?_)
      clear hK K
      refine norm_ (a' := ?_) ?_ ?_
      rotate_left
      · show Act.put _ (some 20) _ = _
        simp only [Act.put, List.setIfInBounds_toArray, List.set_cons_zero, List.set_cons_succ, i64_w, i32_w]
        rfl
      refine one_ (i := 12) (N := some 21) #[true, true, true, true, true, true, true, true, true, true, true, true, true, false] rfl rfl (by kernel_rfl) (by decide) (fun K hK => ?_)
      refine own_append_step (w0 := W.alloc (.cells (nums .u8 d).toArray T32)) (by rfl) (.tmp 9) (.tmp 20) rfl (W.heap.size + 1) _ _ [rd DIG (x / 16), rd DIG (Go.bits .and .u8 x 15)] _ _ rfl rfl (HO.out.drew.alloc _) (bytes_new wr.drew 5 [rd DIG (x / 16), rd DIG (Go.bits .and .u8 x 15)] (0, 0)) ((below_drew1 HB.out).alloc (by have := HSB.out; simp at this; exact this) _) (by have := HSB.out; simp at this; simp; omega) (by rw [hL.out]; simp; omega) ?_
      intro v8 w8 ho8 hb8 hg8
      have HO8 := Lib.hid ho8
      have HB8 := Lib.hid hb8
      have hm8 := blk_below (blk_new W (.cells (nums .u8 d).toArray T32)) (show Below (W.alloc (.cells (nums .u8 d).toArray T32)).heap.size _ w8 by simpa using hb8)
      have HM8 := Lib.hid hm8
      have q1 : w8.cell? ⟨W.heap.size, k, none⟩ = some (.int .u8 x) := (World.cell?_of_block (w := wr) (hm8.trans HM.out.symm)).trans hx
      clear ho8 hb8 hg8 hm8
      refine hK.out _ _ (q1) (fun hHeld => ?_)
      clear hK K
      refine norm_ (a' := ?_) ?_ ?_
      rotate_left
      · show Act.put _ (some 21) _ = _
        simp only [Act.put, List.setIfInBounds_toArray, List.set_cons_zero, List.set_cons_succ, i64_w, i32_w]
        rfl
      refine pure_ (i := 13) (N := some 3) (v := ?_) (a' := ?_) #[true, true, true, true, true, true, true, true, true, true, true, true, true, true] rfl rfl (by kernel_rfl) (fun _ _ _ h => h) (Or.inl ⟨by rfl, ?_⟩) ?_ ?_
      rotate_left
      · intro w'
        go_simp
        (first | (with_reducible rfl) | ((try simp only [*]); (with_reducible rfl)))
      rotate_left
      · simp only [Act.put, List.setIfInBounds_toArray, List.set_cons_zero, List.set_cons_succ, i64_w, i32_w]
        rfl
      refine done_ (by kernel_rfl) ?_
      go_wp2
      go_roundw
      case rel => exact ⟨k + 1, by omega, by go_num, HM8.out, by rw [hS.out]; exact HO8.out, HB8.out⟩
      case measure => simp [intOf]; omega
    · have HK := Lib.hid (show k = 32 by omega)
      have ho := HO.out
      rw [show k = 32 from HK.out] at ho
      have hlen := texts_len d 32
      obtain ⟨X, hX⟩ : ∃ X : List Int, X = texts d 32 := ⟨_, rfl⟩
      have HTX := Lib.hid (show T = strOfNums X by rw [HT.out, hX])
      rw [← hX] at ho hlen
      obtain ⟨A, c, rfl, hc, hrc, _⟩ := ho.form
      have hcv := Kd.C_string (P := Tryd.prog) Tryd.underlying22 Tryd.underlying5 Tryd.underlying9 (c := c) (hrc.to_C (by omega))
      rw [← HTX.out] at hcv
      clear hX ho hrc hlen HO HT hm
      go_wp2
      go_ret
      exact ⟨rfl, ((Below.refl W.heap.size W).alloc (Nat.le_refl _) _).trans (hb.mono (by omega))⟩

theorem IV8 : IV.length = 8 := rfl
theorem gap_iff (n z j : Nat) (hz : z = (119 - n % 64) % 64) (hj : j ≤ z) : ((n + 1 + j) % 64 = 56) ↔ j = z := by omega

set_option maxHeartbeats 8000000 in
set_option maxRecDepth 100000 in
theorem rof_gen (A : Option Addr) (c : Nat) (l R : List Int) (W : World) (hRF : R = sums (eaten IV (l ++ pad (l.length % 64) l.length)) 32) (hA : RC W A l) (hc : l.length ≤ c) (hl : l.length ≤ 10000000) (hB : Bytes l) :
    Calls Tryd.prog 11 #[.slice A l.length c] W fun e w' => e = .returned (.agg (nums .u8 R).toArray) ∧ Below W.heap.size W w' := by
  have hz : ∀ w, (zeroValue T32).run Tryd.prog w = .ok (.agg Z32) w := fun _ => by kernel_rfl
  have hz8 : ∀ w, (zeroValue T8).run Tryd.prog w = .ok (.agg Z8) w := fun _ => by kernel_rfl
  obtain ⟨z, hzz⟩ : ∃ z : Nat, z = (119 - l.length % 64) % 64 := ⟨_, rfl⟩
  have HRF := Lib.hid hRF
  have HA := Lib.hid hA
  have HBY := Lib.hid hB
  have HZZ := Lib.hid hzz
  have hz64 : z < 64 := by omega
  obtain ⟨W1, hW1⟩ : ∃ W1, W1 = W.alloc (.cells Z32 T32) := ⟨_, rfl⟩
  have HW1 := Lib.hid hW1
  have HA1 := Lib.hid (show RC W1 A l by rw [hW1]; exact hA.below ((Below.refl _ _).alloc (Nat.le_refl _) _))
  have HZ1 := Lib.hid (show W1.heap[W.heap.size]? = some (.cells Z32 T32 (0, 0)) by rw [hW1]; exact blk_new _ _)
  have HB1 := Lib.hid (show Below W.heap.size W W1 by rw [hW1]; exact (Below.refl _ _).alloc (Nat.le_refl _) _)
  clear hA hB hRF hzz
  go_enter Tryd.func11, Tryd.ntmps11
  go_wp2_with (first
    | ((with_reducible refine gate_dst (N := 10) rfl ?_); rw [← HW1.out]; refine own_lit (w0 := W1) W1.heap.size rfl (N := 10) rfl [] ?hrun (Below.refl _ _) (Nat.le_refl _) (by decide) ?_; (case hrun => first | (go_simp; done) | (go_simp; rfl)); intro v2 w2 ho2 hb2 hg2; have HO2 := Lib.hid ho2; have HB2 := Lib.hid hb2; clear ho2 hb2 hg2)
    | ((with_reducible refine gate_builtin (b := .append) (xs := #[.tmp 10, .tmp 11]) rfl ?_); refine own_append (w0 := W1) rfl (.tmp 10) (.tmp 11) rfl W1.heap.size v2 [] l A c rfl rfl HO2.out (HA1.out.below HB2.out) HB2.out HB2.out.size (by simp; omega) ?_; intro v3 w3 ho3 hb3 hg3; rw [List.nil_append] at ho3; have HO3 := Lib.hid ho3; have HB3 := Lib.hid hb3; clear ho3 hb3 hg3)
    | ((with_reducible refine gate_builtin (b := .append) (xs := #[.tmp 13, .tmp 14]) rfl ?_); refine own_append (w0 := W1) rfl (.tmp 13) (.tmp 14) rfl W1.heap.size v3 l [128] _ _ rfl rfl (HO3.out.alloc _) (bytes_new w3 5 [128] (0, 0)) (HB3.out.alloc HB3.out.size _) (by have := HB3.out.size; simp; omega) (by simp; omega) ?_; intro v4 w4 ho4 hb4 hg4; have HO4 := Lib.hid ho4; have HB4 := Lib.hid hb4; clear ho4 hb4 hg4))
  go_loopw [3] (fun v3 wr => ∃ j : Nat, j ≤ z ∧ Aside0 (OWN wr W1.heap.size v3 (l ++ [128] ++ List.replicate j 0) ∧ Below W1.heap.size W1 wr ∧ slen v3 = l.length + 1 + j)) (fun v3 _ => 100000000 - slen v3)
  case atStart =>
    refine ⟨0, by omega, ⟨by simpa using HO4.out, HB4.out, ?_⟩⟩
    obtain ⟨A4, c4, rfl, _⟩ := HO4.out.form
    simp [slen]
  case round =>
    obtain ⟨j, hj, hR⟩ := hrel
    obtain ⟨ho, hb, hsl⟩ := hR.out
    have HB := Lib.hid hb
    obtain ⟨L, hL⟩ : ∃ L : List Int, L = l ++ [128] ++ List.replicate j 0 := ⟨_, rfl⟩
    have hLl : L.length = l.length + 1 + j := by rw [hL]; simp; omega
    rw [← hL] at ho
    obtain ⟨A5, c5, rfl, hc5, hrc5, ha5⟩ := ho.form
    have HO := Lib.hid ho
    have HLL := Lib.hid hL
    have HLN := Lib.hid hLl
    have HRC := Lib.hid hrc5
    have HA5 := Lib.hid ha5
    have hL1 : L.length ≤ 20000000 := by omega
    have hgap := gap_iff l.length z j HZZ.out hj
    by_cases hlt : j < z
    · have t1 : ((L.length : Int) % 64 == 56) = false := by rw [beq_eq_false_iff_ne]; omega
      have t2 : ((L.length : Int) % 64 != 56) = true := by rw [bne, t1]; rfl
      clear ho hb hL hLl hrc5 ha5 hsl hgap
      go_wp2_with ((with_reducible refine gate_builtin (b := .append) (xs := #[.tmp 20, .tmp 21]) rfl ?_); refine own_append (w0 := W1) rfl (.tmp 20) (.tmp 21) rfl W1.heap.size _ L [0] _ _ rfl rfl (HO.out.alloc _) (bytes_new wr 5 [0] (0, 0)) (HB.out.alloc HB.out.size _) (by have := HB.out.size; simp; omega) (by simp; omega) ?_; intro v8 w8 ho8 hb8 hg8; have HO8 := Lib.hid ho8; have HB8 := Lib.hid hb8; clear ho8 hb8 hg8)
      have hsl8 : slen v8 = L.length + 1 := by
        obtain ⟨A8, c8, rfl, _⟩ := HO8.out.form
        simp [slen]
      go_roundw
      case rel =>
        refine ⟨j + 1, by omega, ⟨?_, HB8.out, by have := HLN.out; omega⟩⟩
        have h := HO8.out
        rw [HLL.out, List.append_assoc, List.append_assoc, ← List.replicate_succ'] at h
        rw [List.append_assoc]
        exact h
      case measure => show 100000000 - slen v8 < 100000000 - L.length; rw [hsl8]; omega
    · have t1 : ((L.length : Int) % 64 == 56) = true := by rw [beq_iff_eq]; omega
      have t2 : ((L.length : Int) % 64 != 56) = false := by rw [bne, t1]; rfl
      have HJ := Lib.hid (show j = z by omega)
      clear ho hb hL hLl hrc5 ha5 hsl hgap
      go_wp2
      obtain ⟨wo, rfl⟩ : ∃ wo : World, wo = wr := ⟨_, rfl⟩
      have hL2 := HLL.out
      rw [HJ.out] at hL2
      have HL2 := Lib.hid hL2
      clear hL2 HLL HJ
      go_loopw [3, 5] (fun v3 v5 wr => ∃ (k : Nat) (i : Int), k ≤ 8 ∧ v5 = .int .i64 i ∧ Aside0 (i = 56 - 8 * (k : Int)) ∧ OWN wr W1.heap.size v3 (L ++ be8 ((l.length : Int) * 8) k) ∧ Below W1.heap.size W1 wr) (fun _ v5 _ => (intOf v5 + 8).toNat)
      case atStart => exact ⟨0, 56, by omega, rfl, ⟨by omega⟩, by simpa [be8] using HO.out, HB.out⟩
      case round =>
        obtain ⟨k, i, hk, rfl, hi, ho, hb⟩ := hrel
        have HOK := Lib.hid ho
        have HBK := Lib.hid hb
        clear ho hb
        by_cases hlt2 : k < 8
        · obtain ⟨m, hm⟩ : ∃ m : Nat, m = 56 - 8 * k := ⟨_, rfl⟩
          obtain rfl : i = (m : Int) := by have := hi.out; omega
          have HM := Lib.hid hm
          have hm2 : m ≤ 56 := by omega
          have HLK := Lib.hid (be8_len ((l.length : Int) * 8) k)
          clear hm
          go_wp2_with ((with_reducible refine gate_builtin (b := .append) (xs := #[.tmp 31, .tmp 36]) rfl ?_); refine own_append (w0 := W1) rfl (.tmp 31) (.tmp 36) rfl W1.heap.size u3 _ [(l.length : Int) * 8 / 2 ^ m % 256] _ _ rfl rfl (HOK.out.alloc _) (bytes_new wr 5 [(l.length : Int) * 8 / 2 ^ m % 256] (0, 0)) (HBK.out.alloc HBK.out.size _) (by have := HBK.out.size; simp; omega) (by rw [List.length_append, HLK.out]; simp; omega) ?_; intro v8 w8 ho8 hb8 hg8; have HO8 := Lib.hid ho8; have HB8 := Lib.hid hb8; clear ho8 hb8 hg8)
          go_roundw
          case rel =>
            refine ⟨k + 1, _, by omega, rfl, ⟨by have := hi.out; omega⟩, ?_, HB8.out⟩
            have := HO8.out
            rw [List.append_assoc] at this
            show OWN _ _ _ (_ ++ (be8 ((l.length : Int) * 8) k ++ [(l.length : Int) * 8 / 2 ^ (56 - 8 * k) % 256]))
            rw [← HM.out]
            exact this
          case measure => simp [intOf]; omega
        · have HK8 := Lib.hid (show k = 8 by omega)
          have hi2 : i < 0 := by have := hi.out; have := HK8.out; omega
          obtain ⟨P, hP⟩ : ∃ P : List Int, P = l ++ pad (l.length % 64) l.length := ⟨_, rfl⟩
          have hoP : OWN wr W1.heap.size u3 P := by
            have h := HOK.out
            rw [show k = 8 from HK8.out, HL2.out] at h
            rw [hP]
            unfold pad
            rw [← HZZ.out]
            simpa [List.append_assoc] using h
          have hPl : P.length ≤ 20000000 := by rw [hP, List.length_append, pad_len]; omega
          have hP64 : P.length % 64 = 0 := by rw [hP, List.length_append, pad_len]; omega
          have hPB : Bytes P := by rw [hP]; exact bytes_append HBY.out (pad_bytes _ _)
          have HP := Lib.hid (show R = sums (eaten IV P) 32 by rw [HRF.out, hP])
          have HPB := Lib.hid hPB
          obtain ⟨A6, c6, rfl, hc6, hrc6, ha6⟩ := hoP.form
          have HRC6 := Lib.hid hrc6
          have HA6 := Lib.hid ha6
          have HT8 := Lib.hid (show Z8.size = (nums .u32 IV).toArray.size by rfl)
          have HI8 := Lib.hid (show (Tryd.prog.info? T8).map (·.size) = some (nums .u32 IV).toArray.size by exact info8)
          clear hi hP hoP hPB hrc6 ha6 HOK
          go_wp2_with (refine wpList_store_row rfl T8 (.tmp 6) (.tmp 38) rfl wr.heap.size (nums .u32 IV).toArray rfl rfl T8 Z8 (blk_new _ _) HI8.out HT8.out (nums_one _) ?_)
          obtain ⟨wb, rfl⟩ : ∃ wb : World, wb = wr := ⟨_, rfl⟩
          go_loopw [7] (fun v7 wr => ∃ j m : Nat, m = 64 * j ∧ m ≤ P.length ∧ v7 = .int .i64 (m : Int) ∧ wr.heap[wb.heap.size]? = some (.cells (nums .u32 (eats IV P j)).toArray T8 (0, 0)) ∧ Below wb.heap.size wb wr) (fun v7 _ => 20000000 + 64 - (intOf v7).toNat)
          case atStart => exact ⟨0, 0, by omega, by omega, rfl, setRow_heap _ _ _ _ _ _ (blk_new _ _), below_setRow ((Below.refl _ _).alloc (Nat.le_refl _) _) (Nat.le_refl _) _⟩
          case round =>
            obtain ⟨j, m, hjm, hmP, rfl, hm, hb⟩ := hrel
            have HM := Lib.hid hm
            have HBQ := Lib.hid hb
            have HJM := Lib.hid hjm
            have HE := Lib.hid (eats_len P IV8 j)
            by_cases hlt3 : m < P.length
            · have hm64 : m + 64 ≤ P.length := by omega
              have hP0 : P ≠ [] := by intro e; rw [e] at hlt3; simp at hlt3
              obtain ⟨ad, hAd, _, _⟩ := HRC6.out hP0
              have HAd := Lib.hid hAd
              obtain ⟨E, hE⟩ : ∃ E : List Int, E = eats IV P j := ⟨_, rfl⟩
              obtain ⟨Q, hQ⟩ : ∃ Q : List Int, Q = (P.drop m).take 64 := ⟨_, rfl⟩
              obtain ⟨m2, hm2⟩ : ∃ m2 : Nat, m2 = m + 64 := ⟨_, rfl⟩
              have hQl : Q.length = 64 := by rw [hQ, List.length_take, List.length_drop]; omega
              have hEl : E.length = 8 := by rw [hE]; exact HE.out
              have HQL := Lib.hid hQl
              have HEL := Lib.hid hEl
              have HQB := Lib.hid (show Bytes Q by rw [hQ]; exact bytes_take (bytes_drop HPB.out m) 64)
              have HI8 := Lib.hid (show (Tryd.prog.info? T8).map (·.size) = some (nums .u32 E).toArray.size by rw [nums_size, hEl]; exact info8)
              rw [← hE] at hm
              have HME := Lib.hid hm
              have HLO := Lib.hid (fun w (h : w.heap[wb.heap.size]? = some (.cells (nums .u32 E).toArray T8 (0, 0))) => run_loadVar_row (P := Tryd.prog) w wb.heap.size T8 T8 (nums .u32 E).toArray (0, 0) _ h Tryd.underlying43 rfl HI8.out)
              obtain ⟨ws0, hws0⟩ : ∃ ws0 : List Int, ws0 = wds Q 64 := ⟨_, rfl⟩
              obtain ⟨R10, hR10⟩ : ∃ R10 : List Int, R10 = rnds E ws0 64 := ⟨_, rfl⟩
              obtain ⟨V, hV⟩ : ∃ V : List Int, V = eats IV P (j + 1) := ⟨_, rfl⟩
              have HVA := Lib.hid (show V = adds E R10 8 by rw [hV, hR10, hws0, hE, hQ, HJM.out]; rfl)
              have HVL := Lib.hid (show V.length = 8 by rw [hV]; exact eats_len P IV8 (j + 1))
              have HV := Lib.hid hV
              have HIV := Lib.hid (show (Tryd.prog.info? T8).map (·.size) = some (nums .u32 V).toArray.size by rw [nums_size, HVL.out]; exact info8)
              have HTV := Lib.hid (show (nums .u32 E).toArray.size = (nums .u32 V).toArray.size by rw [nums_size, nums_size, HVL.out, hEl])
              have HW0 := Lib.hid hws0
              have HR10 := Lib.hid hR10
              clear hws0 hR10 hV
              have HRQ := Lib.hid (show RC wr (some (ad.add m)) Q by
                have h := HRC6.out
                rw [HAd.out] at h
                rw [hQ]; exact ((h.below hb).drop m).take 64)
              have w0 : IntKind.i64.wrap ((m : Int) + 64) = (m2 : Int) := by rw [IntKind.wrap_i64]; omega
              have e1 : (m : Int) ≤ (m2 : Int) := by omega
              have e2 : (m2 : Int) ≤ (c6 : Int) := by omega
              have e3 : m2 - m = 64 := by omega
              have e4 : m ≤ m2 := by omega
              have e5 : m2 ≤ c6 := by omega
              have hcm : 64 ≤ c6 - m := by omega
              have hmc : ¬ (c6 = m) := by omega
              subst hAd
              clear hm hb hjm hQl hEl hE hQ hm2 hP0
              go_wp2
              refine start_ (n := 8) (S := fun w' => (loadVar T8 ⟨wb.heap.size, 0, none⟩).run Tryd.prog w' = .ok (.agg (nums .u32 E).toArray) w') (ds := [7]) #[false, false, false, false, false, false, false, false] (by kernel_rfl) rfl rfl (HLO.out _ HME.out) (fun hHeld => ?_)
              refine pure_ (i := 1) (N := some 46) (v := ?_) (a' := ?_) #[false, true, false, false, false, false, false, false] rfl rfl (by kernel_rfl) (fun _ _ _ h => h) (Or.inl ⟨by rfl, ?_⟩) ?_ ?_
              rotate_left
              · intro w'
                go_simp
                (first | (with_reducible rfl) | ((try simp only [*]); (with_reducible rfl)))
              rotate_left
              · simp only [Act.put, List.setIfInBounds_toArray, List.set_cons_zero, List.set_cons_succ, i64_w, i32_w]
                rfl
              refine pure_ (i := 2) (N := some 47) (v := ?_) (a' := ?_) #[false, true, true, false, false, false, false, false] rfl rfl (by kernel_rfl) (fun _ _ _ h => h) (Or.inl ⟨by rfl, ?_⟩) ?_ ?_
              rotate_left
              · intro w'
                go_simp
                (first | (with_reducible rfl) | ((try simp only [*]); (with_reducible rfl)))
              rotate_left
              · simp only [Act.put, List.setIfInBounds_toArray, List.set_cons_zero, List.set_cons_succ, i64_w, i32_w]
                rfl
              refine pure_ (i := 3) (N := some 48) (v := ?_) (a' := ?_) #[false, true, true, true, false, false, false, false] rfl rfl (by kernel_rfl) (fun _ _ _ h => h) (Or.inl ⟨by rfl, ?_⟩) ?_ ?_
              rotate_left
              · intro w'
                go_simp
                (first | (with_reducible rfl) | ((try simp only [*]); (with_reducible rfl)))
              rotate_left
              · simp only [Act.put, List.setIfInBounds_toArray, List.set_cons_zero, List.set_cons_succ, i64_w, i32_w]
                rfl
              refine pure_ (i := 4) (N := some 49) (v := ?_) (a' := ?_) #[false, true, true, true, true, false, false, false] rfl rfl (by kernel_rfl) (fun _ _ _ h => h) (Or.inl ⟨by rfl, ?_⟩) ?_ ?_
              rotate_left
              · intro w'
                go_simp
                (first | (with_reducible rfl) | ((try simp only [*]); (with_reducible rfl)))
              rotate_left
              · simp only [Act.put, List.setIfInBounds_toArray, List.set_cons_zero, List.set_cons_succ, i64_w, i32_w]
                rfl
              refine pure_ (i := 5) (N := some 50) (v := ?_) (a' := ?_) #[false, true, true, true, true, true, false, false] rfl rfl (by kernel_rfl) (fun _ _ _ h => h) (Or.inl ⟨by rfl, ?_⟩) ?_ ?_
              rotate_left
              · intro w'
                go_simp
                (first | (with_reducible rfl) | ((try simp only [*]); (with_reducible rfl)))
              rotate_left
              · simp only [Act.put, List.setIfInBounds_toArray, List.set_cons_zero, List.set_cons_succ, i64_w, i32_w]
                rfl
              refine take_ (i := 0) (N := some 45) (v := ?_) (a' := ?_) #[true, true, true, true, true, true, false, false] rfl rfl (by kernel_rfl) (fun _ _ _ h => h) (Or.inl ⟨by rfl, ?_⟩) hHeld ?_ ?_
              rotate_left
              · intro w' s0
                refine (exec_load (ty := T8) (g := ⟨wb.heap.size, 0, none⟩) rfl rfl s0).trans ?_; with_reducible rfl
              rotate_left
              · simp only [Act.put, List.setIfInBounds_toArray, List.set_cons_zero, List.set_cons_succ, i64_w, i32_w]
                rfl
              refine one_ (i := 6) (N := some 51) #[true, true, true, true, true, true, true, false] rfl rfl (by kernel_rfl) (by decide) (fun K hK => ?_)
              refine goes_ Tryd.func19 (by kernel_rfl) rfl #[.agg (nums .u32 E).toArray, .slice (some (ad.add m)) 64 (c6 - m)] (by rfl) rfl rfl (by simp only [List.map_toArray, List.map_cons, List.map_nil]; rfl) ?_
              with_reducible refine (rtaken_gen (some (ad.add m)) (c6 - m) E Q ws0 R10 V wr.drew HW0.out HR10.out HVA.out HEL.out HQL.out (HRQ.out.below (below_drew1 (Below.refl _ _))) (by rw [HQL.out]; exact hcm) HQB.out).mono ?_
              rintro e w9 ⟨rfl, hb9⟩
              refine ⟨_, rfl, ?_⟩
              have HB9 := Lib.hid ((below_drew1 HBQ.out).trans (hb9.mono HBQ.out.size))
              have HM9 := Lib.hid (blk_below (w := wr.drew) HME.out hb9)
              clear hb9
              refine hK.out _ _ (HLO.out _ HM9.out) (fun hHeld => ?_)
              clear hK K
              refine norm_ (a' := ?_) ?_ ?_
              rotate_left
              · show Act.put _ (some 51) _ = _
                simp only [Act.put, List.setIfInBounds_toArray, List.set_cons_zero, List.set_cons_succ, i64_w, i32_w]
                rfl
              refine last_ (i := 7) (N := none) #[true, true, true, true, true, true, true, true] rfl rfl (by kernel_rfl) (by decide) (fun K hK => ?_)
              refine skip_ (w1 := w9.setRow wb.heap.size (nums .u32 V).toArray) (by rfl) rfl (exec_store_row (ty := T8) (g := wb.heap.size) (cells := (nums .u32 V).toArray) rfl rfl rfl HM9.out HIV.out HTV.out (nums_one _)) ?_
              refine hK.out _ _ ?_
              clear hK K
              refine done_ (by kernel_rfl) ?_
              have w9h := setRow_heap w9 wb.heap.size (nums .u32 E).toArray (nums .u32 V).toArray T8 (0, 0) HM9.out
              have HW9 := Lib.hid w9h
              have HB10 := Lib.hid (below_setRow HB9.out (Nat.le_refl _) (nums .u32 V).toArray)
              clear w0 e1 e2 e3 e4 e5 w9h
              have hm2' : (m : Int) + 64 = ((m + 64 : Nat) : Int) := by omega
              have HM2' := Lib.hid hm2'
              clear hm2'
              go_wp2
              go_roundw
              case rel => exact ⟨j + 1, m + 64, by have := HJM.out; omega, hm64, by rw [HM2'.out], by rw [← HV.out]; exact HW9.out, HB10.out⟩
              case measure => simp [intOf]; omega
            · obtain ⟨ST, hST⟩ : ∃ ST : List Int, ST = eaten IV P := ⟨_, rfl⟩
              have hjq : j = P.length / 64 := by omega
              have hm3 : wr.heap[wb.heap.size]? = some (.cells (nums .u32 ST).toArray T8 (0, 0)) := by rw [hST]; unfold eaten; rw [← hjq]; exact hm
              have HSL := Lib.hid (show ST.length = 8 by rw [hST]; exact eats_len _ IV8 _)
              have HR2 := Lib.hid (show R = sums ST 32 by rw [HP.out, hST])
              have HMS := Lib.hid hm3
              have HZ := Lib.hid (blk_below (blk_below HZ1.out HBK.out) hb)
              clear hm hb hjm hST hjq hm3
              have hmn : ¬ m < P.length := hlt3
              go_wp2
              obtain ⟨wc, rfl⟩ : ∃ wc : World, wc = wr := ⟨_, rfl⟩
              go_loopw [9] (fun v9 wr => ∃ k : Nat, k ≤ 32 ∧ v9 = .int .i64 k ∧ wr.heap[wc.heap.size]? = some (.cells (nums .u8 (sums ST k)).toArray T32 (0, 0)) ∧ Below wc.heap.size wc wr) (fun v9 _ => 32 - (intOf v9).toNat)
              case atStart => exact ⟨0, by omega, rfl, blk_new _ _, (Below.refl _ _).alloc (Nat.le_refl _) _⟩
              case round =>
                obtain ⟨k2, hk2, rfl, hm, hb⟩ := hrel
                have HM := Lib.hid hm
                have HBZ := Lib.hid hb
                by_cases hlt4 : k2 < 32
                · obtain ⟨q, hq⟩ : ∃ q : Nat, q = k2 / 4 := ⟨_, rfl⟩
                  obtain ⟨r, hr⟩ : ∃ r : Nat, r = k2 % 4 := ⟨_, rfl⟩
                  obtain ⟨t, ht⟩ : ∃ t : Nat, t = 24 - 8 * r := ⟨_, rfl⟩
                  have HQ := Lib.hid hq
                  have HRR := Lib.hid hr
                  have HTT := Lib.hid ht
                  have hr4 : r < 4 := by omega
                  have x0 := row_cell (blk_below HMS.out hb) q (by rw [HSL.out]; omega)
                  have hf := blk_frozen hm k2
                  obtain ⟨cv, hcv⟩ : ∃ cv, wr.cell? ⟨wc.heap.size, k2, none⟩ = some (.int .u8 cv) := ⟨_, cells8 hm k2 (by rw [sums_len]; exact hlt4)⟩
                  have e1 : (k2 : Int) / 4 = (q : Int) := by omega
                  have e2 : (k2 : Int) % 4 = (r : Int) := by omega
                  have e3 : (24 : Int) - 8 * (r : Int) = (t : Int) := by omega
                  have hq8 : (q : Int) < 8 := by omega
                  have ht24 : t ≤ 24 := by omega
                  have hk32 : (k2 : Int) < 32 := by omega
                  clear hm hb hq hr ht
                  go_wp2
                  go_roundw
                  case rel =>
                    refine ⟨k2 + 1, by omega, by go_num, (blk_set HM.out _ _).trans ?_, HBZ.out.setCell (Nat.le_refl _) _⟩
                    rw [nums_set', HTT.out, HRR.out, HQ.out]
                    rfl
                  case measure => simp [intOf]; omega
                · have HK3 := Lib.hid (show k2 = 32 by omega)
                  rw [show k2 = 32 from HK3.out, ← HR2.out] at hm
                  have HM2 := Lib.hid hm
                  have hRl : R.length = 32 := by rw [HR2.out]; exact sums_len _ _
                  have HI := Lib.hid (show (Tryd.prog.info? T32).map (·.size) = some (nums .u8 R).toArray.size by rw [show (nums .u8 R).toArray.size = 32 by simp [nums, hRl]]; exact info32)
                  have HT := Lib.hid (show Z32.size = (nums .u8 R).toArray.size by rw [show (nums .u8 R).toArray.size = 32 by simp [nums, hRl]]; rfl)
                  have HZ3 := Lib.hid (blk_below HZ.out hb)
                  clear hm hb HM hRl HR2
                  go_wp2_with (first
                    | ((with_reducible refine gate_dst (N := 68) rfl ?_); refine wpList_load_row rfl T32 (.tmp 8) rfl wc.heap.size rfl T32 _ (0, 0) _ HM2.out Tryd.underlying23 rfl HI.out ?_)
                    | (refine wpList_store_row rfl T32 (.tmp 2) (.tmp 68) rfl W.heap.size (nums .u8 R).toArray rfl rfl T32 Z32 HZ3.out HI.out HT.out (bytes_one R) ?_))
                  have HRW := setRow_heap wr W.heap.size Z32 (nums .u8 R).toArray T32 (0, 0) HZ3.out
                  refine bodyPost_ret (v := .agg (nums .u8 R).toArray) (results_cell_row rfl _ _ W.heap.size T32 _ (0, 0) _ rfl HRW Tryd.underlying23 rfl HI.out) rfl ⟨rfl, ?_⟩
                  have b1 : Below W.heap.size W wb := HB1.out.trans (HBK.out.mono HB1.out.size)
                  have b2 : Below W.heap.size W wc := b1.trans (HBQ.out.mono b1.size)
                  exact below_setRow (b2.trans (HBZ.out.mono b2.size)) (Nat.le_refl _) _
end Go.Proofs.YthgmhjgbjodhjaaDoor.Sha7
