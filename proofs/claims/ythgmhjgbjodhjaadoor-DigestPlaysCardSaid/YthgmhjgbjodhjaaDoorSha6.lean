/- The document's own digest, walked: a number turned round, the words of a block, the state behind a block. -/
import Derived.Test.YthgmhjgbjodhjaaDoorSha5
namespace Go.Proofs.YthgmhjgbjodhjaaDoor.Sha6
open Go.Proofs.YthgmhjgbjodhjaaDoor Go.RowKit Go.Proofs.YthgmhjgbjodhjaaDoorW.PrintWords Go.Proofs.YthgmhjgbjodhjaaDoorW.PrintLast Go.Proofs.YthgmhjgbjodhjaaDoorW.PrintMore Go.Proofs.YthgmhjgbjodhjaaDoor.Sha Go.Proofs.YthgmhjgbjodhjaaDoor.Sha2 Go.Proofs.YthgmhjgbjodhjaaDoor.Sha3 Go.Proofs.YthgmhjgbjodhjaaDoor.Own Go.Proofs.YthgmhjgbjodhjaaDoor.Sha4 Go.Proofs.YthgmhjgbjodhjaaDoor.Sha5
set_option linter.unusedVariables false
set_option linter.unusedSimpArgs false

/-- Nothing but draws. -/
structure Same (w w' : World) : Prop where
  heap : w'.heap = w.heap
  os : w'.os = w.os
  tape : w'.tape = w.tape
  output : w'.output = w.output
theorem Same.below {w w' : World} (h : Same w w') (B : Nat) : Below B w w' := ⟨h.os, h.tape, h.output, by rw [h.heap]; exact Nat.le_refl _, fun k _ => by rw [h.heap]⟩
theorem Same.blk {w w' : World} (h : Same w w') {g : Nat} {o : Obj} (hb : w.heap[g]? = some o) : w'.heap[g]? = some o := by rw [h.heap]; exact hb
theorem Same.drewN (w : World) (n : Nat) : Same w (w.drewN n) := ⟨rfl, rfl, rfl, rfl⟩

set_option maxRecDepth 100000 in
theorem turned_q (x k : Int) (n : Nat) (W : World) (hk : k = (n : Int)) (hn : 1 ≤ n) (hn2 : n ≤ 31) :
    Calls Tryd.prog 25 #[.int .u32 x, .int .i64 k] W fun e w' => e = .returned (.int .u32 (rot x n)) ∧ ∃ m, w' = W.drewN m := by
  subst hk
  have hs : IntKind.i64.wrap ((32 : Int) - (n : Int)) = ((32 - n : Nat) : Int) := by rw [IntKind.wrap_i64]; omega
  have hm : min n 32 = n := by omega
  have hm2 : min (32 - n) 32 = 32 - n := by omega
  go_enter Tryd.func25, Tryd.ntmps25
  go_wp2
  go_quiet (fail)
  go_wp2
  go_ret
  refine ⟨?_, nq, rfl⟩
  rfl

set_option maxHeartbeats 4000000 in
set_option maxRecDepth 100000 in
theorem rwords_gen (A0 : Option Addr) (c0 : Nat) (l : List Int) (R : List Int) (W : World) (hR : R = wds l 64) (hl : l.length = 64) (hr : RC W A0 l) (hc : l.length ≤ c0) (hby : Bytes l) :
    Calls Tryd.prog 23 #[.slice A0 64 c0] W fun e w' => e = .returned (.agg (nums .u32 R).toArray) ∧ Below W.heap.size W w' := by
  have hz : ∀ w, (zeroValue T64).run Tryd.prog w = .ok (.agg Z64) w := fun _ => by kernel_rfl
  have HR := Lib.hid hr
  have HBY := Lib.hid hby
  have HL := Lib.hid hl
  have HRR := Lib.hid hR
  have hc2 : 64 ≤ c0 := by omega
  obtain ⟨ad, hA, _, _⟩ := hr (by intro e; subst e; simp at hl)
  subst hA
  clear hr hby hc hR
  go_enter Tryd.func23, Tryd.ntmps23
  go_wp2
  go_loopw [4] (fun v4 wr => ∃ k : Nat, k ≤ 64 ∧ v4 = .int .i64 k ∧ wr.heap[W.heap.size]? = some (.cells Z64 T64 (0, 0)) ∧ wr.heap[W.heap.size + 1]? = some (.cells (nums .u32 (wds l k)).toArray T64 (0, 0)) ∧ Below W.heap.size W wr) (fun v4 _ => 64 - (intOf v4).toNat)
  case atStart =>
    refine ⟨0, by omega, rfl, ?_, ?_, ((Below.refl _ _).alloc (Nat.le_refl _) _).alloc (by simp) _⟩
    · exact blk_alloc (blk_new _ _) _
    · show _ = some (Obj.cells Z64 T64 (0, 0))
      have := blk_new (W.alloc (.cells Z64 T64)) (.cells Z64 T64)
      simpa using this
  case round =>
    obtain ⟨k, hk, rfl, hm0, hm1, hb⟩ := hrel
    have HM0 := Lib.hid hm0
    have HM1 := Lib.hid hm1
    have HB := Lib.hid hb
    by_cases h64 : k < 64
    · have hk64 : (k : Int) < 64 := by omega
      have hwl := wds_len l k
      have x4 := row_cell hm1 k (by omega)
      have hf := blk_frozen hm1 k
      by_cases hlt : k < 16
      · have hrc := HR.out.below hb
        obtain ⟨_, e, _, hcell⟩ := hrc (by intro e; have := HL.out; rw [e] at this; simp at this)
        cases e
        obtain ⟨j0, hj0⟩ : ∃ j : Nat, j = 4 * k := ⟨_, rfl⟩
        obtain ⟨j1, hj1⟩ : ∃ j : Nat, j = 4 * k + 1 := ⟨_, rfl⟩
        obtain ⟨j2, hj2⟩ : ∃ j : Nat, j = 4 * k + 2 := ⟨_, rfl⟩
        obtain ⟨j3, hj3⟩ : ∃ j : Nat, j = 4 * k + 3 := ⟨_, rfl⟩
        have x0 := hcell j0 (by omega)
        have x1 := hcell j1 (by omega)
        have x2 := hcell j2 (by omega)
        have x3 := hcell j3 (by omega)
        obtain ⟨b00, b01⟩ := HBY.out j0
        obtain ⟨b10, b11⟩ := HBY.out j1
        obtain ⟨b20, b21⟩ := HBY.out j2
        obtain ⟨b30, b31⟩ := HBY.out j3
        have hbe : be l k = Go.bits .or .u32 (Go.bits .or .u32 (Go.bits .or .u32 (bn l j0 * 16777216) (bn l j1 * 65536)) (bn l j2 * 256)) (bn l j3) := by
          subst hj0 hj1 hj2 hj3; rfl
        have HBE := Lib.hid hbe
        have l0 : (j0 : Int) < 64 := by omega
        have l1 : (j1 : Int) < 64 := by omega
        have l2 : (j2 : Int) < 64 := by omega
        have l3 : (j3 : Int) < 64 := by omega
        have w0 : IntKind.i64.wrap (4 * (k : Int)) = (j0 : Int) := by rw [IntKind.wrap_i64]; omega
        have w1 : IntKind.i64.wrap ((j0 : Int) + 1) = (j1 : Int) := by rw [IntKind.wrap_i64]; omega
        have w2 : IntKind.i64.wrap ((j0 : Int) + 2) = (j2 : Int) := by rw [IntKind.wrap_i64]; omega
        have w3 : IntKind.i64.wrap ((j0 : Int) + 3) = (j3 : Int) := by rw [IntKind.wrap_i64]; omega
        clear hm0 hm1 hb hrc hcell hbe hj0 hj1 hj2 hj3 hwl
        go_wp2
        go_still_tail 35, (by kernel_rfl)
        change wpList _ _ _ _ _ wr.drew
        go_wp2
        go_roundw
        case rel =>
          refine ⟨k + 1, by omega, by go_num, (heap_setCell_other _ _ _ _ (by simp)).trans HM0.out, (blk_set HM1.out _ _).trans ?_, below_drew1 (HB.out.setCell (by simp) _)⟩
          have hS : wds l (k + 1) = (wds l k).set k (be l k) := by
            show (wds l k).set k (if k < 16 then be l k else _) = _
            rw [if_pos hlt]
          rw [nums_set', hS, HBE.out]
        case measure => simp [intOf]; omega
      · obtain ⟨j0, hj0⟩ : ∃ j : Nat, j = k - 16 := ⟨_, rfl⟩
        obtain ⟨j1, hj1⟩ : ∃ j : Nat, j = k - 15 := ⟨_, rfl⟩
        obtain ⟨j2, hj2⟩ : ∃ j : Nat, j = k - 7 := ⟨_, rfl⟩
        obtain ⟨j3, hj3⟩ : ∃ j : Nat, j = k - 2 := ⟨_, rfl⟩
        have x1 := row_cell hm1 j1 (by omega)
        have x3 := row_cell hm1 j3 (by omega)
        have hS : wds l (k + 1) = (wds l k).set k ((bn (wds l k) j0 + lows (bn (wds l k) j1) + bn (wds l k) j2 + highs (bn (wds l k) j3)) % 4294967296) := by
          show (wds l k).set k (if k < 16 then be l k else _) = _
          rw [if_neg (by omega)]
          subst hj0 hj1 hj2 hj3
          rfl
        have HS := Lib.hid hS
        have l0 : (j0 : Int) < 64 := by omega
        have l1 : (j1 : Int) < 64 := by omega
        have l2 : (j2 : Int) < 64 := by omega
        have l3 : (j3 : Int) < 64 := by omega
        have q1 : (k : Int) - 15 = (j1 : Int) := by omega
        have q3 : (k : Int) - 2 = (j3 : Int) := by omega
        have HJ0 := Lib.hid hj0
        have HJ2 := Lib.hid hj2
        clear hm0 hm1 hb hS hj0 hj1 hj2 hj3 hwl x4 hf
        go_wp2_with (first
          | (go_at_call 25; (with_reducible refine (turned_q _ 7 7 _ rfl (by decide) (by decide)).mono ?_); rintro e w' ⟨rfl, m7, rfl⟩)
          | (go_at_call 25; (with_reducible refine (turned_q _ 18 18 _ rfl (by decide) (by decide)).mono ?_); rintro e w' ⟨rfl, m18, rfl⟩)
          | (go_at_call 25; (with_reducible refine (turned_q _ 17 17 _ rfl (by decide) (by decide)).mono ?_); rintro e w' ⟨rfl, m17, rfl⟩)
          | (go_at_call 25; (with_reducible refine (turned_q _ 19 19 _ rfl (by decide) (by decide)).mono ?_); rintro e w' ⟨rfl, m19, rfl⟩))
        generalize hwq : wr.drewN (m7 + m18 + m17 + m19) = wq
        have hm1 : wq.heap[W.heap.size + 1]? = some (.cells (nums .u32 (wds l k)).toArray T64 (0, 0)) := by rw [← hwq]; exact HM1.out
        have HQ0 := Lib.hid (show wq.heap[W.heap.size]? = some (.cells Z64 T64 (0, 0)) by rw [← hwq]; exact HM0.out)
        have HQB := Lib.hid (show Below W.heap.size W wq by rw [← hwq]; exact pw_below_drewN HB.out _)
        have HQ1 := Lib.hid hm1
        have hwl := wds_len l k
        have y0 := row_cell hm1 j0 (by omega)
        have y2 := row_cell hm1 j2 (by omega)
        have y4 := row_cell hm1 k (by omega)
        have yf := blk_frozen hm1 k
        have w0 : IntKind.i64.wrap ((k : Int) - 16) = (j0 : Int) := by have := HJ0.out; rw [IntKind.wrap_i64]; omega
        have w2 : IntKind.i64.wrap ((k : Int) - 7) = (j2 : Int) := by have := HJ2.out; rw [IntKind.wrap_i64]; omega
        clear hm1 hwl x1 x3 q1 q3 HM0 HM1 HB hwq
        have wu : ∀ x : Int, IntKind.u32.wrap x = x % 4294967296 := fun x => IntKind.wrap_u32 x
        go_still_tail 15, (by kernel_rfl)
        change wpList _ _ _ _ _ wq.drew
        clear wu
        go_wp2
        go_roundw
        case rel =>
          refine ⟨k + 1, by omega, by go_num, (heap_setCell_other _ _ _ _ (by simp)).trans HQ0.out, (blk_set HQ1.out _ _).trans ?_, below_drew1 (HQB.out.setCell (by simp) _)⟩
          rw [nums_set', HS.out]
          rfl
        case measure => simp [intOf]; omega
    · have HK2 := Lib.hid (show k = 64 by omega)
      rw [show k = 64 from HK2.out, ← HRR.out] at hm1
      have hRl : R.length = 64 := by rw [HRR.out]; exact wds_len l 64
      have HM2 := Lib.hid hm1
      have HT := Lib.hid (show Z64.size = ((nums .u32 R).toArray).size by rw [nums_size, hRl]; rfl)
      have HI := Lib.hid (size64 hRl)
      clear hm0 hm1 hb HM1 hRl
      go_wp2_with (first
        | ((with_reducible refine gate_dst (N := 89) rfl ?_); refine wpList_load_row rfl T64 (.tmp 3) rfl (W.heap.size + 1) rfl T64 _ (0, 0) _ HM2.out Tryd.underlying49 rfl HI.out ?_)
        | (refine wpList_store_row rfl T64 (.tmp 2) (.tmp 89) rfl W.heap.size (nums .u32 R).toArray rfl rfl T64 Z64 HM0.out HI.out HT.out (nums_one _) ?_))
      have HRW := setRow_heap wr W.heap.size Z64 (nums .u32 R).toArray T64 (0, 0) HM0.out
      refine bodyPost_ret (v := .agg (nums .u32 R).toArray) (results_cell_row rfl _ _ W.heap.size T64 _ (0, 0) _ rfl HRW Tryd.underlying49 rfl HI.out) rfl ⟨rfl, ?_⟩
      exact below_setRow HB.out (by omega) _

set_option maxHeartbeats 4000000 in
set_option maxRecDepth 100000 in
/-- The numbers of the rounds. -/
theorem numbers_any (W : World) : Calls Tryd.prog 24 #[] W fun e w' => e = .returned (.agg (nums .u32 KL).toArray) ∧ Below W.heap.size W w' := by
  have hz : ∀ w, (zeroValue T64).run Tryd.prog w = .ok (.agg Z64) w := fun _ => by kernel_rfl
  have HI := Lib.hid (size64 (l := KL) rfl)
  have HT := Lib.hid (show Z64.size = ((nums .u32 KL).toArray).size by rfl)
  go_enter Tryd.func24, Tryd.ntmps24
  go_wp2_with (refine wpList_store_row rfl T64 (.tmp 0) (.tmp 1) rfl W.heap.size (nums .u32 KL).toArray rfl rfl T64 Z64 (blk_new _ _) HI.out HT.out (nums_one _) ?_)
  have HRW := setRow_heap _ W.heap.size Z64 (nums .u32 KL).toArray T64 (0, 0) (blk_new W (.cells Z64 T64))
  refine bodyPost_ret (v := .agg (nums .u32 KL).toArray) (results_cell_row rfl _ _ W.heap.size T64 _ (0, 0) _ rfl HRW Tryd.underlying49 rfl HI.out) rfl ⟨rfl, ?_⟩
  exact below_setRow ((Below.refl _ _).alloc (Nat.le_refl _) _) (by omega) _

theorem new_at_size {w : World} {g : Nat} (o : Obj) (h : w.heap.size = g) : (w.alloc o).heap[g]? = some o := by subst h; exact blk_new _ _
theorem numbers_K (K : List Int) (hK : K = KL) (W : World) : Calls Tryd.prog 24 #[] W fun e w' => e = .returned (.agg (nums .u32 K).toArray) ∧ Below W.heap.size W w' := by
  subst hK
  exact numbers_any W

set_option maxHeartbeats 8000000 in
set_option maxRecDepth 100000 in
theorem rtaken_gen (A0 : Option Addr) (c0 : Nat) (st l ws R1 R2 : List Int) (W : World) (hws : ws = wds l 64) (hR1 : R1 = rnds st ws 64) (hR2 : R2 = adds st R1 8) (hst : st.length = 8) (hl : l.length = 64) (hr : RC W A0 l) (hc : l.length ≤ c0) (hby : Bytes l) :
    Calls Tryd.prog 19 #[.agg (nums .u32 st).toArray, .slice A0 64 c0] W fun e w' => e = .returned (.agg (nums .u32 R2).toArray) ∧ Below W.heap.size W w' := by
  have hz : ∀ w, (zeroValue T64).run Tryd.prog w = .ok (.agg Z64) w := fun _ => by kernel_rfl
  have hz8 : ∀ w, (zeroValue T8).run Tryd.prog w = .ok (.agg Z8) w := fun _ => by kernel_rfl
  have hwl : ws.length = 64 := by rw [hws]; exact wds_len _ _
  have H0 := Lib.hid hws
  have H1 := Lib.hid hR1
  have H2 := Lib.hid hR2
  have HST := Lib.hid hst
  have HL := Lib.hid hl
  have HR := Lib.hid hr
  have HC := Lib.hid hc
  have HBY := Lib.hid hby
  have HWL := Lib.hid hwl
  have HI8 := Lib.hid (show (Tryd.prog.info? T8).map (·.size) = some (nums .u32 st).toArray.size by rw [nums_size, hst]; exact info8)
  have HT8 := Lib.hid (show Z8.size = (nums .u32 st).toArray.size by rw [nums_size, hst]; rfl)
  have HI64 := Lib.hid (size64 hwl)
  have HT64 := Lib.hid (show Z64.size = ((nums .u32 ws).toArray).size by rw [nums_size, hwl]; rfl)
  obtain ⟨K, hK⟩ : ∃ K : List Int, K = KL := ⟨_, rfl⟩
  have HKL := Lib.hid hK
  have HIK := Lib.hid (size64 (l := K) (by rw [hK]; rfl))
  have HTK := Lib.hid (show Z64.size = ((nums .u32 K).toArray).size by rw [hK]; rfl)
  clear hws hR1 hR2 hst hl hr hc hby hwl hK
  go_enter Tryd.func19, Tryd.ntmps19
  go_wp2_with (first
    | (go_at_call 23; (with_reducible refine (rwords_gen A0 c0 l ws _ H0.out HL.out (HR.out.below (((Below.refl _ _).alloc (Nat.le_refl _) _).alloc (by simp) _)) HC.out HBY.out).mono ?_); rintro e w1 ⟨rfl, hb1⟩; have HA1 := Lib.hid (blk_below (heap_alloc2_old W _ _) hb1); have HZ1 := Lib.hid (blk_below (heap_alloc2_new W _ _) hb1); have HB1 := Lib.hid (below_then (((Below.refl W.heap.size W).alloc (Nat.le_refl _) _).alloc (by simp) _) (by simp; omega) hb1); clear hb1)
    | (refine wpList_store_row rfl T64 (.tmp 5) (.tmp 15) rfl w1.heap.size (nums .u32 ws).toArray rfl rfl T64 Z64 (blk_new _ _) HI64.out HT64.out (nums_one _) ?_)
    | (go_at_call 24; (with_reducible refine (numbers_K K HKL.out _).mono ?_); rintro e w2 ⟨rfl, hb2⟩; have H52 := Lib.hid (blk_below (setRow_heap (w1.alloc (.cells Z64 T64)) w1.heap.size Z64 (nums .u32 ws).toArray T64 (0, 0) (blk_new _ _)) hb2); have HA2 := Lib.hid (blk_below ((setRow_other (w1.alloc (.cells Z64 T64)) w1.heap.size W.heap.size (nums .u32 ws).toArray (by have := blk_lt HA1.out; omega)).trans (blk_alloc HA1.out _)) hb2); have HZ2 := Lib.hid (blk_below ((setRow_other (w1.alloc (.cells Z64 T64)) w1.heap.size (W.heap.size + 1) (nums .u32 ws).toArray (by have := blk_lt HZ1.out; omega)).trans (blk_alloc HZ1.out _)) hb2); have HB2 := Lib.hid (below_then (below_setRow (HB1.out.alloc HB1.out.size (.cells Z64 T64)) HB1.out.size (nums .u32 ws).toArray) (by have := HB1.out.size; simp; omega) hb2); clear hb2)
    | (refine wpList_store_row rfl T64 (.tmp 6) (.tmp 16) rfl w2.heap.size (nums .u32 K).toArray rfl rfl T64 Z64 (blk_new _ _) HIK.out HTK.out (nums_one _) ?_)
    | ((with_reducible refine gate_dst (N := 17) rfl ?_); refine wpList_load_row rfl T8 (.tmp 2) rfl W.heap.size rfl T8 _ (0, 0) _ ((setRow_other _ _ _ _ (by have := blk_lt HA2.out; omega)).trans (blk_alloc HA2.out _)) Tryd.underlying43 rfl HI8.out ?_)
    | (refine wpList_store_row rfl T8 (.tmp 7) (.tmp 17) rfl (w2.heap.size + 1) (nums .u32 st).toArray rfl rfl T8 Z8 (new_at_size _ (by simp)) HI8.out HT8.out (nums_one _) ?_))
  have L1 : W.heap.size + 1 < w1.heap.size := blk_lt HZ1.out
  have L2 : w1.heap.size < w2.heap.size := blk_lt H52.out
  have keep : ∀ {g : Nat} {o : Obj}, g < w2.heap.size → w2.heap[g]? = some o → ((((w2.alloc (.cells Z64 T64)).setRow w2.heap.size (nums .u32 K).toArray).alloc (.cells Z8 T8)).setRow (w2.heap.size + 1) (nums .u32 st).toArray).heap[g]? = some o := fun hg ho =>
    (setRow_other _ _ _ _ (by omega)).trans (blk_alloc ((setRow_other _ _ _ _ (by omega)).trans (blk_alloc ho _)) _)
  have F5 := keep (blk_lt H52.out) H52.out
  have FA := keep (blk_lt HA2.out) HA2.out
  have FZ := keep (blk_lt HZ2.out) HZ2.out
  have F6 : ((((w2.alloc (.cells Z64 T64)).setRow w2.heap.size (nums .u32 K).toArray).alloc (.cells Z8 T8)).setRow (w2.heap.size + 1) (nums .u32 st).toArray).heap[w2.heap.size]? = some (.cells (nums .u32 K).toArray T64 (0, 0)) :=
    (setRow_other _ _ _ _ (by omega)).trans (blk_alloc (setRow_heap _ _ _ _ _ _ (blk_new _ _)) _)
  have F7 : ((((w2.alloc (.cells Z64 T64)).setRow w2.heap.size (nums .u32 K).toArray).alloc (.cells Z8 T8)).setRow (w2.heap.size + 1) (nums .u32 st).toArray).heap[w2.heap.size + 1]? = some (.cells (nums .u32 st).toArray T8 (0, 0)) :=
    setRow_heap _ _ _ _ _ _ (new_at_size _ (by simp))
  have FB : Below W.heap.size W ((((w2.alloc (.cells Z64 T64)).setRow w2.heap.size (nums .u32 K).toArray).alloc (.cells Z8 T8)).setRow (w2.heap.size + 1) (nums .u32 st).toArray) :=
    below_setRow ((below_setRow (HB2.out.alloc HB2.out.size _) HB2.out.size _).alloc (by have := HB2.out.size; simp; omega) _) (by omega) _
  generalize ((((w2.alloc (.cells Z64 T64)).setRow w2.heap.size (nums .u32 K).toArray).alloc (.cells Z8 T8)).setRow (w2.heap.size + 1) (nums .u32 st).toArray) = w3 at F5 FA FZ F6 F7 FB ⊢
  have G5 := Lib.hid F5
  have GA := Lib.hid FA
  have GZ := Lib.hid FZ
  have G6 := Lib.hid F6
  have G7 := Lib.hid F7
  have GB := Lib.hid FB
  clear keep F5 FA FZ F6 F7 FB H52 HA2 HZ2 HB2 HA1 HZ1 HB1
  obtain ⟨s7, hs7⟩ : ∃ s7 : Nat, s7 = w2.heap.size + 1 := ⟨_, rfl⟩
  rw [← hs7] at G7 ⊢
  have HS7 := Lib.hid hs7
  clear hs7
  go_loopw [8] (fun v8 wr => ∃ (t : Nat) (s : List Int), t ≤ 64 ∧ v8 = .int .i64 t ∧ s.length = 8 ∧ Aside0 (s = rnds st ws t) ∧ wr.heap[s7]? = some (.cells (nums .u32 s).toArray T8 (0, 0)) ∧ Wrote s7 w3 wr) (fun v8 _ => 64 - (intOf v8).toNat)
  case atStart => exact ⟨0, st, by omega, rfl, HST.out, ⟨rfl⟩, G7.out, Wrote.refl _ _⟩
  case round =>
    obtain ⟨t, s, ht, rfl, hs, HA, hm, hw⟩ := hrel
    have HM := Lib.hid hm
    have HW := Lib.hid hw
    have HS := Lib.hid hs
    by_cases hlt : t < 64
    · have y0 := row_cell hm 0 (by omega)
      have y1 := row_cell hm 1 (by omega)
      have y2 := row_cell hm 2 (by omega)
      have y3 := row_cell hm 3 (by omega)
      have y4 := row_cell hm 4 (by omega)
      have y5 := row_cell hm 5 (by omega)
      have y6 := row_cell hm 6 (by omega)
      have y7 := row_cell hm 7 (by omega)
      have yk := row_cell ((hw.block w2.heap.size (blk_lt G6.out) (by have := HS7.out; omega)).trans G6.out) t (by rw [HKL.out]; exact hlt)
      have yx := row_cell ((hw.block w1.heap.size (blk_lt G5.out) (by have := HS7.out; omega)).trans G5.out) t (by rw [HWL.out]; exact hlt)
      have ht64 : (t : Int) < 64 := by omega
      clear hm hw hs
      go_wp2
      have wu : ∀ x : Int, IntKind.u32.wrap x = x % 4294967296 := fun x => IntKind.wrap_u32 x
      refine wp_region_quiet_lit (by kernel_rfl) (by kernel_rfl) ?_
      repeat (quiet_step (fail))
      quiet_step ((go_at_call 25; with_reducible exact Calls.quiet_of (turned_q _ 6 6 _ rfl (by decide) (by decide))))
      repeat (quiet_step (fail))
      quiet_step ((go_at_call 25; with_reducible exact Calls.quiet_of (turned_q _ 11 11 _ rfl (by decide) (by decide))))
      repeat (quiet_step (fail))
      quiet_step ((go_at_call 25; with_reducible exact Calls.quiet_of (turned_q _ 25 25 _ rfl (by decide) (by decide))))
      repeat (quiet_step (fail))
      refine wpQuiet_nil ?_
      intro _ hw'
      obtain ⟨nq, hw''⟩ := hw'
      subst hw''
      clear wu y0 y1 y2 y3 y4 y5 y6 y7 yk yx
      go_wp2_with fail
      have HQ := Lib.hid (show (wr.drewN nq).heap[s7]? = some (.cells (nums .u32 s).toArray T8 (0, 0)) from HM.out)
      have HQW := Lib.hid (show Wrote s7 w3 (wr.drewN nq) from HW.out.trans (Wrote.of_below (Same.below (Same.drewN _ _) _)))
      clear HM HW
      generalize wr.drewN nq = wq at HQ HQW ⊢
      have hq := HQ.out
      have y1 := row_cell hq 1 (by rw [HS.out]; omega)
      have y2 := row_cell hq 2 (by rw [HS.out]; omega)
      clear hq
      have wu : ∀ x : Int, IntKind.u32.wrap x = x % 4294967296 := fun x => IntKind.wrap_u32 x
      refine wp_region_quiet_lit (by kernel_rfl) (by kernel_rfl) ?_
      repeat (quiet_step (fail))
      quiet_step ((go_at_call 25; with_reducible exact Calls.quiet_of (turned_q _ 2 2 _ rfl (by decide) (by decide))))
      repeat (quiet_step (fail))
      quiet_step ((go_at_call 25; with_reducible exact Calls.quiet_of (turned_q _ 13 13 _ rfl (by decide) (by decide))))
      repeat (quiet_step (fail))
      quiet_step ((go_at_call 25; with_reducible exact Calls.quiet_of (turned_q _ 22 22 _ rfl (by decide) (by decide))))
      repeat (quiet_step (fail))
      refine wpQuiet_nil ?_
      intro _ hw'
      obtain ⟨nq2, hw''⟩ := hw'
      subst hw''
      clear wu y1 y2
      have HZ := Lib.hid (show (wq.drewN nq2).heap[s7]? = some (.cells (nums .u32 s).toArray T8 (0, 0)) from HQ.out)
      have HZW := Lib.hid (show Wrote s7 w3 (wq.drewN nq2) from HQW.out.trans (Wrote.of_below (Same.below (Same.drewN _ _) _)))
      clear HQ HQW
      generalize wq.drewN nq2 = wz at HZ HZW ⊢
      have hq := HZ.out
      have y1 := row_cell hq 1 (by rw [HS.out]; omega)
      have y2 := row_cell hq 2 (by rw [HS.out]; omega)
      have y3 := row_cell hq 3 (by rw [HS.out]; omega)
      have y5 := row_cell hq 5 (by rw [HS.out]; omega)
      have y6 := row_cell hq 6 (by rw [HS.out]; omega)
      clear hq
      have HSZ := Lib.hid (show (nums .u32 s).toArray.size = (nums .u32 (rnd s (bn K t) (bn ws t))).toArray.size by rw [nums_size, nums_size, HS.out]; rfl)
      go_wp2_with (refine wpList_store_row rfl T8 (.tmp 7) (.tmp 97) rfl s7 (nums .u32 (rnd s (bn K t) (bn ws t))).toArray rfl rfl T8 _ HZ.out info8 HSZ.out (nums_one _) ?_)
      go_roundw
      case rel =>
        refine ⟨t + 1, rnd s (bn K t) (bn ws t), by omega, by go_num, rfl, ⟨by rw [HA.out, HKL.out]; rfl⟩, setRow_heap _ _ _ _ _ _ HZ.out, HZW.out.trans ⟨rfl, rfl, rfl, by simp, fun k _ hn => setRow_other _ _ _ _ hn⟩⟩
      case measure => simp [intOf]; omega
    · have HT := Lib.hid (show t = 64 by omega)
      have hA := HA.out
      rw [show t = 64 from HT.out, ← H1.out] at hA
      subst hA
      have ha0 : wr.heap[W.heap.size]? = some (.cells (nums .u32 st).toArray T8 (0, 0)) := (hw.block W.heap.size (blk_lt GA.out) (by have := HS7.out; omega)).trans GA.out
      have hz0 : wr.heap[W.heap.size + 1]? = some (.cells Z8 T8 (0, 0)) := (hw.block (W.heap.size + 1) (blk_lt GZ.out) (by have := HS7.out; omega)).trans GZ.out
      have HA0 := Lib.hid ha0
      have HZ0 := Lib.hid hz0
      have HBW := Lib.hid (GB.out.trans (hw.below (B := W.heap.size) (by have := HS7.out; omega) GB.out.size))
      clear hm hw hs HA HW ha0 hz0
      go_wp2
      obtain ⟨wo, rfl⟩ : ∃ wo : World, wo = wr := ⟨_, rfl⟩
      go_loopw [13] (fun v13 wq => ∃ i : Nat, i ≤ 8 ∧ v13 = .int .i64 i ∧ wq.heap[W.heap.size]? = some (.cells (nums .u32 (adds st s i)).toArray T8 (0, 0)) ∧ Wrote W.heap.size wo wq) (fun v13 _ => 8 - (intOf v13).toNat)
      case atStart => exact ⟨0, by omega, rfl, HA0.out, Wrote.refl _ _⟩
      case round =>
        obtain ⟨i, hi, rfl, hm, hw⟩ := hrel
        have HM2 := Lib.hid hm
        have HW2 := Lib.hid hw
        by_cases hlt2 : i < 8
        · have hal := adds_len s HST.out i
          have x0 := row_cell hm i (by omega)
          have x1 := row_cell ((hw.block s7 (blk_lt HM.out) (by have := HS7.out; omega)).trans HM.out) i (by rw [HS.out]; exact hlt2)
          have xf := blk_frozen hm i
          have hi8 : (i : Int) < 8 := by omega
          clear hm hw hal
          go_wp2
          have wu : ∀ x : Int, IntKind.u32.wrap x = x % 4294967296 := fun x => IntKind.wrap_u32 x
          go_still_tail 9, (by kernel_rfl)
          change wpList _ _ _ _ _ wr.drew
          clear wu
          go_wp2
          go_roundw
          case rel =>
            refine ⟨i + 1, by omega, by go_num, (blk_set HM2.out _ _).trans ?_, (wrote_setCell HW2.out i _).drew⟩
            rw [nums_set']
            rfl
          case measure => simp [intOf]; omega
        · have HI := Lib.hid (show i = 8 by omega)
          rw [show i = 8 from HI.out, ← H2.out] at hm
          have hRl : R2.length = 8 := by rw [H2.out]; exact adds_len _ HST.out 8
          have HM3 := Lib.hid hm
          have HI3 := Lib.hid (show (Tryd.prog.info? T8).map (·.size) = some (nums .u32 R2).toArray.size by rw [nums_size, hRl]; exact info8)
          have HT3 := Lib.hid (show Z8.size = (nums .u32 R2).toArray.size by rw [nums_size, hRl]; rfl)
          have HZ3 := Lib.hid ((hw.block (W.heap.size + 1) (blk_lt HZ0.out) (by omega)).trans HZ0.out)
          clear hm hw hRl HM2
          go_wp2_with (first
            | ((with_reducible refine gate_dst (N := 111) rfl ?_); refine wpList_load_row rfl T8 (.tmp 2) rfl W.heap.size rfl T8 _ (0, 0) _ HM3.out Tryd.underlying43 rfl HI3.out ?_)
            | (refine wpList_store_row rfl T8 (.tmp 4) (.tmp 111) rfl (W.heap.size + 1) (nums .u32 R2).toArray rfl rfl T8 Z8 HZ3.out HI3.out HT3.out (nums_one _) ?_))
          have HRW := setRow_heap wr (W.heap.size + 1) Z8 (nums .u32 R2).toArray T8 (0, 0) HZ3.out
          refine bodyPost_ret (v := .agg (nums .u32 R2).toArray) (results_cell_row rfl _ _ (W.heap.size + 1) T8 _ (0, 0) _ rfl HRW Tryd.underlying43 rfl HI3.out) rfl ⟨rfl, ?_⟩
          exact below_setRow (HBW.out.trans (HW2.out.below (Nat.le_refl _) HBW.out.size)) (by omega) _
end Go.Proofs.YthgmhjgbjodhjaaDoor.Sha6
