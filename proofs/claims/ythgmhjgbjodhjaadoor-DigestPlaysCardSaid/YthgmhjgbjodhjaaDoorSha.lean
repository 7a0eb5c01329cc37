/- The digest's own functions, walked: a number turned round, the words of a block, a block taken in; the document's own beside them. -/
import Derived.Test.YthgmhjgbjodhjaaDoorProg
import Derived.Test.YthgmhjgbjodhjaaDoorWMore
import Derived.WalkKit
import Derived.KernelRfl
import Derived.Lib.Hide
import Derived.Outline
import Derived.RegionTactic
import Derived.BigRegion
import Derived.Deep.QuietTactic
import Derived.BigQuiet
import Derived.Laws.Rows
import Derived.StillTailTactics
namespace Go.Proofs.YthgmhjgbjodhjaaDoor.Sha
open Go.Proofs.YthgmhjgbjodhjaaDoor Go.RowKit Go.Proofs.YthgmhjgbjodhjaaDoorW.PrintWords Go.Proofs.YthgmhjgbjodhjaaDoorW.PrintLast Go.Proofs.YthgmhjgbjodhjaaDoorW.PrintMore
set_option linter.unusedVariables false

/-- A number turned round to the right by n bits. -/
def rot (x : Int) (n : Nat) : Int := Go.bits .or .u32 (x / 2 ^ n) (x * 2 ^ (32 - n) % 4294967296)

theorem or_comm32 (x y : Int) : Go.bits .or .u32 x y = Go.bits .or .u32 y x := by
  unfold Go.bits; simp only [BitVec.toNat_or]; rw [Nat.or_comm]

set_option maxRecDepth 100000 in
theorem rotate_any (x k : Int) (m : Nat) (n : Nat) (W : World) (hm : 1 ≤ m) (hm2 : m + n = 32) (hn : 1 ≤ n) (hk : Go.bits .and .u64 (IntKind.u64.wrap k) 31 = (m : Int)) :
    Calls Tryd.prog 27 #[.int .u32 x, .int .i64 k] W fun e w' => e = .returned (.int .u32 (rot x n)) ∧ W = w' := by
  have H := Lib.hid hm2
  obtain rfl : m = 32 - n := by omega
  have hn2 : n ≤ 31 := by omega
  have hs : (32 : Int) - ((32 - n : Nat) : Int) = (n : Int) := by omega
  clear hm2 hm
  go_enter Tryd.func27, Tryd.ntmps27
  go_wp2
  go_ret
  refine ⟨?_, rfl⟩
  unfold rot
  rw [or_comm32]
  rfl

abbrev T64 : Nat := 49
def Z64 : Array Value := (nums .u32 (List.replicate 64 0)).toArray

def bn (b : List Int) (j : Nat) : Int := rd b (j : Int)
theorem row_cell {w : World} {b : Nat} {l : List Int} {t : TypeId} (h : w.heap[b]? = some (.cells (nums .u32 l).toArray t (0, 0))) (j : Nat) (hj : j < l.length) : w.cell? ⟨b, j, none⟩ = some (.int .u32 (bn l j)) := by
  rw [blk_cell h, List.getElem?_toArray]
  unfold bn rd
  simp only [nums, List.getElem?_map]
  rw [List.getElem?_eq_getElem hj, Int.toNat_natCast, List.getD_eq_getElem?_getD, List.getElem?_eq_getElem hj]
  rfl
theorem nums_set' (k : IntKind) (l : List Int) (i : Nat) (v : Int) : (nums k l).toArray.setIfInBounds i (.int k v) = (nums k (l.set i v)).toArray := by
  simp [nums, List.map_set]
theorem nums_size (l : List Int) : (nums .u32 l).toArray.size = l.length := by simp [nums]
theorem nums_one (l : List Int) : (nums .u32 l).toArray.all (·.oneCell') = true := by
  rw [Array.all_eq_true_iff_forall_mem]
  intro v hv
  simp only [nums, List.mem_toArray, List.mem_map] at hv
  obtain ⟨n, _, rfl⟩ := hv
  rfl

theorem info64 : (Tryd.prog.info? T64).map (·.size) = some 64 := by kernel_rfl
theorem size64 {l : List Int} (hl : l.length = 64) : (Tryd.prog.info? T64).map (·.size) = some ((nums .u32 l).toArray).size := by
  rw [nums_size, hl]; exact info64
theorem below_setRow {B : Nat} {a w : World} (h : Below B a w) {g : Nat} (hg : B ≤ g) (cs : Array Value) : Below B a (w.setRow g cs) :=
  h.trans ⟨rfl, rfl, rfl, by simp, fun k hk => setRow_other _ _ _ _ (by omega)⟩

/-- A block's word. -/
def be (b : List Int) (t : Nat) : Int := Go.bits .or .u32 (Go.bits .or .u32 (Go.bits .or .u32 (bn b (4 * t) * 16777216) (bn b (4 * t + 1) * 65536)) (bn b (4 * t + 2) * 256)) (bn b (4 * t + 3))
def lows (x : Int) : Int := Go.bits .xor .u32 (Go.bits .xor .u32 (rot x 7) (rot x 18)) (x / 8)
def highs (x : Int) : Int := Go.bits .xor .u32 (Go.bits .xor .u32 (rot x 17) (rot x 19)) (x / 1024)
/-- The words below t. -/
def wds (b : List Int) : Nat → List Int
  | 0 => List.replicate 64 0
  | t + 1 => (wds b t).set t (if t < 16 then be b t else (bn (wds b t) (t - 16) + lows (bn (wds b t) (t - 15)) + bn (wds b t) (t - 7) + highs (bn (wds b t) (t - 2))) % 4294967296)

theorem wds_len (b : List Int) (k : Nat) : (wds b k).length = 64 := by
  induction k with
  | zero => exact List.length_replicate
  | succ k ih => show ((wds b k).set _ _).length = 64; simp [ih]

theorem byte_at {w : World} {A : Option Addr} {l : List Int} (h : Kd.C (Kd.int .u8) w A l.length l) (j : Nat) (h1 : j < l.length) : ∃ ad, A = some ad ∧ w.cell? (ad.add j) = some (.int .u8 (bn l j)) := by
  obtain ⟨ad, e, hx⟩ := Kd.at_int h (j : Int) (by omega) (by omega)
  rw [Int.toNat_natCast] at hx
  exact ⟨ad, e, hx⟩

def Bytes (l : List Int) : Prop := ∀ j : Nat, 0 ≤ bn l j ∧ bn l j ≤ 255

set_option maxHeartbeats 4000000 in
set_option maxRecDepth 100000 in
theorem words_gen (A0 : Option Addr) (c0 : Nat) (l : List Int) (R : List Int) (W : World) (hR : R = wds l 64) (hl : l.length = 64) (hr : Kd.C (Kd.int .u8) W A0 l.length l) (hc : l.length ≤ c0) (hby : Bytes l) :
    Calls Tryd.prog 21 #[.slice A0 64 c0] W fun e w' => e = .returned (.agg (nums .u32 R).toArray) ∧ Below W.heap.size W w' := by
  have hz : ∀ w, (zeroValue T64).run Tryd.prog w = .ok (.agg Z64) w := fun _ => by kernel_rfl
  have HR := Lib.hid hr
  have HBY := Lib.hid hby
  have HL := Lib.hid hl
  have HRR := Lib.hid hR
  clear hR
  have hc2 : 64 ≤ c0 := by omega
  obtain ⟨ad, hA, _⟩ := byte_at hr 0 (by omega)
  subst hA
  clear hr hby hc
  go_enter Tryd.func21, Tryd.ntmps21
  go_wp2
  go_loopw [10] (fun v10 wr => ∃ k : Nat, k ≤ 16 ∧ v10 = .int .i64 k ∧ wr.heap[W.heap.size]? = some (.cells Z64 T64 (0, 0)) ∧ wr.heap[W.heap.size + 1]? = some (.cells (nums .u32 (wds l k)).toArray T64 (0, 0)) ∧ Below W.heap.size W wr) (fun v10 _ => 16 - (intOf v10).toNat)
  case atStart =>
    refine ⟨0, by omega, rfl, ?_, ?_, ((Below.refl _ _).alloc (Nat.le_refl _) _).alloc (by simp) _⟩
    · exact blk_alloc (blk_new _ _) _
    · show _ = some (Obj.cells Z64 T64 (0, 0))
      have := blk_new (W.alloc (.cells Z64 T64)) (.cells Z64 T64)
      simpa using this
  case round =>
    obtain ⟨k, hk, rfl, hm0, hm1, hb⟩ := hrel
    have HM0 := Lib.hid hm0
    have HM1 := Lib.hid hm1
    have HB := Lib.hid hb
    by_cases hlt : k < 16
    · have HC := Kd.C_below HR.out hb
      obtain ⟨j0, hj0⟩ : ∃ j : Nat, j = 4 * k := ⟨_, rfl⟩
      obtain ⟨j1, hj1⟩ : ∃ j : Nat, j = 4 * k + 1 := ⟨_, rfl⟩
      obtain ⟨j2, hj2⟩ : ∃ j : Nat, j = 4 * k + 2 := ⟨_, rfl⟩
      obtain ⟨j3, hj3⟩ : ∃ j : Nat, j = 4 * k + 3 := ⟨_, rfl⟩
      obtain ⟨ad0, e0, x0⟩ := byte_at HC j0 (by omega)
      cases e0
      obtain ⟨ad1, e1, x1⟩ := byte_at HC j1 (by omega)
      cases e1
      obtain ⟨ad2, e2, x2⟩ := byte_at HC j2 (by omega)
      cases e2
      obtain ⟨ad3, e3, x3⟩ := byte_at HC j3 (by omega)
      cases e3
      obtain ⟨b00, b01⟩ := HBY.out j0
      obtain ⟨b10, b11⟩ := HBY.out j1
      obtain ⟨b20, b21⟩ := HBY.out j2
      obtain ⟨b30, b31⟩ := HBY.out j3
      have hbe : be l k = Go.bits .or .u32 (Go.bits .or .u32 (Go.bits .or .u32 (bn l j0 * 16777216) (bn l j1 * 65536)) (bn l j2 * 256)) (bn l j3) := by
        subst hj0 hj1 hj2 hj3; rfl
      have HBE := Lib.hid hbe
      have hc2 := row_cell hm1 k (by rw [wds_len]; omega)
      have hf2 := blk_frozen hm1 k
      have l0 : (j0 : Int) < 64 := by omega
      have l1 : (j1 : Int) < 64 := by omega
      have l2 : (j2 : Int) < 64 := by omega
      have l3 : (j3 : Int) < 64 := by omega
      have l4 : (k : Int) < 64 := by omega
      have w0 : IntKind.i64.wrap (4 * (k : Int)) = (j0 : Int) := by rw [IntKind.wrap_i64]; omega
      have w1 : IntKind.i64.wrap ((j0 : Int) + 1) = (j1 : Int) := by rw [IntKind.wrap_i64]; omega
      have w2 : IntKind.i64.wrap ((j0 : Int) + 2) = (j2 : Int) := by rw [IntKind.wrap_i64]; omega
      have w3 : IntKind.i64.wrap ((j0 : Int) + 3) = (j3 : Int) := by rw [IntKind.wrap_i64]; omega
      clear hm0 hm1 hb HC hbe hj0 hj1 hj2 hj3
      go_wp2
      go_still_tail 35, (by kernel_rfl)
      change wpList _ _ _ _ _ wr.drew
      go_wp2
      go_roundw
      case rel =>
        refine ⟨k + 1, by omega, by go_num, (heap_setCell_other _ _ _ _ (by simp)).trans HM0.out, (blk_set HM1.out _ _).trans ?_, below_drew1 (HB.out.setCell (by simp) _)⟩
        · have hS : wds l (k + 1) = (wds l k).set k (be l k) := by
            show (wds l k).set k (if k < 16 then be l k else _) = _
            rw [if_pos hlt]
          rw [nums_set', hS, HBE.out]
      case measure => simp [intOf]; omega
    · have HK := Lib.hid (show k = 16 by omega)
      rw [show k = 16 from HK.out] at hm1
      have HM2 := Lib.hid hm1
      clear hm0 hm1 hb HM1
      go_wp2
      go_loopw [5] (fun v5 wr => ∃ t : Nat, 16 ≤ t ∧ t ≤ 64 ∧ v5 = .int .i64 t ∧ wr.heap[W.heap.size]? = some (.cells Z64 T64 (0, 0)) ∧ wr.heap[W.heap.size + 1]? = some (.cells (nums .u32 (wds l t)).toArray T64 (0, 0)) ∧ Below W.heap.size W wr) (fun v5 _ => 64 - (intOf v5).toNat)
      case atStart => exact ⟨16, by omega, by omega, rfl, HM0.out, HM2.out, HB.out⟩
      case round =>
        obtain ⟨t, ht, ht2, rfl, hm0, hm1, hb⟩ := hrel
        have HM0 := Lib.hid hm0
        have HM1 := Lib.hid hm1
        have HB := Lib.hid hb
        have HT := Lib.hid ht
        by_cases hlt : t < 64
        · obtain ⟨j0, hj0⟩ : ∃ j : Nat, j = t - 16 := ⟨_, rfl⟩
          obtain ⟨j1, hj1⟩ : ∃ j : Nat, j = t - 15 := ⟨_, rfl⟩
          obtain ⟨j2, hj2⟩ : ∃ j : Nat, j = t - 7 := ⟨_, rfl⟩
          obtain ⟨j3, hj3⟩ : ∃ j : Nat, j = t - 2 := ⟨_, rfl⟩
          have hwl := wds_len l t
          have x0 := row_cell hm1 j0 (by omega)
          have x1 := row_cell hm1 j1 (by omega)
          have x2 := row_cell hm1 j2 (by omega)
          have x3 := row_cell hm1 j3 (by omega)
          have x4 := row_cell hm1 t (by omega)
          have hf := blk_frozen hm1 t
          have hS : wds l (t + 1) = (wds l t).set t ((bn (wds l t) j0 + lows (bn (wds l t) j1) + bn (wds l t) j2 + highs (bn (wds l t) j3)) % 4294967296) := by
            show (wds l t).set t (if t < 16 then be l t else _) = _
            rw [if_neg (by omega)]
            subst hj0 hj1 hj2 hj3
            rfl
          have HS := Lib.hid hS
          have l0 : (j0 : Int) < 64 := by omega
          have l1 : (j1 : Int) < 64 := by omega
          have l2 : (j2 : Int) < 64 := by omega
          have l3 : (j3 : Int) < 64 := by omega
          have l4 : (t : Int) < 64 := by omega
          have w0 : IntKind.i64.wrap ((t : Int) - 16) = (j0 : Int) := by rw [IntKind.wrap_i64]; omega
          have w1 : IntKind.i64.wrap ((t : Int) - 15) = (j1 : Int) := by rw [IntKind.wrap_i64]; omega
          have w2 : IntKind.i64.wrap ((t : Int) - 7) = (j2 : Int) := by rw [IntKind.wrap_i64]; omega
          have w3 : IntKind.i64.wrap ((t : Int) - 2) = (j3 : Int) := by rw [IntKind.wrap_i64]; omega
          clear hm0 hm1 hb hS hj0 hj1 hj2 hj3 hwl ht
          go_wp2
          go_still (by kernel_rfl)
          go_wp2_with (first
            | (go_at_call 27; (with_reducible refine (rotate_any _ (-7) 25 7 _ (by decide) (by decide) (by decide) (by decide)).mono ?_); rintro e w' ⟨rfl, rfl⟩)
            | (go_at_call 27; (with_reducible refine (rotate_any _ (-18) 14 18 _ (by decide) (by decide) (by decide) (by decide)).mono ?_); rintro e w' ⟨rfl, rfl⟩)
            | (go_at_call 27; (with_reducible refine (rotate_any _ (-17) 15 17 _ (by decide) (by decide) (by decide) (by decide)).mono ?_); rintro e w' ⟨rfl, rfl⟩)
            | (go_at_call 27; (with_reducible refine (rotate_any _ (-19) 13 19 _ (by decide) (by decide) (by decide) (by decide)).mono ?_); rintro e w' ⟨rfl, rfl⟩))
          have y0 : wr.drew.cell? ⟨W.heap.size + 1, j0, none⟩ = some (.int .u32 (bn (wds l t) j0)) := x0
          have y2 : wr.drew.cell? ⟨W.heap.size + 1, j2, none⟩ = some (.int .u32 (bn (wds l t) j2)) := x2
          have y4 : wr.drew.cell? ⟨W.heap.size + 1, t, none⟩ = some (.int .u32 (bn (wds l t) t)) := x4
          have yf : wr.drew.frozen? ⟨W.heap.size + 1, t, none⟩ = false := hf
          have HQ0 := Lib.hid (show wr.drew.heap[W.heap.size]? = some (.cells Z64 T64 (0, 0)) from HM0.out)
          have HQ1 := Lib.hid (show wr.drew.heap[W.heap.size + 1]? = some (.cells (nums .u32 (wds l t)).toArray T64 (0, 0)) from HM1.out)
          have HQB := Lib.hid (below_drew1 HB.out)
          clear x0 x1 x2 x3 x4 hf HM0 HM1 HB
          generalize wr.drew = wq at y0 y2 y4 yf HQ0 HQ1 HQB ⊢
          have wu : ∀ x : Int, IntKind.u32.wrap x = x % 4294967296 := fun x => IntKind.wrap_u32 x
          go_still_tail 15, (by kernel_rfl)
          change wpList _ _ _ _ _ wq.drew
          clear wu
          go_wp2
          go_roundw
          case rel =>
            refine ⟨t + 1, by have := HT.out; omega, by omega, by go_num, (heap_setCell_other _ _ _ _ (by simp)).trans HQ0.out, (blk_set HQ1.out _ _).trans ?_, below_drew1 (HQB.out.setCell (by simp) _)⟩
            rw [nums_set', HS.out]
            rfl
          case measure => simp [intOf]; omega
        · have HK2 := Lib.hid (show t = 64 by omega)
          rw [show t = 64 from HK2.out, ← HRR.out] at hm1
          have hRl : R.length = 64 := by rw [HRR.out]; exact wds_len l 64
          have HM2 := Lib.hid hm1
          have HT := Lib.hid (show Z64.size = ((nums .u32 R).toArray).size by rw [nums_size, hRl]; rfl)
          have HI := Lib.hid (size64 hRl)
          clear hm0 hm1 hb HM1 hRl
          go_wp2_with (first
            | ((with_reducible refine gate_dst (N := 92) rfl ?_); refine wpList_load_row rfl T64 (.tmp 3) rfl (W.heap.size + 1) rfl T64 _ (0, 0) _ HM2.out Tryd.underlying49 rfl HI.out ?_)
            | (refine wpList_store_row rfl T64 (.tmp 2) (.tmp 92) rfl W.heap.size (nums .u32 R).toArray rfl rfl T64 Z64 HM0.out HI.out HT.out (nums_one _) ?_))
          have HR := setRow_heap wr W.heap.size Z64 (nums .u32 R).toArray T64 (0, 0) HM0.out
          refine bodyPost_ret (v := .agg (nums .u32 R).toArray) (results_cell_row rfl _ _ W.heap.size T64 _ (0, 0) _ rfl HR Tryd.underlying49 rfl HI.out) rfl ⟨rfl, ?_⟩
          exact below_setRow HB.out (by omega) _

theorem words_any (A0 : Option Addr) (c0 : Nat) (l : List Int) (W : World) (hl : l.length = 64) (hr : Kd.C (Kd.int .u8) W A0 l.length l) (hc : l.length ≤ c0) (hby : Bytes l) :
    Calls Tryd.prog 21 #[.slice A0 64 c0] W fun e w' => e = .returned (.agg (nums .u32 (wds l 64)).toArray) ∧ Below W.heap.size W w' :=
  words_gen A0 c0 l _ W rfl hl hr hc hby
end Go.Proofs.YthgmhjgbjodhjaaDoor.Sha
