/- What the Go program's Join answers: the matrix of bits of a step over one byte 0, squared again and again, for every two sums and every length. -/
import Derived.Test.YtfiklobfdacbbaaCrc
import Derived.Outline
namespace Go.Proofs.Ytfiklobfdacbbaa.CrcJoin
open Go.Proofs.Ytfiklobfdacbbaa Go.RowKit Go.Proofs.YtfiklobfdacbbaaW.PrintWords Go.Proofs.YtfiklobfdacbbaaW.PrintLast Go.Proofs.YtfiklobfdacbbaaW.PrintMore Go.Proofs.Ytfiklobfdacbbaa.Crc
set_option linter.unusedVariables false

/-- What a matrix of bits does to a number: the rows of its bits below j, put together. -/
def does (l : List Int) (x : Int) : Nat → Int
  | 0 => 0
  | j + 1 => if Go.bits .and .u32 (x / 2 ^ j) 1 = 1 then Go.bits .xor .u32 (does l x j) (rd l (j : Int)) else does l x j

abbrev TA : Nat := 43

theorem row_cell {w : World} {b : Nat} {l : List Int} (h : w.heap[b]? = some (.cells (nums .u32 l).toArray TA (0, 0))) (j : Nat) (hj : j < l.length) : w.cell? ⟨b, j, none⟩ = some (.int .u32 (rd l (j : Int))) := by
  rw [blk_cell h, List.getElem?_toArray]
  unfold rd
  simp only [nums, List.getElem?_map]
  rw [List.getElem?_eq_getElem hj, Int.toNat_natCast, List.getD_eq_getElem?_getD, List.getElem?_eq_getElem hj]
  rfl

set_option maxRecDepth 100000 in
theorem does_any (b : Nat) (l : List Int) (x : Int) (W : World) (hl : l.length = 32) (hm : W.heap[b]? = some (.cells (nums .u32 l).toArray TA (0, 0))) :
    Calls Try.prog 24 #[.pointer (some ⟨b, 0, none⟩), .int .u32 x] W fun e w' => e = .returned (.int .u32 (does l x 32)) ∧ W = w' := by
  have HM := Lib.hid hm
  clear hm
  go_enter Try.func24, Try.ntmps24
  go_wp2
  go_loop [5, 7] (fun v5 v7 => ∃ j : Nat, j ≤ 32 ∧ v5 = .int .u32 (does l x j) ∧ v7 = .int .i64 j) (fun _ v7 => 32 - (intOf v7).toNat)
  case atStart => exact ⟨0, by omega, rfl, rfl⟩
  case round =>
    obtain ⟨j, hj, rfl, rfl⟩ := hrel
    by_cases hlt : j < 32
    · have hc := row_cell HM.out j (by omega)
      have HS := Lib.hid (show does l x (j + 1) = if Go.bits .and .u32 (x / 2 ^ j) 1 = 1 then Go.bits .xor .u32 (does l x j) (rd l (j : Int)) else does l x j from rfl)
      go_wp2
      · go_round
        case rel => exact ⟨j + 1, by omega, by rw [HS.out, if_pos (eq_of_beq (by assumption))], by go_num⟩
        case measure => simp [intOf]; omega
      · go_round
        case rel => exact ⟨j + 1, by omega, by rw [HS.out, if_neg (ne_of_beq_false (by assumption))], by go_num⟩
        case measure => simp [intOf]; omega
    · obtain rfl : j = 32 := by omega
      go_wp2
      go_ret
      exact ⟨rfl, rfl⟩

/-- The rows of the square below k. -/
def sqs (l : List Int) : Nat → List Int
  | 0 => List.replicate 32 0
  | k + 1 => (sqs l k).set k (does l (rd l (k : Int)) 32)

theorem sqs_len (l : List Int) (k : Nat) : (sqs l k).length = 32 := by
  induction k with
  | zero => exact List.length_replicate
  | succ k ih => show ((sqs l k).set _ _).length = 32; simp [ih]

def Z0 : Array Value := (nums .u32 (List.replicate 32 0)).toArray

theorem nums_set' (k : IntKind) (l : List Int) (i : Nat) (v : Int) : (nums k l).toArray.setIfInBounds i (.int k v) = (nums k (l.set i v)).toArray := by
  simp [nums, List.map_set]
theorem nums_size (l : List Int) : (nums .u32 l).toArray.size = l.length := by simp [nums]
theorem nums_one (l : List Int) : (nums .u32 l).toArray.all (·.oneCell') = true := by
  rw [Array.all_eq_true_iff_forall_mem]
  intro v hv
  simp only [nums, List.mem_toArray, List.mem_map] at hv
  obtain ⟨n, _, rfl⟩ := hv
  rfl
theorem below_setRow {B : Nat} {a w : World} (h : Below B a w) {g : Nat} (hg : B ≤ g) (cs : Array Value) : Below B a (w.setRow g cs) :=
  h.trans ⟨rfl, rfl, rfl, by simp, fun k hk => setRow_other _ _ _ _ (by omega)⟩
theorem infoA : (Try.prog.info? TA).map (·.size) = some 32 := by kernel_rfl
theorem size_of {l : List Int} (hl : l.length = 32) : (Try.prog.info? TA).map (·.size) = some ((nums .u32 l).toArray).size := by
  rw [nums_size, hl]; exact infoA

set_option maxRecDepth 100000 in
theorem squares_any (l : List Int) (W : World) (hl : l.length = 32) :
    Calls Try.prog 25 #[.agg (nums .u32 l).toArray, .func (.func 24) #[] #[]] W fun e w' => e = .returned (.agg (nums .u32 (sqs l 32)).toArray) ∧ Below W.heap.size W w' := by
  have hz : ∀ w, (zeroValue TA).run Try.prog w = .ok (.agg Z0) w := fun _ => by kernel_rfl
  go_enter Try.func25, Try.ntmps25
  go_wp2
  go_loopw [7] (fun v7 wr => ∃ k : Nat, k ≤ 32 ∧ v7 = .int .i64 k ∧ wr.heap[W.heap.size]? = some (.cells (nums .u32 l).toArray TA (0, 0)) ∧ wr.heap[W.heap.size + 1]? = some (.cells Z0 TA (0, 0)) ∧ wr.heap[W.heap.size + 1 + 1]? = some (.cells (nums .u32 (sqs l k)).toArray TA (0, 0)) ∧ Below W.heap.size W wr) (fun v7 _ => 32 - (intOf v7).toNat)
  case atStart =>
    refine ⟨0, by omega, rfl, blk_alloc (blk_alloc (blk_new _ _) _) _, ?_, ?_, (((Below.refl _ _).alloc (Nat.le_refl _) _).alloc (by simp) _).alloc (by simp; omega) _⟩
    · have := blk_alloc (blk_new (W.alloc (.cells (nums .u32 l).toArray TA)) (.cells Z0 TA)) (.cells Z0 TA)
      simpa using this
    · show _ = some (Obj.cells Z0 TA (0, 0))
      have := blk_new ((W.alloc (.cells (nums .u32 l).toArray TA)).alloc (.cells Z0 TA)) (.cells Z0 TA)
      simpa using this
  case round =>
    obtain ⟨k, hk, rfl, hm0, hm1, hm2, hb⟩ := hrel
    have HM0 := Lib.hid hm0
    have HM1 := Lib.hid hm1
    have HM2 := Lib.hid hm2
    have HB := Lib.hid hb
    clear hm1 hm2 hb hm0
    by_cases hlt : k < 32
    · have hlen := sqs_len l k
      have hS := Lib.hid (show sqs l (k + 1) = (sqs l k).set k (does l (rd l (k : Int)) 32) from rfl)
      have hc := row_cell HM0.out k (by omega)
      have hc2 := row_cell HM2.out k (by omega)
      have hf2 := blk_frozen HM2.out k
      clear hlen
      go_wp2_with (go_at_call 24; (with_reducible refine (does_any _ l _ _ hl HM0.out).mono ?_); rintro e w' ⟨rfl, rfl⟩)
      go_roundw
      case rel =>
        refine ⟨k + 1, by omega, by go_num, ?_, ?_, ?_, HB.out.setCell (by simp; omega) _⟩
        · rw [heap_setCell_other _ _ _ _ (by simp; omega)]; exact HM0.out
        · rw [heap_setCell_other _ _ _ _ (by simp)]; exact HM1.out
        · rw [blk_set HM2.out, nums_set', hS.out]
      case measure => simp [intOf]; omega
    · obtain rfl : k = 32 := by omega
      have hlen := sqs_len l 32
      have HI := Lib.hid (size_of (sqs_len l 32))
      have HT := Lib.hid (show Z0.size = ((nums .u32 (sqs l 32)).toArray).size by rw [nums_size, sqs_len]; rfl)
      clear hlen
      go_wp2_with (first
        | ((with_reducible refine gate_dst (N := 18) rfl ?_); refine wpList_load_row rfl TA (.tmp 5) rfl (W.heap.size + 1 + 1) rfl TA _ (0, 0) _ HM2.out Try.underlying43 rfl HI.out ?_)
        | (refine wpList_store_row rfl TA (.tmp 4) (.tmp 18) rfl (W.heap.size + 1) (nums .u32 (sqs l 32)).toArray rfl rfl TA Z0 HM1.out HI.out HT.out (nums_one _) ?_))
      have HR := setRow_heap wr (W.heap.size + 1) Z0 (nums .u32 (sqs l 32)).toArray TA (0, 0) HM1.out
      refine bodyPost_ret (v := .agg (nums .u32 (sqs l 32)).toArray) (results_cell_row rfl _ _ (W.heap.size + 1) TA _ (0, 0) _ rfl HR Try.underlying43 rfl HI.out) rfl ⟨rfl, ?_⟩
      exact below_setRow HB.out (by omega) _

/-- What one byte 0 does to each bit of a register, below k. -/
def ms : Nat → List Int
  | 0 => List.replicate 32 0
  | k + 1 => (ms k).set k (Go.bits .xor .u32 ((2 : Int) ^ k / 256) (tb ((2 : Int) ^ k % 256)))

theorem ms_len (k : Nat) : (ms k).length = 32 := by
  induction k with
  | zero => exact List.length_replicate
  | succ k ih => show ((ms k).set _ _).length = 32; simp [ih]

/-- The loop of Join: the matrix, the sum, what is left of the length. -/
def jn : Nat → List Int → Int → Nat → Int
  | 0, _, a, _ => a
  | f + 1, m, a, n => if n = 0 then a else jn f (sqs m 32) (if Go.bits .and .i64 (n : Int) 1 = 1 then does m a 32 else a) (n / 2)

theorem jn_step {f n : Nat} {m : List Int} {x r : Int} (h0 : 0 < n) (hf : n < 2 ^ f) (h : jn f m x n = r) : ∃ g, f = g + 1 ∧ n / 2 < 2 ^ g ∧ jn g (sqs m 32) (if Go.bits .and .i64 (n : Int) 1 = 1 then does m x 32 else x) (n / 2) = r := by
  cases f with
  | zero => simp at hf; omega
  | succ g =>
    have e : jn (g + 1) m x n = if n = 0 then x else jn g (sqs m 32) (if Go.bits .and .i64 (n : Int) 1 = 1 then does m x 32 else x) (n / 2) := rfl
    rw [e, if_neg (by omega)] at h
    exact ⟨g, rfl, Nat.div_lt_of_lt_mul (by rw [Nat.pow_succ, Nat.mul_comm] at hf; exact hf), h⟩
theorem jn_end {f : Nat} {m : List Int} {x r : Int} (h : jn f m x 0 = r) : x = r := by
  cases f with
  | zero => exact h
  | succ g => rw [← h]; rfl

def joinF (a b n : Int) : Option Int := if n ≤ 9223372036854775807 then some (Go.bits .xor .u32 (jn 63 (ms 32) a n.toNat) b) else none

set_option maxHeartbeats 8000000 in
set_option maxRecDepth 100000 in
theorem join_calls (a0 : Int) (a1 : Int) (a2 : Int) (r : Int) (w : World) (h : joinF a0 a1 a2 = some r) :
    Calls Try.prog 18 #[.int .u32 a0, .int .u32 a1, .int .i64 a2] w fun e w' => e = .returned (.int .u32 r) ∧ Below w.heap.size w w' := by
  unfold joinF at h
  by_cases hL : a2 ≤ 9223372036854775807
  case neg => rw [if_neg hL] at h; exact absurd h (by simp)
  rw [if_pos hL] at h
  obtain rfl := Option.some.inj h
  clear h
  have hz : ∀ w, (zeroValue TA).run Try.prog w = .ok (.agg Z0) w := fun _ => by kernel_rfl
  go_enter Try.func18, Try.ntmps18
  go_wp2_with (go_at_call 20; refine (table_any _).mono ?_; rintro e w1 ⟨rfl, hh, hb1⟩; have HH := Lib.hid hh; have HB := Lib.hid hb1; clear hh hb1)
  go_loopw [13] (fun v13 wr => ∃ k : Nat, k ≤ 32 ∧ v13 = .int .i64 k ∧ wr.heap[w.heap.size]? = some (.cells (nums .u32 (tab 256)).toArray 46 (0, 0)) ∧ wr.heap[w1.heap.size]? = some (.cells (nums .u32 (ms k)).toArray TA (0, 0)) ∧ Below w.heap.size w wr) (fun v13 _ => 32 - (intOf v13).toNat)
  case atStart =>
    exact ⟨0, by omega, rfl, blk_alloc HH.out _, blk_new _ _, HB.out.alloc HB.out.size _⟩
  case round =>
    obtain ⟨k, hk, rfl, hm0, hm1, hb⟩ := hrel
    by_cases hlt : k < 32
    · have hpow : ∀ k : Nat, k < 32 → 0 ≤ (2 : Int) ^ k ∧ (2 : Int) ^ k < 4294967296 := by decide
      obtain ⟨hp0, hp1⟩ := hpow k hlt
      have hS := Lib.hid (show ms (k + 1) = (ms k).set k (Go.bits .xor .u32 ((2 : Int) ^ k / 256) (tb ((2 : Int) ^ k % 256))) from rfl)
      obtain ⟨p, hp⟩ : ∃ p : Int, (2 : Int) ^ k = p := ⟨_, rfl⟩
      have HP := Lib.hid hp
      rw [hp] at hp0 hp1
      have hc := tb_cell hm0 (p % 256) (by omega) (by omega)
      have hc2 := row_cell hm1 k (by rw [ms_len]; omega)
      have hf2 := blk_frozen hm1 k
      have HM0 := Lib.hid hm0
      have HM1 := Lib.hid hm1
      have HB2 := Lib.hid hb
      have HZ := Lib.hid (blk_lt HH.out)
      have HZ2 := Lib.hid HB.out.size
      clear hm0 hm1 hb hpow
      go_wp2
      go_roundw
      case rel =>
        refine ⟨k + 1, by omega, by go_num, ?_, ?_, HB2.out.setCell HB.out.size _⟩
        · rw [heap_setCell_other _ _ _ _ (by have := HZ.out; simp; omega)]; exact HM0.out
        · rw [blk_set HM1.out, nums_set', hS.out, HP.out]
      case measure => simp [intOf]; omega
    · have HK := Lib.hid (show k = 32 by omega)
      rw [show k = 32 from HK.out] at hm1
      have HM := Lib.hid hm1
      have HB2 := Lib.hid hb
      have HML := Lib.hid (ms_len 32)
      clear hm0 hm1 hb
      obtain ⟨n, hn⟩ : ∃ n : Nat, a2.toNat = n := ⟨_, rfl⟩
      have hn2 : n ≤ 9223372036854775807 := by omega
      have hA : Aside0 (jn 63 (ms 32) a0 n = jn 63 (ms 32) a0 a2.toNat) := ⟨by rw [hn]⟩
      have hmx1 : (if a2 < 0 then (0 : Int) else a2) = n := by split <;> omega
      have hmx2 : (if 0 < a2 then a2 else (0 : Int)) = n := by split <;> omega
      have hmx3 : (if a2 ≤ 0 then (0 : Int) else a2) = n := by split <;> omega
      have hmx4 : (if 0 ≤ a2 then a2 else (0 : Int)) = n := by split <;> omega
      have hmx5 : max a2 0 = n := by omega
      have hmx6 : max 0 a2 = n := by omega
      have HN := Lib.hid hn
      clear hn
      go_wp2
      clear hmx1 hmx2 hmx3 hmx4 hmx5 hmx6
      obtain ⟨wo, rfl⟩ : ∃ wo : World, wo = wr := ⟨_, rfl⟩
      go_loopw [0, 2] (fun v0 v2 wq => ∃ (f n' : Nat) (x : Int) (m : List Int), v2 = .int .i64 n' ∧ v0 = .int .u32 x ∧ n' < 2 ^ f ∧ f ≤ 63 ∧ m.length = 32 ∧ wq.heap[w1.heap.size]? = some (.cells (nums .u32 m).toArray TA (0, 0)) ∧ Below w.heap.size w wq ∧ Aside0 (jn f m x n' = jn 63 (ms 32) a0 a2.toNat)) (fun _ v2 _ => (intOf v2).toNat)
      case atStart =>
        exact ⟨63, n, a0, ms 32, rfl, rfl, by omega, by omega, HML.out, HM.out, HB2.out, hA⟩
      case round =>
        obtain ⟨f, n', x, m, rfl, rfl, hf, hf63, hm, hmm, hbb, hA2⟩ := hrel
        have HMM := Lib.hid hmm
        have HBB := Lib.hid hbb
        have HF := Lib.hid hf
        have HM2 := Lib.hid hm
        have hn3 : (n' : Int) ≤ 9223372036854775807 := by
          have : 2 ^ f ≤ 2 ^ 63 := Nat.pow_le_pow_right (by decide) hf63
          omega
        have HSZ := Lib.hid (size_of hm)
        clear hmm hbb hf hm
        by_cases h0 : 0 < n'
        · have HDV := Lib.hid (show (n' : Int) / 2 = ((n' / 2 : Nat) : Int) by omega)
          go_wp2_with (first
              | ((with_reducible refine gate_dst (N := 42) rfl ?_); refine wpList_load_row rfl TA (.tmp 9) rfl w1.heap.size rfl TA _ (0, 0) _ HMM.out Try.underlying43 rfl HSZ.out ?_)
              | (go_at_call 25; (with_reducible refine (squares_any m _ HM2.out).mono ?_); rintro e w2 ⟨rfl, hb2⟩; have HB3 := Lib.hid (HBB.out.trans (hb2.mono HBB.out.size)); have HMM2 := Lib.hid (blk_below HMM.out hb2); clear hb2)
              | (go_at_call 24; (with_reducible refine (does_any _ m _ _ HM2.out HMM.out).mono ?_); rintro e w' ⟨rfl, rfl⟩)
              | (refine wpList_store_row rfl TA (.tmp 9) (.tmp 44) rfl w1.heap.size (nums .u32 (sqs m 32)).toArray rfl rfl TA _ HMM2.out (size_of (sqs_len m 32)) (by rw [nums_size, nums_size, sqs_len, HM2.out]) (nums_one _) ?_))
          · go_roundw
            case rel =>
              obtain ⟨g, hg, hg2, hg3⟩ := jn_step h0 HF.out hA2.out
              rw [if_pos (eq_of_beq (by assumption))] at hg3
              exact ⟨g, n' / 2, _, sqs m 32, by rw [HDV.out], rfl, hg2, by omega, sqs_len m 32, setRow_heap _ _ _ _ _ _ HMM2.out, below_setRow HB3.out HB.out.size _, ⟨hg3⟩⟩
            case measure => simp [intOf]; omega
          · go_roundw
            case rel =>
              obtain ⟨g, hg, hg2, hg3⟩ := jn_step h0 HF.out hA2.out
              rw [if_neg (ne_of_beq_false (by assumption))] at hg3
              exact ⟨g, n' / 2, _, sqs m 32, by rw [HDV.out], rfl, hg2, by omega, sqs_len m 32, setRow_heap _ _ _ _ _ _ HMM2.out, below_setRow HB3.out HB.out.size _, ⟨hg3⟩⟩
            case measure => simp [intOf]; omega
        · obtain rfl : n' = 0 := by omega
          go_wp2
          go_ret
          exact ⟨by show Ending.returned (.int .u32 (Go.bits .xor .u32 x a1)) = _; rw [jn_end hA2.out], HBB.out⟩
end Go.Proofs.Ytfiklobfdacbbaa.CrcJoin
