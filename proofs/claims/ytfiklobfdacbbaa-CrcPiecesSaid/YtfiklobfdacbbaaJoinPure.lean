/- Join's plain law: a matrix of bits that stands for an additive step, squared again and again, is the step done as often as the length tells. -/
import Derived.Test.YtfiklobfdacbbaaCrcJoin
import Derived.Test.YtfiklobfdacbbaaCrcPure
namespace Go.Proofs.Ytfiklobfdacbbaa.JoinPure
open Go.Proofs.Ytfiklobfdacbbaa Go.RowKit Go.Proofs.YtfiklobfdacbbaaW.PrintWords Go.Proofs.YtfiklobfdacbbaaW.PrintLast Go.Proofs.YtfiklobfdacbbaaW.PrintMore Go.Proofs.Ytfiklobfdacbbaa.CrcPure
set_option linter.unusedVariables false

/-- The step F is additive, keeps 32 bits, and the list holds what it does to each bit. -/
structure Stands (m : List Int) (F : Nat → Nat) : Prop where
  len : m.length = 32
  add : ∀ x y, F (x ^^^ y) = F x ^^^ F y
  lt : ∀ x, x < 4294967296 → F x < 4294967296
  row : ∀ i : Nat, i < 32 → rd m (i : Int) = ((F (2 ^ i) : Nat) : Int)

theorem Stands.zero {m : List Int} {F : Nat → Nat} (h : Stands m F) : F 0 = 0 := by
  have := h.add 0 0
  rw [Nat.xor_self, Nat.xor_self] at this
  exact this

theorem low_succ (x j : Nat) : x % 2 ^ (j + 1) = (x % 2 ^ j) ^^^ (if x.testBit j then 2 ^ j else 0) := by
  apply Nat.eq_of_testBit_eq
  intro i
  rw [Nat.testBit_xor, Nat.testBit_mod_two_pow, Nat.testBit_mod_two_pow]
  by_cases hj : x.testBit j
  · rw [if_pos hj, Nat.testBit_two_pow]
    by_cases e : j = i
    · subst e; simp [hj]
    · have : (decide (i < j + 1)) = decide (i < j) := by rw [Bool.eq_iff_iff]; simp; omega
      simp [e, this]
  · rw [if_neg hj]
    by_cases e : j = i
    · subst e; simp [hj]
    · have : (decide (i < j + 1)) = decide (i < j) := by rw [Bool.eq_iff_iff]; simp; omega
      simp [this]

theorem bit_test (x j : Nat) (hx : x < 4294967296) : (Go.bits .and .u32 ((x : Int) / 2 ^ j) 1 = 1) ↔ x.testBit j = true := by
  have e : ((x : Int) / 2 ^ j) = ((x / 2 ^ j : Nat) : Int) := by
    rw [Int.natCast_ediv, Int.natCast_pow]; rfl
  have hlt : x / 2 ^ j < 4294967296 := Nat.lt_of_le_of_lt (Nat.div_le_self _ _) hx
  rw [e, and1 _ hlt, Nat.testBit_eq_decide_div_mod_eq, decide_eq_true_eq]
  omega

theorem does_nat {m : List Int} {F : Nat → Nat} (h : Stands m F) (x : Nat) (hx : x < 4294967296) (j : Nat) (hj : j ≤ 32) : CrcJoin.does m (x : Int) j = ((F (x % 2 ^ j) : Nat) : Int) := by
  induction j with
  | zero => rw [Nat.pow_zero, Nat.mod_one, h.zero]; rfl
  | succ j ih =>
    have hlow : ∀ i ≤ 32, x % 2 ^ i < 4294967296 := fun i _ => Nat.lt_of_le_of_lt (Nat.mod_le _ _) hx
    simp only [CrcJoin.does]
    rw [low_succ]
    by_cases hb : x.testBit j = true
    · have hp : 2 ^ j < 4294967296 := by
        have : 2 ^ j ≤ 2 ^ 31 := Nat.pow_le_pow_right (by decide) (by omega)
        omega
      rw [if_pos ((bit_test x j hx).mpr hb), if_pos hb, ih (by omega), h.row j (by omega), xor32 _ _ (h.lt _ (hlow j (by omega))) (h.lt _ hp), h.add]
    · rw [if_neg (fun e => hb ((bit_test x j hx).mp e)), if_neg hb, ih (by omega), Nat.xor_zero]

theorem does_all {m : List Int} {F : Nat → Nat} (h : Stands m F) (x : Nat) (hx : x < 4294967296) : CrcJoin.does m (x : Int) 32 = ((F x : Nat) : Int) := by
  rw [does_nat h x hx 32 (by omega), Nat.mod_eq_of_lt hx]

theorem set_row (g : Nat → List Int) (v : Nat → Int) (h0 : (g 0).length = 32) (hs : ∀ k, g (k + 1) = (g k).set k (v k)) (k : Nat) (hk : k ≤ 32) : (g k).length = 32 ∧ ∀ i : Nat, i < k → rd (g k) (i : Int) = v i := by
  induction k with
  | zero => exact ⟨h0, fun i hi => by omega⟩
  | succ k ih =>
    obtain ⟨hl, hr⟩ := ih (by omega)
    refine ⟨by rw [hs, List.length_set]; exact hl, fun i hi => ?_⟩
    have hr' := hr i
    unfold rd at hr' ⊢
    rw [Int.toNat_natCast] at hr' ⊢
    rw [hs, List.getD_eq_getElem?_getD, List.getElem?_set]
    by_cases e : k = i
    · subst e; rw [if_pos rfl, if_pos (by omega)]; rfl
    · rw [if_neg e, ← List.getD_eq_getElem?_getD]; exact hr' (by omega)

theorem pow_lt (i : Nat) (h : i < 32) : 2 ^ i < 4294967296 := by
  have : 2 ^ i ≤ 2 ^ 31 := Nat.pow_le_pow_right (by decide) (by omega)
  omega

theorem stands_sq {m : List Int} {F : Nat → Nat} (h : Stands m F) : Stands (CrcJoin.sqs m 32) (fun x => F (F x)) := by
  obtain ⟨hl, hr⟩ := set_row (CrcJoin.sqs m) (fun k => CrcJoin.does m (rd m (k : Int)) 32) (CrcJoin.sqs_len m 0) (fun k => rfl) 32 (by omega)
  refine ⟨hl, fun x y => by rw [h.add, h.add], fun x hx => h.lt _ (h.lt _ hx), fun i hi => ?_⟩
  rw [hr i hi]
  show CrcJoin.does m (rd m (i : Int)) 32 = _
  rw [h.row i hi, does_all h _ (h.lt _ (pow_lt i hi))]

theorem stands_ms : Stands (CrcJoin.ms 32) (CrcMath.shs 8) := by
  obtain ⟨hl, hr⟩ := set_row CrcJoin.ms (fun k => Go.bits .xor .u32 ((2 : Int) ^ k / 256) (Crc.tb ((2 : Int) ^ k % 256))) (CrcJoin.ms_len 0) (fun k => rfl) 32 (by omega)
  refine ⟨hl, CrcMath.shs_add 8, fun x hx => CrcMath.shs_lt 8 hx, fun i hi => ?_⟩
  rw [hr i hi]
  show Go.bits .xor .u32 ((2 : Int) ^ i / 256) (Crc.tb ((2 : Int) ^ i % 256)) = _
  have e : ((2 : Int) ^ i) = ((2 ^ i : Nat) : Int) := by rw [Int.natCast_pow]; rfl
  have hp := pow_lt i hi
  have e1 : ((2 ^ i : Nat) : Int) / 256 = ((2 ^ i / 256 : Nat) : Int) := by omega
  have e2 : ((2 ^ i : Nat) : Int) % 256 = ((2 ^ i % 256 : Nat) : Int) := by omega
  rw [e, e1, e2, tb_nat _ (by omega), xor32 _ _ (by omega) (CrcMath.shs_lt 8 (by omega))]
  have := CrcMath.take_table (2 ^ i) 0 (by decide)
  rw [Nat.xor_zero] at this
  rw [← this]
  unfold CrcMath.take
  rw [Nat.xor_zero]

/-- A step done again and again. -/
def times (F : Nat → Nat) : Nat → Nat → Nat
  | 0, x => x
  | n + 1, x => times F n (F x)

theorem times_sq (F : Nat → Nat) (n : Nat) : ∀ x, times (fun x => F (F x)) n x = times F (2 * n) x := by
  induction n with
  | zero => intro x; rfl
  | succ n ih => intro x; show times _ n (F (F x)) = times F (2 * n + 2) x; rw [ih]; rfl
theorem times_lt {F : Nat → Nat} (hF : ∀ x, x < 4294967296 → F x < 4294967296) (n : Nat) : ∀ x, x < 4294967296 → times F n x < 4294967296 := by
  induction n with
  | zero => intro x h; exact h
  | succ n ih => intro x h; exact ih _ (hF _ h)
theorem times_add {F : Nat → Nat} (hF : ∀ x y, F (x ^^^ y) = F x ^^^ F y) (n : Nat) : ∀ x y, times F n (x ^^^ y) = times F n x ^^^ times F n y := by
  induction n with
  | zero => intro x y; rfl
  | succ n ih => intro x y; show times F n (F (x ^^^ y)) = _; rw [hF, ih]; rfl
theorem times_step (F : Nat → Nat) (n : Nat) : ∀ x, times F (n + 1) x = F (times F n x) := by
  induction n with
  | zero => intro x; rfl
  | succ n ih => intro x; show times F (n + 1) (F x) = _; rw [ih]; rfl

theorem and1_64 (n : Nat) (h : n ≤ 9223372036854775807) : Go.bits .and .i64 (n : Int) 1 = ((n % 2 : Nat) : Int) := by
  have h := bits_mask .i64 63 (by decide) (fun n h0 h1 => by rw [IntKind.wrap_i64]; omega) 1 (by decide) (n : Int) (Int.natCast_nonneg _) (by omega)
  have h2 : ((2 : Int) ^ 1 - 1) = 1 := by decide
  rw [h2] at h
  rw [h]; omega

theorem jn_nat (f : Nat) : ∀ (m : List Int) (F : Nat → Nat), Stands m F → ∀ (x n : Nat), x < 4294967296 → n < 2 ^ f → n ≤ 9223372036854775807 → CrcJoin.jn f m (x : Int) n = ((times F n x : Nat) : Int) := by
  induction f with
  | zero => intro m F h x n hx hn _; have : n = 0 := by simpa using hn
            subst this; rfl
  | succ f ih =>
    intro m F h x n hx hn hn2
    by_cases h0 : n = 0
    · subst h0; rfl
    · have e : CrcJoin.jn (f + 1) m (x : Int) n = if n = 0 then (x : Int) else CrcJoin.jn f (CrcJoin.sqs m 32) (if Go.bits .and .i64 (n : Int) 1 = 1 then CrcJoin.does m (x : Int) 32 else (x : Int)) (n / 2) := rfl
      have hd : n / 2 < 2 ^ f := Nat.div_lt_of_lt_mul (by rw [Nat.pow_succ, Nat.mul_comm] at hn; exact hn)
      rw [e, if_neg h0, and1_64 n hn2]
      rcases Nat.mod_two_eq_zero_or_one n with h2 | h2
      · rw [h2, if_neg (by decide), ih _ _ (stands_sq h) x (n / 2) hx hd (by omega), times_sq]
        congr 2; omega
      · rw [h2, if_pos (by rfl), does_all h x hx, ih _ _ (stands_sq h) (F x) (n / 2) (h.lt _ hx) hd (by omega), times_sq]
        have : n = 2 * (n / 2) + 1 := by omega
        conv => rhs; rw [this]
        rfl

theorem join_nat (a b : Nat) (n : Int) (ha : a < 4294967296) (hb : b < 4294967296) (hn : n ≤ 9223372036854775807) : CrcJoin.joinF (a : Int) (b : Int) n = some ((times (CrcMath.shs 8) n.toNat a ^^^ b : Nat) : Int) := by
  unfold CrcJoin.joinF
  have h63 : n.toNat < 2 ^ 63 := by
    have : (2 : Nat) ^ 63 = 9223372036854775808 := by decide
    omega
  rw [if_pos hn, jn_nat 63 _ _ stands_ms a n.toNat ha h63 (by omega), xor32 _ _ (times_lt stands_ms.lt _ _ ha) hb]
end Go.Proofs.Ytfiklobfdacbbaa.JoinPure
