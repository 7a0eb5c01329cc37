/- For every two bytes: the Go program's square of a sum is the sum of the squares, and no two bytes have one square. No condition. -/
import Derived.Test.YtfpiegglpagkmaaPGfSquaresx1
namespace Go.Proofs.Ytfpiegglpagkmaa.Pure
open Go.Proofs.Ytfpiegglpagkmaa Go.Proofs.Ytfpiegglpagkmaa Go.RowKit Go.Proofs.Ytfpiegglpagkmaa.PGfSquares Go.Proofs.YtfpiegglpagkmaaW.PrintWords Go.Proofs.YtfpiegglpagkmaaW.PrintLast Go.Proofs.YtfpiegglpagkmaaW.PrintMore
set_option linter.unusedVariables false
set_option linter.unusedSimpArgs false

theorem wf8 {a : Int} (h : (Lit.int .u8 a).wf = true) : 0 ≤ a ∧ a ≤ 255 := by
  simp only [Lit.wf, Bool.and_eq_true, decide_eq_true_eq] at h
  have hmin : IntKind.u8.min = 0 := rfl
  have hmax : IntKind.u8.max = 255 := rfl
  omega

theorem w64 {a : Int} (h : -9223372036854775808 ≤ a ∧ a ≤ 9223372036854775807) : wrap64 a = a := by
  unfold wrap64; omega

theorem bits_xor (k : IntKind) (j : Nat) (hj : j ≤ k.bits) (hk : ∀ n : Int, 0 ≤ n → n < 2 ^ j → k.wrap n = n) (a b : Nat) (ha : a < 2 ^ j) (hb : b < 2 ^ j) :
    Go.bits .xor k a b = ((a ^^^ b : Nat) : Int) := by
  have hp : 2 ^ j ≤ 2 ^ k.bits := Nat.pow_le_pow_right (by decide) hj
  have ha' : a % 2 ^ k.bits = a := Nat.mod_eq_of_lt (Nat.lt_of_lt_of_le ha hp)
  have hb' : b % 2 ^ k.bits = b := Nat.mod_eq_of_lt (Nat.lt_of_lt_of_le hb hp)
  have cast : ∀ n : Nat, n < 2 ^ j → ((n : Nat) : Int) < 2 ^ j := fun n h => by exact_mod_cast h
  simp only [Go.bits, BitVec.ofInt_natCast, BitVec.toNat_xor, BitVec.toNat_ofNat, ha', hb']
  exact hk _ (Int.natCast_nonneg _) (cast _ (Nat.xor_lt_two_pow ha hb))

theorem xor8 (a b : Nat) (ha : a < 256) (hb : b < 256) : Go.bits .xor .u8 (a : Int) (b : Int) = ((a ^^^ b : Nat) : Int) :=
  bits_xor .u8 8 (by decide) wraps_u8 a b ha hb

theorem wraps_i64 (n : Int) (h0 : 0 ≤ n) (h1 : n < 2 ^ 32) : IntKind.i64.wrap n = n := by rw [IntKind.wrap_i64]; omega

theorem xor64 (a b : Nat) (ha : a < 4294967296) (hb : b < 4294967296) : Go.bits .xor .i64 (a : Int) (b : Int) = ((a ^^^ b : Nat) : Int) :=
  bits_xor .i64 32 (by decide) wraps_i64 a b ha hb

theorem add_gf (a b : Nat) (ha : a < 256) (hb : b < 256) : gf_Add.f (a : Int) (b : Int) = some ((a ^^^ b : Nat) : Int) := by
  unfold gf_Add.f; rw [xor8 a b ha hb]

theorem bit8 (b i : Nat) (hb : b < 256) (hi : i < 8) : (Go.bits .and .u8 (shr .u8 (b : Int) (i : Int)) 1 = 1) ↔ b.testBit i = true := by
  have e : shr .u8 (b : Int) (i : Int) = ((b / 2 ^ i : Nat) : Int) := by
    unfold shr
    rw [Int.toNat_natCast, Nat.min_eq_left (show i ≤ IntKind.u8.bits by simp [IntKind.bits]; omega)]
    simp
  have h := bits_mask .u8 8 (by decide) wraps_u8 1 (by decide) ((b / 2 ^ i : Nat) : Int) (Int.natCast_nonneg _) (by have := Nat.div_le_self b (2 ^ i); omega)
  have h2 : ((2 : Int) ^ 1 - 1) = 1 := by decide
  rw [h2] at h
  rw [e, h, Nat.testBit_eq_decide_div_mod_eq, decide_eq_true_eq]
  omega

theorem mul_l0 (d : Nat) : ∀ (k b x p i : Nat), d + i = 8 → d < k → b < 256 → x < 256 → p < 256 →
    gf_Mul.l0 k (b : Int) (x : Int) (p : Int) (i : Int) = some ((p ^^^ GfMath.mulFrom d b x i : Nat) : Int) := by
  induction d with
  | zero =>
    intro k b x p i hd hk hb hx hp
    obtain ⟨k, rfl⟩ : ∃ m, k = m + 1 := ⟨k - 1, by omega⟩
    simp only [gf_Mul.l0]
    rw [if_neg (by omega)]
    simp only [GfMath.mulFrom, Nat.xor_zero]
    congr 1; omega
  | succ d ih =>
    intro k b x p i hd hk hb hx hp
    obtain ⟨k, rfl⟩ : ∃ m, k = m + 1 := ⟨k - 1, by omega⟩
    simp only [gf_Mul.l0]
    have e1 : wrap64 ((x : Int) * 2) = ((2 * x : Nat) : Int) := by rw [w64 ⟨by omega, by omega⟩]; omega
    have e2 : wrap64 ((i : Int) + 1) = ((i + 1 : Nat) : Int) := by rw [w64 ⟨by omega, by omega⟩]; omega
    have e3 : Go.bits .xor .i64 ((2 * x : Nat) : Int) 285 = ((2 * x ^^^ 285 : Nat) : Int) := xor64 (2 * x) 285 (by omega) (by omega)
    have e4 : Go.bits .xor .i64 (p : Int) (x : Int) = ((p ^^^ x : Nat) : Int) := xor64 p x (by omega) (by omega)
    rw [if_pos (by omega), if_pos (by omega), e1, e2, e3, e4]
    have hxt : (if ((2 * x : Nat) : Int) > 255 then gf_Mul.l0 k (b : Int) ((2 * x ^^^ 285 : Nat) : Int) = gf_Mul.l0 k (b : Int) ((GfMath.xt x : Nat) : Int) else gf_Mul.l0 k (b : Int) ((2 * x : Nat) : Int) = gf_Mul.l0 k (b : Int) ((GfMath.xt x : Nat) : Int)) := by
      unfold GfMath.xt
      split
      · rw [if_pos (by omega)]
      · rw [if_neg (by omega)]
    have hx' := GfMath.xt_lt hx
    simp only [GfMath.mulFrom]
    by_cases hbit : b.testBit i = true
    · rw [if_pos ((bit8 b i hb (by omega)).2 hbit), if_pos hbit, ← Nat.xor_assoc]
      have := ih k b (GfMath.xt x) (p ^^^ x) (i + 1) (by omega) (by omega) hb hx' (GfMath.xor_lt hp hx)
      split
      · rename_i h; rw [if_pos h] at hxt; rw [hxt, this]
      · rename_i h; rw [if_neg h] at hxt; rw [hxt, this]
    · rw [if_neg (fun h => hbit ((bit8 b i hb (by omega)).1 h)), if_neg hbit, Nat.zero_xor]
      have := ih k b (GfMath.xt x) p (i + 1) (by omega) (by omega) hb hx' hp
      split
      · rename_i h; rw [if_pos h] at hxt; rw [hxt, this]
      · rename_i h; rw [if_neg h] at hxt; rw [hxt, this]

theorem mul_gf (a b : Nat) (ha : a < 256) (hb : b < 256) (k : Nat) (hk : 20 < k) : gf_Mul.f k (a : Int) (b : Int) = some ((GfMath.mul a b : Nat) : Int) := by
  unfold gf_Mul.f
  rw [w64 ⟨by omega, by omega⟩]
  have := mul_l0 8 k b a 0 0 (by omega) (by omega) hb ha (by omega)
  rw [Nat.zero_xor] at this
  exact this

theorem tb_nat (i : Nat) : Gf.tb (i : Int) = ((GfMath.tabN.getD i 0 : Nat) : Int) := by
  unfold Gf.tb Gf.TBL rd
  rw [Int.toNat_natCast, List.getD_eq_getElem?_getD, List.getD_eq_getElem?_getD, List.getElem?_map]
  cases GfMath.tabN[i]? <;> rfl

theorem inv_gf (a : Nat) (ha : a < 256) (h0 : a ≠ 0) : gf_Inverse.f (a : Int) = some (((GfMath.inv a : Nat) : Int), 0) := by
  unfold gf_Inverse.f Gf.invF
  have h1 : Gf.tb (255 + (a : Int)) = ((GfMath.lg a : Nat) : Int) := by
    have e : (255 + (a : Int)) = ((255 + a : Nat) : Int) := by omega
    rw [e, tb_nat]; rfl
  have hl := GfMath.lg_lt ha
  have e : -((GfMath.lg a : Nat) : Int) % 255 = (((255 - GfMath.lg a) % 255 : Nat) : Int) := by omega
  rw [if_pos (by omega), if_neg (by omega), h1, e, tb_nat]
  rfl

theorem inv_gf0 : gf_Inverse.f 0 = some (0, 1) := rfl

theorem wakes_gf (k : Nat) (hk : 50 < k) : tabularylaw01_wakes.f k = some true :=
  at_rounds tabularylaw01_wakes.mono (k := 50) (by omega) (by decide +kernel)

theorem lg_tb (a : Nat) : Gf.tb (255 + (a : Int)) = ((GfMath.lg a : Nat) : Int) := by
  have e : (255 + (a : Int)) = ((255 + a : Nat) : Int) := by omega
  rw [e, tb_nat]; rfl

theorem tb_pw (i : Nat) (h : i < 255) : Gf.tb (i : Int) = ((GfMath.pw i : Nat) : Int) := by
  rw [tb_nat, ← GfMath.ex_pw h]; rfl

/-- Pow of a number that is not 0, to a power that is not 0. -/
theorem pow_gf (a : Nat) (ha : a < 256) (h0 : a ≠ 0) (n : Int) (hn : n ≠ 0) : gf_Pow.f (a : Int) n = some ((GfMath.npw a (Gf.mod255 n).toNat : Nat) : Int) := by
  unfold gf_Pow.f Gf.powF
  have hm := Gf.mod255_range n
  obtain ⟨m, hmn⟩ := Int.eq_ofNat_of_zero_le hm.1
  rw [if_pos (by omega), if_neg hn, if_neg (by omega), lg_tb, hmn, Int.toNat_natCast]
  have e : ((GfMath.lg a : Nat) : Int) * (m : Int) % 255 = ((GfMath.lg a * m % 255 : Nat) : Int) := by
    rw [← Int.natCast_mul]; omega
  rw [e, tb_pw _ (Nat.mod_lt _ (by decide)), GfMath.pw_mod, ← GfMath.npw_pw, GfMath.pw_lg ha h0]

theorem GfSquares : tabularylaw01_GfSquares.Pure := by
  intro a b ha hb
  have ha := wf8 ha
  have hb := wf8 hb
  obtain ⟨a, rfl⟩ := Int.eq_ofNat_of_zero_le ha.1
  obtain ⟨b, rfl⟩ := Int.eq_ofNat_of_zero_le hb.1
  have la : a < 256 := by omega
  have lb : b < 256 := by omega
  have lx := GfMath.xor_lt la lb
  refine ⟨100, ?_⟩
  unfold tabularylaw01_GfSquares.f
  rw [mul_gf a a la la 100 (by omega), mul_gf b b lb lb 100 (by omega), add_gf a b la lb]
  simp only [Option.bind_some]
  rw [mul_gf _ _ lx lx 100 (by omega)]
  simp only [Option.bind_some]
  rw [add_gf _ _ (GfMath.mul_lt a la) (GfMath.mul_lt b lb)]
  simp only [Option.bind_some]
  have hsq : GfMath.mul (a ^^^ b) (a ^^^ b) = GfMath.mul a a ^^^ GfMath.mul b b := by
    rw [GfMath.mul_addr, GfMath.mul_addl a la lb, GfMath.mul_addl b la lb, GfMath.mul_comm lb la]
    rw [Nat.xor_assoc, ← Nat.xor_assoc (GfMath.mul a b) (GfMath.mul a b), Nat.xor_self, Nat.zero_xor]
  rw [if_pos (by rw [hsq])]
  have hinj : (((GfMath.mul a a : Nat) : Int) == ((GfMath.mul b b : Nat) : Int)) = ((a : Int) == (b : Int)) := by
    rw [Bool.eq_iff_iff, beq_iff_eq, beq_iff_eq]
    constructor
    · intro h
      have h1 : GfMath.mul (a ^^^ b) (a ^^^ b) = 0 := by
        rw [hsq, show GfMath.mul a a = GfMath.mul b b by omega, Nat.xor_self]
      have h2 : a ^^^ b = 0 := by rcases GfMath.mul_eq_zero lx lx h1 with h | h <;> exact h
      have h3 : a = b := by
        have h4 : (a ^^^ b) ^^^ b = a := by rw [Nat.xor_assoc, Nat.xor_self, Nat.xor_zero]
        rw [← h4, h2, Nat.zero_xor]
      rw [h3]
    · intro h
      have : a = b := by omega
      rw [this]
  rw [hinj, if_pos (by simp)]
  have hpow : gf_Pow.f (a : Int) 2 = some ((GfMath.mul a a : Nat) : Int) := by
    by_cases h0 : a = 0
    · subst h0
      rfl
    · rw [pow_gf a la h0 2 (by decide)]
      show some ((GfMath.npw a 2 : Nat) : Int) = _
      simp only [GfMath.npw]
      rw [GfMath.one_mul la]
  rw [hpow]
  simp only [Option.bind_some]
  rw [if_pos trivial, wakes_gf 100 (by omega)]
  rfl

end Go.Proofs.Ytfpiegglpagkmaa.Pure
