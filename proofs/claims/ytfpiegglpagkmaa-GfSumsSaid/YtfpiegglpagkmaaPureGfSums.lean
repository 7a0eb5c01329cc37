/- For every byte and every two whole numbers of 32 bits: the Go program's powers are multiplied by adding what they are powers by. No condition. -/
import Derived.Test.YtfpiegglpagkmaaPGfSumsx1
namespace Go.Proofs.Ytfpiegglpagkmaa.Pure
open Go.Proofs.Ytfpiegglpagkmaa Go.RowKit Go.Proofs.Ytfpiegglpagkmaa.PGfSums Go.Proofs.YtfpiegglpagkmaaW.PrintWords Go.Proofs.YtfpiegglpagkmaaW.PrintLast Go.Proofs.YtfpiegglpagkmaaW.PrintMore
set_option linter.unusedVariables false
set_option linter.unusedSimpArgs false

theorem wf8 {a : Int} (h : (Lit.int .u8 a).wf = true) : 0 ≤ a ∧ a ≤ 255 := by
  simp only [Lit.wf, Bool.and_eq_true, decide_eq_true_eq] at h
  have hmin : IntKind.u8.min = 0 := rfl
  have hmax : IntKind.u8.max = 255 := rfl
  omega

theorem w64 {a : Int} (h : -9223372036854775808 ≤ a ∧ a ≤ 9223372036854775807) : wrap64 a = a := by
  unfold wrap64; omega

theorem bits_xor (k : IntKind) (j : Nat) (hj : j ≤ k.bits) (hk : ∀ n : Int, 0 ≤ n → n < 2 ^ j → k.wrap n = n) (a b : Nat) (ha : a < 2 ^ j) (hb : b < 2 ^ j) :
    Go.bits .xor k a b = ((a ^^^ b : Nat) : Int) := by
  have hp : 2 ^ j ≤ 2 ^ k.bits := Nat.pow_le_pow_right (by decide) hj
  have ha' : a % 2 ^ k.bits = a := Nat.mod_eq_of_lt (Nat.lt_of_lt_of_le ha hp)
  have hb' : b % 2 ^ k.bits = b := Nat.mod_eq_of_lt (Nat.lt_of_lt_of_le hb hp)
  have cast : ∀ n : Nat, n < 2 ^ j → ((n : Nat) : Int) < 2 ^ j := fun n h => by exact_mod_cast h
  simp only [Go.bits, BitVec.ofInt_natCast, BitVec.toNat_xor, BitVec.toNat_ofNat, ha', hb']
  exact hk _ (Int.natCast_nonneg _) (cast _ (Nat.xor_lt_two_pow ha hb))

theorem xor8 (a b : Nat) (ha : a < 256) (hb : b < 256) : Go.bits .xor .u8 (a : Int) (b : Int) = ((a ^^^ b : Nat) : Int) :=
  bits_xor .u8 8 (by decide) wraps_u8 a b ha hb

theorem wraps_i64 (n : Int) (h0 : 0 ≤ n) (h1 : n < 2 ^ 32) : IntKind.i64.wrap n = n := by rw [IntKind.wrap_i64]; omega

theorem xor64 (a b : Nat) (ha : a < 4294967296) (hb : b < 4294967296) : Go.bits .xor .i64 (a : Int) (b : Int) = ((a ^^^ b : Nat) : Int) :=
  bits_xor .i64 32 (by decide) wraps_i64 a b ha hb

theorem add_gf (a b : Nat) (ha : a < 256) (hb : b < 256) : gf_Add.f (a : Int) (b : Int) = some ((a ^^^ b : Nat) : Int) := by
  unfold gf_Add.f; rw [xor8 a b ha hb]

theorem bit8 (b i : Nat) (hb : b < 256) (hi : i < 8) : (Go.bits .and .u8 (shr .u8 (b : Int) (i : Int)) 1 = 1) ↔ b.testBit i = true := by
  have e : shr .u8 (b : Int) (i : Int) = ((b / 2 ^ i : Nat) : Int) := by
    unfold shr
    rw [Int.toNat_natCast, Nat.min_eq_left (show i ≤ IntKind.u8.bits by simp [IntKind.bits]; omega)]
    simp
  have h := bits_mask .u8 8 (by decide) wraps_u8 1 (by decide) ((b / 2 ^ i : Nat) : Int) (Int.natCast_nonneg _) (by have := Nat.div_le_self b (2 ^ i); omega)
  have h2 : ((2 : Int) ^ 1 - 1) = 1 := by decide
  rw [h2] at h
  rw [e, h, Nat.testBit_eq_decide_div_mod_eq, decide_eq_true_eq]
  omega

theorem mul_l0 (d : Nat) : ∀ (k b x p i : Nat), d + i = 8 → d < k → b < 256 → x < 256 → p < 256 →
    gf_Mul.l0 k (b : Int) (x : Int) (p : Int) (i : Int) = some ((p ^^^ GfMath.mulFrom d b x i : Nat) : Int) := by
  induction d with
  | zero =>
    intro k b x p i hd hk hb hx hp
    obtain ⟨k, rfl⟩ : ∃ m, k = m + 1 := ⟨k - 1, by omega⟩
    simp only [gf_Mul.l0]
    rw [if_neg (by omega)]
    simp only [GfMath.mulFrom, Nat.xor_zero]
    congr 1; omega
  | succ d ih =>
    intro k b x p i hd hk hb hx hp
    obtain ⟨k, rfl⟩ : ∃ m, k = m + 1 := ⟨k - 1, by omega⟩
    simp only [gf_Mul.l0]
    have e1 : wrap64 ((x : Int) * 2) = ((2 * x : Nat) : Int) := by rw [w64 ⟨by omega, by omega⟩]; omega
    have e2 : wrap64 ((i : Int) + 1) = ((i + 1 : Nat) : Int) := by rw [w64 ⟨by omega, by omega⟩]; omega
    have e3 : Go.bits .xor .i64 ((2 * x : Nat) : Int) 285 = ((2 * x ^^^ 285 : Nat) : Int) := xor64 (2 * x) 285 (by omega) (by omega)
    have e4 : Go.bits .xor .i64 (p : Int) (x : Int) = ((p ^^^ x : Nat) : Int) := xor64 p x (by omega) (by omega)
    rw [if_pos (by omega), if_pos (by omega), e1, e2, e3, e4]
    have hxt : (if ((2 * x : Nat) : Int) > 255 then gf_Mul.l0 k (b : Int) ((2 * x ^^^ 285 : Nat) : Int) = gf_Mul.l0 k (b : Int) ((GfMath.xt x : Nat) : Int) else gf_Mul.l0 k (b : Int) ((2 * x : Nat) : Int) = gf_Mul.l0 k (b : Int) ((GfMath.xt x : Nat) : Int)) := by
      unfold GfMath.xt
      split
      · rw [if_pos (by omega)]
      · rw [if_neg (by omega)]
    have hx' := GfMath.xt_lt hx
    simp only [GfMath.mulFrom]
    by_cases hbit : b.testBit i = true
    · rw [if_pos ((bit8 b i hb (by omega)).2 hbit), if_pos hbit, ← Nat.xor_assoc]
      have := ih k b (GfMath.xt x) (p ^^^ x) (i + 1) (by omega) (by omega) hb hx' (GfMath.xor_lt hp hx)
      split
      · rename_i h; rw [if_pos h] at hxt; rw [hxt, this]
      · rename_i h; rw [if_neg h] at hxt; rw [hxt, this]
    · rw [if_neg (fun h => hbit ((bit8 b i hb (by omega)).1 h)), if_neg hbit, Nat.zero_xor]
      have := ih k b (GfMath.xt x) p (i + 1) (by omega) (by omega) hb hx' hp
      split
      · rename_i h; rw [if_pos h] at hxt; rw [hxt, this]
      · rename_i h; rw [if_neg h] at hxt; rw [hxt, this]

theorem mul_gf (a b : Nat) (ha : a < 256) (hb : b < 256) (k : Nat) (hk : 20 < k) : gf_Mul.f k (a : Int) (b : Int) = some ((GfMath.mul a b : Nat) : Int) := by
  unfold gf_Mul.f
  rw [w64 ⟨by omega, by omega⟩]
  have := mul_l0 8 k b a 0 0 (by omega) (by omega) hb ha (by omega)
  rw [Nat.zero_xor] at this
  exact this

theorem tb_nat (i : Nat) : Gf.tb (i : Int) = ((GfMath.tabN.getD i 0 : Nat) : Int) := by
  unfold Gf.tb Gf.TBL rd
  rw [Int.toNat_natCast, List.getD_eq_getElem?_getD, List.getD_eq_getElem?_getD, List.getElem?_map]
  cases GfMath.tabN[i]? <;> rfl

theorem inv_gf (a : Nat) (ha : a < 256) (h0 : a ≠ 0) : gf_Inverse.f (a : Int) = some (((GfMath.inv a : Nat) : Int), 0) := by
  unfold gf_Inverse.f Gf.invF
  have h1 : Gf.tb (255 + (a : Int)) = ((GfMath.lg a : Nat) : Int) := by
    have e : (255 + (a : Int)) = ((255 + a : Nat) : Int) := by omega
    rw [e, tb_nat]; rfl
  have hl := GfMath.lg_lt ha
  have e : -((GfMath.lg a : Nat) : Int) % 255 = (((255 - GfMath.lg a) % 255 : Nat) : Int) := by omega
  rw [if_pos (by omega), if_neg (by omega), h1, e, tb_nat]
  rfl

theorem inv_gf0 : gf_Inverse.f 0 = some (0, 1) := rfl

theorem wakes_gf (k : Nat) (hk : 50 < k) : tabularylaw01_wakes.f k = some true :=
  at_rounds tabularylaw01_wakes.mono (k := 50) (by omega) (by decide +kernel)

theorem lg_tb (a : Nat) : Gf.tb (255 + (a : Int)) = ((GfMath.lg a : Nat) : Int) := by
  have e : (255 + (a : Int)) = ((255 + a : Nat) : Int) := by omega
  rw [e, tb_nat]; rfl

theorem tb_pw (i : Nat) (h : i < 255) : Gf.tb (i : Int) = ((GfMath.pw i : Nat) : Int) := by
  rw [tb_nat, ← GfMath.ex_pw h]; rfl

/-- Pow of a number that is not 0, to a power that is not 0. -/
theorem pow_gf (a : Nat) (ha : a < 256) (h0 : a ≠ 0) (n : Int) (hn : n ≠ 0) : gf_Pow.f (a : Int) n = some ((GfMath.npw a (Gf.mod255 n).toNat : Nat) : Int) := by
  unfold gf_Pow.f Gf.powF
  have hm := Gf.mod255_range n
  obtain ⟨m, hmn⟩ := Int.eq_ofNat_of_zero_le hm.1
  rw [if_pos (by omega), if_neg hn, if_neg (by omega), lg_tb, hmn, Int.toNat_natCast]
  have e : ((GfMath.lg a : Nat) : Int) * (m : Int) % 255 = ((GfMath.lg a * m % 255 : Nat) : Int) := by
    rw [← Int.natCast_mul]; omega
  rw [e, tb_pw _ (Nat.mod_lt _ (by decide)), GfMath.pw_mod, ← GfMath.npw_pw, GfMath.pw_lg ha h0]


theorem wf32 {a : Int} (h : (Lit.int .i32 a).wf = true) : -2147483648 ≤ a ∧ a ≤ 2147483647 := by
  simp only [Lit.wf, Bool.and_eq_true, decide_eq_true_eq] at h
  have hmin : IntKind.i32.min = -2147483648 := rfl
  have hmax : IntKind.i32.max = 2147483647 := rfl
  omega

theorem mod255_eq (n : Int) : Gf.mod255 n = n % 255 := by
  unfold Gf.mod255
  rcases Int.le_total 0 n with h | h
  · rw [Int.tmod_eq_emod_of_nonneg h]; omega
  · have h1 : Int.tmod (-n) 255 = -Int.tmod n 255 := Int.neg_tmod n 255
    rw [Int.tmod_eq_emod_of_nonneg (by omega)] at h1
    omega

theorem exp_gf (n : Int) : gf_Exp.f n = some ((GfMath.pw (n % 255).toNat : Nat) : Int) := by
  unfold gf_Exp.f Gf.expF
  rw [mod255_eq]
  have : n % 255 = (((n % 255).toNat : Nat) : Int) := by omega
  rw [this, tb_pw _ (by omega), Int.toNat_natCast]

theorem pw_sum (m n : Int) : GfMath.mul (GfMath.pw (m % 255).toNat) (GfMath.pw (n % 255).toNat) = GfMath.pw ((m + n) % 255).toNat := by
  rw [GfMath.pw_add, ← GfMath.pw_mod]
  congr 1
  omega

theorem pow_gf2 (a : Nat) (ha : a < 256) (h0 : a ≠ 0) (n : Int) : gf_Pow.f (a : Int) n = some ((GfMath.npw a (n % 255).toNat : Nat) : Int) := by
  by_cases hn : n = 0
  · subst hn
    unfold gf_Pow.f Gf.powF
    rw [if_pos (by omega), if_pos rfl]
    rfl
  · rw [pow_gf a ha h0 n hn, mod255_eq]

theorem npw_sum (a : Nat) (ha : a < 256) (h0 : a ≠ 0) (m n : Int) : GfMath.mul (GfMath.npw a (m % 255).toNat) (GfMath.npw a (n % 255).toNat) = GfMath.npw a ((m + n) % 255).toNat := by
  have h := GfMath.pw_lg ha h0
  generalize GfMath.lg a = l at h
  subst h
  rw [GfMath.npw_pw, GfMath.npw_pw, GfMath.npw_pw, GfMath.pw_add, ← GfMath.pw_mod, ← GfMath.pw_mod (l * ((m + n) % 255).toNat)]
  congr 1
  rw [← Nat.mul_add]
  rw [Nat.mul_mod, Nat.mul_mod l ((m + n) % 255).toNat]
  congr 2
  omega

theorem GfSums : tabularylaw01_GfSums.Pure := by
  intro a m n ha hm hn
  have ha := wf8 ha
  have hm := wf32 hm
  have hn := wf32 hn
  obtain ⟨a, rfl⟩ := Int.eq_ofNat_of_zero_le ha.1
  have la : a < 256 := by omega
  refine ⟨100, ?_⟩
  unfold tabularylaw01_GfSums.f
  have wm : wrap64 m = m := w64 ⟨by omega, by omega⟩
  have wn : wrap64 n = n := w64 ⟨by omega, by omega⟩
  have wmn : wrap64 (m + n) = m + n := w64 ⟨by omega, by omega⟩
  rw [wm, wn, wmn, exp_gf, exp_gf, exp_gf]
  simp only [Option.bind_some]
  rw [mul_gf _ _ (GfMath.pw_lt _) (GfMath.pw_lt _) 100 (by omega), pw_sum]
  simp only [Option.bind_some]
  rw [if_pos trivial]
  by_cases h0 : a = 0
  · subst h0
    rw [if_pos (show ((0 : Nat) : Int) = 0 from rfl), wakes_gf 100 (by omega)]
    rfl
  · rw [if_neg (by omega), pow_gf2 a la h0, pow_gf2 a la h0, pow_gf2 a la h0, pow_gf2 a la h0]
    simp only [Option.bind_some]
    rw [mul_gf _ _ (GfMath.npw_lt la _) (GfMath.npw_lt la _) 100 (by omega), npw_sum a la h0]
    simp only [Option.bind_some]
    rw [if_pos trivial, if_pos (by rfl), wakes_gf 100 (by omega)]
    rfl

end Go.Proofs.Ytfpiegglpagkmaa.Pure
