/- For every byte and every whole number: the Go program's powers, and which power of 2 a byte is, are the document's. No condition. -/
import Derived.Test.YtfpiegglpagkmaaPGfPowersx2
namespace Go.Proofs.Ytfpiegglpagkmaa.Pure
open Go.Proofs.Ytfpiegglpagkmaa Go.Proofs.Ytfpiegglpagkmaa Go.RowKit Go.Proofs.Ytfpiegglpagkmaa.PGfPowers Go.Proofs.YtfpiegglpagkmaaW.PrintWords Go.Proofs.YtfpiegglpagkmaaW.PrintLast Go.Proofs.YtfpiegglpagkmaaW.PrintMore
set_option linter.unusedVariables false
set_option linter.unusedSimpArgs false

theorem wf8 {a : Int} (h : (Lit.int .u8 a).wf = true) : 0 ≤ a ∧ a ≤ 255 := by
  simp only [Lit.wf, Bool.and_eq_true, decide_eq_true_eq] at h
  have hmin : IntKind.u8.min = 0 := rfl
  have hmax : IntKind.u8.max = 255 := rfl
  omega

theorem w64 {a : Int} (h : -9223372036854775808 ≤ a ∧ a ≤ 9223372036854775807) : wrap64 a = a := by
  unfold wrap64; omega

theorem bits_xor (k : IntKind) (j : Nat) (hj : j ≤ k.bits) (hk : ∀ n : Int, 0 ≤ n → n < 2 ^ j → k.wrap n = n) (a b : Nat) (ha : a < 2 ^ j) (hb : b < 2 ^ j) :
    Go.bits .xor k a b = ((a ^^^ b : Nat) : Int) := by
  have hp : 2 ^ j ≤ 2 ^ k.bits := Nat.pow_le_pow_right (by decide) hj
  have ha' : a % 2 ^ k.bits = a := Nat.mod_eq_of_lt (Nat.lt_of_lt_of_le ha hp)
  have hb' : b % 2 ^ k.bits = b := Nat.mod_eq_of_lt (Nat.lt_of_lt_of_le hb hp)
  have cast : ∀ n : Nat, n < 2 ^ j → ((n : Nat) : Int) < 2 ^ j := fun n h => by exact_mod_cast h
  simp only [Go.bits, BitVec.ofInt_natCast, BitVec.toNat_xor, BitVec.toNat_ofNat, ha', hb']
  exact hk _ (Int.natCast_nonneg _) (cast _ (Nat.xor_lt_two_pow ha hb))

theorem xor8 (a b : Nat) (ha : a < 256) (hb : b < 256) : Go.bits .xor .u8 (a : Int) (b : Int) = ((a ^^^ b : Nat) : Int) :=
  bits_xor .u8 8 (by decide) wraps_u8 a b ha hb

theorem wraps_i64 (n : Int) (h0 : 0 ≤ n) (h1 : n < 2 ^ 32) : IntKind.i64.wrap n = n := by rw [IntKind.wrap_i64]; omega

theorem xor64 (a b : Nat) (ha : a < 4294967296) (hb : b < 4294967296) : Go.bits .xor .i64 (a : Int) (b : Int) = ((a ^^^ b : Nat) : Int) :=
  bits_xor .i64 32 (by decide) wraps_i64 a b ha hb

theorem add_gf (a b : Nat) (ha : a < 256) (hb : b < 256) : gf_Add.f (a : Int) (b : Int) = some ((a ^^^ b : Nat) : Int) := by
  unfold gf_Add.f; rw [xor8 a b ha hb]

theorem bit8 (b i : Nat) (hb : b < 256) (hi : i < 8) : (Go.bits .and .u8 (shr .u8 (b : Int) (i : Int)) 1 = 1) ↔ b.testBit i = true := by
  have e : shr .u8 (b : Int) (i : Int) = ((b / 2 ^ i : Nat) : Int) := by
    unfold shr
    rw [Int.toNat_natCast, Nat.min_eq_left (show i ≤ IntKind.u8.bits by simp [IntKind.bits]; omega)]
    simp
  have h := bits_mask .u8 8 (by decide) wraps_u8 1 (by decide) ((b / 2 ^ i : Nat) : Int) (Int.natCast_nonneg _) (by have := Nat.div_le_self b (2 ^ i); omega)
  have h2 : ((2 : Int) ^ 1 - 1) = 1 := by decide
  rw [h2] at h
  rw [e, h, Nat.testBit_eq_decide_div_mod_eq, decide_eq_true_eq]
  omega

theorem mul_l0 (d : Nat) : ∀ (k b x p i : Nat), d + i = 8 → d < k → b < 256 → x < 256 → p < 256 →
    gf_Mul.l0 k (b : Int) (x : Int) (p : Int) (i : Int) = some ((p ^^^ GfMath.mulFrom d b x i : Nat) : Int) := by
  induction d with
  | zero =>
    intro k b x p i hd hk hb hx hp
    obtain ⟨k, rfl⟩ : ∃ m, k = m + 1 := ⟨k - 1, by omega⟩
    simp only [gf_Mul.l0]
    rw [if_neg (by omega)]
    simp only [GfMath.mulFrom, Nat.xor_zero]
    congr 1; omega
  | succ d ih =>
    intro k b x p i hd hk hb hx hp
    obtain ⟨k, rfl⟩ : ∃ m, k = m + 1 := ⟨k - 1, by omega⟩
    simp only [gf_Mul.l0]
    have e1 : wrap64 ((x : Int) * 2) = ((2 * x : Nat) : Int) := by rw [w64 ⟨by omega, by omega⟩]; omega
    have e2 : wrap64 ((i : Int) + 1) = ((i + 1 : Nat) : Int) := by rw [w64 ⟨by omega, by omega⟩]; omega
    have e3 : Go.bits .xor .i64 ((2 * x : Nat) : Int) 285 = ((2 * x ^^^ 285 : Nat) : Int) := xor64 (2 * x) 285 (by omega) (by omega)
    have e4 : Go.bits .xor .i64 (p : Int) (x : Int) = ((p ^^^ x : Nat) : Int) := xor64 p x (by omega) (by omega)
    rw [if_pos (by omega), if_pos (by omega), e1, e2, e3, e4]
    have hxt : (if ((2 * x : Nat) : Int) > 255 then gf_Mul.l0 k (b : Int) ((2 * x ^^^ 285 : Nat) : Int) = gf_Mul.l0 k (b : Int) ((GfMath.xt x : Nat) : Int) else gf_Mul.l0 k (b : Int) ((2 * x : Nat) : Int) = gf_Mul.l0 k (b : Int) ((GfMath.xt x : Nat) : Int)) := by
      unfold GfMath.xt
      split
      · rw [if_pos (by omega)]
      · rw [if_neg (by omega)]
    have hx' := GfMath.xt_lt hx
    simp only [GfMath.mulFrom]
    by_cases hbit : b.testBit i = true
    · rw [if_pos ((bit8 b i hb (by omega)).2 hbit), if_pos hbit, ← Nat.xor_assoc]
      have := ih k b (GfMath.xt x) (p ^^^ x) (i + 1) (by omega) (by omega) hb hx' (GfMath.xor_lt hp hx)
      split
      · rename_i h; rw [if_pos h] at hxt; rw [hxt, this]
      · rename_i h; rw [if_neg h] at hxt; rw [hxt, this]
    · rw [if_neg (fun h => hbit ((bit8 b i hb (by omega)).1 h)), if_neg hbit, Nat.zero_xor]
      have := ih k b (GfMath.xt x) p (i + 1) (by omega) (by omega) hb hx' hp
      split
      · rename_i h; rw [if_pos h] at hxt; rw [hxt, this]
      · rename_i h; rw [if_neg h] at hxt; rw [hxt, this]

theorem mul_gf (a b : Nat) (ha : a < 256) (hb : b < 256) (k : Nat) (hk : 20 < k) : gf_Mul.f k (a : Int) (b : Int) = some ((GfMath.mul a b : Nat) : Int) := by
  unfold gf_Mul.f
  rw [w64 ⟨by omega, by omega⟩]
  have := mul_l0 8 k b a 0 0 (by omega) (by omega) hb ha (by omega)
  rw [Nat.zero_xor] at this
  exact this

theorem tb_nat (i : Nat) : Gf.tb (i : Int) = ((GfMath.tabN.getD i 0 : Nat) : Int) := by
  unfold Gf.tb Gf.TBL rd
  rw [Int.toNat_natCast, List.getD_eq_getElem?_getD, List.getD_eq_getElem?_getD, List.getElem?_map]
  cases GfMath.tabN[i]? <;> rfl

theorem inv_gf (a : Nat) (ha : a < 256) (h0 : a ≠ 0) : gf_Inverse.f (a : Int) = some (((GfMath.inv a : Nat) : Int), 0) := by
  unfold gf_Inverse.f Gf.invF
  have h1 : Gf.tb (255 + (a : Int)) = ((GfMath.lg a : Nat) : Int) := by
    have e : (255 + (a : Int)) = ((255 + a : Nat) : Int) := by omega
    rw [e, tb_nat]; rfl
  have hl := GfMath.lg_lt ha
  have e : -((GfMath.lg a : Nat) : Int) % 255 = (((255 - GfMath.lg a) % 255 : Nat) : Int) := by omega
  rw [if_pos (by omega), if_neg (by omega), h1, e, tb_nat]
  rfl

theorem inv_gf0 : gf_Inverse.f 0 = some (0, 1) := rfl

theorem wakes_gf (k : Nat) (hk : 50 < k) : tabularylaw01_wakes.f k = some true :=
  at_rounds tabularylaw01_wakes.mono (k := 50) (by omega) (by decide +kernel)

/-- The product of two polynomials, and what is left of it. -/
def polFrom : Nat → Nat → Nat → Nat → Nat
  | 0, _, _, _ => 0
  | d + 1, b, x, i => (if b.testBit i then x <<< i else 0) ^^^ polFrom d b x (i + 1)
def redFrom : Nat → Nat → Nat → Nat
  | 0, p, _ => p
  | d + 1, p, i => redFrom d (if p.testBit i then p ^^^ (285 <<< (i - 8)) else p) (i - 1)

theorem polFrom_addl (d : Nat) : ∀ b x y i, polFrom d b (x ^^^ y) i = polFrom d b x i ^^^ polFrom d b y i := by
  induction d with
  | zero => intro b x y i; simp [polFrom]
  | succ d ih =>
    intro b x y i
    simp only [polFrom]
    rw [ih, GfMath.xor4, Nat.shiftLeft_xor_distrib]
    congr 1
    split <;> simp

theorem redFrom_add (d : Nat) : ∀ p q i, redFrom d (p ^^^ q) i = redFrom d p i ^^^ redFrom d q i := by
  induction d with
  | zero => intro p q i; rfl
  | succ d ih =>
    intro p q i
    simp only [redFrom]
    rw [← ih]
    congr 1
    rw [Nat.testBit_xor]
    cases hp : p.testBit i <;> cases hq : q.testBit i <;> simp
    · rw [Nat.xor_assoc]
    · rw [Nat.xor_assoc, Nat.xor_assoc, Nat.xor_comm q]
    · rw [GfMath.xor4, Nat.xor_self, Nat.xor_zero]

/-- The document's product. -/
def pmul (a b : Nat) : Nat := redFrom 7 (polFrom 8 b a 0) 14

theorem pmul_basis : (List.range 8).all (fun i => (List.range 256).all (fun b => decide (pmul (2 ^ i) b = GfMath.mul (2 ^ i) b))) = true := by kernel_rfl

theorem pmul_mul {a b : Nat} (ha : a < 256) (hb : b < 256) : pmul a b = GfMath.mul a b := by
  refine GfMath.lin_ext (fun a => pmul a b) (fun a => GfMath.mul a b) (fun x y hx hy => ?_) (fun x y hx hy => GfMath.mul_addl b hx hy) ?_ a ha
  · show redFrom 7 (polFrom 8 b (x ^^^ y) 0) 14 = _
    rw [polFrom_addl, redFrom_add]; rfl
  · intro i hi
    exact of_decide_eq_true (List.all_eq_true.mp (List.all_eq_true.mp pmul_basis i (List.mem_range.mpr hi)) b (List.mem_range.mpr hb))

theorem bit64 (b i : Nat) (hb : b < 2147483648) (hi : i < 32) : (Go.bits .and .i64 (shr .i64 (b : Int) (i : Int)) 1 = 1) ↔ b.testBit i = true := by
  have e : shr .i64 (b : Int) (i : Int) = ((b / 2 ^ i : Nat) : Int) := by
    unfold shr
    rw [Int.toNat_natCast, Nat.min_eq_left (show i ≤ IntKind.i64.bits by simp [IntKind.bits]; omega)]
    simp
  have h := bits_mask .i64 32 (by decide) wraps_i64 1 (by decide) ((b / 2 ^ i : Nat) : Int) (Int.natCast_nonneg _) (by have := Nat.div_le_self b (2 ^ i); omega)
  have h2 : ((2 : Int) ^ 1 - 1) = 1 := by decide
  rw [h2] at h
  rw [e, h, Nat.testBit_eq_decide_div_mod_eq, decide_eq_true_eq]
  omega

theorem shl64 (x i : Nat) (hx : x < 65536) (hi : i < 16) : shl .i64 (x : Int) (i : Int) = ((x <<< i : Nat) : Int) := by
  have h1 : x * 2 ^ i < 4294967296 := by
    have := Nat.mul_lt_mul_of_lt_of_le hx (Nat.pow_le_pow_right (n := 2) (by decide) (show i ≤ 16 by omega)) (by decide)
    simpa using this
  unfold shl
  rw [Int.toNat_natCast, Nat.min_eq_left (show i ≤ IntKind.i64.bits by simp [IntKind.bits]; omega), Nat.shiftLeft_eq]
  have e : (x : Int) * 2 ^ i = ((x * 2 ^ i : Nat) : Int) := by simp
  rw [e]
  exact wraps_i64 _ (Int.natCast_nonneg _) (by omega)

theorem rmul_l1 (d : Nat) : ∀ (k p i : Nat), i + 1 = d + 8 → d ≤ 7 → d < k → p < 32768 → tabularyref01_Mul.l1 k (p : Int) (i : Int) = some ((redFrom d p i % 256 : Nat) : Int) := by
  induction d with
  | zero =>
    intro k p i hi hd hk hp
    obtain ⟨k, rfl⟩ : ∃ m, k = m + 1 := ⟨k - 1, by omega⟩
    simp only [tabularyref01_Mul.l1, redFrom]
    rw [if_neg (by omega)]
    congr 1
  | succ d ih =>
    intro k p i hi hd hk hp
    obtain ⟨k, rfl⟩ : ∃ m, k = m + 1 := ⟨k - 1, by omega⟩
    simp only [tabularyref01_Mul.l1, redFrom]
    have e1 : wrap64 ((i : Int) - 8) = ((i - 8 : Nat) : Int) := by rw [w64 ⟨by omega, by omega⟩]; omega
    have e2 : wrap64 ((i : Int) - 1) = ((i - 1 : Nat) : Int) := by rw [w64 ⟨by omega, by omega⟩]; omega
    have e3 : shl .i64 285 ((i - 8 : Nat) : Int) = ((285 <<< (i - 8) : Nat) : Int) := shl64 285 (i - 8) (by decide) (by omega)
    have hs : 285 <<< (i - 8) < 32768 := by
      rw [Nat.shiftLeft_eq]
      have := Nat.mul_le_mul_left 285 (Nat.pow_le_pow_right (n := 2) (by decide) (show i - 8 ≤ 6 by omega))
      omega
    have e4 : Go.bits .xor .i64 (p : Int) ((285 <<< (i - 8) : Nat) : Int) = ((p ^^^ 285 <<< (i - 8) : Nat) : Int) := xor64 p _ (by omega) (by omega)
    rw [if_pos (by omega), if_pos (by omega), e1, e2, e3, e4]
    by_cases hb : p.testBit i = true
    · rw [if_pos ((bit64 p i (by omega) (by omega)).2 hb), if_pos (by omega), if_pos hb]
      exact ih k _ _ (by omega) (by omega) (by omega) (Nat.xor_lt_two_pow (n := 15) hp hs)
    · rw [if_neg (fun h => hb ((bit64 p i (by omega) (by omega)).1 h)), if_neg hb]
      exact ih k _ _ (by omega) (by omega) (by omega) hp

theorem rmul_l0 (d : Nat) : ∀ (k b x p i : Nat), d + i = 8 → d + 20 < k → b < 256 → x < 256 → p < 32768 →
    tabularyref01_Mul.l0 k (b : Int) (p : Int) (x : Int) (i : Int) = some ((redFrom 7 (p ^^^ polFrom d b x i) 14 % 256 : Nat) : Int) := by
  induction d with
  | zero =>
    intro k b x p i hd hk hb hx hp
    obtain ⟨k, rfl⟩ : ∃ m, k = m + 1 := ⟨k - 1, by omega⟩
    simp only [tabularyref01_Mul.l0]
    rw [if_neg (by omega)]
    simp only [polFrom, Nat.xor_zero]
    exact rmul_l1 7 k p 14 rfl (by omega) (by omega) hp
  | succ d ih =>
    intro k b x p i hd hk hb hx hp
    obtain ⟨k, rfl⟩ : ∃ m, k = m + 1 := ⟨k - 1, by omega⟩
    simp only [tabularyref01_Mul.l0]
    have e0 : wrap64 (b : Int) = (b : Int) := w64 ⟨by omega, by omega⟩
    have e2 : wrap64 ((i : Int) + 1) = ((i + 1 : Nat) : Int) := by rw [w64 ⟨by omega, by omega⟩]; omega
    have hs : x <<< i < 32768 := by
      rw [Nat.shiftLeft_eq]
      have := Nat.mul_le_mul (show x ≤ 255 by omega) (Nat.pow_le_pow_right (n := 2) (by decide) (show i ≤ 7 by omega))
      omega
    have e3 : shl .i64 (x : Int) (i : Int) = ((x <<< i : Nat) : Int) := shl64 x i (by omega) (by omega)
    have e4 : Go.bits .xor .i64 (p : Int) ((x <<< i : Nat) : Int) = ((p ^^^ x <<< i : Nat) : Int) := xor64 p _ (by omega) (by omega)
    rw [if_pos (by omega), if_pos (by omega), e0, e2, e3, e4]
    simp only [polFrom]
    by_cases hbit : b.testBit i = true
    · rw [if_pos ((bit64 b i (by omega) (by omega)).2 hbit), if_pos hbit, ← Nat.xor_assoc]
      exact ih k b x _ (i + 1) (by omega) (by omega) hb hx (Nat.xor_lt_two_pow (n := 15) hp hs)
    · rw [if_neg (fun h => hbit ((bit64 b i (by omega) (by omega)).1 h)), if_neg hbit, Nat.zero_xor]
      exact ih k b x p (i + 1) (by omega) (by omega) hb hx hp

theorem rmul_gf (a b : Nat) (ha : a < 256) (hb : b < 256) (k : Nat) (hk : 40 < k) : tabularyref01_Mul.f k (a : Int) (b : Int) = some ((GfMath.mul a b : Nat) : Int) := by
  unfold tabularyref01_Mul.f
  rw [w64 ⟨by omega, by omega⟩]
  have := rmul_l0 8 k b a 0 0 (by omega) (by omega) hb ha (by omega)
  have h2 : redFrom 7 (0 ^^^ polFrom 8 b a 0) 14 = GfMath.mul a b := by rw [Nat.zero_xor]; exact pmul_mul ha hb
  rw [h2, Nat.mod_eq_of_lt (GfMath.mul_lt b ha)] at this
  exact this

theorem lg_tb (a : Nat) : Gf.tb (255 + (a : Int)) = ((GfMath.lg a : Nat) : Int) := by
  have e : (255 + (a : Int)) = ((255 + a : Nat) : Int) := by omega
  rw [e, tb_nat]; rfl

theorem tb_pw (i : Nat) (h : i < 255) : Gf.tb (i : Int) = ((GfMath.pw i : Nat) : Int) := by
  rw [tb_nat, ← GfMath.ex_pw h]; rfl

/-- Pow of a number that is not 0, to a power that is not 0. -/
theorem pow_gf (a : Nat) (ha : a < 256) (h0 : a ≠ 0) (n : Int) (hn : n ≠ 0) : gf_Pow.f (a : Int) n = some ((GfMath.npw a (Gf.mod255 n).toNat : Nat) : Int) := by
  unfold gf_Pow.f Gf.powF
  have hm := Gf.mod255_range n
  obtain ⟨m, hmn⟩ := Int.eq_ofNat_of_zero_le hm.1
  rw [if_pos (by omega), if_neg hn, if_neg (by omega), lg_tb, hmn, Int.toNat_natCast]
  have e : ((GfMath.lg a : Nat) : Int) * (m : Int) % 255 = ((GfMath.lg a * m % 255 : Nat) : Int) := by
    rw [← Int.natCast_mul]; omega
  rw [e, tb_pw _ (Nat.mod_lt _ (by decide)), GfMath.pw_mod, ← GfMath.npw_pw, GfMath.pw_lg ha h0]


theorem turns_gf (n : Int) (h : -9223372036854775808 ≤ n ∧ n ≤ 9223372036854775807) : tabularyref01_turns.f n = some (Gf.mod255 n) := by
  unfold tabularyref01_turns.f Gf.mod255
  have := Gf.tmod_range n
  rw [w64 ⟨by omega, by omega⟩, Int.tmod_eq_emod_of_nonneg (by omega)]

theorem rexp_l0 (d : Nat) : ∀ (k i : Nat) (n : Int), (-9223372036854775808 ≤ n ∧ n ≤ 9223372036854775807) → (Gf.mod255 n).toNat = i + d → d + 60 < k →
    tabularyref01_Exp.l0 k n ((GfMath.pw i : Nat) : Int) (i : Int) = some ((GfMath.pw (Gf.mod255 n).toNat : Nat) : Int) := by
  induction d with
  | zero =>
    intro k i n hn hd hk
    obtain ⟨k, rfl⟩ : ∃ m, k = m + 1 := ⟨k - 1, by omega⟩
    have hm := Gf.mod255_range n
    simp only [tabularyref01_Exp.l0]
    rw [turns_gf n hn]
    simp only [Option.bind_some]
    rw [if_neg (by omega), hd]
    rfl
  | succ d ih =>
    intro k i n hn hd hk
    obtain ⟨k, rfl⟩ : ∃ m, k = m + 1 := ⟨k - 1, by omega⟩
    have hm := Gf.mod255_range n
    simp only [tabularyref01_Exp.l0]
    rw [turns_gf n hn]
    simp only [Option.bind_some]
    have e2 : wrap64 ((i : Int) + 1) = ((i + 1 : Nat) : Int) := by rw [w64 ⟨by omega, by omega⟩]; omega
    have e3 := rmul_gf (GfMath.pw i) 2 (GfMath.pw_lt i) (by decide) k (by omega)
    rw [GfMath.mul_two (GfMath.pw_lt i)] at e3
    rw [if_pos (by omega), show (2 : Int) = ((2 : Nat) : Int) from rfl, e3, e2]
    simp only [Option.bind_some]
    exact ih k (i + 1) n hn (by omega) (by omega)

theorem rpow_l0 (d : Nat) : ∀ (k i a : Nat) (n : Int), (-9223372036854775808 ≤ n ∧ n ≤ 9223372036854775807) → (Gf.mod255 n).toNat = i + d → d + 60 < k → a < 256 → a ≠ 0 →
    tabularyref01_Pow.l0 k (a : Int) n ((GfMath.npw a i : Nat) : Int) (i : Int) = some ((GfMath.npw a (Gf.mod255 n).toNat : Nat) : Int) := by
  induction d with
  | zero =>
    intro k i a n hn hd hk ha h0
    obtain ⟨k, rfl⟩ : ∃ m, k = m + 1 := ⟨k - 1, by omega⟩
    have hm := Gf.mod255_range n
    simp only [tabularyref01_Pow.l0]
    rw [turns_gf n hn]
    simp only [Option.bind_some]
    rw [if_neg (by omega), if_neg (by omega), hd]
    rfl
  | succ d ih =>
    intro k i a n hn hd hk ha h0
    obtain ⟨k, rfl⟩ : ∃ m, k = m + 1 := ⟨k - 1, by omega⟩
    have hm := Gf.mod255_range n
    simp only [tabularyref01_Pow.l0]
    rw [turns_gf n hn]
    simp only [Option.bind_some]
    have e2 : wrap64 ((i : Int) + 1) = ((i + 1 : Nat) : Int) := by rw [w64 ⟨by omega, by omega⟩]; omega
    rw [if_pos (by omega), rmul_gf _ a (GfMath.npw_lt ha i) ha k (by omega), e2]
    simp only [Option.bind_some]
    exact ih k (i + 1) a n hn (by omega) (by omega) ha h0

theorem rpow_zero (d : Nat) : ∀ (k i x : Nat) (n : Int), (-9223372036854775808 ≤ n ∧ n ≤ 9223372036854775807) → (Gf.mod255 n).toNat = i + d → d + 60 < k → x < 256 →
    tabularyref01_Pow.l0 k 0 n (x : Int) (i : Int) = some 0 := by
  induction d with
  | zero =>
    intro k i x n hn hd hk hx
    obtain ⟨k, rfl⟩ : ∃ m, k = m + 1 := ⟨k - 1, by omega⟩
    have hm := Gf.mod255_range n
    simp only [tabularyref01_Pow.l0]
    rw [turns_gf n hn]
    simp only [Option.bind_some]
    rw [if_neg (by omega), if_pos trivial]
  | succ d ih =>
    intro k i x n hn hd hk hx
    obtain ⟨k, rfl⟩ : ∃ m, k = m + 1 := ⟨k - 1, by omega⟩
    have hm := Gf.mod255_range n
    simp only [tabularyref01_Pow.l0]
    rw [turns_gf n hn]
    simp only [Option.bind_some]
    have e2 : wrap64 ((i : Int) + 1) = ((i + 1 : Nat) : Int) := by rw [w64 ⟨by omega, by omega⟩]; omega
    have e3 : tabularyref01_Mul.f k (x : Int) 0 = some ((GfMath.mul x 0 : Nat) : Int) := rmul_gf x 0 hx (by decide) k (by omega)
    rw [if_pos (by omega), e3, e2]
    simp only [Option.bind_some]
    exact ih k (i + 1) _ n hn (by omega) (by omega) (GfMath.mul_lt 0 hx)

theorem rlog_l0 (d : Nat) : ∀ (k a i : Nat), d + i = 255 → d + 60 < k → a < 256 → (a ≠ 0 → i ≤ GfMath.lg a) →
    tabularyref01_Log.l0 k (a : Int) ((GfMath.pw i : Nat) : Int) (i : Int) = some (if a = 0 then -1 else ((GfMath.lg a : Nat) : Int)) := by
  induction d with
  | zero =>
    intro k a i hd hk ha hi
    obtain ⟨k, rfl⟩ : ∃ m, k = m + 1 := ⟨k - 1, by omega⟩
    simp only [tabularyref01_Log.l0]
    rw [if_neg (by omega)]
    by_cases h0 : a = 0
    · rw [if_pos h0]
    · have := hi h0; have := GfMath.lg_lt ha; omega
  | succ d ih =>
    intro k a i hd hk ha hi
    obtain ⟨k, rfl⟩ : ∃ m, k = m + 1 := ⟨k - 1, by omega⟩
    simp only [tabularyref01_Log.l0]
    rw [if_pos (by omega)]
    by_cases h : GfMath.pw i = a
    · have h0 : a ≠ 0 := by rw [← h]; exact GfMath.pw_ne i
      rw [if_pos (by omega), if_neg h0, ← h, GfMath.lg_pw (by omega)]
    · have e2 : wrap64 ((i : Int) + 1) = ((i + 1 : Nat) : Int) := by rw [w64 ⟨by omega, by omega⟩]; omega
      have e3 := rmul_gf (GfMath.pw i) 2 (GfMath.pw_lt i) (by decide) k (by omega)
      rw [GfMath.mul_two (GfMath.pw_lt i)] at e3
      rw [if_neg (by omega), show (2 : Int) = ((2 : Nat) : Int) from rfl, e3, e2]
      simp only [Option.bind_some]
      refine ih k a (i + 1) (by omega) (by omega) ha (fun h0 => ?_)
      have h1 := hi h0
      by_cases he : i = GfMath.lg a
      · exact absurd (by rw [he]; exact GfMath.pw_lg ha h0) h
      · omega

theorem GfPowers : tabularylaw01_GfPowers.Pure := by
  intro a n ha hn
  have ha := wf8 ha
  have hn : -9223372036854775808 ≤ n ∧ n ≤ 9223372036854775807 := by
    simp only [Lit.wf, Bool.and_eq_true, decide_eq_true_eq] at hn
    have hmin : IntKind.i64.min = -9223372036854775808 := rfl
    have hmax : IntKind.i64.max = 9223372036854775807 := rfl
    omega
  obtain ⟨a, rfl⟩ := Int.eq_ofNat_of_zero_le ha.1
  have la : a < 256 := by omega
  have hm := Gf.mod255_range n
  refine ⟨1000, ?_⟩
  have hj : tabularylaw01_GfPowers.j0 1000 (a : Int) n = some true := by
    obtain ⟨k, hk⟩ : ∃ k, 1000 = k + 1 := ⟨999, rfl⟩
    rw [hk]
    simp only [tabularylaw01_GfPowers.j0]
    have e1 : gf_Exp.f n = some ((GfMath.pw (Gf.mod255 n).toNat : Nat) : Int) := by
      unfold gf_Exp.f Gf.expF
      have : Gf.mod255 n = (((Gf.mod255 n).toNat : Nat) : Int) := by omega
      rw [this, tb_pw _ (by omega), Int.toNat_natCast]
    have e2 : tabularyref01_Exp.f k n = some ((GfMath.pw (Gf.mod255 n).toNat : Nat) : Int) :=
      rexp_l0 (Gf.mod255 n).toNat k 0 n hn (by omega) (by omega)
    rw [e1, e2]
    simp only [Option.bind_some]
    rw [if_pos trivial]
    have e3 : gf_Pow.f (a : Int) n = tabularyref01_Pow.f k (a : Int) n := by
      unfold tabularyref01_Pow.f
      by_cases h : n = 0
      · subst h
        unfold gf_Pow.f Gf.powF
        rw [if_pos (by omega), if_pos rfl, if_pos rfl]
      · rw [if_neg h]
        by_cases h0 : a = 0
        · subst h0
          have e : tabularyref01_Pow.l0 k ((0 : Nat) : Int) n 1 0 = some 0 := rpow_zero (Gf.mod255 n).toNat k 0 1 n hn (by omega) (by omega) (by decide)
          rw [e]
          unfold gf_Pow.f Gf.powF
          rw [if_pos (by omega), if_neg h, if_pos (show ((0 : Nat) : Int) = 0 from rfl)]
        · rw [pow_gf a la h0 n h]
          exact (rpow_l0 (Gf.mod255 n).toNat k 0 a n hn (by omega) (by omega) la h0).symm
    have e4 : ∃ v, gf_Pow.f (a : Int) n = some v := by
      unfold gf_Pow.f Gf.powF
      rw [if_pos (by omega)]
      by_cases h : n = 0
      · rw [if_pos h]; exact ⟨_, rfl⟩
      · rw [if_neg h]; split <;> exact ⟨_, rfl⟩
    obtain ⟨v, hv⟩ := e4
    rw [← e3, hv]
    simp only [Option.bind_some]
    rw [if_pos trivial, wakes_gf k (by omega)]
    rfl
  unfold tabularylaw01_GfPowers.f
  have e5 : tabularyref01_Log.f 1000 (a : Int) = some (if a = 0 then -1 else ((GfMath.lg a : Nat) : Int)) :=
    rlog_l0 255 1000 a 0 rfl (by omega) la (fun _ => by omega)
  rw [e5]
  by_cases h0 : a = 0
  · subst h0
    have e6 : gf_Log.f ((0 : Nat) : Int) = some (0, 1) := rfl
    rw [e6]
    simp only [Option.bind_some]
    rw [if_pos (show ((0 : Nat) : Int) = 0 from rfl), if_pos trivial, if_pos trivial, hj]
  · have e6 : gf_Log.f (a : Int) = some (((GfMath.lg a : Nat) : Int), 0) := by
      unfold gf_Log.f Gf.logF
      rw [if_pos (by omega), if_neg (by omega), lg_tb]
    rw [e6]
    simp only [Option.bind_some]
    rw [if_neg (by omega), if_neg h0, if_pos rfl, if_pos trivial, hj]

end Go.Proofs.Ytfpiegglpagkmaa.Pure
