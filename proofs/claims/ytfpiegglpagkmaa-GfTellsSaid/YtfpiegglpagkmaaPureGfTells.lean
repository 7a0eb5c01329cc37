/- For every two bytes: the Go program's sums, products, quotients and inverses are the document's. No condition. -/
import Derived.Test.YtfpiegglpagkmaaPGfTellsx2
namespace Go.Proofs.Ytfpiegglpagkmaa.Pure
open Go.Proofs.Ytfpiegglpagkmaa Go.Proofs.Ytfpiegglpagkmaa Go.Proofs.Ytfpiegglpagkmaa Go.RowKit Go.Proofs.Ytfpiegglpagkmaa.PGfTells Go.Proofs.YtfpiegglpagkmaaW.PrintWords Go.Proofs.YtfpiegglpagkmaaW.PrintLast Go.Proofs.YtfpiegglpagkmaaW.PrintMore
set_option linter.unusedVariables false
set_option linter.unusedSimpArgs false

theorem wf8 {a : Int} (h : (Lit.int .u8 a).wf = true) : 0 ≤ a ∧ a ≤ 255 := by
  simp only [Lit.wf, Bool.and_eq_true, decide_eq_true_eq] at h
  have hmin : IntKind.u8.min = 0 := rfl
  have hmax : IntKind.u8.max = 255 := rfl
  omega

theorem w64 {a : Int} (h : -9223372036854775808 ≤ a ∧ a ≤ 9223372036854775807) : wrap64 a = a := by
  unfold wrap64; omega

theorem bits_xor (k : IntKind) (j : Nat) (hj : j ≤ k.bits) (hk : ∀ n : Int, 0 ≤ n → n < 2 ^ j → k.wrap n = n) (a b : Nat) (ha : a < 2 ^ j) (hb : b < 2 ^ j) :
    Go.bits .xor k a b = ((a ^^^ b : Nat) : Int) := by
  have hp : 2 ^ j ≤ 2 ^ k.bits := Nat.pow_le_pow_right (by decide) hj
  have ha' : a % 2 ^ k.bits = a := Nat.mod_eq_of_lt (Nat.lt_of_lt_of_le ha hp)
  have hb' : b % 2 ^ k.bits = b := Nat.mod_eq_of_lt (Nat.lt_of_lt_of_le hb hp)
  have cast : ∀ n : Nat, n < 2 ^ j → ((n : Nat) : Int) < 2 ^ j := fun n h => by exact_mod_cast h
  simp only [Go.bits, BitVec.ofInt_natCast, BitVec.toNat_xor, BitVec.toNat_ofNat, ha', hb']
  exact hk _ (Int.natCast_nonneg _) (cast _ (Nat.xor_lt_two_pow ha hb))

theorem xor8 (a b : Nat) (ha : a < 256) (hb : b < 256) : Go.bits .xor .u8 (a : Int) (b : Int) = ((a ^^^ b : Nat) : Int) :=
  bits_xor .u8 8 (by decide) wraps_u8 a b ha hb

theorem wraps_i64 (n : Int) (h0 : 0 ≤ n) (h1 : n < 2 ^ 32) : IntKind.i64.wrap n = n := by rw [IntKind.wrap_i64]; omega

theorem xor64 (a b : Nat) (ha : a < 4294967296) (hb : b < 4294967296) : Go.bits .xor .i64 (a : Int) (b : Int) = ((a ^^^ b : Nat) : Int) :=
  bits_xor .i64 32 (by decide) wraps_i64 a b ha hb

theorem add_gf (a b : Nat) (ha : a < 256) (hb : b < 256) : gf_Add.f (a : Int) (b : Int) = some ((a ^^^ b : Nat) : Int) := by
  unfold gf_Add.f; rw [xor8 a b ha hb]

theorem bit8 (b i : Nat) (hb : b < 256) (hi : i < 8) : (Go.bits .and .u8 (shr .u8 (b : Int) (i : Int)) 1 = 1) ↔ b.testBit i = true := by
  have e : shr .u8 (b : Int) (i : Int) = ((b / 2 ^ i : Nat) : Int) := by
    unfold shr
    rw [Int.toNat_natCast, Nat.min_eq_left (show i ≤ IntKind.u8.bits by simp [IntKind.bits]; omega)]
    simp
  have h := bits_mask .u8 8 (by decide) wraps_u8 1 (by decide) ((b / 2 ^ i : Nat) : Int) (Int.natCast_nonneg _) (by have := Nat.div_le_self b (2 ^ i); omega)
  have h2 : ((2 : Int) ^ 1 - 1) = 1 := by decide
  rw [h2] at h
  rw [e, h, Nat.testBit_eq_decide_div_mod_eq, decide_eq_true_eq]
  omega

theorem mul_l0 (d : Nat) : ∀ (k b x p i : Nat), d + i = 8 → d < k → b < 256 → x < 256 → p < 256 →
    gf_Mul.l0 k (b : Int) (x : Int) (p : Int) (i : Int) = some ((p ^^^ GfMath.mulFrom d b x i : Nat) : Int) := by
  induction d with
  | zero =>
    intro k b x p i hd hk hb hx hp
    obtain ⟨k, rfl⟩ : ∃ m, k = m + 1 := ⟨k - 1, by omega⟩
    simp only [gf_Mul.l0]
    rw [if_neg (by omega)]
    simp only [GfMath.mulFrom, Nat.xor_zero]
    congr 1; omega
  | succ d ih =>
    intro k b x p i hd hk hb hx hp
    obtain ⟨k, rfl⟩ : ∃ m, k = m + 1 := ⟨k - 1, by omega⟩
    simp only [gf_Mul.l0]
    have e1 : wrap64 ((x : Int) * 2) = ((2 * x : Nat) : Int) := by rw [w64 ⟨by omega, by omega⟩]; omega
    have e2 : wrap64 ((i : Int) + 1) = ((i + 1 : Nat) : Int) := by rw [w64 ⟨by omega, by omega⟩]; omega
    have e3 : Go.bits .xor .i64 ((2 * x : Nat) : Int) 285 = ((2 * x ^^^ 285 : Nat) : Int) := xor64 (2 * x) 285 (by omega) (by omega)
    have e4 : Go.bits .xor .i64 (p : Int) (x : Int) = ((p ^^^ x : Nat) : Int) := xor64 p x (by omega) (by omega)
    rw [if_pos (by omega), if_pos (by omega), e1, e2, e3, e4]
    have hxt : (if ((2 * x : Nat) : Int) > 255 then gf_Mul.l0 k (b : Int) ((2 * x ^^^ 285 : Nat) : Int) = gf_Mul.l0 k (b : Int) ((GfMath.xt x : Nat) : Int) else gf_Mul.l0 k (b : Int) ((2 * x : Nat) : Int) = gf_Mul.l0 k (b : Int) ((GfMath.xt x : Nat) : Int)) := by
      unfold GfMath.xt
      split
      · rw [if_pos (by omega)]
      · rw [if_neg (by omega)]
    have hx' := GfMath.xt_lt hx
    simp only [GfMath.mulFrom]
    by_cases hbit : b.testBit i = true
    · rw [if_pos ((bit8 b i hb (by omega)).2 hbit), if_pos hbit, ← Nat.xor_assoc]
      have := ih k b (GfMath.xt x) (p ^^^ x) (i + 1) (by omega) (by omega) hb hx' (GfMath.xor_lt hp hx)
      split
      · rename_i h; rw [if_pos h] at hxt; rw [hxt, this]
      · rename_i h; rw [if_neg h] at hxt; rw [hxt, this]
    · rw [if_neg (fun h => hbit ((bit8 b i hb (by omega)).1 h)), if_neg hbit, Nat.zero_xor]
      have := ih k b (GfMath.xt x) p (i + 1) (by omega) (by omega) hb hx' hp
      split
      · rename_i h; rw [if_pos h] at hxt; rw [hxt, this]
      · rename_i h; rw [if_neg h] at hxt; rw [hxt, this]

theorem mul_gf (a b : Nat) (ha : a < 256) (hb : b < 256) (k : Nat) (hk : 20 < k) : gf_Mul.f k (a : Int) (b : Int) = some ((GfMath.mul a b : Nat) : Int) := by
  unfold gf_Mul.f
  rw [w64 ⟨by omega, by omega⟩]
  have := mul_l0 8 k b a 0 0 (by omega) (by omega) hb ha (by omega)
  rw [Nat.zero_xor] at this
  exact this

theorem tb_nat (i : Nat) : Gf.tb (i : Int) = ((GfMath.tabN.getD i 0 : Nat) : Int) := by
  unfold Gf.tb Gf.TBL rd
  rw [Int.toNat_natCast, List.getD_eq_getElem?_getD, List.getD_eq_getElem?_getD, List.getElem?_map]
  cases GfMath.tabN[i]? <;> rfl

theorem inv_gf (a : Nat) (ha : a < 256) (h0 : a ≠ 0) : gf_Inverse.f (a : Int) = some (((GfMath.inv a : Nat) : Int), 0) := by
  unfold gf_Inverse.f Gf.invF
  have h1 : Gf.tb (255 + (a : Int)) = ((GfMath.lg a : Nat) : Int) := by
    have e : (255 + (a : Int)) = ((255 + a : Nat) : Int) := by omega
    rw [e, tb_nat]; rfl
  have hl := GfMath.lg_lt ha
  have e : -((GfMath.lg a : Nat) : Int) % 255 = (((255 - GfMath.lg a) % 255 : Nat) : Int) := by omega
  rw [if_pos (by omega), if_neg (by omega), h1, e, tb_nat]
  rfl

theorem inv_gf0 : gf_Inverse.f 0 = some (0, 1) := rfl

theorem wakes_gf (k : Nat) (hk : 50 < k) : tabularylaw01_wakes.f k = some true :=
  at_rounds tabularylaw01_wakes.mono (k := 50) (by omega) (by decide +kernel)

/-- The product of two polynomials, and what is left of it. -/
def polFrom : Nat → Nat → Nat → Nat → Nat
  | 0, _, _, _ => 0
  | d + 1, b, x, i => (if b.testBit i then x <<< i else 0) ^^^ polFrom d b x (i + 1)
def redFrom : Nat → Nat → Nat → Nat
  | 0, p, _ => p
  | d + 1, p, i => redFrom d (if p.testBit i then p ^^^ (285 <<< (i - 8)) else p) (i - 1)

theorem polFrom_addl (d : Nat) : ∀ b x y i, polFrom d b (x ^^^ y) i = polFrom d b x i ^^^ polFrom d b y i := by
  induction d with
  | zero => intro b x y i; simp [polFrom]
  | succ d ih =>
    intro b x y i
    simp only [polFrom]
    rw [ih, GfMath.xor4, Nat.shiftLeft_xor_distrib]
    congr 1
    split <;> simp

theorem redFrom_add (d : Nat) : ∀ p q i, redFrom d (p ^^^ q) i = redFrom d p i ^^^ redFrom d q i := by
  induction d with
  | zero => intro p q i; rfl
  | succ d ih =>
    intro p q i
    simp only [redFrom]
    rw [← ih]
    congr 1
    rw [Nat.testBit_xor]
    cases hp : p.testBit i <;> cases hq : q.testBit i <;> simp
    · rw [Nat.xor_assoc]
    · rw [Nat.xor_assoc, Nat.xor_assoc, Nat.xor_comm q]
    · rw [GfMath.xor4, Nat.xor_self, Nat.xor_zero]

/-- The document's product. -/
def pmul (a b : Nat) : Nat := redFrom 7 (polFrom 8 b a 0) 14

theorem pmul_basis : (List.range 8).all (fun i => (List.range 256).all (fun b => decide (pmul (2 ^ i) b = GfMath.mul (2 ^ i) b))) = true := by kernel_rfl

theorem pmul_mul {a b : Nat} (ha : a < 256) (hb : b < 256) : pmul a b = GfMath.mul a b := by
  refine GfMath.lin_ext (fun a => pmul a b) (fun a => GfMath.mul a b) (fun x y hx hy => ?_) (fun x y hx hy => GfMath.mul_addl b hx hy) ?_ a ha
  · show redFrom 7 (polFrom 8 b (x ^^^ y) 0) 14 = _
    rw [polFrom_addl, redFrom_add]; rfl
  · intro i hi
    exact of_decide_eq_true (List.all_eq_true.mp (List.all_eq_true.mp pmul_basis i (List.mem_range.mpr hi)) b (List.mem_range.mpr hb))

theorem bit64 (b i : Nat) (hb : b < 2147483648) (hi : i < 32) : (Go.bits .and .i64 (shr .i64 (b : Int) (i : Int)) 1 = 1) ↔ b.testBit i = true := by
  have e : shr .i64 (b : Int) (i : Int) = ((b / 2 ^ i : Nat) : Int) := by
    unfold shr
    rw [Int.toNat_natCast, Nat.min_eq_left (show i ≤ IntKind.i64.bits by simp [IntKind.bits]; omega)]
    simp
  have h := bits_mask .i64 32 (by decide) wraps_i64 1 (by decide) ((b / 2 ^ i : Nat) : Int) (Int.natCast_nonneg _) (by have := Nat.div_le_self b (2 ^ i); omega)
  have h2 : ((2 : Int) ^ 1 - 1) = 1 := by decide
  rw [h2] at h
  rw [e, h, Nat.testBit_eq_decide_div_mod_eq, decide_eq_true_eq]
  omega

theorem shl64 (x i : Nat) (hx : x < 65536) (hi : i < 16) : shl .i64 (x : Int) (i : Int) = ((x <<< i : Nat) : Int) := by
  have h1 : x * 2 ^ i < 4294967296 := by
    have := Nat.mul_lt_mul_of_lt_of_le hx (Nat.pow_le_pow_right (n := 2) (by decide) (show i ≤ 16 by omega)) (by decide)
    simpa using this
  unfold shl
  rw [Int.toNat_natCast, Nat.min_eq_left (show i ≤ IntKind.i64.bits by simp [IntKind.bits]; omega), Nat.shiftLeft_eq]
  have e : (x : Int) * 2 ^ i = ((x * 2 ^ i : Nat) : Int) := by simp
  rw [e]
  exact wraps_i64 _ (Int.natCast_nonneg _) (by omega)

theorem rmul_l1 (d : Nat) : ∀ (k p i : Nat), i + 1 = d + 8 → d ≤ 7 → d < k → p < 32768 → tabularyref01_Mul.l1 k (p : Int) (i : Int) = some ((redFrom d p i % 256 : Nat) : Int) := by
  induction d with
  | zero =>
    intro k p i hi hd hk hp
    obtain ⟨k, rfl⟩ : ∃ m, k = m + 1 := ⟨k - 1, by omega⟩
    simp only [tabularyref01_Mul.l1, redFrom]
    rw [if_neg (by omega)]
    congr 1
  | succ d ih =>
    intro k p i hi hd hk hp
    obtain ⟨k, rfl⟩ : ∃ m, k = m + 1 := ⟨k - 1, by omega⟩
    simp only [tabularyref01_Mul.l1, redFrom]
    have e1 : wrap64 ((i : Int) - 8) = ((i - 8 : Nat) : Int) := by rw [w64 ⟨by omega, by omega⟩]; omega
    have e2 : wrap64 ((i : Int) - 1) = ((i - 1 : Nat) : Int) := by rw [w64 ⟨by omega, by omega⟩]; omega
    have e3 : shl .i64 285 ((i - 8 : Nat) : Int) = ((285 <<< (i - 8) : Nat) : Int) := shl64 285 (i - 8) (by decide) (by omega)
    have hs : 285 <<< (i - 8) < 32768 := by
      rw [Nat.shiftLeft_eq]
      have := Nat.mul_le_mul_left 285 (Nat.pow_le_pow_right (n := 2) (by decide) (show i - 8 ≤ 6 by omega))
      omega
    have e4 : Go.bits .xor .i64 (p : Int) ((285 <<< (i - 8) : Nat) : Int) = ((p ^^^ 285 <<< (i - 8) : Nat) : Int) := xor64 p _ (by omega) (by omega)
    rw [if_pos (by omega), if_pos (by omega), e1, e2, e3, e4]
    by_cases hb : p.testBit i = true
    · rw [if_pos ((bit64 p i (by omega) (by omega)).2 hb), if_pos (by omega), if_pos hb]
      exact ih k _ _ (by omega) (by omega) (by omega) (Nat.xor_lt_two_pow (n := 15) hp hs)
    · rw [if_neg (fun h => hb ((bit64 p i (by omega) (by omega)).1 h)), if_neg hb]
      exact ih k _ _ (by omega) (by omega) (by omega) hp

theorem rmul_l0 (d : Nat) : ∀ (k b x p i : Nat), d + i = 8 → d + 20 < k → b < 256 → x < 256 → p < 32768 →
    tabularyref01_Mul.l0 k (b : Int) (p : Int) (x : Int) (i : Int) = some ((redFrom 7 (p ^^^ polFrom d b x i) 14 % 256 : Nat) : Int) := by
  induction d with
  | zero =>
    intro k b x p i hd hk hb hx hp
    obtain ⟨k, rfl⟩ : ∃ m, k = m + 1 := ⟨k - 1, by omega⟩
    simp only [tabularyref01_Mul.l0]
    rw [if_neg (by omega)]
    simp only [polFrom, Nat.xor_zero]
    exact rmul_l1 7 k p 14 rfl (by omega) (by omega) hp
  | succ d ih =>
    intro k b x p i hd hk hb hx hp
    obtain ⟨k, rfl⟩ : ∃ m, k = m + 1 := ⟨k - 1, by omega⟩
    simp only [tabularyref01_Mul.l0]
    have e0 : wrap64 (b : Int) = (b : Int) := w64 ⟨by omega, by omega⟩
    have e2 : wrap64 ((i : Int) + 1) = ((i + 1 : Nat) : Int) := by rw [w64 ⟨by omega, by omega⟩]; omega
    have hs : x <<< i < 32768 := by
      rw [Nat.shiftLeft_eq]
      have := Nat.mul_le_mul (show x ≤ 255 by omega) (Nat.pow_le_pow_right (n := 2) (by decide) (show i ≤ 7 by omega))
      omega
    have e3 : shl .i64 (x : Int) (i : Int) = ((x <<< i : Nat) : Int) := shl64 x i (by omega) (by omega)
    have e4 : Go.bits .xor .i64 (p : Int) ((x <<< i : Nat) : Int) = ((p ^^^ x <<< i : Nat) : Int) := xor64 p _ (by omega) (by omega)
    rw [if_pos (by omega), if_pos (by omega), e0, e2, e3, e4]
    simp only [polFrom]
    by_cases hbit : b.testBit i = true
    · rw [if_pos ((bit64 b i (by omega) (by omega)).2 hbit), if_pos hbit, ← Nat.xor_assoc]
      exact ih k b x _ (i + 1) (by omega) (by omega) hb hx (Nat.xor_lt_two_pow (n := 15) hp hs)
    · rw [if_neg (fun h => hbit ((bit64 b i (by omega) (by omega)).1 h)), if_neg hbit, Nat.zero_xor]
      exact ih k b x p (i + 1) (by omega) (by omega) hb hx hp

theorem rmul_gf (a b : Nat) (ha : a < 256) (hb : b < 256) (k : Nat) (hk : 40 < k) : tabularyref01_Mul.f k (a : Int) (b : Int) = some ((GfMath.mul a b : Nat) : Int) := by
  unfold tabularyref01_Mul.f
  rw [w64 ⟨by omega, by omega⟩]
  have := rmul_l0 8 k b a 0 0 (by omega) (by omega) hb ha (by omega)
  have h2 : redFrom 7 (0 ^^^ polFrom 8 b a 0) 14 = GfMath.mul a b := by rw [Nat.zero_xor]; exact pmul_mul ha hb
  rw [h2, Nat.mod_eq_of_lt (GfMath.mul_lt b ha)] at this
  exact this

theorem rinv_l0 (d : Nat) : ∀ (k a i : Nat), d + i = 256 → d + 50 < k → a < 256 → 1 ≤ i → (∀ b, 1 ≤ b → b < i → GfMath.mul a b ≠ 1) →
    tabularyref01_Inverse.l0 k (a : Int) (i : Int) = some ((if a = 0 then 0 else GfMath.inv a : Nat) : Int) := by
  induction d with
  | zero =>
    intro k a i hd hk ha hi hno
    obtain ⟨k, rfl⟩ : ∃ m, k = m + 1 := ⟨k - 1, by omega⟩
    simp only [tabularyref01_Inverse.l0]
    rw [if_neg (by omega)]
    by_cases h0 : a = 0
    · rw [if_pos h0]; rfl
    · exfalso
      exact hno (GfMath.inv a) (Nat.pos_of_ne_zero (GfMath.inv_ne a)) (by have := GfMath.inv_lt a; omega) (GfMath.mul_inv ha h0)
  | succ d ih =>
    intro k a i hd hk ha hi hno
    obtain ⟨k, rfl⟩ : ∃ m, k = m + 1 := ⟨k - 1, by omega⟩
    simp only [tabularyref01_Inverse.l0]
    have e1 : ((i : Int)) % 256 = (i : Int) := by omega
    have e2 : wrap64 ((i : Int) + 1) = ((i + 1 : Nat) : Int) := by rw [w64 ⟨by omega, by omega⟩]; omega
    rw [if_pos (by omega), e1, e2, rmul_gf a i ha (by omega) k (by omega)]
    simp only [Option.bind_some]
    by_cases h : GfMath.mul a i = 1
    · have h0 : a ≠ 0 := by intro e; subst e; rw [GfMath.zero_mul (by omega)] at h; exact absurd h (by decide)
      rw [if_pos (by omega), if_neg h0, ← GfMath.inv_unique ha (by omega) h]
    · rw [if_neg (by omega)]
      refine ih k a (i + 1) (by omega) (by omega) ha (by omega) (fun b hb1 hb2 => ?_)
      by_cases hb : b = i
      · rw [hb]; exact h
      · exact hno b hb1 (by omega)

theorem rinv_gf (a : Nat) (ha : a < 256) (k : Nat) (hk : 400 < k) : tabularyref01_Inverse.f k (a : Int) = some ((if a = 0 then 0 else GfMath.inv a : Nat) : Int) :=
  rinv_l0 255 k a 1 rfl (by omega) ha (by omega) (fun b h1 h2 => by omega)

theorem div_gf (a b : Nat) (ha : a < 256) (hb : b < 256) (h0 : b ≠ 0) (k : Nat) (hk : 20 < k) : gf_Div.f k (a : Int) (b : Int) = some (((GfMath.mul a (GfMath.inv b) : Nat) : Int), 0) := by
  unfold gf_Div.f
  rw [inv_gf b hb h0]
  simp only [Option.bind_some]
  rw [mul_gf a _ ha (GfMath.inv_lt b) k hk]
  rfl

theorem div_gf0 (a : Nat) (ha : a < 256) (k : Nat) (hk : 20 < k) : gf_Div.f k (a : Int) 0 = some (0, 1) := by
  unfold gf_Div.f
  rw [inv_gf0]
  simp only [Option.bind_some]
  have := mul_gf a 0 ha (by decide) k hk
  rw [GfMath.mul_zero] at this
  have e : gf_Mul.f k (a : Int) 0 = some 0 := this
  rw [e]; rfl

/-- Mul has the document's answer, now told by GfMath's product. -/
theorem GfTells : tabularylaw01_GfTells.Pure := by
  intro a b ha hb
  have ha := wf8 ha
  have hb := wf8 hb
  obtain ⟨a, rfl⟩ := Int.eq_ofNat_of_zero_le ha.1
  obtain ⟨b, rfl⟩ := Int.eq_ofNat_of_zero_le hb.1
  have la : a < 256 := by omega
  have lb : b < 256 := by omega
  refine ⟨1000, ?_⟩
  -- the part behind the two choices of errors
  have key : ∀ (x5 x6 x7 x8 : Int) (e f : Int), x5 = ((if a = 0 then 0 else GfMath.inv a : Nat) : Int) → x6 = e → x7 = ((GfMath.mul a (if b = 0 then 0 else GfMath.inv b) : Nat) : Int) → x8 = f →
      tabularylaw01_GfTells.j1 999 (a : Int) (b : Int) x5 x6 x7 x8 e f = some true := by
    intro x5 x6 x7 x8 e f h5 h6 h7 h8
    obtain ⟨k, hk⟩ : ∃ k, 999 = k + 1 := ⟨998, rfl⟩
    rw [hk]
    simp only [tabularylaw01_GfTells.j1]
    rw [add_gf a b la lb]
    simp only [Option.bind_some]
    rw [if_pos (by rw [xor8 a b la lb]), mul_gf a b la lb k (by omega), rmul_gf a b la lb k (by omega)]
    simp only [Option.bind_some]
    rw [if_pos trivial, rinv_gf a la k (by omega), rinv_gf b lb k (by omega)]
    simp only [Option.bind_some]
    have li : (if b = 0 then 0 else GfMath.inv b) < 256 := by
      split
      · decide
      · exact GfMath.inv_lt b
    rw [if_pos h5, if_pos h6, rmul_gf a _ la li k (by omega)]
    simp only [Option.bind_some]
    rw [if_pos h7, if_pos h8, wakes_gf k (by omega)]
    rfl
  have key2 : ∀ (x5 x6 x7 x8 : Int) (e : Int), x5 = ((if a = 0 then 0 else GfMath.inv a : Nat) : Int) → x6 = e → x7 = ((GfMath.mul a (if b = 0 then 0 else GfMath.inv b) : Nat) : Int) → x8 = (if b = 0 then 1 else 0) →
      tabularylaw01_GfTells.j0 1000 (a : Int) (b : Int) x5 x6 x7 x8 e 0 = some true := by
    intro x5 x6 x7 x8 e h5 h6 h7 h8
    simp only [tabularylaw01_GfTells.j0]
    by_cases h0 : b = 0
    · rw [if_pos (by omega)]; exact key x5 x6 x7 x8 e 1 h5 h6 h7 (by rw [h8, if_pos h0])
    · rw [if_neg (by omega)]; exact key x5 x6 x7 x8 e 0 h5 h6 h7 (by rw [h8, if_neg h0])
  unfold tabularylaw01_GfTells.f
  by_cases h0 : a = 0
  · subst h0
    have e1 : gf_Inverse.f ((0 : Nat) : Int) = some (0, 1) := inv_gf0
    rw [e1]
    simp only [Option.bind_some]
    by_cases hb0 : b = 0
    · subst hb0
      have e2 : gf_Div.f 1000 ((0 : Nat) : Int) ((0 : Nat) : Int) = some (0, 1) := div_gf0 0 (by decide) 1000 (by omega)
      rw [e2]
      simp only [Option.bind_some]
      rw [if_pos (show ((0 : Nat) : Int) = 0 from rfl)]
      exact key2 _ _ _ _ _ rfl rfl (by rw [if_pos rfl, GfMath.mul_zero]; rfl) rfl
    · rw [div_gf 0 b (by decide) lb hb0 1000 (by omega)]
      simp only [Option.bind_some]
      rw [if_pos (show ((0 : Nat) : Int) = 0 from rfl)]
      exact key2 _ _ _ _ _ rfl rfl (by rw [if_neg hb0]) (by rw [if_neg hb0])
  · rw [inv_gf a la h0]
    simp only [Option.bind_some]
    by_cases hb0 : b = 0
    · subst hb0
      have e2 : gf_Div.f 1000 (a : Int) ((0 : Nat) : Int) = some (0, 1) := div_gf0 a la 1000 (by omega)
      rw [e2]
      simp only [Option.bind_some]
      rw [if_neg (by omega)]
      exact key2 _ _ _ _ _ (by rw [if_neg h0]) rfl (by rw [if_pos rfl, GfMath.mul_zero]; rfl) rfl
    · rw [div_gf a b la lb hb0 1000 (by omega)]
      simp only [Option.bind_some]
      rw [if_neg (by omega)]
      exact key2 _ _ _ _ _ (by rw [if_neg h0]) rfl (by rw [if_neg hb0]) (by rw [if_neg hb0])

end Go.Proofs.Ytfpiegglpagkmaa.Pure
