/- The field of 256 numbers, in plain Lean: its product is bilinear over 'exclusive or', commutative, associative, has 1 and inverses; the powers of 2 go through all numbers but 0. -/
import Derived.KernelRfl
namespace Go.Proofs.Ytfpiegglpagkmaa.GfMath

/-- The double of a number. -/
def xt (x : Nat) : Nat := if 255 < 2 * x then (2 * x) ^^^ 285 else 2 * x

/-- The part of a product that d bits of b, from bit i on, make; x is a times 2 to the power i. -/
def mulFrom : Nat → Nat → Nat → Nat → Nat
  | 0, _, _, _ => 0
  | d + 1, b, x, i => (if b.testBit i then x else 0) ^^^ mulFrom d b (xt x) (i + 1)

/-- The product. -/
def mul (a b : Nat) : Nat := mulFrom 8 b a 0

theorem xt_lt {x : Nat} (h : x < 256) : xt x < 256 := by
  have : (List.range 256).all (fun x => decide (xt x < 256)) = true := by kernel_rfl
  exact of_decide_eq_true (List.all_eq_true.mp this x (List.mem_range.mpr h))

theorem xor_lt {x y : Nat} (hx : x < 256) (hy : y < 256) : x ^^^ y < 256 := Nat.xor_lt_two_pow (n := 8) hx hy

theorem dbl_xor (x y : Nat) : 2 * (x ^^^ y) = (2 * x) ^^^ (2 * y) := by
  have h : ∀ z : Nat, 2 * z = z <<< 1 := fun z => by rw [Nat.shiftLeft_eq]; omega
  rw [h, h, h, Nat.shiftLeft_xor_distrib]

theorem xt_bit {x : Nat} (h : x < 256) : xt x = (2 * x) ^^^ (if x.testBit 7 then 285 else 0) := by
  have : (List.range 256).all (fun x => decide (xt x = (2 * x) ^^^ (if x.testBit 7 then 285 else 0))) = true := by kernel_rfl
  exact of_decide_eq_true (List.all_eq_true.mp this x (List.mem_range.mpr h))

theorem xor4 (a b c d : Nat) : (a ^^^ b) ^^^ (c ^^^ d) = (a ^^^ c) ^^^ (b ^^^ d) := by
  rw [Nat.xor_assoc, ← Nat.xor_assoc b c d, Nat.xor_comm b c, Nat.xor_assoc c b d, ← Nat.xor_assoc]

theorem ite_xor (p q : Bool) (v : Nat) : (if (p ^^ q) then v else 0) = (if p then v else 0) ^^^ (if q then v else 0) := by
  cases p <;> cases q <;> simp

theorem xt_add {x y : Nat} (hx : x < 256) (hy : y < 256) : xt (x ^^^ y) = xt x ^^^ xt y := by
  rw [xt_bit (xor_lt hx hy), xt_bit hx, xt_bit hy, dbl_xor, Nat.testBit_xor, ite_xor, xor4]

theorem mulFrom_lt (d : Nat) : ∀ b x i, x < 256 → mulFrom d b x i < 256 := by
  induction d with
  | zero => intro b x i h; simp [mulFrom]
  | succ d ih =>
    intro b x i h
    simp only [mulFrom]
    refine xor_lt ?_ (ih _ _ _ (xt_lt h))
    split <;> omega

theorem mul_lt {a : Nat} (b : Nat) (h : a < 256) : mul a b < 256 := mulFrom_lt 8 b a 0 h

theorem mulFrom_addl (d : Nat) : ∀ b x y i, x < 256 → y < 256 → mulFrom d b (x ^^^ y) i = mulFrom d b x i ^^^ mulFrom d b y i := by
  induction d with
  | zero => intro b x y i hx hy; simp [mulFrom]
  | succ d ih =>
    intro b x y i hx hy
    simp only [mulFrom]
    rw [xt_add hx hy, ih _ _ _ _ (xt_lt hx) (xt_lt hy), xor4]
    congr 1
    split <;> simp

theorem mulFrom_addr (d : Nat) : ∀ b c x i, mulFrom d (b ^^^ c) x i = mulFrom d b x i ^^^ mulFrom d c x i := by
  induction d with
  | zero => intro b c x i; simp [mulFrom]
  | succ d ih =>
    intro b c x i
    simp only [mulFrom]
    rw [ih, Nat.testBit_xor, xor4, ite_xor]

theorem mul_addl {a b : Nat} (c : Nat) (ha : a < 256) (hb : b < 256) : mul (a ^^^ b) c = mul a c ^^^ mul b c := mulFrom_addl 8 c a b 0 ha hb
theorem mul_addr (a b c : Nat) : mul a (b ^^^ c) = mul a b ^^^ mul a c := mulFrom_addr 8 b c a 0

theorem top_bit {n x : Nat} (hn : n < 8) (h0 : 2 ^ n ≤ x) (h1 : x < 2 ^ (n + 1)) : 2 ^ n ^^^ (x - 2 ^ n) = x := by
  have : (List.range 8).all (fun n => (List.range 256).all (fun x => decide (2 ^ n ≤ x → x < 2 ^ (n + 1) → 2 ^ n ^^^ (x - 2 ^ n) = x))) = true := by kernel_rfl
  have h2 : x < 256 := Nat.lt_of_lt_of_le h1 (Nat.pow_le_pow_right (by decide) (show n + 1 ≤ 8 by omega))
  exact of_decide_eq_true (List.all_eq_true.mp (List.all_eq_true.mp this n (List.mem_range.mpr hn)) x (List.mem_range.mpr h2)) h0 h1

/-- Additive functions that agree at the powers of 2 agree. -/
theorem lin_ext (f g : Nat → Nat) (hf : ∀ x y, x < 256 → y < 256 → f (x ^^^ y) = f x ^^^ f y) (hg : ∀ x y, x < 256 → y < 256 → g (x ^^^ y) = g x ^^^ g y)
    (h : ∀ i, i < 8 → f (2 ^ i) = g (2 ^ i)) : ∀ x, x < 256 → f x = g x := by
  have key : ∀ n, n ≤ 8 → ∀ x, x < 2 ^ n → f x = g x := by
    intro n
    induction n with
    | zero =>
      intro _ x hx
      have : x = 0 := by simpa using hx
      subst this
      have h1 := hf 0 0 (by decide) (by decide)
      have h2 := hg 0 0 (by decide) (by decide)
      rw [Nat.xor_self, Nat.xor_self] at h1 h2
      rw [h1, h2]
    | succ n ih =>
      intro hn x hx
      by_cases h2 : x < 2 ^ n
      · exact ih (by omega) x h2
      · have hp : 2 ^ (n + 1) = 2 * 2 ^ n := by rw [Nat.pow_succ]; omega
        have h256 : 2 ^ (n + 1) ≤ 256 := Nat.pow_le_pow_right (n := 2) (by decide) (show n + 1 ≤ 8 by omega)
        have ht := top_bit (by omega) (show 2 ^ n ≤ x by omega) hx
        rw [← ht, hf _ _ (by omega) (by omega), hg _ _ (by omega) (by omega), h n (by omega), ih (by omega) (x - 2 ^ n) (by omega)]
  exact fun x hx => key 8 (by omega) x hx

theorem pow_lt {i : Nat} (h : i < 8) : 2 ^ i < 256 := Nat.pow_lt_pow_right (a := 2) (by decide) h

theorem comm_basis {i j : Nat} (hi : i < 8) (hj : j < 8) : mul (2 ^ i) (2 ^ j) = mul (2 ^ j) (2 ^ i) := by
  have : (List.range 8).all (fun i => (List.range 8).all (fun j => decide (mul (2 ^ i) (2 ^ j) = mul (2 ^ j) (2 ^ i)))) = true := by kernel_rfl
  exact of_decide_eq_true (List.all_eq_true.mp (List.all_eq_true.mp this i (List.mem_range.mpr hi)) j (List.mem_range.mpr hj))

theorem mul_comm {a b : Nat} (ha : a < 256) (hb : b < 256) : mul a b = mul b a := by
  refine lin_ext (fun a => mul a b) (fun a => mul b a) (fun x y hx hy => mul_addl b hx hy) (fun x y _ _ => mul_addr b x y) ?_ a ha
  intro i hi
  refine lin_ext (fun b => mul (2 ^ i) b) (fun b => mul b (2 ^ i)) (fun x y _ _ => mul_addr _ x y) (fun x y hx hy => mul_addl _ hx hy) ?_ b hb
  intro j hj
  exact comm_basis hi hj

theorem assoc_basis {i j k : Nat} (hi : i < 8) (hj : j < 8) (hk : k < 8) : mul (mul (2 ^ i) (2 ^ j)) (2 ^ k) = mul (2 ^ i) (mul (2 ^ j) (2 ^ k)) := by
  have : (List.range 8).all (fun i => (List.range 8).all (fun j => (List.range 8).all (fun k => decide (mul (mul (2 ^ i) (2 ^ j)) (2 ^ k) = mul (2 ^ i) (mul (2 ^ j) (2 ^ k)))))) = true := by kernel_rfl
  exact of_decide_eq_true (List.all_eq_true.mp (List.all_eq_true.mp (List.all_eq_true.mp this i (List.mem_range.mpr hi)) j (List.mem_range.mpr hj)) k (List.mem_range.mpr hk))

theorem mul_assoc {a b c : Nat} (ha : a < 256) (hb : b < 256) (hc : c < 256) : mul (mul a b) c = mul a (mul b c) := by
  refine lin_ext (fun a => mul (mul a b) c) (fun a => mul a (mul b c)) (fun x y hx hy => ?_) (fun x y hx hy => mul_addl _ hx hy) ?_ a ha
  · show mul (mul (x ^^^ y) b) c = _
    rw [mul_addl b hx hy, mul_addl c (mul_lt b hx) (mul_lt b hy)]
  intro i hi
  refine lin_ext (fun b => mul (mul (2 ^ i) b) c) (fun b => mul (2 ^ i) (mul b c)) (fun x y hx hy => ?_) (fun x y hx hy => ?_) ?_ b hb
  · show mul (mul _ (x ^^^ y)) c = _
    rw [mul_addr, mul_addl c (mul_lt _ (pow_lt hi)) (mul_lt _ (pow_lt hi))]
  · show mul _ (mul (x ^^^ y) c) = _
    rw [mul_addl c hx hy, mul_addr]
  intro j hj
  refine lin_ext (fun c => mul (mul (2 ^ i) (2 ^ j)) c) (fun c => mul (2 ^ i) (mul (2 ^ j) c)) (fun x y _ _ => mul_addr _ x y) (fun x y _ _ => ?_) ?_ c hc
  · show mul _ (mul _ (x ^^^ y)) = _
    rw [mul_addr, mul_addr]
  intro k hk
  exact assoc_basis hi hj hk

theorem mul_one {a : Nat} (ha : a < 256) : mul a 1 = a := by
  have : (List.range 256).all (fun a => decide (mul a 1 = a)) = true := by kernel_rfl
  exact of_decide_eq_true (List.all_eq_true.mp this a (List.mem_range.mpr ha))

theorem one_mul {a : Nat} (ha : a < 256) : mul 1 a = a := by rw [mul_comm (by decide) ha, mul_one ha]

theorem mul_zero (a : Nat) : mul a 0 = 0 := by
  have := mul_addr a 0 0
  rw [Nat.xor_self, Nat.xor_self] at this
  exact this

theorem zero_mul {a : Nat} (ha : a < 256) : mul 0 a = 0 := by rw [mul_comm (by decide) ha, mul_zero]

/-- 2 to a power. -/
def pw : Nat → Nat
  | 0 => 1
  | n + 1 => xt (pw n)

theorem pw_lt (n : Nat) : pw n < 256 := by
  induction n with
  | zero => decide
  | succ n ih => exact xt_lt ih

theorem mul_two {a : Nat} (ha : a < 256) : mul a 2 = xt a := by
  have : (List.range 256).all (fun a => decide (mul a 2 = xt a)) = true := by kernel_rfl
  exact of_decide_eq_true (List.all_eq_true.mp this a (List.mem_range.mpr ha))

theorem pw_add (i j : Nat) : mul (pw i) (pw j) = pw (i + j) := by
  induction j with
  | zero => exact mul_one (pw_lt i)
  | succ j ih =>
    have h : pw (j + 1) = mul (pw j) 2 := (mul_two (pw_lt j)).symm
    rw [h, ← mul_assoc (pw_lt i) (pw_lt j) (by decide), ih, mul_two (pw_lt _)]
    rfl

theorem pw_255 : pw 255 = 1 := by kernel_rfl

theorem pw_mod (n : Nat) : pw (n % 255) = pw n := by
  have key : ∀ q r, pw (255 * q + r) = pw r := by
    intro q
    induction q with
    | zero => intro r; simp
    | succ q ih =>
      intro r
      have e : 255 * (q + 1) + r = 255 + (255 * q + r) := by omega
      rw [e, ← pw_add, pw_255, one_mul (pw_lt _), ih]
  have h := Nat.div_add_mod n 255
  rw [← h, key]
  congr 1
  omega

/-- The table: the powers of 2, then which power each number is. -/
def tabN : List Nat := [1, 2, 4, 8, 16, 32, 64, 128, 29, 58, 116, 232, 205, 135, 19, 38, 76, 152, 45, 90, 180, 117, 234, 201, 143, 3, 6, 12, 24, 48, 96, 192, 157, 39, 78, 156, 37, 74, 148, 53, 106, 212, 181, 119, 238, 193, 159, 35, 70, 140, 5, 10, 20, 40, 80, 160, 93, 186, 105, 210, 185, 111, 222, 161, 95, 190, 97, 194, 153, 47, 94, 188, 101, 202, 137, 15, 30, 60, 120, 240, 253, 231, 211, 187, 107, 214, 177, 127, 254, 225, 223, 163, 91, 182, 113, 226, 217, 175, 67, 134, 17, 34, 68, 136, 13, 26, 52, 104, 208, 189, 103, 206, 129, 31, 62, 124, 248, 237, 199, 147, 59, 118, 236, 197, 151, 51, 102, 204, 133, 23, 46, 92, 184, 109, 218, 169, 79, 158, 33, 66, 132, 21, 42, 84, 168, 77, 154, 41, 82, 164, 85, 170, 73, 146, 57, 114, 228, 213, 183, 115, 230, 209, 191, 99, 198, 145, 63, 126, 252, 229, 215, 179, 123, 246, 241, 255, 227, 219, 171, 75, 150, 49, 98, 196, 149, 55, 110, 220, 165, 87, 174, 65, 130, 25, 50, 100, 200, 141, 7, 14, 28, 56, 112, 224, 221, 167, 83, 166, 81, 162, 89, 178, 121, 242, 249, 239, 195, 155, 43, 86, 172, 69, 138, 9, 18, 36, 72, 144, 61, 122, 244, 245, 247, 243, 251, 235, 203, 139, 11, 22, 44, 88, 176, 125, 250, 233, 207, 131, 27, 54, 108, 216, 173, 71, 142, 0, 0, 1, 25, 2, 50, 26, 198, 3, 223, 51, 238, 27, 104, 199, 75, 4, 100, 224, 14, 52, 141, 239, 129, 28, 193, 105, 248, 200, 8, 76, 113, 5, 138, 101, 47, 225, 36, 15, 33, 53, 147, 142, 218, 240, 18, 130, 69, 29, 181, 194, 125, 106, 39, 249, 185, 201, 154, 9, 120, 77, 228, 114, 166, 6, 191, 139, 98, 102, 221, 48, 253, 226, 152, 37, 179, 16, 145, 34, 136, 54, 208, 148, 206, 143, 150, 219, 189, 241, 210, 19, 92, 131, 56, 70, 64, 30, 66, 182, 163, 195, 72, 126, 110, 107, 58, 40, 84, 250, 133, 186, 61, 202, 94, 155, 159, 10, 21, 121, 43, 78, 212, 229, 172, 115, 243, 167, 87, 7, 112, 192, 247, 140, 128, 99, 13, 103, 74, 222, 237, 49, 197, 254, 24, 227, 165, 153, 119, 38, 184, 180, 124, 17, 68, 146, 217, 35, 32, 137, 46, 55, 63, 209, 91, 149, 188, 207, 205, 144, 135, 151, 178, 220, 252, 190, 97, 242, 86, 211, 171, 20, 42, 93, 158, 132, 60, 57, 83, 71, 109, 65, 162, 31, 45, 67, 216, 183, 123, 164, 118, 196, 23, 73, 236, 127, 12, 111, 246, 108, 161, 59, 82, 41, 157, 85, 170, 251, 96, 134, 177, 187, 204, 62, 90, 203, 89, 95, 176, 156, 169, 160, 81, 11, 245, 22, 235, 122, 117, 44, 215, 79, 174, 213, 233, 230, 231, 173, 232, 116, 214, 244, 234, 168, 80, 88, 175]

def lg (a : Nat) : Nat := tabN.getD (255 + a) 0
def ex (i : Nat) : Nat := tabN.getD i 0

theorem ex_pw {i : Nat} (h : i < 255) : ex i = pw i := by
  have : (List.range 255).all (fun i => decide (ex i = pw i)) = true := by kernel_rfl
  exact of_decide_eq_true (List.all_eq_true.mp this i (List.mem_range.mpr h))

theorem pw_lg {a : Nat} (h : a < 256) (h0 : a ≠ 0) : pw (lg a) = a := by
  have : (List.range 256).all (fun a => decide (a ≠ 0 → pw (lg a) = a)) = true := by kernel_rfl
  exact of_decide_eq_true (List.all_eq_true.mp this a (List.mem_range.mpr h)) h0

theorem lg_lt {a : Nat} (h : a < 256) : lg a < 255 := by
  have : (List.range 256).all (fun a => decide (lg a < 255)) = true := by kernel_rfl
  exact of_decide_eq_true (List.all_eq_true.mp this a (List.mem_range.mpr h))

theorem lg_pw {i : Nat} (h : i < 255) : lg (pw i) = i := by
  have : (List.range 255).all (fun i => decide (lg (pw i) = i)) = true := by kernel_rfl
  exact of_decide_eq_true (List.all_eq_true.mp this i (List.mem_range.mpr h))

theorem pw_ne (i : Nat) : pw i ≠ 0 := by
  rw [← pw_mod]
  have : (List.range 255).all (fun i => decide (pw i ≠ 0)) = true := by kernel_rfl
  exact of_decide_eq_true (List.all_eq_true.mp this (i % 255) (List.mem_range.mpr (Nat.mod_lt _ (by decide))))

/-- The inverse. -/
def inv (a : Nat) : Nat := ex ((255 - lg a) % 255)

theorem inv_pw (a : Nat) : inv a = pw (255 - lg a) := by
  unfold inv
  rw [ex_pw (Nat.mod_lt _ (by decide)), pw_mod]

theorem inv_lt (a : Nat) : inv a < 256 := by rw [inv_pw]; exact pw_lt _
theorem inv_ne (a : Nat) : inv a ≠ 0 := by rw [inv_pw]; exact pw_ne _

theorem mul_inv {a : Nat} (h : a < 256) (h0 : a ≠ 0) : mul a (inv a) = 1 := by
  have hl := lg_lt h
  conv => lhs; arg 1; rw [← pw_lg h h0]
  rw [inv_pw, pw_add, show lg a + (255 - lg a) = 255 by omega, pw_255]

theorem mul_eq_zero {a b : Nat} (ha : a < 256) (hb : b < 256) (h : mul a b = 0) : a = 0 ∨ b = 0 := by
  by_cases h0 : a = 0
  · exact .inl h0
  · right
    have h1 : mul (mul (inv a) a) b = 0 := by rw [mul_assoc (inv_lt a) ha hb, h, mul_zero]
    rw [mul_comm (inv_lt a) ha, mul_inv ha h0, one_mul hb] at h1
    exact h1

theorem inv_unique {a b : Nat} (ha : a < 256) (hb : b < 256) (h : mul a b = 1) : b = inv a := by
  have h0 : a ≠ 0 := by
    intro e; subst e; rw [zero_mul hb] at h; exact absurd h (by decide)
  have h1 : mul (inv a) (mul a b) = inv a := by rw [h, mul_one (inv_lt a)]
  rw [← mul_assoc (inv_lt a) ha hb, mul_comm (inv_lt a) ha, mul_inv ha h0, one_mul hb] at h1
  exact h1

theorem inv_inv {a : Nat} (ha : a < 256) (h0 : a ≠ 0) : inv (inv a) = a := by
  refine (inv_unique (inv_lt a) ha ?_).symm
  rw [mul_comm (inv_lt a) ha, mul_inv ha h0]

/-- A power of a number. -/
def npw (a : Nat) : Nat → Nat
  | 0 => 1
  | n + 1 => mul (npw a n) a

theorem npw_pw (i : Nat) (m : Nat) : npw (pw i) m = pw (i * m) := by
  induction m with
  | zero => rfl
  | succ m ih => rw [npw, ih, pw_add, Nat.mul_succ]

theorem npw_lt {a : Nat} (_h : a < 256) (m : Nat) : npw a m < 256 := by
  induction m with
  | zero => show 1 < 256; decide
  | succ m ih => exact mul_lt _ ih

end Go.Proofs.Ytfpiegglpagkmaa.GfMath
