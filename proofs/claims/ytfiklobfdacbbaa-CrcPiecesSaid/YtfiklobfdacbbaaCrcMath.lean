/- Sums that tell whether bytes were changed, in plain Lean: the register is additive over 'exclusive or', and a byte taken by the table is a byte taken bit by bit. -/
import Derived.KernelRfl
namespace Go.Proofs.Ytfiklobfdacbbaa.CrcMath

def poly : Nat := 2197175160

/-- One bit. -/
def sh (x : Nat) : Nat := (x / 2) ^^^ (if x.testBit 0 then poly else 0)
def shs : Nat → Nat → Nat
  | 0, x => x
  | n + 1, x => sh (shs n x)

theorem xor4 (a b c d : Nat) : (a ^^^ b) ^^^ (c ^^^ d) = (a ^^^ c) ^^^ (b ^^^ d) := by
  rw [Nat.xor_assoc, ← Nat.xor_assoc b c d, Nat.xor_comm b c, Nat.xor_assoc c b d, ← Nat.xor_assoc]

theorem ite_xor (p q : Bool) (v : Nat) : (if (p ^^ q) then v else 0) = (if p then v else 0) ^^^ (if q then v else 0) := by
  cases p <;> cases q <;> simp

theorem half_xor (x y : Nat) : (x ^^^ y) / 2 = (x / 2) ^^^ (y / 2) := by
  have h : ∀ z : Nat, z / 2 = z >>> 1 := fun z => by rw [Nat.shiftRight_eq_div_pow]
  rw [h, h, h, Nat.shiftRight_xor_distrib]

theorem sh_add (x y : Nat) : sh (x ^^^ y) = sh x ^^^ sh y := by
  unfold sh
  rw [half_xor, Nat.testBit_xor, ite_xor, xor4]

theorem shs_add (n : Nat) : ∀ x y, shs n (x ^^^ y) = shs n x ^^^ shs n y := by
  induction n with
  | zero => intro x y; rfl
  | succ n ih => intro x y; simp only [shs]; rw [ih, sh_add]

theorem sh_dbl (m : Nat) : sh (2 * m) = m := by
  unfold sh
  rw [Nat.testBit_zero]
  have : (2 * m) % 2 = 0 := by omega
  rw [this]
  simp

theorem shs_step (n : Nat) : ∀ x, shs (n + 1) x = shs n (sh x) := by
  induction n with
  | zero => intro x; rfl
  | succ n ih => intro x; show sh (shs (n + 1) x) = _; rw [ih]; rfl

theorem shs_pow (n : Nat) : ∀ m, shs n (2 ^ n * m) = m := by
  induction n with
  | zero => intro m; simp [shs]
  | succ n ih =>
    intro m
    rw [shs_step, Nat.pow_succ, show 2 ^ n * 2 * m = 2 * (2 ^ n * m) by rw [Nat.mul_comm (2 ^ n) 2, Nat.mul_assoc], sh_dbl, ih]

theorem split_xor (y n : Nat) : (2 ^ n * (y / 2 ^ n)) ^^^ (y % 2 ^ n) = y := by
  apply Nat.eq_of_testBit_eq
  intro i
  rw [Nat.testBit_xor, Nat.testBit_two_pow_mul, Nat.testBit_mod_two_pow, Nat.testBit_div_two_pow]
  by_cases h : i < n
  · have h2 : ¬ n ≤ i := by omega
    simp [h, h2]
  · have h2 : n ≤ i := by omega
    simp [h, h2, Nat.sub_add_cancel h2]

/-- The register behind one byte more. -/
def take (x c : Nat) : Nat := shs 8 (x ^^^ c)
def takes : List Nat → Nat → Nat
  | [], x => x
  | c :: r, x => takes r (take x c)

theorem sh_lt {x : Nat} (h : x < 4294967296) : sh x < 4294967296 := by
  unfold sh
  refine Nat.xor_lt_two_pow (n := 32) (by omega) ?_
  split <;> decide

theorem shs_lt (n : Nat) {x : Nat} (h : x < 4294967296) : shs n x < 4294967296 := by
  induction n with
  | zero => exact h
  | succ n ih => exact sh_lt ih

theorem take_lt {x c : Nat} (h : x < 4294967296) (hc : c < 256) : take x c < 4294967296 :=
  shs_lt 8 (Nat.xor_lt_two_pow (n := 32) h (by omega))

theorem takes_lt (l : List Nat) : ∀ x, x < 4294967296 → (∀ c ∈ l, c < 256) → takes l x < 4294967296 := by
  induction l with
  | nil => intro x h _; exact h
  | cons c r ih => intro x h hc; exact ih _ (take_lt h (hc c (by simp))) (fun d hd => hc d (by simp [hd]))

/-- A byte by the table. -/
theorem take_table (x c : Nat) (hc : c < 256) : take x c = (x / 256) ^^^ shs 8 ((x % 256) ^^^ c) := by
  unfold take
  have h1 : x ^^^ c = (2 ^ 8 * (x / 2 ^ 8)) ^^^ ((x % 2 ^ 8) ^^^ c) := by
    rw [← Nat.xor_assoc, split_xor]
  have _ := hc
  rw [h1, shs_add, shs_pow]

theorem takes_append (a b : List Nat) : ∀ x, takes (a ++ b) x = takes b (takes a x) := by
  induction a with
  | nil => intro x; rfl
  | cons c r ih => intro x; exact ih _

/-- The sum of what a sum is of, and more bytes. -/
def more (s : Nat) (l : List Nat) : Nat := 4294967295 ^^^ takes l (4294967295 ^^^ s)

theorem more_lt (s : Nat) (l : List Nat) (hs : s < 4294967296) (hl : ∀ c ∈ l, c < 256) : more s l < 4294967296 :=
  Nat.xor_lt_two_pow (n := 32) (by decide) (takes_lt l _ (Nat.xor_lt_two_pow (n := 32) (by decide) hs) hl)

theorem more_append (s : Nat) (a b : List Nat) : more s (a ++ b) = more (more s a) b := by
  unfold more
  rw [takes_append, ← Nat.xor_assoc, Nat.xor_self, Nat.zero_xor]

/-- Bytes as one number, the first byte lowest. -/
def leNat : List Nat → Nat
  | [] => 0
  | c :: r => c ^^^ (2 ^ 8 * leNat r)

theorem shs_shs (a b : Nat) : ∀ x, shs (a + b) x = shs a (shs b x) := by
  induction b with
  | zero => intro x; rfl
  | succ b ih => intro x; rw [show a + (b + 1) = (a + b) + 1 by omega, shs_step, ih, ← shs_step]

/-- A row of bytes taken is one number taken. -/
theorem takes_eq (l : List Nat) : ∀ x, takes l x = shs (8 * l.length) (x ^^^ leNat l) := by
  induction l with
  | nil => intro x; simp [takes, leNat, shs]
  | cons c r ih =>
    intro x
    simp only [takes, leNat, take]
    have h : shs 8 (x ^^^ c ^^^ 2 ^ 8 * leNat r) = shs 8 (x ^^^ c) ^^^ leNat r := by rw [shs_add, shs_pow]
    rw [ih, List.length_cons, show 8 * (r.length + 1) = 8 * r.length + 8 by omega, shs_shs, ← Nat.xor_assoc, h]

theorem eq_of_xor {a b : Nat} (h : a ^^^ b = 0) : a = b := by
  have h4 : (a ^^^ b) ^^^ b = a := by rw [Nat.xor_assoc, Nat.xor_self, Nat.xor_zero]
  rw [← h4, h, Nat.zero_xor]

theorem sh_zero {x : Nat} (hx : x < 4294967296) (h : sh x = 0) : x = 0 := by
  unfold sh at h
  have h1 : x / 2 = (if x.testBit 0 then poly else 0) := eq_of_xor h
  rw [Nat.testBit_zero] at h1
  rcases Nat.mod_two_eq_zero_or_one x with h2 | h2
  · rw [h2] at h1
    simp at h1
    omega
  · rw [h2] at h1
    simp [poly] at h1
    omega

theorem shs_zero (n : Nat) : ∀ {x : Nat}, x < 4294967296 → shs n x = 0 → x = 0 := by
  induction n with
  | zero => intro x _ h; exact h
  | succ n ih => intro x hx h; rw [shs_step] at h; exact sh_zero hx (ih (sh_lt hx) h)

theorem takes_xor (a : List Nat) : ∀ (b : List Nat) (x y : Nat), a.length = b.length → takes (List.zipWith (· ^^^ ·) a b) (x ^^^ y) = takes a x ^^^ takes b y := by
  induction a with
  | nil => intro b x y h; cases b with
    | nil => rfl
    | cons d b => simp at h
  | cons c a ih => intro b x y h; cases b with
    | nil => simp at h
    | cons d b =>
      simp only [List.zipWith_cons_cons, takes]
      have : take (x ^^^ y) (c ^^^ d) = take x c ^^^ take y d := by
        unfold take; rw [← shs_add, xor4]
      rw [this]
      exact ih b _ _ (by simpa using h)

/-- A sum as four bytes, the lowest first. -/
def le4 (s : Nat) : List Nat := [s % 256, s / 256 % 256, s / 65536 % 256, s / 16777216 % 256]

theorem le4_small (s : Nat) : ∀ c ∈ le4 s, c < 256 := by
  intro c hc
  simp only [le4, List.mem_cons, List.not_mem_nil, or_false] at hc
  omega

theorem leNat_le4 (s : Nat) (h : s < 4294967296) : leNat (le4 s) = s := by
  simp only [le4, leNat, Nat.mul_zero, Nat.xor_zero]
  have e3 : s / 16777216 % 256 = s / 16777216 := by omega
  have h1 := split_xor s 8
  have h2 := split_xor (s / 256) 8
  have h3 := split_xor (s / 65536) 8
  have d2 : s / 256 / 2 ^ 8 = s / 65536 := by rw [Nat.div_div_eq_div_mul]
  have d3 : s / 65536 / 2 ^ 8 = s / 16777216 := by rw [Nat.div_div_eq_div_mul]
  rw [d2] at h2
  rw [d3] at h3
  have h1' : 2 ^ 8 * (s / 256) ^^^ s % 256 = s := h1
  have h2' : 2 ^ 8 * (s / 65536) ^^^ (s / 256) % 256 = s / 256 := h2
  have h3' : 2 ^ 8 * (s / 16777216) ^^^ (s / 65536) % 256 = s / 65536 := h3
  rw [e3, Nat.xor_comm (s / 65536 % 256), h3', Nat.xor_comm (s / 256 % 256), h2', Nat.xor_comm (s % 256), h1']

theorem takes_sealed (m : List Nat) (hm : ∀ c ∈ m, c < 256) : takes (m ++ le4 (more 0 m)) 4294967295 = shs 32 4294967295 := by
  have h1 := more_lt 0 m (by decide) hm
  rw [takes_append, takes_eq (le4 (more 0 m)), leNat_le4 _ h1]
  show shs 32 _ = _
  congr 1
  unfold more
  rw [Nat.xor_zero, Nat.xor_comm 4294967295, ← Nat.xor_assoc, Nat.xor_self, Nat.zero_xor]

/-- The number of bytes with one byte changed. -/
theorem leNat_set (l : List Nat) : ∀ (j d : Nat) (h : j < l.length), leNat (l.set j (l[j] ^^^ d)) = leNat l ^^^ (d * 2 ^ (8 * j)) := by
  induction l with
  | nil => intro j d h; simp at h
  | cons c r ih =>
    intro j d h
    cases j with
    | zero =>
      simp only [List.set_cons_zero, List.getElem_cons_zero, leNat, Nat.mul_zero, Nat.pow_zero, Nat.mul_one]
      rw [Nat.xor_assoc, Nat.xor_comm d, ← Nat.xor_assoc]
    | succ j =>
      simp only [List.set_cons_succ, List.getElem_cons_succ, leNat]
      rw [ih j d (by simpa using h)]
      have e : 2 ^ 8 * (leNat r ^^^ d * 2 ^ (8 * j)) = (2 ^ 8 * leNat r) ^^^ (2 ^ 8 * (d * 2 ^ (8 * j))) := by
        have hs : ∀ z : Nat, 2 ^ 8 * z = z <<< 8 := fun z => by rw [Nat.shiftLeft_eq, Nat.mul_comm]
        rw [hs, hs, hs, Nat.shiftLeft_xor_distrib]
      have e2 : 2 ^ 8 * (d * 2 ^ (8 * j)) = d * 2 ^ (8 * (j + 1)) := by
        rw [Nat.mul_add, Nat.pow_add, Nat.mul_left_comm, Nat.mul_comm (2 ^ 8)]
      rw [e, e2, Nat.xor_assoc]

/-- A change within 32 bits is noticed. -/
theorem notice (x y : List Nat) (by_ p : Nat) (hl : x.length = y.length) (hb : by_ < 4294967296) (hb0 : by_ ≠ 0) (hp : p ≤ 8 * x.length) (h : leNat y = leNat x ^^^ (by_ * 2 ^ p)) : takes y 4294967295 ≠ takes x 4294967295 := by
  intro e
  rw [takes_eq, takes_eq, ← hl, h, ← Nat.xor_assoc, shs_add] at e
  have h0 : shs (8 * x.length) (by_ * 2 ^ p) = 0 := by
    have : shs (8 * x.length) (4294967295 ^^^ leNat x) ^^^ (shs (8 * x.length) (4294967295 ^^^ leNat x) ^^^ shs (8 * x.length) (by_ * 2 ^ p)) = 0 := by rw [e, Nat.xor_self]
    rwa [← Nat.xor_assoc, Nat.xor_self, Nat.zero_xor] at this
  rw [show 8 * x.length = (8 * x.length - p) + p by omega, shs_shs, Nat.mul_comm by_, shs_pow] at h0
  exact hb0 (shs_zero _ hb h0)

end Go.Proofs.Ytfiklobfdacbbaa.CrcMath
