/- What the Go program's More answers, told by the plain sums of CrcMath. -/
import Derived.Test.YtfiklobfdacbbaaCrc
import Derived.Test.YtfiklobfdacbbaaCrcMath
namespace Go.Proofs.Ytfiklobfdacbbaa.CrcPure
open Go.Proofs.Ytfiklobfdacbbaa Go.RowKit Go.Proofs.YtfiklobfdacbbaaW.PrintWords Go.Proofs.YtfiklobfdacbbaaW.PrintLast Go.Proofs.YtfiklobfdacbbaaW.PrintMore
set_option linter.unusedVariables false

theorem w64 {a : Int} (h : -9223372036854775808 ≤ a ∧ a ≤ 9223372036854775807) : wrap64 a = a := by
  unfold wrap64; omega

/-- Are these bytes? -/
def AreBytes (l : List Int) : Prop := ∀ x ∈ l, 0 ≤ x ∧ x ≤ 255

theorem bytes_of_wf {l : List Int} (h : ∀ x ∈ l, (Lit.int .u8 x).wf = true) : AreBytes l := by
  intro x hx
  have h := h x hx
  simp only [Lit.wf, Bool.and_eq_true, decide_eq_true_eq] at h
  have hmin : IntKind.u8.min = 0 := rfl
  have hmax : IntKind.u8.max = 255 := rfl
  omega

theorem wf32u {a : Int} (h : (Lit.int .u32 a).wf = true) : 0 ≤ a ∧ a ≤ 4294967295 := by
  simp only [Lit.wf, Bool.and_eq_true, decide_eq_true_eq] at h
  have hmin : IntKind.u32.min = 0 := rfl
  have hmax : IntKind.u32.max = 4294967295 := rfl
  omega

/-- A row of bytes as whole numbers of the program's. -/
def ints (l : List Nat) : List Int := l.map Int.ofNat
def Small (l : List Nat) : Prop := ∀ c ∈ l, c < 256

theorem ints_of {l : List Int} (h : AreBytes l) : ∃ m : List Nat, l = ints m ∧ Small m := by
  refine ⟨l.map Int.toNat, ?_, ?_⟩
  · unfold ints
    rw [List.map_map]
    conv => lhs; rw [← List.map_id l]
    apply List.map_congr_left
    intro x hx
    have := h x hx
    simp only [Function.comp, id]
    show x = ((x.toNat : Nat) : Int)
    omega
  · intro c hc
    obtain ⟨x, hx, rfl⟩ := List.mem_map.mp hc
    have := h x hx
    omega

theorem ints_len (m : List Nat) : (ints m).length = m.length := List.length_map _
theorem ints_take (m : List Nat) (n : Nat) : (ints m).take n = ints (m.take n) := by unfold ints; rw [List.map_take]
theorem ints_drop (m : List Nat) (n : Nat) : (ints m).drop n = ints (m.drop n) := by unfold ints; rw [List.map_drop]
theorem ints_append (a b : List Nat) : ints a ++ ints b = ints (a ++ b) := by unfold ints; rw [List.map_append]
theorem ints_inj {a b : List Nat} (h : ints a = ints b) : a = b := by
  induction a generalizing b with
  | nil => cases b with
    | nil => rfl
    | cons y b => simp [ints] at h
  | cons x a ih => cases b with
    | nil => simp [ints] at h
    | cons y b =>
      simp only [ints, List.map_cons, List.cons.injEq] at h
      have h1 : x = y := by have := h.1; injection this
      rw [h1, ih h.2]
theorem rd_ints (m : List Nat) (i : Nat) : rd (ints m) (i : Int) = ((m.getD i 0 : Nat) : Int) := by
  unfold rd ints
  rw [Int.toNat_natCast, List.getD_eq_getElem?_getD, List.getD_eq_getElem?_getD, List.getElem?_map]
  cases m[i]? <;> rfl

theorem bits_xor (k : IntKind) (j : Nat) (hj : j ≤ k.bits) (hk : ∀ n : Int, 0 ≤ n → n < 2 ^ j → k.wrap n = n) (a b : Nat) (ha : a < 2 ^ j) (hb : b < 2 ^ j) :
    Go.bits .xor k a b = ((a ^^^ b : Nat) : Int) := by
  have hp : 2 ^ j ≤ 2 ^ k.bits := Nat.pow_le_pow_right (by decide) hj
  have ha' : a % 2 ^ k.bits = a := Nat.mod_eq_of_lt (Nat.lt_of_lt_of_le ha hp)
  have hb' : b % 2 ^ k.bits = b := Nat.mod_eq_of_lt (Nat.lt_of_lt_of_le hb hp)
  have cast : ∀ n : Nat, n < 2 ^ j → ((n : Nat) : Int) < 2 ^ j := fun n h => by exact_mod_cast h
  simp only [Go.bits, BitVec.ofInt_natCast, BitVec.toNat_xor, BitVec.toNat_ofNat, ha', hb']
  exact hk _ (Int.natCast_nonneg _) (cast _ (Nat.xor_lt_two_pow ha hb))

theorem xor8 (a b : Nat) (ha : a < 256) (hb : b < 256) : Go.bits .xor .u8 (a : Int) (b : Int) = ((a ^^^ b : Nat) : Int) :=
  bits_xor .u8 8 (by decide) wraps_u8 a b ha hb

theorem wraps_u32 (n : Int) (h0 : 0 ≤ n) (h1 : n < 2 ^ 32) : IntKind.u32.wrap n = n := by rw [IntKind.wrap_u32]; omega

theorem xor32 (a b : Nat) (ha : a < 4294967296) (hb : b < 4294967296) : Go.bits .xor .u32 (a : Int) (b : Int) = ((a ^^^ b : Nat) : Int) :=
  bits_xor .u32 32 (by decide) wraps_u32 a b ha hb

theorem and1 (x : Nat) (h : x < 4294967296) : Go.bits .and .u32 (x : Int) 1 = ((x % 2 : Nat) : Int) := by
  have h := bits_mask .u32 32 (by decide) wraps_u32 1 (by decide) (x : Int) (Int.natCast_nonneg _) (by omega)
  have h2 : ((2 : Int) ^ 1 - 1) = 1 := by decide
  rw [h2] at h
  rw [h]; omega

theorem sh_nat (x : Nat) (h : x < 4294967296) : Crc.sh (x : Int) = ((CrcMath.sh x : Nat) : Int) := by
  unfold Crc.sh CrcMath.sh
  rw [and1 x h, Nat.testBit_zero]
  have e1 : (x : Int) / 2 = ((x / 2 : Nat) : Int) := by omega
  rw [e1]
  rcases Nat.mod_two_eq_zero_or_one x with hx | hx
  · rw [hx]
    have := xor32 (x / 2) 0 (by omega) (by decide)
    simpa using this
  · rw [hx]
    have := xor32 (x / 2) 2197175160 (by omega) (by decide)
    simpa [CrcMath.poly] using this

theorem shs_nat (n : Nat) (x : Nat) (h : x < 4294967296) : Crc.shs n (x : Int) = ((CrcMath.shs n x : Nat) : Int) := by
  induction n with
  | zero => rfl
  | succ n ih => simp only [Crc.shs, CrcMath.shs]; rw [ih, sh_nat _ (CrcMath.shs_lt n h)]

theorem tab_get (k : Nat) : ∀ i, i < k → k ≤ 256 → (Crc.tab k)[i]? = some ((CrcMath.shs 8 i : Nat) : Int) := by
  induction k with
  | zero => intro i h; omega
  | succ k ih =>
    intro i hi hk
    simp only [Crc.tab]
    rw [List.getElem?_set]
    by_cases h : k = i
    · rw [if_pos h, if_pos (by rw [Crc.tab_len]; omega), shs_nat 8 k (by omega), h]
    · rw [if_neg h]; exact ih i (by omega) (by omega)

theorem tb_nat (i : Nat) (h : i < 256) : Crc.tb (i : Int) = ((CrcMath.shs 8 i : Nat) : Int) := by
  unfold Crc.tb rd
  rw [Int.toNat_natCast, List.getD_eq_getElem?_getD, tab_get 256 i h (by omega)]
  rfl

theorem reg1_nat (x c : Nat) (hx : x < 4294967296) (hc : c < 256) : Crc.reg1 (x : Int) (c : Int) = ((CrcMath.take x c : Nat) : Int) := by
  unfold Crc.reg1
  rw [CrcMath.take_table x c hc]
  have e1 : (x : Int) / 256 = ((x / 256 : Nat) : Int) := by omega
  have e2 : (x : Int) % 256 = ((x % 256 : Nat) : Int) := by omega
  have h1 : x % 256 < 256 := by omega
  have h2 : (x % 256) ^^^ c < 256 := Nat.xor_lt_two_pow (n := 8) h1 hc
  rw [e1, e2, xor8 _ _ h1 hc, tb_nat _ h2, xor32 _ _ (by omega) (CrcMath.shs_lt 8 (by omega))]

theorem regs_nat (l : List Nat) : ∀ x : Nat, x < 4294967296 → Small l → Crc.regs (ints l) (x : Int) = ((CrcMath.takes l x : Nat) : Int) := by
  induction l with
  | nil => intro x _ _; rfl
  | cons c r ih =>
    intro x hx hl
    have hc := hl c (by simp)
    show Crc.regs (ints r) (Crc.reg1 (x : Int) (c : Int)) = _
    rw [reg1_nat x c hx hc, ih _ (CrcMath.take_lt hx hc) (fun d hd => hl d (by simp [hd]))]
    rfl

theorem more_nat (s : Nat) (l : List Nat) (hs : s < 4294967296) (hl : Small l) (hn : l.length ≤ 140737488355328) : Crc.moreF (s : Int) (ints l) = some ((CrcMath.more s l : Nat) : Int) := by
  unfold Crc.moreF CrcMath.more
  have h1 := xor32 4294967295 s (by decide) hs
  have h2 : 4294967295 ^^^ s < 4294967296 := Nat.xor_lt_two_pow (n := 32) (by decide) hs
  have h3 := xor32 4294967295 (CrcMath.takes l (4294967295 ^^^ s)) (by decide) (CrcMath.takes_lt l _ h2 hl)
  rw [if_pos (by rw [ints_len]; exact hn)]
  have e : ((4294967295 : Nat) : Int) = 4294967295 := rfl
  rw [e] at h1 h3
  rw [h1, regs_nat l _ h2 hl, h3]

end Go.Proofs.Ytfiklobfdacbbaa.CrcPure
