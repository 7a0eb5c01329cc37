/- The chapter's octal numbers in plain words. -/
import Derived.Test.YtheloepdhnfmaaaPOctalOwnx
namespace Go.Proofs.Ytheloepdhnfmaaa.OctPure
open Go.Proofs.Ytheloepdhnfmaaa Go.RowKit Go.Proofs.YtheloepdhnfmaaaW.PrintWords Go.Proofs.YtheloepdhnfmaaaW.PrintLast Go.Proofs.YtheloepdhnfmaaaW.PrintMore Go.Proofs.Ytheloepdhnfmaaa.POctalOwn
set_option linter.unusedVariables false
set_option linter.unusedSimpArgs false

theorem wf64 {a : Int} (h : (Lit.int .i64 a).wf = true) : -9223372036854775808 ≤ a ∧ a ≤ 9223372036854775807 := by
  simp only [Lit.wf, Bool.and_eq_true, decide_eq_true_eq] at h
  have hmin : IntKind.i64.min = -9223372036854775808 := rfl
  have hmax : IntKind.i64.max = 9223372036854775807 := rfl
  omega

theorem w64 {a : Int} (h : -9223372036854775808 ≤ a ∧ a ≤ 9223372036854775807) : wrap64 a = a := by
  unfold wrap64; omega

theorem and7 (x : Int) (h0 : 0 ≤ x) (h1 : x ≤ 9223372036854775807) : Go.bits .and .i64 x 7 = x % 8 :=
  bits_mask .i64 63 (by decide) (fun n h0 h1 => by rw [IntKind.wrap_i64]; omega) 3 (by decide) x h0 (by omega)

theorem set_drop {α : Type} (l : List α) (c : Nat) (v : α) (h : c < l.length) : (l.set c v).drop c = v :: l.drop (c + 1) := by
  apply List.ext_getElem?
  intro i
  rw [List.getElem?_drop, List.getElem?_set]
  cases i with
  | zero => simp [h]
  | succ i => simp only [List.getElem?_cons_succ, List.getElem?_drop]; rw [if_neg (by omega)]; congr 1; omega

theorem take_set {α : Type} (l : List α) (c : Nat) (v : α) : (l.set c v).take c = l.take c := by
  apply List.ext_getElem?
  intro i
  rw [List.getElem?_take, List.getElem?_take, List.getElem?_set]
  by_cases h : i < c
  · rw [if_pos h, if_pos h, if_neg (by omega)]
  · rw [if_neg h, if_neg h]

/-- `c` octal digits of x, the highest first. -/
def digs : Nat → Int → List Int
  | 0, _ => []
  | c + 1, x => digs c (x / 8) ++ [48 + x % 8]

theorem digs_length (c : Nat) : ∀ x, (digs c x).length = c := by
  induction c with
  | zero => intro x; rfl
  | succ c ih => intro x; simp [digs, ih]

theorem put_l0 (c : Nat) : ∀ (k : Nat) (x : Int) (l : List Int), c < k → c ≤ l.length → c ≤ 1000 → 0 ≤ x → x ≤ 9223372036854775807 →
    octal_Put.l0 k x l ((c : Int) - 1) = some (digs c x ++ l.drop c, 0) := by
  induction c with
  | zero =>
    intro k x l hk hl hc h0 h1
    obtain ⟨k, rfl⟩ : ∃ m, k = m + 1 := ⟨k - 1, by omega⟩
    simp only [octal_Put.l0]
    rw [if_neg (by omega)]
    simp [digs]
  | succ c ih =>
    intro k x l hk hl hc h0 h1
    obtain ⟨k, rfl⟩ : ∃ m, k = m + 1 := ⟨k - 1, by omega⟩
    simp only [octal_Put.l0]
    have e : ((c + 1 : Nat) : Int) - 1 = (c : Int) := by omega
    rw [e, if_pos (by omega), if_pos (by omega), if_pos (by omega), w64 (by omega), ih k _ _ (by omega) (by simp; omega) (by omega) (by omega) (by omega)]
    rw [Int.toNat_natCast, set_drop _ _ _ (by omega), and7 x h0 h1]
    have e2 : (48 + x % 8 % 256) % 256 = 48 + x % 8 := by omega
    rw [e2]
    simp [digs]

/-- `c` bytes of x, the highest first. -/
def byts : Nat → Int → List Int
  | 0, _ => []
  | c + 1, x => byts c (x / 256) ++ [x % 256]

theorem byts_length (c : Nat) : ∀ x, (byts c x).length = c := by
  induction c with
  | zero => intro x; rfl
  | succ c ih => intro x; simp [byts, ih]

/-- what is left of x behind c bytes. -/
def left : Nat → Int → Int
  | 0, x => x
  | c + 1, x => left c (x / 256)

theorem left_nonneg (c : Nat) : ∀ x, 0 ≤ x → 0 ≤ left c x := by
  induction c with
  | zero => intro x h; exact h
  | succ c ih => intro x h; exact ih _ (by omega)

theorem put_l1 (c : Nat) : ∀ (k : Nat) (x : Int) (l : List Int), c < k → c < l.length → c ≤ 1000 → 0 ≤ x → x ≤ 9223372036854775807 →
    octal_Put.l1 k x l (c : Int) = if left c x = 0 then some (128 :: byts c x ++ l.drop (c + 1), 0) else some ([], 2) := by
  induction c with
  | zero =>
    intro k x l hk hl hc h0 h1
    obtain ⟨k, rfl⟩ : ∃ m, k = m + 1 := ⟨k - 1, by omega⟩
    simp only [octal_Put.l1]
    rw [if_neg (by omega), if_pos (show (0 : Int) < (l.length : Int) by omega)]
    cases l with
    | nil => simp at hl
    | cons a l => simp only [left, byts]; rfl
  | succ c ih =>
    intro k x l hk hl hc h0 h1
    obtain ⟨k, rfl⟩ : ∃ m, k = m + 1 := ⟨k - 1, by omega⟩
    simp only [octal_Put.l1]
    have e : wrap64 (((c + 1 : Nat) : Int) - 1) = (c : Int) := by rw [w64 (by omega)]; omega
    rw [if_pos (by omega), if_pos (by omega), if_pos (by omega), e, ih k _ _ (by omega) (by simp; omega) (by omega) (by omega) (by omega),
      Int.toNat_natCast, set_drop _ _ _ hl]
    simp [left, byts]

theorem most_oct (w : Int) (h0 : 2 ≤ w) (h1 : w ≤ 12) : octal_Most.f w = some (8 ^ (w - 1).toNat - 1) := by
  have : w = 2 ∨ w = 3 ∨ w = 4 ∨ w = 5 ∨ w = 6 ∨ w = 7 ∨ w = 8 ∨ w = 9 ∨ w = 10 ∨ w = 11 ∨ w = 12 := by omega
  rcases this with rfl | rfl | rfl | rfl | rfl | rfl | rfl | rfl | rfl | rfl | rfl <;> decide +kernel

theorem most_not (w : Int) (h : ¬ (2 ≤ w ∧ w ≤ 12)) : octal_Most.f w = some (-1) := by
  unfold octal_Most.f octal_field.f
  by_cases h0 : w ≥ 2
  · rw [if_pos h0]; simp only [Option.bind_some]
    rw [if_neg (by simp; omega)]
  · rw [if_neg h0]; simp

theorem field_oct (w : Int) : octal_field.f w = some (decide (2 ≤ w ∧ w ≤ 12)) := by
  unfold octal_field.f
  by_cases h : w ≥ 2
  · rw [if_pos h]; congr 1; simp [h]
  · rw [if_neg h]; congr 1; simp; omega

/-- What Put answers. -/
def putS (n w : Int) : List Int × Int :=
  if 2 ≤ w ∧ w ≤ 12 ∧ 0 ≤ n then
    (if n ≤ 8 ^ (w - 1).toNat - 1 then (digs (w - 1).toNat n ++ [0], 0)
      else if left (w - 1).toNat n = 0 then (128 :: byts (w - 1).toNat n, 0) else ([], 2))
  else ([], 1)

theorem put_oct (n w : Int) (hn : -9223372036854775808 ≤ n ∧ n ≤ 9223372036854775807) (k : Nat) (hk : 20 < k) : octal_Put.f k n w = some (putS n w) := by
  obtain ⟨k, rfl⟩ : ∃ m, k = m + 1 := ⟨k - 1, by omega⟩
  unfold octal_Put.f putS
  rw [field_oct]
  simp only [Option.bind_some]
  by_cases hw : 2 ≤ w ∧ w ≤ 12
  · rw [if_pos (by simpa using hw)]
    simp only [octal_Put.j0]
    by_cases h0 : 0 ≤ n
    · rw [if_neg (by simp; omega), if_pos (show 0 ≤ w by omega), if_pos (show w.toNat ≤ 281474976710656 by omega), if_pos (show 2 ≤ w ∧ w ≤ 12 ∧ 0 ≤ n from ⟨hw.1, hw.2, h0⟩)]
      simp only [Option.bind_some]
      rw [most_oct w hw.1 hw.2]
      simp only [Option.bind_some]
      obtain ⟨m, hm⟩ : ∃ m : Nat, w = m + 1 := ⟨(w - 1).toNat, by omega⟩
      have hm1 : (w - 1).toNat = m := by omega
      have hm2 : w.toNat = m + 1 := by omega
      rw [hm1, hm2]
      by_cases h2 : n ≤ 8 ^ m - 1
      · rw [if_pos h2, if_pos h2, w64 (by omega)]
        have e : w - 2 = (m : Int) - 1 := by omega
        rw [e, put_l0 m k n _ (by omega) (by simp) (by omega) h0 hn.2]
        simp
      · rw [if_neg h2, if_neg h2, w64 (by omega)]
        have e : w - 1 = (m : Int) := by omega
        rw [e, put_l1 m k n _ (by omega) (by simp) (by omega) h0 hn.2]
        simp
        split <;> rfl
    · rw [if_pos (by simp; omega), if_neg (by omega)]
  · rw [if_neg (by simpa using hw), if_neg (by omega)]
    simp only [octal_Put.j0, if_true]

theorem or8 (x y : Int) (h0 : 0 ≤ x) (h1 : x ≤ 1152921504606846975) (hy : 0 ≤ y) (hy1 : y < 8) : Go.bits .or .i64 (x * 8) y = x * 8 + y :=
  bits_join .i64 63 (by decide) (fun n h0 h1 => by rw [IntKind.wrap_i64]; omega) 3 (x * 8) y (by omega) (by omega) (by omega) hy (by omega) (by omega)

theorem or256 (x y : Int) (h0 : 0 ≤ x) (h1 : x < 36028797018963968) (hy : 0 ≤ y) (hy1 : y < 256) : Go.bits .or .i64 (x * 256) y = x * 256 + y :=
  bits_join .i64 63 (by decide) (fun n h0 h1 => by rw [IntKind.wrap_i64]; omega) 8 (x * 256) y (by omega) (by omega) (by omega) hy (by omega) (by omega)

/-- Are these bytes? -/
def AreBytes (l : List Int) : Prop := ∀ x ∈ l, 0 ≤ x ∧ x ≤ 255

theorem rd_at (l : List Int) (j : Nat) (h : j < l.length) : rd l (j : Int) = l[j] := by
  unfold rd; simp [List.getD_eq_getElem?_getD, List.getElem?_eq_getElem h]

/-- A loose field's scan: what is left, the number so far, still ahead, still inside, the place. -/
def scanS : List Int → Int → Bool → Bool → Int → Int × Int × Int
  | [], n, _, _, _ => (n, 0, 0)
  | c :: r, n, a, s, i =>
    if c = 32 ∧ a = true then scanS r n a s (i + 1)
    else if 48 ≤ c ∧ c ≤ 55 ∧ s = true then scanS r (n * 8 + (c - 48)) false s (i + 1)
    else if c = 32 ∨ c = 0 then scanS r n false false (i + 1)
    else (0, i, 70)

theorem pow8_le (c : Nat) (h : c ≤ 14) : (8 : Int) ^ c ≤ 4398046511104 ∧ (1 : Int) ≤ 8 ^ c := by
  have : c = 0 ∨ c = 1 ∨ c = 2 ∨ c = 3 ∨ c = 4 ∨ c = 5 ∨ c = 6 ∨ c = 7 ∨ c = 8 ∨ c = 9 ∨ c = 10 ∨ c = 11 ∨ c = 12 ∨ c = 13 ∨ c = 14 := by omega
  rcases this with rfl | rfl | rfl | rfl | rfl | rfl | rfl | rfl | rfl | rfl | rfl | rfl | rfl | rfl | rfl <;> decide

theorem get_l1 (r : List Int) : ∀ (k : Nat) (n : Int) (a s : Bool) (l : List Int) (i : Nat), 3 * r.length + 3 < k → l.length ≤ 12 → AreBytes r → l.drop i = r → i ≤ l.length → 0 ≤ n → n < 8 ^ i →
    octal_Get.l1 k n a s l (l.length : Int) (i : Int) = some (scanS r n a s i) := by
  induction r with
  | nil =>
    intro k n a s l i hk hl hb hd hi h0 h1
    obtain ⟨k, rfl⟩ : ∃ m, k = m + 1 := ⟨k - 1, by omega⟩
    have : l.length ≤ i := by have := congrArg List.length hd; simp at this; omega
    simp only [octal_Get.l1]
    rw [if_neg (by omega)]
    rfl
  | cons c r ih =>
    intro k n a s l i hk hl hb hd hi h0 h1
    simp only [List.length_cons] at hk
    obtain ⟨k, rfl⟩ : ∃ m, k = m + 3 := ⟨k - 3, by omega⟩
    have hlt : i < l.length := by have := congrArg List.length hd; simp at this; omega
    have hc : l[i] = c := by rw [List.drop_eq_getElem_cons hlt] at hd; injection hd
    have hr : l.drop (i + 1) = r := by rw [List.drop_eq_getElem_cons hlt] at hd; injection hd
    have hcb := hb c (by simp)
    have hbr : AreBytes r := fun x hx => hb x (by simp [hx])
    have hw : wrap64 ((i : Int) + 1) = ((i + 1 : Nat) : Int) := by rw [w64 ⟨by omega, by omega⟩]; omega
    have hp := pow8_le i (by omega)
    have hp1 : (8 : Int) ^ (i + 1) = 8 ^ i * 8 := by rw [Int.pow_succ]
    have hn1 : n < 8 ^ (i + 1) := by rw [hp1]; omega
    have hcast : ((i : Int) + 1) = ((i + 1 : Nat) : Int) := by omega
    simp only [octal_Get.l1]
    rw [if_pos (by omega), if_pos (by omega), if_pos (by omega), rd_at l i hlt, hc]
    simp only [scanS]
    by_cases h32 : c = 32
    · rw [if_pos h32]
      simp only [octal_Get.j2]
      by_cases ha : a = true
      · rw [if_pos ha, if_pos (show c = 32 ∧ a = true from ⟨h32, ha⟩), hw, hcast]
        exact ih (k + 1) n a s l (i + 1) (by omega) hl hbr hr hlt h0 hn1
      · rw [if_neg ha, if_neg (show ¬ (c = 32 ∧ a = true) from fun h => ha h.2), if_neg (show ¬ c ≥ 48 by omega), if_neg (show ¬ (48 ≤ c ∧ c ≤ 55 ∧ s = true) by omega), if_pos (show c = 32 ∨ c = 0 from .inl h32)]
        simp only [octal_Get.j3]
        rw [if_neg (by decide), if_pos h32, hw, hcast]
        exact ih k n false false l (i + 1) (by omega) hl hbr hr hlt h0 hn1
    · rw [if_neg h32]
      simp only [octal_Get.j2]
      rw [if_neg (show ¬ (false = true) by decide), if_neg (show ¬ (c = 32 ∧ a = true) from fun h => h32 h.1)]
      by_cases hdig : 48 ≤ c ∧ c ≤ 55 ∧ s = true
      · rw [if_pos (show c ≥ 48 from hdig.1), if_pos hdig.2.1, if_pos hdig]
        simp only [octal_Get.j3]
        have e1 : wrap64 (n * 8) = n * 8 := w64 ⟨by omega, by omega⟩
        have e2 : (c - 48) % 256 = c - 48 := by omega
        rw [show s = true from hdig.2.2] at *
        rw [if_pos rfl, e1, e2, or8 n (c - 48) h0 (by omega) (by omega) (by omega), hw, hcast]
        exact ih k (n * 8 + (c - 48)) false true l (i + 1) (by omega) hl hbr hr hlt (by omega) (by rw [hp1]; omega)
      · rw [if_neg hdig]
        have hj : octal_Get.j3 (k + 1) n s (i : Int) c l (l.length : Int) (i : Int) false = some (if c = 32 ∨ c = 0 then scanS r n false false ((i : Int) + 1) else (0, (i : Int), 70)) := by
          simp only [octal_Get.j3]
          rw [if_neg (by decide), if_neg h32]
          by_cases h00 : c = 0
          · rw [if_pos h00, if_pos (.inr h00), hw, hcast]
            exact ih k n false false l (i + 1) (by omega) hl hbr hr hlt h0 hn1
          · rw [if_neg h00, if_neg (by omega)]
        by_cases h48 : c ≥ 48
        · rw [if_pos h48]
          by_cases h55 : c ≤ 55
          · rw [if_pos h55]
            have hs : s = false := by
              cases s with
              | false => rfl
              | true => exact absurd ⟨h48, h55, rfl⟩ hdig
            have hj2 : octal_Get.j3 (k + 1) n s (i : Int) c l (l.length : Int) (i : Int) s = octal_Get.j3 (k + 1) n s (i : Int) c l (l.length : Int) (i : Int) false := by rw [hs]
            rw [hj2, hj]
          · rw [if_neg h55, hj]
        · rw [if_neg h48, hj]

/-- A number's own bytes, read from the highest: none: it is above the greatest one. -/
def ownS : List Int → Int → Option Int
  | [], n => some n
  | c :: r, n => if n ≥ 36028797018963968 then none else ownS r (n * 256 + c)

theorem get_l0 (r : List Int) : ∀ (k : Nat) (n : Int) (l : List Int) (i : Nat), r.length < k → l.length ≤ 1000 → AreBytes r → l.drop i = r → i ≤ l.length → 0 ≤ n → n ≤ 9223372036854775807 →
    octal_Get.l0 k n l (l.length : Int) (i : Int) = some (match ownS r n with | some m => (m, 0, 0) | none => (0, 0, 2)) := by
  induction r with
  | nil =>
    intro k n l i hk hl hb hd hi h0 h1
    obtain ⟨k, rfl⟩ : ∃ m, k = m + 1 := ⟨k - 1, by omega⟩
    have : l.length ≤ i := by have := congrArg List.length hd; simp at this; omega
    simp only [octal_Get.l0]
    rw [if_neg (by omega)]
    rfl
  | cons c r ih =>
    intro k n l i hk hl hb hd hi h0 h1
    simp only [List.length_cons] at hk
    obtain ⟨k, rfl⟩ : ∃ m, k = m + 1 := ⟨k - 1, by omega⟩
    have hlt : i < l.length := by have := congrArg List.length hd; simp at this; omega
    have hc : l[i] = c := by rw [List.drop_eq_getElem_cons hlt] at hd; injection hd
    have hr : l.drop (i + 1) = r := by rw [List.drop_eq_getElem_cons hlt] at hd; injection hd
    have hcb := hb c (by simp)
    have hbr : AreBytes r := fun x hx => hb x (by simp [hx])
    have hw : wrap64 ((i : Int) + 1) = ((i + 1 : Nat) : Int) := by rw [w64 ⟨by omega, by omega⟩]; omega
    simp only [octal_Get.l0]
    rw [if_pos (by omega), if_pos (by omega), if_pos (by omega), rd_at l i hlt, hc]
    by_cases h : n ≥ 36028797018963968
    · rw [if_pos h]; simp only [ownS]; rw [if_pos h]
    · rw [if_neg h]
      simp only [ownS]
      have e1 : wrap64 (n * 256) = n * 256 := w64 ⟨by omega, by omega⟩
      have e2 : wrap64 c = c := w64 ⟨by omega, by omega⟩
      rw [if_neg h, e1, e2, or256 n c h0 (by omega) (by omega) (by omega), hw]
      exact ih k (n * 256 + c) l (i + 1) (by omega) hl hbr hr hlt (by omega) (by omega)

/-- What Get answers. -/
def getS (l : List Int) : Int × Int × Int :=
  if 2 ≤ l.length ∧ l.length ≤ 12 then
    (if rd l 0 = 128 then (match ownS (l.drop 1) 0 with | some m => (m, 0, 0) | none => (0, 0, 2)) else scanS l 0 true true 0)
  else (0, 0, 1)

theorem get_oct (l : List Int) (hb : AreBytes l) (k : Nat) (hk : 60 < k) : octal_Get.f k l = some (getS l) := by
  unfold octal_Get.f getS
  rw [field_oct]
  simp only [Option.bind_some]
  by_cases h : 2 ≤ l.length ∧ l.length ≤ 12
  · rw [if_pos (by simp; omega), if_pos h, if_pos (by omega)]
    by_cases h1 : rd l 0 = 128
    · rw [if_pos h1, if_pos h1, if_pos (by omega)]
      exact get_l0 (l.drop 1) k 0 (l.drop 1) 0 (by simp; omega) (by simp; omega) (fun x hx => hb x (List.mem_of_mem_drop hx)) rfl (by omega) (by omega) (by omega)
    · rw [if_neg h1, if_neg h1]
      exact get_l1 l k 0 true true l 0 (by omega) h.2 hb rfl (by omega) (by omega) (by decide)
  · rw [if_neg (by simp; omega), if_neg h]

theorem toNat_byte (x : Int) (h : 0 ≤ x ∧ x ≤ 255) : ((UInt8.ofNat x.toNat).toNat : Int) = x := by
  rw [UInt8.toNat_ofNat']; omega

theorem map_byte_inj (a : List Int) : ∀ b : List Int, AreBytes a → AreBytes b → (a.map (fun n => UInt8.ofNat n.toNat)) = (b.map (fun n => UInt8.ofNat n.toNat)) → a = b := by
  induction a with
  | nil => intro b _ _ h; cases b with
    | nil => rfl
    | cons y b => simp at h
  | cons x a ih =>
    intro b ha hb h
    cases b with
    | nil => simp at h
    | cons y b =>
      simp only [List.map_cons, List.cons.injEq] at h
      have h1 := toNat_byte x (ha x (by simp))
      have h2 := toNat_byte y (hb y (by simp))
      have : x = y := by rw [← h1, ← h2, h.1]
      rw [this, ih b (fun z hz => ha z (by simp [hz])) (fun z hz => hb z (by simp [hz])) h.2]

theorem strOfNums_inj (a b : List Int) (ha : AreBytes a) (hb : AreBytes b) : ((strOfNums a).toList = (strOfNums b).toList) ↔ a = b := by
  constructor
  · intro h
    apply map_byte_inj a b ha hb
    have : (strOfNums a).data.toList = (strOfNums b).data.toList := by
      simpa [ByteArray.toList_eq] using h
    rw [strOfNums_data, strOfNums_data] at this
    exact this
  · intro h; rw [h]

/-- What Exact answers. -/
def exactS (l : List Int) : Int × Int :=
  if (getS l).2.2 = 0 then (if (putS (getS l).1 l.length).2 = 0 ∧ (putS (getS l).1 l.length).1 = l then ((getS l).1, 0) else (0, 71)) else (0, (getS l).2.2)

theorem byts_bytes (c : Nat) : ∀ x, AreBytes (byts c x) := by
  induction c with
  | zero => intro x y hy; simp [byts] at hy
  | succ c ih =>
    intro x y hy
    simp only [byts, List.mem_append, List.mem_singleton] at hy
    rcases hy with h | h
    · exact ih _ y h
    · omega

theorem digs_dig (c : Nat) : ∀ x, ∀ y ∈ digs c x, 48 ≤ y ∧ y ≤ 55 := by
  induction c with
  | zero => intro x y hy; simp [digs] at hy
  | succ c ih =>
    intro x y hy
    simp only [digs, List.mem_append, List.mem_singleton] at hy
    rcases hy with h | h
    · exact ih _ y h
    · omega

theorem putS_bytes (n w : Int) : AreBytes (putS n w).1 := by
  unfold putS
  split
  · split
    · intro y hy
      simp only [List.mem_append, List.mem_singleton] at hy
      rcases hy with h | h
      · have := digs_dig _ _ y h; omega
      · omega
    · split
      · intro y hy
        simp only [List.mem_cons] at hy
        rcases hy with h | h
        · omega
        · exact byts_bytes _ _ y h
      · intro y hy; simp at hy
  · intro y hy; simp at hy

theorem scanS_range (r : List Int) : ∀ (n : Int) (a s : Bool) (i : Int) (j : Nat), j + r.length ≤ 14 → AreBytes r → 0 ≤ n → n < 8 ^ j → 0 ≤ (scanS r n a s i).1 ∧ (scanS r n a s i).1 ≤ 9223372036854775807 := by
  induction r with
  | nil => intro n a s i j hl hb h0 h1; have := pow8_le j (by omega); simp only [scanS]; omega
  | cons c r ih =>
    intro n a s i j hl hb h0 h1
    simp only [List.length_cons] at hl
    have hb' : AreBytes r := fun x hx => hb x (by simp [hx])
    have hp : (8 : Int) ^ (j + 1) = 8 ^ j * 8 := by rw [Int.pow_succ]
    have hc := hb c (by simp)
    simp only [scanS]
    split
    · exact ih _ _ _ _ (j + 1) (by omega) hb' h0 (by omega)
    · split
      · exact ih _ _ _ _ (j + 1) (by omega) hb' (by omega) (by omega)
      · split
        · exact ih _ _ _ _ (j + 1) (by omega) hb' h0 (by omega)
        · simp

theorem ownS_range (r : List Int) : ∀ n m : Int, AreBytes r → 0 ≤ n → n ≤ 9223372036854775807 → ownS r n = some m → 0 ≤ m ∧ m ≤ 9223372036854775807 := by
  induction r with
  | nil => intro n m hb h0 h1 h; simp only [ownS, Option.some.injEq] at h; omega
  | cons c r ih =>
    intro n m hb h0 h1 h
    have hc := hb c (by simp)
    simp only [ownS] at h
    by_cases hn : n ≥ 36028797018963968
    · rw [if_pos hn] at h; simp at h
    · rw [if_neg hn] at h
      exact ih _ m (fun x hx => hb x (by simp [hx])) (by omega) (by omega) h

theorem getS_range (l : List Int) (hb : AreBytes l) : 0 ≤ (getS l).1 ∧ (getS l).1 ≤ 9223372036854775807 := by
  unfold getS
  split
  · split
    · cases h : ownS (l.drop 1) 0 with
      | none => simp
      | some m => exact ownS_range _ 0 m (fun x hx => hb x (List.mem_of_mem_drop hx)) (by omega) (by omega) h
    · rename_i h _
      exact scanS_range l 0 true true 0 0 (by omega) hb (by omega) (by decide)
  · simp

theorem exact_oct (l : List Int) (hb : AreBytes l) (k : Nat) (hk : 60 < k) : octal_Exact.f k l = some (exactS l) := by
  unfold octal_Exact.f exactS
  rw [get_oct l hb k hk]
  simp only [Option.bind_some]
  have hr := getS_range l hb
  by_cases h : (getS l).2.2 = 0
  · rw [if_pos h, if_pos h, put_oct _ _ ⟨by omega, hr.2⟩ k (by omega)]
    simp only [Option.bind_some]
    by_cases h2 : (putS (getS l).1 l.length).2 = 0
    · rw [if_pos h2]
      by_cases h3 : (putS (getS l).1 l.length).1 = l
      · rw [if_pos ((strOfNums_inj _ _ (putS_bytes _ _) hb).2 h3), if_pos ⟨h2, h3⟩]
      · rw [if_neg (fun h => h3 ((strOfNums_inj _ _ (putS_bytes _ _) hb).1 h)), if_neg (fun h => h3 h.2)]
    · rw [if_neg h2, if_neg (fun h => h2 h.1)]
  · rw [if_neg h, if_neg h]

theorem ownS_append (r t : List Int) : ∀ n, ownS (r ++ t) n = (ownS r n).bind (ownS t) := by
  induction r with
  | nil => intro n; rfl
  | cons c r ih =>
    intro n
    simp only [List.cons_append, ownS]
    split
    · rfl
    · exact ih _

theorem ownS_byts (m : Nat) : ∀ x : Int, 0 ≤ x → x ≤ 9223372036854775807 → left m x = 0 → ownS (byts m x) 0 = some x := by
  induction m with
  | zero => intro x h0 h1 h; simp only [left] at h; rw [h]; rfl
  | succ m ih =>
    intro x h0 h1 h
    simp only [byts]
    rw [ownS_append, ih (x / 256) (by omega) (by omega) h]
    simp only [Option.bind_some, ownS]
    rw [if_neg (by omega)]
    congr 1; omega

theorem scanS_digs (m : Nat) : ∀ (x y : Int) (a : Bool) (i : Int) (t : List Int), 0 ≤ x → x < 8 ^ m →
    scanS (digs m x ++ t) y a true i = scanS t (y * 8 ^ m + x) (if m = 0 then a else false) true (i + m) := by
  induction m with
  | zero => intro x y a i t h0 h1; have : x = 0 := by simp at h1; omega
            subst this; simp [digs]
  | succ m ih =>
    intro x y a i t h0 h1
    have hp : (8 : Int) ^ (m + 1) = 8 ^ m * 8 := by rw [Int.pow_succ]
    simp only [digs, List.append_assoc]
    rw [ih (x / 8) y a i _ (by omega) (by omega)]
    simp only [List.cons_append, List.nil_append, scanS]
    rw [if_neg (by omega), if_pos ⟨by omega, by omega, trivial⟩, if_neg (by omega)]
    have e : (y * 8 ^ m + x / 8) * 8 + (48 + x % 8 - 48) = y * 8 ^ (m + 1) + x := by
      rw [hp, ← Int.mul_assoc]; omega
    rw [e]
    congr 1
    omega

theorem rd_zero_digs (m : Nat) (x : Int) (t : List Int) (hm : 1 ≤ m) : rd (digs m x ++ t) 0 ≠ 128 := by
  cases h : digs m x with
  | nil => have := digs_length m x; rw [h] at this; simp at this; omega
  | cons c r =>
    have := digs_dig m x c (by rw [h]; simp)
    have e : rd (c :: r ++ t) 0 = c := rfl
    rw [e]; omega

/-- What was put is got. -/
theorem get_put (n w : Int) (hn : -9223372036854775808 ≤ n ∧ n ≤ 9223372036854775807) (h : (putS n w).2 = 0) : getS (putS n w).1 = (n, 0, 0) ∧ ((putS n w).1.length : Int) = w := by
  unfold putS at h ⊢
  by_cases hw : 2 ≤ w ∧ w ≤ 12 ∧ 0 ≤ n
  · rw [if_pos hw] at h ⊢
    obtain ⟨m, hm⟩ : ∃ m : Nat, w = m + 1 := ⟨(w - 1).toNat, by omega⟩
    have hm1 : (w - 1).toNat = m := by omega
    rw [hm1] at h ⊢
    by_cases h2 : n ≤ 8 ^ m - 1
    · rw [if_pos h2]
      constructor
      · unfold getS
        have hl : (digs m n ++ [0]).length = m + 1 := by simp [digs_length]
        simp only []
        rw [hl, if_pos (by omega), if_neg (rd_zero_digs m n [0] (by omega)), scanS_digs m n 0 true 0 [0] hw.2.2 (by omega)]
        rw [if_neg (show ¬ m = 0 by omega)]
        simp [scanS]
      · simp [digs_length]; omega
    · rw [if_neg h2] at h ⊢
      by_cases h3 : left m n = 0
      · rw [if_pos h3]
        constructor
        · unfold getS
          have hl : (128 :: byts m n).length = m + 1 := by simp [byts_length]
          simp only []
          rw [hl, if_pos (by omega), if_pos (by rfl)]
          have e : (128 :: byts m n).drop 1 = byts m n := rfl
          rw [e, ownS_byts m n hw.2.2 hn.2 h3]
        · simp [byts_length]; omega
      · rw [if_neg h3] at h; simp at h
  · rw [if_neg hw] at h; simp at h

theorem exact_put (n w : Int) (hn : -9223372036854775808 ≤ n ∧ n ≤ 9223372036854775807) (h : (putS n w).2 = 0) : exactS (putS n w).1 = (n, 0) := by
  obtain ⟨h1, h2⟩ := get_put n w hn h
  unfold exactS
  rw [h1, h2]
  simp [h]

theorem exact_same (l : List Int) (h : (exactS l).2 = 0) : putS (exactS l).1 l.length = (l, 0) := by
  unfold exactS at h ⊢
  by_cases h1 : (getS l).2.2 = 0
  · rw [if_pos h1] at h ⊢
    by_cases h2 : (putS (getS l).1 l.length).2 = 0 ∧ (putS (getS l).1 l.length).1 = l
    · rw [if_pos h2]
      exact Prod.ext h2.2 h2.1
    · rw [if_neg h2] at h; simp at h
  · rw [if_neg h1] at h; exact absurd h h1

theorem exact_zero (l : List Int) (h : (exactS l).2 ≠ 0) : (exactS l).1 = 0 := by
  unfold exactS at h ⊢
  by_cases h1 : (getS l).2.2 = 0
  · rw [if_pos h1] at h ⊢
    by_cases h2 : (putS (getS l).1 l.length).2 = 0 ∧ (putS (getS l).1 l.length).1 = l
    · rw [if_pos h2] at h; simp at h
    · rw [if_neg h2]
  · rw [if_neg h1]

theorem exactS_range (l : List Int) (hb : AreBytes l) : 0 ≤ (exactS l).1 ∧ (exactS l).1 ≤ 9223372036854775807 := by
  have h := getS_range l hb
  unfold exactS
  split
  · split
    · exact h
    · simp
  · simp

theorem bytes_of_wf {l : List Int} (h : ∀ x ∈ l, (Lit.int .u8 x).wf = true) : AreBytes l := by
  intro x hx
  have h := h x hx
  simp only [Lit.wf, Bool.and_eq_true, decide_eq_true_eq] at h
  have hmin : IntKind.u8.min = 0 := rfl
  have hmax : IntKind.u8.max = 255 := rfl
  omega

theorem putS_len (n w : Int) : (putS n w).1.length ≤ 13 := by
  unfold putS
  split
  · split
    · simp [digs_length]; omega
    · split
      · simp [byts_length]; omega
      · simp
  · simp

theorem awake_true (k : Nat) (hk : 100 < k) : tabularylaw07_awake.f k = some true :=
  at_rounds tabularylaw07_awake.mono (k := 100) (by omega) (by decide +kernel)

end Go.Proofs.Ytheloepdhnfmaaa.OctPure
