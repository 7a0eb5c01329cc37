/- What the reference's forms of numbers are. -/
import Derived.Test.YtdmpbfhbjklajaaPSealx
import Derived.Test.YtdmpbfhbjklajaaOctPure
namespace Go.Proofs.Ytdmpbfhbjklajaa.RefPure
open Go.Proofs.Ytdmpbfhbjklajaa Go.RowKit Go.Proofs.YtdmpbfhbjklajaaW.PrintWords Go.Proofs.YtdmpbfhbjklajaaW.PrintLast Go.Proofs.YtdmpbfhbjklajaaW.PrintMore Go.Proofs.Ytdmpbfhbjklajaa.PSeal Go.Proofs.Ytdmpbfhbjklajaa.OctPure
set_option linter.unusedVariables false
set_option linter.unusedSimpArgs false

theorem field_ref (w : Int) : tabularyref07_Field.f w = some (decide (2 ≤ w ∧ w ≤ 12)) := by
  unfold tabularyref07_Field.f
  by_cases h : w ≥ 2
  · rw [if_pos h]; congr 1; simp [h]
  · rw [if_neg h]; congr 1; simp; omega

theorem most_ref (w : Int) (k : Nat) (hk : 20 < k) : tabularyref07_Most.f k w = some (if 2 ≤ w ∧ w ≤ 12 then 8 ^ (w - 1).toNat - 1 else -1) := by
  refine at_rounds (tabularyref07_Most.mono w) (k := 20) (by omega) ?_
  by_cases h : 2 ≤ w ∧ w ≤ 12
  · have : w = 2 ∨ w = 3 ∨ w = 4 ∨ w = 5 ∨ w = 6 ∨ w = 7 ∨ w = 8 ∨ w = 9 ∨ w = 10 ∨ w = 11 ∨ w = 12 := by omega
    rcases this with rfl | rfl | rfl | rfl | rfl | rfl | rfl | rfl | rfl | rfl | rfl <;> decide +kernel
  · unfold tabularyref07_Most.f
    rw [field_ref, if_neg h]
    simp only [Option.bind_some]
    rw [if_neg (by simpa using h)]

/-- c octal digits of x, by places. -/
def digr : Nat → Int → List Int
  | 0, _ => []
  | c + 1, x => (48 + x / 8 ^ c % 8) :: digr c x

theorem digr_step (c : Nat) : ∀ x, digr (c + 1) x = digr c (x / 8) ++ [48 + x % 8] := by
  induction c with
  | zero => intro x; simp [digr]
  | succ c ih =>
    intro x
    rw [digr, ih x, digr]
    have e : x / 8 ^ (c + 1) = x / 8 / 8 ^ c := by
      rw [Int.pow_succ, Int.mul_comm, Int.ediv_ediv_of_nonneg (by decide)]
    rw [e]
    rfl

theorem digr_eq (c : Nat) : ∀ x, digr c x = digs c x := by
  induction c with
  | zero => intro x; rfl
  | succ c ih => intro x; rw [digr_step, ih, digs]

theorem pow8 (c : Nat) (h : c ≤ 12) : (8 : Int) ^ c ≤ 68719476736 ∧ (1 : Int) ≤ 8 ^ c := by
  have : c = 0 ∨ c = 1 ∨ c = 2 ∨ c = 3 ∨ c = 4 ∨ c = 5 ∨ c = 6 ∨ c = 7 ∨ c = 8 ∨ c = 9 ∨ c = 10 ∨ c = 11 ∨ c = 12 := by omega
  rcases this with rfl | rfl | rfl | rfl | rfl | rfl | rfl | rfl | rfl | rfl | rfl | rfl | rfl <;> decide

theorem plain_step (k : Nat) (n w : Int) (l : List Int) (p i : Int) (hl : l.length ≤ 100) (hw : w ≤ 1000) (h0 : 0 ≤ n) (h1 : n ≤ 9223372036854775807)
    (hp : 1 ≤ p ∧ p ≤ 68719476736) (hi : 1 ≤ i) (hiw : i < w) : tabularyref07_plain.l0 (k + 1) n w l p i =
      if p / 8 = 0 then tabularyref07_plain.l0 k n w (l ++ [48 + n / p % 8]) 1 (i + 1) else tabularyref07_plain.l0 k n w (l ++ [48 + n / p % 8]) (p / 8) (i + 1) := by
  have hq0 : 0 ≤ n / p := Int.ediv_nonneg h0 (by omega)
  have hq1 : n / p ≤ n := Int.ediv_le_self _ h0
  generalize hq : n / p = q at *
  have t1 : wrap64 (Int.tdiv n p) = q := by rw [Int.tdiv_eq_ediv_of_nonneg h0, hq, w64 ⟨by omega, by omega⟩]
  have t2 : wrap64 (Int.tdiv p 8) = p / 8 := by rw [Int.tdiv_eq_ediv_of_nonneg (by omega), w64 ⟨by omega, by omega⟩]
  have t3 : wrap64 (i + 1) = i + 1 := w64 ⟨by omega, by omega⟩
  have t4 : wrap64 (48 + q % 8) = 48 + q % 8 := w64 ⟨by omega, by omega⟩
  have t5 : (48 + q % 8) % 256 = 48 + q % 8 := by omega
  simp only [tabularyref07_plain.l0]
  rw [if_pos hiw, if_neg (show ¬ p = 0 by omega), if_pos (show l.length < 140737488355328 by omega)]
  simp only [Option.bind_some]
  rw [t1, t2, t3, Int.tmod_eq_emod_of_nonneg hq0, t4, t5]

theorem plain_l0 (c : Nat) : ∀ (k : Nat) (n w : Int) (l : List Int) (u i : Int), c < k → c ≤ 12 → l.length + c ≤ 100 → w ≤ 1000 → 0 ≤ n → n ≤ 9223372036854775807 →
    w - i = c → (1 ≤ i) → (c = 0 ∨ u = 8 ^ (c - 1)) → tabularyref07_plain.l0 k n w l u i = some (l ++ digr c n ++ [0]) := by
  induction c with
  | zero =>
    intro k n w l u i hk hc hl hw h0 h1 hi hi1 hu
    obtain ⟨k, rfl⟩ : ∃ m, k = m + 1 := ⟨k - 1, by omega⟩
    simp only [tabularyref07_plain.l0]
    rw [if_neg (show ¬ i < w by omega), if_pos (show l.length < 140737488355328 by omega)]
    simp [digr]
  | succ c ih =>
    intro k n w l u i hk hc hl hw h0 h1 hi hi1 hu
    obtain ⟨k, rfl⟩ : ∃ m, k = m + 1 := ⟨k - 1, by omega⟩
    have hu' : u = 8 ^ c := by rcases hu with h | h; omega; simpa using h
    subst hu'
    have hp := pow8 c (by omega)
    rw [plain_step k n w l _ i (by omega) hw h0 h1 ⟨hp.2, hp.1⟩ hi1 (by omega)]
    have hlen : (l ++ [48 + n / 8 ^ c % 8]).length = l.length + 1 := by simp
    have hd : l ++ [48 + n / 8 ^ c % 8] ++ digr c n ++ [0] = l ++ digr (c + 1) n ++ [0] := by simp [digr]
    generalize l ++ [48 + n / 8 ^ c % 8] = l' at *
    rw [← hd]
    clear hd
    cases c with
    | zero =>
      rw [if_pos (by decide)]
      exact ih k n w l' _ _ (by omega) (by omega) (by omega) hw h0 h1 (by omega) (by omega) (.inl rfl)
    | succ b =>
      have hb := pow8 b (by omega)
      have e3 : (8 : Int) ^ (b + 1) / 8 = 8 ^ b := by rw [Int.pow_succ]; exact Int.mul_ediv_cancel _ (by decide)
      rw [e3, if_neg (by omega)]
      exact ih k n w l' _ _ (by omega) (by omega) (by omega) hw h0 h1 (by omega) (by omega) (.inr rfl)

/-- c bytes of x, the lowest first. -/
def lows : Nat → Int → List Int
  | 0, _ => []
  | c + 1, x => x % 256 :: lows c (x / 256)

theorem lows_length (c : Nat) : ∀ x, (lows c x).length = c := by
  induction c with
  | zero => intro x; rfl
  | succ c ih => intro x; simp [lows, ih]

theorem lows_rev (c : Nat) : ∀ x, (lows c x).reverse = byts c x := by
  induction c with
  | zero => intro x; rfl
  | succ c ih => intro x; simp [lows, byts, ih]

theorem rput_l1 (c : Nat) : ∀ (k : Nat) (s l : List Int), c < k → c ≤ s.length → s.length ≤ 1000 → l.length + c ≤ 1000 →
    tabularyref07_Put.l1 k s l ((c : Int) - 1) = some (l ++ (s.take c).reverse, 0) := by
  induction c with
  | zero =>
    intro k s l hk hs hs1 hl
    obtain ⟨k, rfl⟩ : ∃ m, k = m + 1 := ⟨k - 1, by omega⟩
    simp only [tabularyref07_Put.l1]
    rw [if_neg (by omega)]
    simp
  | succ c ih =>
    intro k s l hk hs hs1 hl
    obtain ⟨k, rfl⟩ : ∃ m, k = m + 1 := ⟨k - 1, by omega⟩
    simp only [tabularyref07_Put.l1]
    have e : ((c + 1 : Nat) : Int) - 1 = (c : Int) := by omega
    have hr : rd s (c : Int) = s[c]'(by omega) := by unfold rd; simp [List.getD_eq_getElem?_getD, List.getElem?_eq_getElem (show c < s.length by omega)]
    have t1 : wrap64 ((c : Int) - 1) = c - 1 := w64 ⟨by omega, by omega⟩
    rw [e, if_pos (by omega), if_pos (by omega), if_pos (by omega), if_pos (by omega), t1, ih k _ _ (by omega) (by omega) hs1 (by simp; omega), hr, List.take_succ_eq_append_getElem (show c < s.length by omega), List.reverse_append]
    simp

theorem rput_l0 (c : Nat) : ∀ (k : Nat) (x w : Int) (l : List Int) (i : Int), c + 20 < k → l.length + c ≤ 12 → w ≤ 1000 → 0 ≤ x → x ≤ 9223372036854775807 → w - i = c → 1 ≤ i →
    tabularyref07_Put.l0 k x w l i = if left c x = 0 then some (128 :: (l ++ lows c x).reverse, 0) else some ([], 2) := by
  induction c with
  | zero =>
    intro k x w l i hk hl hw h0 h1 hi hi1
    obtain ⟨k, rfl⟩ : ∃ m, k = m + 1 := ⟨k - 1, by omega⟩
    simp only [tabularyref07_Put.l0]
    rw [if_neg (by omega)]
    have hleft : left 0 x = x := rfl
    rw [hleft, lows]
    by_cases hx : x = 0
    · rw [if_neg (show ¬ x > 0 by omega), if_pos hx, w64 ⟨by omega, by omega⟩, rput_l1 l.length k l _ (by omega) (by omega) (by omega) (by simp; omega)]
      simp
    · rw [if_pos (by omega), if_neg hx]
  | succ c ih =>
    intro k x w l i hk hl hw h0 h1 hi hi1
    obtain ⟨k, rfl⟩ : ∃ m, k = m + 1 := ⟨k - 1, by omega⟩
    simp only [tabularyref07_Put.l0]
    have t1 : wrap64 (x / 256) = x / 256 := w64 (by omega)
    have t3 : wrap64 (i + 1) = i + 1 := w64 (by omega)
    rw [if_pos (by omega), if_pos (by omega), Int.tdiv_eq_ediv_of_nonneg h0, Int.tmod_eq_emod_of_nonneg h0, t1, t3,
      ih k _ w _ _ (by omega) (by simp; omega) hw (by omega) (by omega) (by omega) (by omega)]
    have e : x % 256 % 256 = x % 256 := by omega
    rw [e]
    simp [left, lows]

theorem rput (n w : Int) (hn : -9223372036854775808 ≤ n ∧ n ≤ 9223372036854775807) (k : Nat) (hk : 60 < k) : tabularyref07_Put.f k n w = some (putS n w) := by
  obtain ⟨k, rfl⟩ : ∃ m, k = m + 1 := ⟨k - 1, by omega⟩
  unfold tabularyref07_Put.f putS
  rw [field_ref]
  simp only [Option.bind_some]
  by_cases hw : 2 ≤ w ∧ w ≤ 12
  · rw [if_pos (by simpa using hw)]
    simp only [tabularyref07_Put.j0]
    by_cases h0 : 0 ≤ n
    · rw [if_neg (by simp; omega), if_pos ⟨hw.1, hw.2, h0⟩, most_ref w k (by omega), if_pos hw]
      simp only [Option.bind_some]
      obtain ⟨m, hm⟩ : ∃ m : Nat, w = m + 1 := ⟨(w - 1).toNat, by omega⟩
      have hm1 : (w - 1).toNat = m := by omega
      rw [hm1]
      by_cases h2 : n ≤ 8 ^ m - 1
      · rw [if_pos h2, if_pos h2]
        unfold tabularyref07_plain.f
        rw [most_ref w k (by omega), if_pos hw, hm1]
        simp only [Option.bind_some]
        have hp := pow8 m (by omega)
        obtain ⟨b, rfl⟩ : ∃ b, m = b + 1 := ⟨m - 1, by omega⟩
        have hb := pow8 b (by omega)
        have e3 : wrap64 (Int.tdiv (wrap64 ((8 : Int) ^ (b + 1) - 1 + 1)) 8) = 8 ^ b := by
          have e : (8 : Int) ^ (b + 1) - 1 + 1 = 8 ^ b * 8 := by rw [Int.pow_succ]; omega
          have t1 : wrap64 ((8 : Int) ^ b * 8) = 8 ^ b * 8 := w64 ⟨by omega, by omega⟩
          rw [e, t1, Int.tdiv_eq_ediv_of_nonneg (by omega), Int.mul_ediv_cancel _ (by decide), w64 ⟨by omega, by omega⟩]
        rw [e3, plain_l0 (b + 1) k n w [] _ _ (by omega) (by omega) (by simp; omega) (by omega) h0 hn.2 (by omega) (by omega) (.inr (by simp)), digr_eq]
        simp
      · rw [if_neg h2, if_neg h2, rput_l0 m k n w [] 1 (by omega) (by simp; omega) (by omega) h0 hn.2 (by omega) (by omega)]
        simp [lows_rev]
        split <;> rfl
    · rw [if_pos (by simp; omega), if_neg (by omega)]
  · rw [if_neg (by simpa using hw), if_neg (by omega)]
    simp only [tabularyref07_Put.j0, if_true]

end Go.Proofs.Ytdmpbfhbjklajaa.RefPure
