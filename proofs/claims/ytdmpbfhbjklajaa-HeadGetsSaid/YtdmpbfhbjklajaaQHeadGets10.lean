/- Texts of this claim, laid together by wip/tools/squash.py: RefGet, RefGetC, WalkHeadSums, PHeadBackx0, PHeadBackx1, WalkHeadGets. -/
import Derived.Test.YtdmpbfhbjklajaaQHeadGets9
import Derived.Test.YtdmpbfhbjklajaaProg
import Derived.Below
import Derived.Deep.Draws
import Derived.Deep.AppendLies
import Derived.Maps.AppendAt
import Derived.OwnWalk
import Derived.Laws.BytesArg
import Derived.Laws.MakeOwn
import Derived.Laws.OwnMore
import Derived.Deep.OwnRows
import Derived.Tactics
import Derived.Lib.ConvBytes
import Derived.Laws.Slices
import Derived.WalkKit
import Derived.KernelRfl
import Derived.RowKit3
import Derived.Deep.LoopGhost
import Derived.Deep.QuietTactic
import Derived.BigQuiet
import Derived.WideLaws
import Derived.Deep.DeepCutAuto
import Derived.Deep.CutBlock
import Derived.Deep.RegionHeld3
import Derived.Laws.Rows
import Derived.Lib.AppendStr
import Derived.ArgAppend
import Derived.Laws.IdiomCopy
import Derived.OrdersHeld
import Derived.Laws.BitsLemmas
import Derived.RowKit
import Derived.Test.YtdmpbfhbjklajaaWWords
import Derived.Test.YtdmpbfhbjklajaaWLast
import Derived.Test.YtdmpbfhbjklajaaWTab
import Derived.Test.YtdmpbfhbjklajaaWFour
import Derived.Test.YtdmpbfhbjklajaaWQPut
import Derived.Test.YtdmpbfhbjklajaaWApart
import Derived.Test.YtdmpbfhbjklajaaWArr
import Derived.Test.YtdmpbfhbjklajaaWZeros
import Derived.Test.YtdmpbfhbjklajaaWFoot
import Derived.Test.YtdmpbfhbjklajaaWKept
import Derived.Test.YtdmpbfhbjklajaaWShare
import Derived.Test.YtdmpbfhbjklajaaWN
import Derived.Test.YtdmpbfhbjklajaaWFootNe
import Derived.Test.YtdmpbfhbjklajaaWAt
import Derived.Test.YtdmpbfhbjklajaaWEqStruct
import Derived.Test.YtdmpbfhbjklajaaWRepsOne
import Derived.Test.YtdmpbfhbjklajaaWInv
import Derived.Test.YtdmpbfhbjklajaaWInvWords
import Derived.Test.YtdmpbfhbjklajaaWGuard
import Derived.Test.YtdmpbfhbjklajaaWNEv
import Derived.Test.YtdmpbfhbjklajaaWMore

/- The document's Get in plain words. -/
section
namespace Go.Proofs.Ytdmpbfhbjklajaa.RefGet
open Go.Proofs.Ytdmpbfhbjklajaa Go.RowKit Go.Proofs.YtdmpbfhbjklajaaW.PrintWords Go.Proofs.YtdmpbfhbjklajaaW.PrintLast Go.Proofs.YtdmpbfhbjklajaaW.PrintMore Go.Proofs.Ytdmpbfhbjklajaa.PGet Go.Proofs.Ytdmpbfhbjklajaa.OctPure
set_option linter.unusedVariables false
set_option linter.unusedSimpArgs false

theorem field_ref (w : Int) : tabularyref07_Field.f w = some (decide (2 ≤ w ∧ w ≤ 12)) := by
  unfold tabularyref07_Field.f
  by_cases h : w ≥ 2
  · rw [if_pos h]; congr 1; simp [h]
  · rw [if_neg h]; congr 1; simp; omega

theorem most_ref (w : Int) (k : Nat) (hk : 20 < k) : tabularyref07_Most.f k w = some (if 2 ≤ w ∧ w ≤ 12 then 8 ^ (w - 1).toNat - 1 else -1) := by
  refine at_rounds (tabularyref07_Most.mono w) (k := 20) (by omega) ?_
  by_cases h : 2 ≤ w ∧ w ≤ 12
  · have : w = 2 ∨ w = 3 ∨ w = 4 ∨ w = 5 ∨ w = 6 ∨ w = 7 ∨ w = 8 ∨ w = 9 ∨ w = 10 ∨ w = 11 ∨ w = 12 := by omega
    rcases this with rfl | rfl | rfl | rfl | rfl | rfl | rfl | rfl | rfl | rfl | rfl <;> decide +kernel
  · unfold tabularyref07_Most.f
    rw [field_ref, if_neg h]
    simp only [Option.bind_some]
    rw [if_neg (by simpa using h)]

/-- c octal digits of x, by places. -/
def digr : Nat → Int → List Int
  | 0, _ => []
  | c + 1, x => (48 + x / 8 ^ c % 8) :: digr c x

theorem digr_step (c : Nat) : ∀ x, digr (c + 1) x = digr c (x / 8) ++ [48 + x % 8] := by
  induction c with
  | zero => intro x; simp [digr]
  | succ c ih =>
    intro x
    rw [digr, ih x, digr]
    have e : x / 8 ^ (c + 1) = x / 8 / 8 ^ c := by
      rw [Int.pow_succ, Int.mul_comm, Int.ediv_ediv_of_nonneg (by decide)]
    rw [e]
    rfl

theorem digr_eq (c : Nat) : ∀ x, digr c x = digs c x := by
  induction c with
  | zero => intro x; rfl
  | succ c ih => intro x; rw [digr_step, ih, digs]

theorem pow8 (c : Nat) (h : c ≤ 12) : (8 : Int) ^ c ≤ 68719476736 ∧ (1 : Int) ≤ 8 ^ c := by
  have : c = 0 ∨ c = 1 ∨ c = 2 ∨ c = 3 ∨ c = 4 ∨ c = 5 ∨ c = 6 ∨ c = 7 ∨ c = 8 ∨ c = 9 ∨ c = 10 ∨ c = 11 ∨ c = 12 := by omega
  rcases this with rfl | rfl | rfl | rfl | rfl | rfl | rfl | rfl | rfl | rfl | rfl | rfl | rfl <;> decide

theorem plain_step (k : Nat) (n w : Int) (l : List Int) (p i : Int) (hl : l.length ≤ 100) (hw : w ≤ 1000) (h0 : 0 ≤ n) (h1 : n ≤ 9223372036854775807)
    (hp : 1 ≤ p ∧ p ≤ 68719476736) (hi : 1 ≤ i) (hiw : i < w) : tabularyref07_plain.l0 (k + 1) n w l p i =
      if p / 8 = 0 then tabularyref07_plain.l0 k n w (l ++ [48 + n / p % 8]) 1 (i + 1) else tabularyref07_plain.l0 k n w (l ++ [48 + n / p % 8]) (p / 8) (i + 1) := by
  have hq0 : 0 ≤ n / p := Int.ediv_nonneg h0 (by omega)
  have hq1 : n / p ≤ n := Int.ediv_le_self _ h0
  generalize hq : n / p = q at *
  have t1 : wrap64 (Int.tdiv n p) = q := by rw [Int.tdiv_eq_ediv_of_nonneg h0, hq, w64 ⟨by omega, by omega⟩]
  have t2 : wrap64 (Int.tdiv p 8) = p / 8 := by rw [Int.tdiv_eq_ediv_of_nonneg (by omega), w64 ⟨by omega, by omega⟩]
  have t3 : wrap64 (i + 1) = i + 1 := w64 ⟨by omega, by omega⟩
  have t4 : wrap64 (48 + q % 8) = 48 + q % 8 := w64 ⟨by omega, by omega⟩
  have t5 : (48 + q % 8) % 256 = 48 + q % 8 := by omega
  simp only [tabularyref07_plain.l0]
  rw [if_pos hiw, if_neg (show ¬ p = 0 by omega), if_pos (show l.length < 140737488355328 by omega)]
  simp only [Option.bind_some]
  rw [t1, t2, t3, Int.tmod_eq_emod_of_nonneg hq0, t4, t5]

theorem plain_l0 (c : Nat) : ∀ (k : Nat) (n w : Int) (l : List Int) (u i : Int), c < k → c ≤ 12 → l.length + c ≤ 100 → w ≤ 1000 → 0 ≤ n → n ≤ 9223372036854775807 →
    w - i = c → (1 ≤ i) → (c = 0 ∨ u = 8 ^ (c - 1)) → tabularyref07_plain.l0 k n w l u i = some (l ++ digr c n ++ [0]) := by
  induction c with
  | zero =>
    intro k n w l u i hk hc hl hw h0 h1 hi hi1 hu
    obtain ⟨k, rfl⟩ : ∃ m, k = m + 1 := ⟨k - 1, by omega⟩
    simp only [tabularyref07_plain.l0]
    rw [if_neg (show ¬ i < w by omega), if_pos (show l.length < 140737488355328 by omega)]
    simp [digr]
  | succ c ih =>
    intro k n w l u i hk hc hl hw h0 h1 hi hi1 hu
    obtain ⟨k, rfl⟩ : ∃ m, k = m + 1 := ⟨k - 1, by omega⟩
    have hu' : u = 8 ^ c := by rcases hu with h | h; omega; simpa using h
    subst hu'
    have hp := pow8 c (by omega)
    rw [plain_step k n w l _ i (by omega) hw h0 h1 ⟨hp.2, hp.1⟩ hi1 (by omega)]
    have hlen : (l ++ [48 + n / 8 ^ c % 8]).length = l.length + 1 := by simp
    have hd : l ++ [48 + n / 8 ^ c % 8] ++ digr c n ++ [0] = l ++ digr (c + 1) n ++ [0] := by simp [digr]
    generalize l ++ [48 + n / 8 ^ c % 8] = l' at *
    rw [← hd]
    clear hd
    cases c with
    | zero =>
      rw [if_pos (by decide)]
      exact ih k n w l' _ _ (by omega) (by omega) (by omega) hw h0 h1 (by omega) (by omega) (.inl rfl)
    | succ b =>
      have hb := pow8 b (by omega)
      have e3 : (8 : Int) ^ (b + 1) / 8 = 8 ^ b := by rw [Int.pow_succ]; exact Int.mul_ediv_cancel _ (by decide)
      rw [e3, if_neg (by omega)]
      exact ih k n w l' _ _ (by omega) (by omega) (by omega) hw h0 h1 (by omega) (by omega) (.inr rfl)

/-- c bytes of x, the lowest first. -/
def lows : Nat → Int → List Int
  | 0, _ => []
  | c + 1, x => x % 256 :: lows c (x / 256)

theorem lows_length (c : Nat) : ∀ x, (lows c x).length = c := by
  induction c with
  | zero => intro x; rfl
  | succ c ih => intro x; simp [lows, ih]

theorem lows_rev (c : Nat) : ∀ x, (lows c x).reverse = byts c x := by
  induction c with
  | zero => intro x; rfl
  | succ c ih => intro x; simp [lows, byts, ih]

theorem rput_l1 (c : Nat) : ∀ (k : Nat) (s l : List Int), c < k → c ≤ s.length → s.length ≤ 1000 → l.length + c ≤ 1000 →
    tabularyref07_Put.l1 k s l ((c : Int) - 1) = some (l ++ (s.take c).reverse, 0) := by
  induction c with
  | zero =>
    intro k s l hk hs hs1 hl
    obtain ⟨k, rfl⟩ : ∃ m, k = m + 1 := ⟨k - 1, by omega⟩
    simp only [tabularyref07_Put.l1]
    rw [if_neg (by omega)]
    simp
  | succ c ih =>
    intro k s l hk hs hs1 hl
    obtain ⟨k, rfl⟩ : ∃ m, k = m + 1 := ⟨k - 1, by omega⟩
    simp only [tabularyref07_Put.l1]
    have e : ((c + 1 : Nat) : Int) - 1 = (c : Int) := by omega
    have hr : rd s (c : Int) = s[c]'(by omega) := by unfold rd; simp [List.getD_eq_getElem?_getD, List.getElem?_eq_getElem (show c < s.length by omega)]
    have t1 : wrap64 ((c : Int) - 1) = c - 1 := w64 ⟨by omega, by omega⟩
    rw [e, if_pos (by omega), if_pos (by omega), if_pos (by omega), if_pos (by omega), t1, ih k _ _ (by omega) (by omega) hs1 (by simp; omega), hr, List.take_succ_eq_append_getElem (show c < s.length by omega), List.reverse_append]
    simp

theorem rput_l0 (c : Nat) : ∀ (k : Nat) (x w : Int) (l : List Int) (i : Int), c + 20 < k → l.length + c ≤ 12 → w ≤ 1000 → 0 ≤ x → x ≤ 9223372036854775807 → w - i = c → 1 ≤ i →
    tabularyref07_Put.l0 k x w l i = if left c x = 0 then some (128 :: (l ++ lows c x).reverse, 0) else some ([], 2) := by
  induction c with
  | zero =>
    intro k x w l i hk hl hw h0 h1 hi hi1
    obtain ⟨k, rfl⟩ : ∃ m, k = m + 1 := ⟨k - 1, by omega⟩
    simp only [tabularyref07_Put.l0]
    rw [if_neg (by omega)]
    have hleft : left 0 x = x := rfl
    rw [hleft, lows]
    by_cases hx : x = 0
    · rw [if_neg (show ¬ x > 0 by omega), if_pos hx, w64 ⟨by omega, by omega⟩, rput_l1 l.length k l _ (by omega) (by omega) (by omega) (by simp; omega)]
      simp
    · rw [if_pos (by omega), if_neg hx]
  | succ c ih =>
    intro k x w l i hk hl hw h0 h1 hi hi1
    obtain ⟨k, rfl⟩ : ∃ m, k = m + 1 := ⟨k - 1, by omega⟩
    simp only [tabularyref07_Put.l0]
    have t1 : wrap64 (x / 256) = x / 256 := w64 (by omega)
    have t3 : wrap64 (i + 1) = i + 1 := w64 (by omega)
    rw [if_pos (by omega), if_pos (by omega), Int.tdiv_eq_ediv_of_nonneg h0, Int.tmod_eq_emod_of_nonneg h0, t1, t3,
      ih k _ w _ _ (by omega) (by simp; omega) hw (by omega) (by omega) (by omega) (by omega)]
    have e : x % 256 % 256 = x % 256 := by omega
    rw [e]
    simp [left, lows]

theorem rput (n w : Int) (hn : -9223372036854775808 ≤ n ∧ n ≤ 9223372036854775807) (k : Nat) (hk : 60 < k) : tabularyref07_Put.f k n w = some (putS n w) := by
  obtain ⟨k, rfl⟩ : ∃ m, k = m + 1 := ⟨k - 1, by omega⟩
  unfold tabularyref07_Put.f putS
  rw [field_ref]
  simp only [Option.bind_some]
  by_cases hw : 2 ≤ w ∧ w ≤ 12
  · rw [if_pos (by simpa using hw)]
    simp only [tabularyref07_Put.j0]
    by_cases h0 : 0 ≤ n
    · rw [if_neg (by simp; omega), if_pos ⟨hw.1, hw.2, h0⟩, most_ref w k (by omega), if_pos hw]
      simp only [Option.bind_some]
      obtain ⟨m, hm⟩ : ∃ m : Nat, w = m + 1 := ⟨(w - 1).toNat, by omega⟩
      have hm1 : (w - 1).toNat = m := by omega
      rw [hm1]
      by_cases h2 : n ≤ 8 ^ m - 1
      · rw [if_pos h2, if_pos h2]
        unfold tabularyref07_plain.f
        rw [most_ref w k (by omega), if_pos hw, hm1]
        simp only [Option.bind_some]
        have hp := pow8 m (by omega)
        obtain ⟨b, rfl⟩ : ∃ b, m = b + 1 := ⟨m - 1, by omega⟩
        have hb := pow8 b (by omega)
        have e3 : wrap64 (Int.tdiv (wrap64 ((8 : Int) ^ (b + 1) - 1 + 1)) 8) = 8 ^ b := by
          have e : (8 : Int) ^ (b + 1) - 1 + 1 = 8 ^ b * 8 := by rw [Int.pow_succ]; omega
          have t1 : wrap64 ((8 : Int) ^ b * 8) = 8 ^ b * 8 := w64 ⟨by omega, by omega⟩
          rw [e, t1, Int.tdiv_eq_ediv_of_nonneg (by omega), Int.mul_ediv_cancel _ (by decide), w64 ⟨by omega, by omega⟩]
        rw [e3, plain_l0 (b + 1) k n w [] _ _ (by omega) (by omega) (by simp; omega) (by omega) h0 hn.2 (by omega) (by omega) (.inr (by simp)), digr_eq]
        simp
      · rw [if_neg h2, if_neg h2, rput_l0 m k n w [] 1 (by omega) (by simp; omega) (by omega) h0 hn.2 (by omega) (by omega)]
        simp [lows_rev]
        split <;> rfl
    · rw [if_pos (by simp; omega), if_neg (by omega)]
  · rw [if_neg (by simpa using hw), if_neg (by omega)]
    simp only [tabularyref07_Put.j0, if_true]

theorem drop_step {l : List Int} {i : Nat} {c : Int} {r : List Int} (hd : l.drop i = c :: r) : ∃ h : i < l.length, l[i] = c ∧ l.drop (i + 1) = r := by
  have hlt : i < l.length := by have := congrArg List.length hd; simp at this; omega
  refine ⟨hlt, ?_, ?_⟩
  · rw [List.drop_eq_getElem_cons hlt] at hd; injection hd
  · rw [List.drop_eq_getElem_cons hlt] at hd; injection hd

theorem rget_l2 (r : List Int) : ∀ (k : Nat) (n : Int) (l : List Int) (i : Nat), r.length < k → l.length ≤ 12 → l.drop i = r → i ≤ l.length →
    tabularyref07_Get.l2 k l (i : Int) n = some (scanS r n false false i) := by
  induction r with
  | nil =>
    intro k n l i hk hl hd hi
    obtain ⟨k, rfl⟩ : ∃ m, k = m + 1 := ⟨k - 1, by omega⟩
    have : l.length ≤ i := by have := congrArg List.length hd; simp at this; omega
    simp only [tabularyref07_Get.l2]
    rw [if_neg (by omega)]
    rfl
  | cons c r ih =>
    intro k n l i hk hl hd hi
    simp only [List.length_cons] at hk
    obtain ⟨k, rfl⟩ : ∃ m, k = m + 1 := ⟨k - 1, by omega⟩
    obtain ⟨hlt, hc, hr⟩ := drop_step hd
    have hw : wrap64 ((i : Int) + 1) = ((i + 1 : Nat) : Int) := by rw [w64 ⟨by omega, by omega⟩]; omega
    have hcast : ((i : Int) + 1) = ((i + 1 : Nat) : Int) := by omega
    simp only [tabularyref07_Get.l2]
    rw [if_pos (by omega), if_pos (by omega), rd_at l i hlt, hc, hw]
    have hS : scanS (c :: r) n false false (i : Int) = if c = 32 ∨ c = 0 then scanS r n false false ((i + 1 : Nat) : Int) else (0, (i : Int), 70) := by
      simp only [scanS]
      rw [if_neg (show ¬ (c = 32 ∧ false = true) by simp), if_neg (show ¬ (48 ≤ c ∧ c ≤ 55 ∧ false = true) by simp), hcast]
    rw [hS]
    by_cases h0 : c = 0
    · rw [if_pos h0, if_pos (.inr h0)]; exact ih k n l (i + 1) (by omega) hl hr hlt
    · rw [if_neg h0]
      by_cases h32 : c = 32
      · rw [if_pos h32, if_pos (.inl h32)]; exact ih k n l (i + 1) (by omega) hl hr hlt
      · rw [if_neg h32, if_neg (by omega)]

theorem rget_l1 (r : List Int) : ∀ (k : Nat) (n : Int) (l : List Int) (i : Nat), 2 * r.length + 3 < k → l.length ≤ 12 → AreBytes r → l.drop i = r → i ≤ l.length → 0 ≤ n → n < 8 ^ i →
    tabularyref07_Get.l1 k l (i : Int) n = some (scanS r n false true i) := by
  induction r with
  | nil =>
    intro k n l i hk hl hb hd hi h0 h1
    obtain ⟨k, rfl⟩ : ∃ m, k = m + 2 := ⟨k - 2, by omega⟩
    have : l.length ≤ i := by have := congrArg List.length hd; simp at this; omega
    simp only [tabularyref07_Get.l1, tabularyref07_Get.j3]
    rw [if_neg (by omega), rget_l2 [] k n l i (by simp at hk ⊢; omega) hl hd hi]
    rfl
  | cons c r ih =>
    intro k n l i hk hl hb hd hi h0 h1
    simp only [List.length_cons] at hk
    obtain ⟨k, rfl⟩ : ∃ m, k = m + 2 := ⟨k - 2, by omega⟩
    obtain ⟨hlt, hc, hr⟩ := drop_step hd
    have hcb := hb c (by simp)
    have hbr : AreBytes r := fun x hx => hb x (by simp [hx])
    have hw : wrap64 ((i : Int) + 1) = ((i + 1 : Nat) : Int) := by rw [w64 ⟨by omega, by omega⟩]; omega
    have hcast : ((i : Int) + 1) = ((i + 1 : Nat) : Int) := by omega
    have hp := pow8_le i (by omega)
    have hp1 : (8 : Int) ^ (i + 1) = 8 ^ i * 8 := by rw [Int.pow_succ]
    have e1 : wrap64 (8 * n) = 8 * n := w64 ⟨by omega, by omega⟩
    have e2 : wrap64 c = c := w64 ⟨by omega, by omega⟩
    have e3 : wrap64 (8 * n + c) = 8 * n + c := w64 ⟨by omega, by omega⟩
    have e4 : wrap64 (8 * n + c - 48) = n * 8 + (c - 48) := by rw [w64 ⟨by omega, by omega⟩]; omega
    simp only [tabularyref07_Get.l1, tabularyref07_Get.j3]
    rw [if_pos (by omega), if_pos (by omega), rd_at l i hlt, hc, hw, e1, e2, e3, e4]
    have hj : ¬ (48 ≤ c ∧ c ≤ 55) → tabularyref07_Get.l2 k l (i : Int) n = some (scanS (c :: r) n false true (i : Int)) := by
      intro hnd
      rw [rget_l2 (c :: r) k n l i (by simp; omega) hl hd hi]
      simp only [scanS]
      rw [if_neg (show ¬ (c = 32 ∧ false = true) by simp), if_neg (show ¬ (48 ≤ c ∧ c ≤ 55 ∧ false = true) by simp), if_neg (show ¬ (c = 32 ∧ false = true) by simp), if_neg (show ¬ (48 ≤ c ∧ c ≤ 55 ∧ True) by simpa using hnd)]
    by_cases h48 : c ≥ 48
    · rw [if_pos h48]
      by_cases h55 : c ≤ 55
      · rw [if_pos h55]
        have hS : scanS (c :: r) n false true (i : Int) = scanS r (n * 8 + (c - 48)) false true ((i + 1 : Nat) : Int) := by
          simp only [scanS]
          rw [if_neg (show ¬ (c = 32 ∧ false = true) by simp), if_pos (show 48 ≤ c ∧ c ≤ 55 ∧ True from ⟨h48, h55, trivial⟩), hcast]
        rw [hS]
        exact ih (k + 1) _ l (i + 1) (by omega) hl hbr hr hlt (by omega) (by omega)
      · rw [if_neg h55]; exact hj (by omega)
    · rw [if_neg h48]; exact hj (by omega)

theorem scanS_true (r : List Int) (n : Int) (i : Int) (h : ∀ c t, r = c :: t → c ≠ 32) : scanS r n true true i = scanS r n false true i := by
  cases r with
  | nil => rfl
  | cons c t =>
    have hc := h c t rfl
    simp only [scanS]
    rw [if_neg (show ¬ (c = 32 ∧ True) from fun x => hc x.1), if_neg (show ¬ (c = 32 ∧ false = true) by simp)]

theorem rget_l0 (r : List Int) : ∀ (k : Nat) (l : List Int) (i : Nat), 3 * r.length + 6 < k → l.length ≤ 12 → AreBytes r → l.drop i = r → i ≤ l.length →
    tabularyref07_Get.l0 k l (i : Int) = some (scanS r 0 true true i) := by
  induction r with
  | nil =>
    intro k l i hk hl hb hd hi
    obtain ⟨k, rfl⟩ : ∃ m, k = m + 2 := ⟨k - 2, by omega⟩
    have : l.length ≤ i := by have := congrArg List.length hd; simp at this; omega
    have hp := pow8_le i (by omega)
    simp only [tabularyref07_Get.l0, tabularyref07_Get.j1]
    rw [if_neg (by omega), rget_l1 [] k 0 l i (by simp at hk ⊢; omega) hl hb hd hi (by omega) (by omega)]
    rfl
  | cons c r ih =>
    intro k l i hk hl hb hd hi
    simp only [List.length_cons] at hk
    obtain ⟨k, rfl⟩ : ∃ m, k = m + 2 := ⟨k - 2, by omega⟩
    obtain ⟨hlt, hc, hr⟩ := drop_step hd
    have hw : wrap64 ((i : Int) + 1) = ((i + 1 : Nat) : Int) := by rw [w64 ⟨by omega, by omega⟩]; omega
    have hcast : ((i : Int) + 1) = ((i + 1 : Nat) : Int) := by omega
    have hp := pow8_le i (by omega)
    simp only [tabularyref07_Get.l0, tabularyref07_Get.j1]
    rw [if_pos (by omega), if_pos (by omega), rd_at l i hlt, hc, hw]
    by_cases h32 : c = 32
    · rw [if_pos h32]
      have hS : scanS (c :: r) 0 true true (i : Int) = scanS r 0 true true ((i + 1 : Nat) : Int) := by
        simp only [scanS]
        rw [if_pos (show c = 32 ∧ True from ⟨h32, trivial⟩), hcast]
      rw [hS]
      exact ih (k + 1) l (i + 1) (by omega) hl (fun x hx => hb x (by simp [hx])) hr hlt
    · rw [if_neg h32, rget_l1 (c :: r) k 0 l i (by simp; omega) hl hb hd hi (by omega) (by omega), scanS_true (c :: r) 0 i (fun c' t h => by injection h with h1; rw [← h1]; exact h32)]

theorem rown_l0 (r : List Int) : ∀ (k : Nat) (n : Int) (l : List Int) (i : Nat), r.length < k → l.length ≤ 1000 → AreBytes r → l.drop i = r → i ≤ l.length → 0 ≤ n → n ≤ 9223372036854775807 →
    tabularyref07_own.l0 k l n (i : Int) = some (match ownS r n with | some m => (m, true) | none => (0, false)) := by
  induction r with
  | nil =>
    intro k n l i hk hl hb hd hi h0 h1
    obtain ⟨k, rfl⟩ : ∃ m, k = m + 1 := ⟨k - 1, by omega⟩
    have : l.length ≤ i := by have := congrArg List.length hd; simp at this; omega
    simp only [tabularyref07_own.l0]
    rw [if_neg (by omega)]
    rfl
  | cons c r ih =>
    intro k n l i hk hl hb hd hi h0 h1
    simp only [List.length_cons] at hk
    obtain ⟨k, rfl⟩ : ∃ m, k = m + 1 := ⟨k - 1, by omega⟩
    obtain ⟨hlt, hc, hr⟩ := drop_step hd
    have hcb := hb c (by simp)
    have hw : wrap64 ((i : Int) + 1) = ((i + 1 : Nat) : Int) := by rw [w64 ⟨by omega, by omega⟩]; omega
    have e2 : wrap64 c = c := w64 ⟨by omega, by omega⟩
    have e3 : wrap64 (9223372036854775807 - c) = 9223372036854775807 - c := w64 ⟨by omega, by omega⟩
    have e4 : wrap64 ((9223372036854775807 - c) / 256) = 36028797018963967 := by rw [w64 ⟨by omega, by omega⟩]; omega
    simp only [tabularyref07_own.l0]
    rw [if_pos (by omega), if_pos (by omega), rd_at l i hlt, hc, hw, e2, e3, Int.tdiv_eq_ediv_of_nonneg (by omega), e4]
    by_cases h : n ≥ 36028797018963968
    · rw [if_pos (by omega)]; simp only [ownS]; rw [if_pos h]
    · rw [if_neg (by omega)]
      simp only [ownS]
      have e5 : wrap64 (256 * n) = n * 256 := by rw [w64 ⟨by omega, by omega⟩]; omega
      have e6 : wrap64 (n * 256 + c) = n * 256 + c := w64 ⟨by omega, by omega⟩
      rw [if_neg h, e5, e6]
      exact ih k _ l (i + 1) (by omega) hl (fun x hx => hb x (by simp [hx])) hr hlt (by omega) (by omega)

theorem rget (l : List Int) (hb : AreBytes l) (k : Nat) (hk : 60 < k) : tabularyref07_Get.f k l = some (getS l) := by
  unfold tabularyref07_Get.f getS
  rw [field_ref]
  simp only [Option.bind_some]
  by_cases h : 2 ≤ l.length ∧ l.length ≤ 12
  · rw [if_pos (by simp; omega), if_pos h, if_pos (by omega)]
    by_cases h1 : rd l 0 = 128
    · rw [if_pos h1, if_pos h1, if_pos (by omega)]
      unfold tabularyref07_own.f
      have := rown_l0 (l.drop 1) k 0 (l.drop 1) 0 (by simp; omega) (by simp; omega) (fun x hx => hb x (List.mem_of_mem_drop hx)) rfl (by omega) (by omega) (by omega)
      have e : ((0 : Nat) : Int) = 0 := rfl
      rw [e] at this
      rw [this]
      simp only [Option.bind_some]
      cases ownS (l.drop 1) 0 with
      | none => rfl
      | some m => rfl
    · rw [if_neg h1, if_neg h1]
      exact rget_l0 l k l 0 (by omega) h.2 hb rfl (by omega)
  · rw [if_neg (by simp; omega), if_neg h]

theorem rexact (l : List Int) (hb : AreBytes l) (k : Nat) (hk : 100 < k) : tabularyref07_Exact.f k l = some (exactS l) := by
  unfold tabularyref07_Exact.f exactS
  rw [rget l hb k (by omega)]
  simp only [Option.bind_some]
  have hr := getS_range l hb
  by_cases h : (getS l).2.2 = 0
  · rw [if_pos h, if_pos h, rput _ _ ⟨by omega, hr.2⟩ k (by omega)]
    simp only [Option.bind_some]
    by_cases h2 : (putS (getS l).1 l.length).2 = 0
    · rw [if_pos h2]
      by_cases h3 : (putS (getS l).1 l.length).1 = l
      · rw [if_pos ((strOfNums_inj _ _ (putS_bytes _ _) hb).2 h3), if_pos ⟨h2, h3⟩]
      · rw [if_neg (fun h => h3 ((strOfNums_inj _ _ (putS_bytes _ _) hb).1 h)), if_neg (fun h => h3 h.2)]
    · rw [if_neg h2, if_neg (fun h => h2 h.1)]
  · rw [if_neg h, if_neg h]

end Go.Proofs.Ytdmpbfhbjklajaa.RefGet
end

/- The document's Get answers as the Go program's. -/
section
namespace Go.Proofs.Ytdmpbfhbjklajaa.RefGetC
open Go.Proofs.Ytdmpbfhbjklajaa Go.RowKit Go.Proofs.YtdmpbfhbjklajaaW.PrintWords Go.Proofs.YtdmpbfhbjklajaaW.PrintLast Go.Proofs.YtdmpbfhbjklajaaW.PrintMore Go.Proofs.Ytdmpbfhbjklajaa.Byt Go.Proofs.Ytdmpbfhbjklajaa.OctPure Go.Proofs.Ytdmpbfhbjklajaa.Img Go.Proofs.Ytdmpbfhbjklajaa.Head Go.Proofs.Ytdmpbfhbjklajaa.HeadPut Go.Proofs.Ytdmpbfhbjklajaa.HeadSums Go.Proofs.Ytdmpbfhbjklajaa.HText Go.Proofs.Ytdmpbfhbjklajaa.HGetC Go.Proofs.Ytdmpbfhbjklajaa.PGet
set_option linter.unusedVariables false
set_option linter.unusedSimpArgs false
theorem cut_part (l : List Int) (a b n : Nat) (h : b - a = n) : (l.take b).drop a = HGet.part l a n := by
  subst h
  unfold HGet.part
  rw [List.drop_take]
theorem cut_part0 (l : List Int) (n : Nat) : l.take n = HGet.part l 0 n := rfl
theorem j0_eq (l : List Int) (hA : AreB l) (k : Nat) (m s t : Int) (b : Bool) (n p : ByteArray) (y : Int) (x : ByteArray) (hy : 0 ≤ y ∧ y ≤ 255) (hL : AreB (layS n p m s t y x)) :
    tabularyref10_Get.j0 (k + 1) l m s t b n p 0 0 0 y x = some (if b = true then (⟨#[]⟩, ⟨#[]⟩, 0, 0, 0, 0, ⟨#[]⟩, 100) else if mayS n p m s t y x = 0 ∧ layS n p m s t y x = l then (n, p, m, s, t, y, x, 0) else (⟨#[]⟩, ⟨#[]⟩, 0, 0, 0, 0, ⟨#[]⟩, 100)) := by
  simp only [tabularyref10_Get.j0]
  cases b
  · rw [if_neg (by decide), if_neg (by decide)]
    have hp : tabularyref10_Put.f n p m s t y x = some (if mayS n p m s t y x = 0 then (layS n p m s t y x, 0) else ([], mayS n p m s t y x)) := by
      show RefPlug.rputF n p m s t y x = _
      unfold RefPlug.rputF
      rw [if_pos hy]
      try (split <;> rfl)
    rw [hp]
    generalize layS n p m s t y x = L at hL ⊢
    generalize mayS n p m s t y x = E
    simp only [Option.bind_some]
    by_cases h0 : E = 0
    · rw [if_pos h0]
      simp only
      rw [if_pos trivial]
      by_cases h1 : L = l
      · rw [if_pos ((strOfNums_inj L l hL hA).2 h1), if_pos ⟨h0, h1⟩]
      · rw [if_neg (fun h => h1 ((strOfNums_inj L l hL hA).1 h)), if_neg (fun h => h1 h.2)]
    · rw [if_neg h0]
      simp only
      rw [if_neg h0, if_neg (fun h => h0 h.1)]
  · rw [if_pos rfl, if_pos rfl]
theorem rget_eq (l : List Int) (hA : AreB l) (k : Nat) (hk : 200 < k) : tabularyref10_Get.f k l = getF l := by
  obtain ⟨k, rfl⟩ : ∃ m, k = m + 1 := ⟨k - 1, by omega⟩
  have hB := bytes_of_mem hA
  unfold tabularyref10_Get.f getF
  rw [if_pos hA]
  by_cases hl : l.length = 512
  · have pA : ∀ o n, AreB (HGet.part l o n) := fun o n => mem_of_bytes (HGet.part_bytes hB o n)
    rw [if_pos (by omega), if_pos (by decide), if_pos (by omega), if_pos hl, cut_part l 257 265 8 rfl]
    have e : (strOfNums MAGIC).toList = ([117, 115, 116, 97, 114, 0, 48, 48] : List UInt8) := by decide +kernel
    have hbm : AreBytes MAGIC := by unfold AreBytes; decide
    rw [← e]
    by_cases hM : HGet.part l 257 8 = MAGIC
    · rw [if_pos ((strOfNums_inj _ _ (pA _ _) hbm).2 hM), if_pos hM]
      have hs : tabularyref10_Seal.f l = some (sealS l) := by
        show RefPlug.rsealF l = _
        unfold RefPlug.rsealF
        rw [if_pos ⟨hA, hl⟩]
      rw [hs]
      simp only [Option.bind_some]
      have hsA : AreB (sealS l) := mem_of_bytes (seal_ok ⟨hl, hB⟩).2
      by_cases hS : sealS l = l
      · rw [if_pos ((strOfNums_inj _ _ hsA hA).2 hS), if_pos hS, if_pos (by omega), cut_part0 l 100, cut_part l 157 257 100 rfl, cut_part l 345 500 155 rfl, cut_part l 100 108 8 rfl, cut_part l 124 136 12 rfl, cut_part l 136 148 12 rfl]
        have f1 : ∀ q : List Int, tabularyref10_first.f q = some (firstS q) := fun q => rfl
        rw [f1]
        simp only [Option.bind_some]
        rw [if_pos (by omega), if_pos (by decide), if_pos (by omega), f1]
        simp only [Option.bind_some]
        rw [if_pos (by decide), if_pos (by omega), f1]
        simp only [Option.bind_some]
        rw [if_pos (by decide), if_pos (by omega), RefGet.rexact _ (pA _ _) (k + 1) (by omega)]
        simp only [Option.bind_some]
        rw [if_pos (by decide), if_pos (by omega), RefGet.rexact _ (pA _ _) (k + 1) (by omega)]
        simp only [Option.bind_some]
        rw [if_pos (by decide), if_pos (by omega), RefGet.rexact _ (pA _ _) (k + 1) (by omega)]
        simp only [Option.bind_some]
        have hy := hB 156
        rw [show rd l 156 = bn l 156 from rfl]
        generalize bn l 156 = y at hy ⊢
        generalize firstS (HGet.part l 0 100) = n
        generalize firstS (HGet.part l 345 155) = p
        generalize firstS (HGet.part l 157 100) = x
        generalize exactS (HGet.part l 100 8) = q1
        generalize exactS (HGet.part l 124 12) = q2
        generalize exactS (HGet.part l 136 12) = q3
        have hL : ∀ a b c, AreB (layS n p a b c y x) := fun a b c => mem_of_bytes (seal_ok (body_ok n p a b c y x hy)).2
        rw [j0_eq l hA k q1.1 q2.1 q3.1 _ n p y x hy (hL _ _ _), j0_eq l hA k q1.1 q2.1 q3.1 _ n p y x hy (hL _ _ _)]
        by_cases a1 : q1.2 = 0
        · by_cases a2 : q2.2 = 0
          · by_cases a3 : q3.2 = 0
            · rw [if_pos a1, if_pos a2, if_neg (show ¬ (q3.2 != 0) = true by rw [a3]; decide), if_pos (show q1.2 = 0 ∧ q2.2 = 0 ∧ q3.2 = 0 from ⟨a1, a2, a3⟩)]
            · rw [if_pos a1, if_pos a2, if_pos (show (q3.2 != 0) = true by simpa using a3), if_neg (show ¬ (q1.2 = 0 ∧ q2.2 = 0 ∧ q3.2 = 0) from fun h => a3 h.2.2)]
          · rw [if_pos a1, if_neg a2, if_pos rfl, if_neg (show ¬ (q1.2 = 0 ∧ q2.2 = 0 ∧ q3.2 = 0) from fun h => a2 h.2.1)]
        · rw [if_neg a1, if_pos rfl, if_neg (show ¬ (q1.2 = 0 ∧ q2.2 = 0 ∧ q3.2 = 0) from fun h => a1 h.1)]
      · rw [if_neg (fun h => hS ((strOfNums_inj _ _ hsA hA).1 h)), if_neg hS]
    · rw [if_neg (fun h => hM ((strOfNums_inj _ _ (pA _ _) hbm).1 h)), if_neg hM]
  · rw [if_neg (by omega), if_neg hl]
theorem rget_calls (A0 : Option Addr) (c0 : Nat) (l0 : List Int) (r1 r2 : ByteArray) (r3 r4 r5 r6 : Int) (r7 : ByteArray) (r8 : Int) (w : World) (hr0 : Kd.C (Kd.int .u8) w A0 l0.length l0) (hc0 : l0.length ≤ c0) (h : getF l0 = some (r1, r2, r3, r4, r5, r6, r7, r8)) :
    Calls Try.prog 26 #[.slice A0 l0.length c0] w fun e w' => e = .returned (.tuple #[.agg #[.string r1, .string r2, .int .i64 r3, .int .i64 r4, .int .i64 r5, .int .u8 r6, .string r7], .int .i64 r8]) ∧ Below w.heap.size w w' := by
  have hA : AreB l0 := by
    unfold getF at h
    by_cases q : AreB l0
    · exact q
    · rw [if_neg q] at h; cases h
  exact tabularyref10_Get.calls 1000 A0 c0 l0 r1 r2 r3 r4 r5 r6 r7 r8 w hr0 hc0 ((rget_eq l0 hA 1000 (by decide)).trans h)
end Go.Proofs.Ytdmpbfhbjklajaa.RefGetC
end

/- HeadSums walked: sums, seals and blanks of any bytes, and of a head's with some turned, are the document's. -/
section
namespace Go.Proofs.Ytdmpbfhbjklajaa.WalkHeadSums
open Go.Proofs.Ytdmpbfhbjklajaa Go.RowKit Go.Proofs.YtdmpbfhbjklajaaW.PrintWords Go.Proofs.YtdmpbfhbjklajaaW.PrintLast Go.Proofs.YtdmpbfhbjklajaaW.PrintMore Go.Proofs.Ytdmpbfhbjklajaa.Byt Go.Proofs.Ytdmpbfhbjklajaa.OctPure Go.Proofs.Ytdmpbfhbjklajaa.Img Go.Proofs.Ytdmpbfhbjklajaa.Head Go.Proofs.Ytdmpbfhbjklajaa.HeadPut Go.Proofs.Ytdmpbfhbjklajaa.HeadSums Go.Proofs.Ytdmpbfhbjklajaa.RefPlug Go.Proofs.Ytdmpbfhbjklajaa.Turned
set_option linter.unusedVariables false
set_option linter.unusedSimpArgs false
theorem make512 : ∀ w : World, (Instr.makeSlice TB (.int .i64 512) (.int .i64 512)).run Try.prog w = .ok (.slice (some ⟨w.heap.size, 0, none⟩) 512 512) (w.alloc (.cells ZV 5 (0, 0))) := fun w => by
  have e : (madeCells #[.int .u8 0] (512 : Nat)) = ZV := by kernel_rfl
  have h := print_make (P := Try.prog) TB 5 .u8 1 Try.underlying22 Byt.info5 (by decide) 512 (by decide) w
  rw [e] at h
  exact h
theorem zeros_C (w : World) : Kd.C (Kd.int .u8) (w.alloc (.cells ZV 5 (0, 0))) (some ⟨w.heap.size, 0, none⟩) Z512.length Z512 := by
  refine RC.to_C ?_ (by rw [z_ok.1]; decide)
  exact RC.row (g := w.heap.size) (rest := #[]) (t := 5) (fr := (0, 0)) (by rw [Array.append_empty]; exact blk_new _ _)
theorem zeros_blank : blankF Z512 = some true := by
  unfold blankF
  rw [if_pos (show AreB Z512 from mem_of_bytes z_ok.2)]
  exact congrArg some (beq_iff_eq.mpr rfl)
theorem blank_zeros (g : Nat) (w : World) (hg : w.heap.size = g) : Calls Try.prog 15 #[.slice (some ⟨g, 0, none⟩) 512 512] (w.alloc (.cells ZV 5 (0, 0))) fun e w' => e = .returned (.bool true) ∧ Below (w.alloc (.cells ZV 5 (0, 0))).heap.size (w.alloc (.cells ZV 5 (0, 0))) w' := by
  subst hg
  have h := blank_calls (some ⟨w.heap.size, 0, none⟩) 512 Z512 true _ (zeros_C w) (by rw [z_ok.1]; decide) zeros_blank
  rw [z_ok.1] at h
  exact h
theorem seal_no (A0 : Option Addr) (c0 : Nat) (l0 : List Int) (w : World) (hr0 : Kd.C (Kd.int .u8) w A0 l0.length l0) (hc0 : l0.length ≤ c0) (h : sealF l0 = some ([], 1)) :
    Calls Try.prog 14 #[.slice A0 l0.length c0] w fun e w' => ∃ As cs, e = .returned (.tuple #[.slice As 0 cs, .int .i64 1]) ∧ Below w.heap.size w w' :=
  (seal_calls A0 c0 l0 [] 1 w hr0 hc0 h).mono fun e w' hh => by
    obtain ⟨v, he, hv, hb⟩ := hh
    obtain ⟨As, cs, rfl, _, _⟩ := C_of_V hv
    exact ⟨As, cs, he, hb⟩
theorem lent_at (A0 : Option Addr) (c0 : Nat) (l0 : List Int) (w : World) (hr0 : Kd.C (Kd.int .u8) w A0 l0.length l0) (hc0 : l0.length ≤ c0) (hl : l0.length ≤ 140737488351232) :
    Calls Try.prog 12 #[.slice A0 l0.length c0] w fun e w' => ∃ (Ao : Option Addr) (co : Nat), e = .returned (.slice Ao l0.length co) ∧ l0.length ≤ co ∧ Kd.C (Kd.int .u8) w' Ao l0.length l0 ∧ Kd.R (Kd.int .u8) 5 w' w.heap.size (fun _ => True) (.slice Ao (l0 ++ HLent.marks).length co) (l0 ++ HLent.marks) ∧ Below w.heap.size w w' :=
  (HLent.lent_any A0 c0 l0 w hr0 hc0 hl).mono fun e w' h => by
    obtain ⟨Ao, co, he, ho, hb⟩ := h
    have hro := Kd.R_reads' ho
    have hlen : (l0 ++ HLent.marks).length = l0.length + 2 := by simp [HLent.marks]
    have hcl := Kd.C_take (m := l0.length) hro.2.2 (by omega)
    rw [List.take_left] at hcl
    exact ⟨Ao, co, he, by have := hro.2.1; omega, hcl, ho, hb⟩
theorem bl_eq {c : List Int} (h : c.length = 512 ∨ ¬ c.length = 512) : (c == List.replicate 512 0) = decide (c.length = 512 ∧ ∀ x ∈ c, x = 0) := by
  rw [Bool.eq_iff_iff, beq_iff_eq, decide_eq_true_eq]
  constructor
  · intro e; subst e; exact ⟨List.length_replicate, fun x hx => List.eq_of_mem_replicate hx⟩
  · rintro ⟨h1, h2⟩
    rw [← h1]
    exact List.eq_replicate_iff.mpr ⟨rfl, h2⟩
set_option maxRecDepth 100000 in
set_option maxHeartbeats 4000000 in
theorem walk (A0 : Option Addr) (c0 : Nat) (l0 : List Int) (n p : ByteArray) (m s t y : Int) (k : ByteArray) (A2 : Option Addr) (c2 : Nat) (l2 : List PHeadSums.S57) (W : World)
    (h0 : Kd.C (Kd.int .u8) W A0 l0.length l0) (hc0 : l0.length ≤ c0) (hl0 : l0.length ≤ 140737488351232) (hb0 : ∀ x ∈ l0, (Lit.int .u8 x).wf = true) (hy : (Lit.int .u8 y).wf = true)
    (h2 : Kd.C PHeadSums.k57 W A2 l2.length l2) (hc2 : l2.length ≤ c2) (hl2 : l2.length ≤ 140737488351232) (hb2 : ∀ x ∈ l2, 0 ≤ x.f1 ∧ x.f1 ≤ 255) :
    Calls Try.prog 3 #[.slice A0 l0.length c0, .agg #[.string n, .string p, .int .i64 m, .int .i64 s, .int .i64 t, .int .u8 y, .string k], .slice A2 l2.length c2] W fun e w' => e = .returned (.bool true) ∧ Below W.heap.size W w' := by
  have hA0 : AreB l0 := fun x hx => RefPlug.wf8 (hb0 x hx)
  obtain ⟨c, hT, hcl, hcB⟩ := turned_some n p m s t y k (RefPlug.wf8 hy) l2 false l0 hb2 (by omega) hA0
  have HT := Lib.hid hT
  have HL := Lib.hid (show c.length ≤ 140737488351232 by
    rcases hcl with h | h
    · omega
    · rw [h]; exact hl0)
  have HSM := Lib.hid (show Psame.tabularylaw10_same.f (c.length + 1) c c = some true by rw [SameP.same_some c c _ (by omega) (by have := HL.out; omega)]; simp)
  obtain ⟨bl, hbl⟩ : ∃ bl : Bool, bl = (c == List.replicate 512 0) := ⟨_, rfl⟩
  have HB1 := Lib.hid (show blankF c = some bl by unfold blankF; rw [if_pos hcB, hbl])
  have HB2 := Lib.hid (show rblankF c = some bl by unfold rblankF; rw [if_pos (by have := HL.out; omega), ← bl_eq (Decidable.em _), hbl])
  have hbb : (bl != bl) = false := by cases bl <;> rfl
  have HZ := Lib.hid zeros_blank
  have HZL := Lib.hid z_ok.1
  have HC0 := Lib.hid h0
  have HC2 := Lib.hid h2
  have hmk := make512
  clear h0 h2 hb0 hy hT hbl hA0 hb2
  by_cases hl : c.length = 512
  · obtain ⟨SM, hSM⟩ : ∃ SM : Int, SM = sumS c 512 := ⟨_, rfl⟩
    obtain ⟨SE, hSE⟩ : ∃ SE : List Int, SE = sealS c := ⟨_, rfl⟩
    have HS1 := Lib.hid (show sumF c = some (SM, 0) by unfold sumF; rw [if_pos hcB, if_pos hl, hSM])
    have HS2 := Lib.hid (show rsumF c = some SM by unfold rsumF; rw [if_pos ⟨hcB, hl⟩, hSM])
    have HE1 := Lib.hid (show sealF c = some (SE, 0) by unfold sealF; rw [if_pos hcB, if_pos hl, hSE])
    have HE2 := Lib.hid (show rsealF c = some SE by unfold rsealF; rw [if_pos ⟨hcB, hl⟩, hSE])
    have hSL : SE.length = 512 := by rw [hSE]; exact (seal_ok ⟨hl, bytes_of_mem hcB⟩).1
    have HSS := Lib.hid (show Psame.tabularylaw10_same.f 513 SE SE = some true by rw [SameP.same_some SE SE _ (by omega) (by omega)]; simp)
    have hll : ((c.length : Int) != 512) = false := by simp; omega
    have hsm : (SM == SM) = true := beq_self_eq_true SM
    clear hSM hSE hSL hl hcl hcB
    go_enter Try.func3, Try.ntmps3
    go_wp2_with (first
      | ((with_reducible refine gate_dst (N := 13) rfl ?_); refine wpList_load_row rfl TH (.tmp 4) rfl W.heap.size rfl TH _ (0, 0) _ (blk_new W _) Try.underlying24 rfl (by kernel_rfl) ?_)
      | (go_at_call 11; go_loud ((with_reducible refine (PHeadSums.tabularylaw10_turned.calls (l2.length + 1) n p m s t y k A2 c2 l2 false _ A0 c0 l0 c _ (Kd.C_alloc HC2.out _) hc2 (V_of_C (Kd.C_alloc HC0.out _) hc0) HT.out).mono ?_); rintro e w1 ⟨v1, rfl, hv1, hb1⟩; obtain ⟨Ac, cc, rfl, hcc, hC1⟩ := C_of_V hv1; have HW1 := Lib.hid (below_then ((Below.refl W.heap.size W).alloc (Nat.le_refl _) _) (by simp) hb1); have HC1 := Lib.hid hC1; clear hb1 hv1 hC1))
      | (go_at_call 12; go_loud ((with_reducible refine (lent_at Ac cc c _ HC1.out hcc HL.out).mono ?_); rintro e w2 ⟨Ao, co, rfl, hco, hCo, hRo, hb2⟩; have HW2 := Lib.hid (HW1.out.trans (hb2.mono HW1.out.size)); have HCa := Lib.hid (Kd.C_below HC1.out hb2); have HCo := Lib.hid hCo; have HRo := Lib.hid hRo; clear hb2 hCo hRo))
      | (go_at_call 13; go_loud ((with_reducible refine (sum_calls Ao co c SM 0 _ HCo.out hco HS1.out).mono ?_); rintro e w3 ⟨rfl, hb3⟩; have HW3 := Lib.hid (HW2.out.trans (hb3.mono HW2.out.size)); have HCa3 := Lib.hid (Kd.C_below HCa.out hb3); have HCo3 := Lib.hid (Kd.C_below HCo.out hb3); have HRo3 := Lib.hid (Kd.R_below HRo.out hb3); clear hb3))
      | (go_at_call 14; go_loud ((with_reducible refine (seal_calls Ao co c SE 0 _ HCo3.out hco HE1.out).mono ?_); rintro e w4 ⟨v4, rfl, hv4, hb4⟩; obtain ⟨As, cs, rfl, hcs, hCs⟩ := C_of_V hv4; have HW4 := Lib.hid (HW3.out.trans (hb4.mono HW3.out.size)); have HCa4 := Lib.hid (Kd.C_below HCa3.out hb4); have HCo4 := Lib.hid (Kd.C_below HCo3.out hb4); have HRo4 := Lib.hid (Kd.R_below HRo3.out hb4); have HCs := Lib.hid hCs; clear hb4 hv4 hCs))
      | (go_at_call 15; ((with_reducible refine (blank_calls Ao co c bl _ HCo4.out hco HB1.out).mono ?_); rintro e w5 ⟨rfl, hb5⟩; have HW5 := Lib.hid (HW4.out.trans (hb5.mono HW4.out.size)); have HCa5 := Lib.hid (Kd.C_below HCa4.out hb5); have HRo5 := Lib.hid (Kd.R_below HRo4.out hb5); have HCs5 := Lib.hid (Kd.C_below HCs.out hb5); clear hb5))
      | (go_at_call 16; go_loud ((with_reducible refine (rblank_calls Ac cc c bl _ HCa5.out hcc HB2.out).mono ?_); rintro e w6 ⟨rfl, ⟨nd, rfl⟩⟩; have HW6 := Lib.hid (pw_below_drewN HW5.out nd); have HCa6 := Lib.hid (Kd.C_drewN HCa5.out nd); have HRo6 := Lib.hid (Kd.R_drewN HRo5.out nd); have HCs6 := Lib.hid (Kd.C_drewN HCs5.out nd)))
      | (go_at_call 15; go_loud ((with_reducible refine (blank_zeros _ _ (by simp)).mono ?_); rintro e w7 ⟨rfl, hb7⟩; have q7 := HW6.out.alloc HW6.out.size (.cells ZV 5 (0, 0)); have HW7 := Lib.hid (q7.trans (hb7.mono q7.size)); clear q7; have HCa7 := Lib.hid (Kd.C_below (Kd.C_alloc HCa6.out _) hb7); have HRo7 := Lib.hid (Kd.R_below (Kd.R_alloc HRo6.out _) hb7); have HCs7 := Lib.hid (Kd.C_below (Kd.C_alloc HCs6.out _) hb7); clear hb7))
      | (go_at_call 17; go_loud ((with_reducible refine (HLent.kept_any Ao co c Ac cc _ _ HRo7.out HCa7.out hcc HL.out _ HSM.out).mono ?_); rintro e w8 ⟨rfl, hb8⟩; have HW8 := Lib.hid (HW7.out.trans (hb8.mono HW7.out.size)); have HCa8 := Lib.hid (Kd.C_below HCa7.out hb8); have HCs8 := Lib.hid (Kd.C_below HCs7.out hb8); clear hb8))
      | (go_at_call 18; go_loud ((with_reducible refine (rsum_calls Ac cc c SM _ HCa8.out hcc HS2.out).mono ?_); rintro e w9 ⟨rfl, ⟨nd2, rfl⟩⟩; have HW9 := Lib.hid (pw_below_drewN HW8.out nd2); have HCa9 := Lib.hid (Kd.C_drewN HCa8.out nd2); have HCs9 := Lib.hid (Kd.C_drewN HCs8.out nd2)))
      | (go_at_call 20; go_loud ((with_reducible refine (rseal_calls Ac cc c SE _ HCa9.out hcc HE2.out).mono ?_); rintro e w10 ⟨v10, rfl, ho10, hb10⟩; obtain ⟨At, ct, rfl⟩ := Kd.R_slice ho10; have hrt := Kd.R_reads' ho10; have HW10 := Lib.hid (HW9.out.trans (hb10.mono HW9.out.size)); have HCs10 := Lib.hid (Kd.C_below HCs9.out hb10); have HCt := Lib.hid hrt.2.2; have hct := hrt.2.1; clear hb10 ho10 hrt))
      | (go_at_call 19; go_loud ((with_reducible refine (Psame.tabularylaw10_same.calls 513 As cs SE At ct SE true _ HCs10.out hcs HCt.out hct HSS.out).mono ?_); rintro e w11 ⟨rfl, ⟨nd3, rfl⟩⟩)))
    go_ret
    exact ⟨rfl, pw_below_drewN HW10.out nd3⟩
  · have HS1 := Lib.hid (show sumF c = some (0, 1) by unfold sumF; rw [if_pos hcB, if_neg hl])
    have HE1 := Lib.hid (show sealF c = some ([], 1) by unfold sealF; rw [if_pos hcB, if_neg hl])
    have hll : ((c.length : Int) != 512) = true := by simp; omega
    clear hl hcl hcB
    go_enter Try.func3, Try.ntmps3
    go_wp2_with (first
      | ((with_reducible refine gate_dst (N := 13) rfl ?_); refine wpList_load_row rfl TH (.tmp 4) rfl W.heap.size rfl TH _ (0, 0) _ (blk_new W _) Try.underlying24 rfl (by kernel_rfl) ?_)
      | (go_at_call 11; go_loud ((with_reducible refine (PHeadSums.tabularylaw10_turned.calls (l2.length + 1) n p m s t y k A2 c2 l2 false _ A0 c0 l0 c _ (Kd.C_alloc HC2.out _) hc2 (V_of_C (Kd.C_alloc HC0.out _) hc0) HT.out).mono ?_); rintro e w1 ⟨v1, rfl, hv1, hb1⟩; obtain ⟨Ac, cc, rfl, hcc, hC1⟩ := C_of_V hv1; have HW1 := Lib.hid (below_then ((Below.refl W.heap.size W).alloc (Nat.le_refl _) _) (by simp) hb1); have HC1 := Lib.hid hC1; clear hb1 hv1 hC1))
      | (go_at_call 12; go_loud ((with_reducible refine (lent_at Ac cc c _ HC1.out hcc HL.out).mono ?_); rintro e w2 ⟨Ao, co, rfl, hco, hCo, hRo, hb2⟩; have HW2 := Lib.hid (HW1.out.trans (hb2.mono HW1.out.size)); have HCa := Lib.hid (Kd.C_below HC1.out hb2); have HCo := Lib.hid hCo; have HRo := Lib.hid hRo; clear hb2 hCo hRo))
      | (go_at_call 13; go_loud ((with_reducible refine (sum_calls Ao co c 0 1 _ HCo.out hco HS1.out).mono ?_); rintro e w3 ⟨rfl, hb3⟩; have HW3 := Lib.hid (HW2.out.trans (hb3.mono HW2.out.size)); have HCa3 := Lib.hid (Kd.C_below HCa.out hb3); have HCo3 := Lib.hid (Kd.C_below HCo.out hb3); have HRo3 := Lib.hid (Kd.R_below HRo.out hb3); clear hb3))
      | (go_at_call 14; go_loud ((with_reducible refine (seal_no Ao co c _ HCo3.out hco HE1.out).mono ?_); rintro e w4 ⟨As, cs, rfl, hb4⟩; have HW4 := Lib.hid (HW3.out.trans (hb4.mono HW3.out.size)); have HCa4 := Lib.hid (Kd.C_below HCa3.out hb4); have HCo4 := Lib.hid (Kd.C_below HCo3.out hb4); have HRo4 := Lib.hid (Kd.R_below HRo3.out hb4); clear hb4))
      | (go_at_call 15; ((with_reducible refine (blank_calls Ao co c bl _ HCo4.out hco HB1.out).mono ?_); rintro e w5 ⟨rfl, hb5⟩; have HW5 := Lib.hid (HW4.out.trans (hb5.mono HW4.out.size)); have HCa5 := Lib.hid (Kd.C_below HCa4.out hb5); have HRo5 := Lib.hid (Kd.R_below HRo4.out hb5); clear hb5))
      | (go_at_call 16; go_loud ((with_reducible refine (rblank_calls Ac cc c bl _ HCa5.out hcc HB2.out).mono ?_); rintro e w6 ⟨rfl, ⟨nd, rfl⟩⟩; have HW6 := Lib.hid (pw_below_drewN HW5.out nd); have HCa6 := Lib.hid (Kd.C_drewN HCa5.out nd); have HRo6 := Lib.hid (Kd.R_drewN HRo5.out nd); ))
      | (go_at_call 15; go_loud ((with_reducible refine (blank_zeros _ _ (by simp)).mono ?_); rintro e w7 ⟨rfl, hb7⟩; have q7 := HW6.out.alloc HW6.out.size (.cells ZV 5 (0, 0)); have HW7 := Lib.hid (q7.trans (hb7.mono q7.size)); clear q7; have HCa7 := Lib.hid (Kd.C_below (Kd.C_alloc HCa6.out _) hb7); have HRo7 := Lib.hid (Kd.R_below (Kd.R_alloc HRo6.out _) hb7); clear hb7))
      | (go_at_call 17; go_loud ((with_reducible refine (HLent.kept_any Ao co c Ac cc _ _ HRo7.out HCa7.out hcc HL.out _ HSM.out).mono ?_); rintro e w8 ⟨rfl, hb8⟩; have HW8 := Lib.hid (HW7.out.trans (hb8.mono HW7.out.size)); have HCa8 := Lib.hid (Kd.C_below HCa7.out hb8); clear hb8)))
    go_ret
    exact ⟨rfl, HW8.out⟩
end Go.Proofs.Ytdmpbfhbjklajaa.WalkHeadSums
end

-- Written by wip/tools/myprint.py, a program of this session over the print tool: not a printed text of the kit's
section
namespace Go.Proofs.Ytdmpbfhbjklajaa.PHeadBack
open Go.RowKit Go.Proofs.YtdmpbfhbjklajaaW.PrintWords Go.Proofs.YtdmpbfhbjklajaaW.PrintLast Go.Proofs.YtdmpbfhbjklajaaW.PrintMore
attribute [local go_sem] max2_int min2_int max_two min_two max_three min_three max_four min_four   -- for this text's walks alone
set_option linter.unusedVariables false
set_option linter.unusedSimpArgs false
set_option maxRecDepth 20000



def errW : Option Int → Value
 | none => .nilIface
 | some c => .iface 0 (.int .i64 c)
theorem errW_none : errW none = .nilIface := rfl
theorem errW_some (c : Int) : errW (some c) = .iface 0 (.int .i64 c) := rfl

theorem info5 : (Try.prog.info? 5).map (fun i => (i.zero, i.size, i.bytes)) = some (some (.int .u8 0), 1, 1) := by kernel_rfl
-- the values' own types

end Go.Proofs.Ytdmpbfhbjklajaa.PHeadBack
end

-- Written by wip/tools/myprint.py, a program of this session over the print tool: not a printed text of the kit's
section
namespace Go.Proofs.Ytdmpbfhbjklajaa.PHeadBack
open Go.RowKit Go.Proofs.YtdmpbfhbjklajaaW.PrintWords Go.Proofs.YtdmpbfhbjklajaaW.PrintLast Go.Proofs.YtdmpbfhbjklajaaW.PrintMore
attribute [local go_sem] max2_int min2_int max_two min_two max_three min_three max_four min_four   -- for this text's walks alone
set_option linter.unusedVariables false
set_option linter.unusedSimpArgs false
set_option maxRecDepth 20000

theorem eqA24 (d : Nat) (w : World) (x0 y0 : ByteArray) (x1 y1 : ByteArray) (x2 y2 : Int) (x3 y3 : Int) (x4 y4 : Int) (x5 y5 : Int) (x6 y6 : ByteArray) :
  (Op.equalIn (d + 2) 24 (.agg #[.string x0, .string x1, .int .i64 x2, .int .i64 x3, .int .i64 x4, .int .u8 x5, .string x6]) (.agg #[.string y0, .string y1, .int .i64 y2, .int .i64 y3, .int .i64 y4, .int .u8 y5, .string y6])).run Try.prog w = .ok (x0.toList == y0.toList && (x1.toList == y1.toList && (x2 == y2 && (x3 == y3 && (x4 == y4 && (x5 == y5 && (x6.toList == y6.toList))))))) w := by
 refine eqA_of Try.underlying24 (by kernel_rfl) ?_
 refine eqf_cons (by rfl) (by go_simp; rfl) (by go_simp; rfl) (by go_simp) ?_
 refine eqf_cons (by rfl) (by go_simp; rfl) (by go_simp; rfl) (by go_simp) ?_
 refine eqf_cons (by rfl) (by go_simp; rfl) (by go_simp; rfl) (by go_simp) ?_
 refine eqf_cons (by rfl) (by go_simp; rfl) (by go_simp; rfl) (by go_simp) ?_
 refine eqf_cons (by rfl) (by go_simp; rfl) (by go_simp; rfl) (by go_simp) ?_
 refine eqf_cons (by rfl) (by go_simp; rfl) (by go_simp; rfl) (by go_simp) ?_
 exact eqf_last (by rfl) (by go_simp; rfl) (by go_simp; rfl) (by go_simp)
end Go.Proofs.Ytdmpbfhbjklajaa.PHeadBack
end

/- HeadGets walked: Get of any bytes, and of a head's with some turned, sealed or not, is the document's. -/
section
namespace Go.Proofs.Ytdmpbfhbjklajaa.WalkHeadGets
open Go.Proofs.Ytdmpbfhbjklajaa Go.RowKit Go.Proofs.YtdmpbfhbjklajaaW.PrintWords Go.Proofs.YtdmpbfhbjklajaaW.PrintLast Go.Proofs.YtdmpbfhbjklajaaW.PrintMore Go.Proofs.Ytdmpbfhbjklajaa.Byt Go.Proofs.Ytdmpbfhbjklajaa.OctPure Go.Proofs.Ytdmpbfhbjklajaa.Img Go.Proofs.Ytdmpbfhbjklajaa.Head Go.Proofs.Ytdmpbfhbjklajaa.HeadPut Go.Proofs.Ytdmpbfhbjklajaa.HeadSums Go.Proofs.Ytdmpbfhbjklajaa.RefPlug Go.Proofs.Ytdmpbfhbjklajaa.Turned Go.Proofs.Ytdmpbfhbjklajaa.HGetC
set_option linter.unusedVariables false
set_option linter.unusedSimpArgs false
attribute [local go_sem high] PHeadBack.eqA24
abbrev HV (n p : ByteArray) (m s t y : Int) (k : ByteArray) : Array Value := #[.string n, .string p, .int .i64 m, .int .i64 s, .int .i64 t, .int .u8 y, .string k]
theorem get_some {l : List Int} (hA : AreB l) : ∃ n p m s t y k e, getF l = some (n, p, m, s, t, y, k, e) := by
  unfold getF
  rw [if_pos hA]
  exact ⟨_, _, _, _, _, _, _, _, rfl⟩
set_option maxRecDepth 100000 in
set_option maxHeartbeats 8000000 in
theorem walk (A0 : Option Addr) (c0 : Nat) (l0 : List Int) (n p : ByteArray) (m s t y : Int) (k : ByteArray) (A2 : Option Addr) (c2 : Nat) (l2 : List PHeadSums.S57) (a3 : Bool) (W : World)
    (h0 : Kd.C (Kd.int .u8) W A0 l0.length l0) (hc0 : l0.length ≤ c0) (hl0 : l0.length ≤ 140737488351232) (hb0 : ∀ x ∈ l0, (Lit.int .u8 x).wf = true) (hy : (Lit.int .u8 y).wf = true)
    (h2 : Kd.C PHeadSums.k57 W A2 l2.length l2) (hc2 : l2.length ≤ c2) (hl2 : l2.length ≤ 140737488351232) (hb2 : ∀ x ∈ l2, 0 ≤ x.f1 ∧ x.f1 ≤ 255) :
    Calls Try.prog 5 #[.slice A0 l0.length c0, .agg #[.string n, .string p, .int .i64 m, .int .i64 s, .int .i64 t, .int .u8 y, .string k], .slice A2 l2.length c2, .bool a3] W fun e w' => e = .returned (.bool true) ∧ Below W.heap.size W w' := by
  have hA0 : AreB l0 := fun x hx => RefPlug.wf8 (hb0 x hx)
  obtain ⟨c, hT, hcl, hcB⟩ := turned_some n p m s t y k (RefPlug.wf8 hy) l2 a3 l0 hb2 (by omega) hA0
  have HT := Lib.hid hT
  have HL := Lib.hid (show c.length ≤ 140737488351232 by
    rcases hcl with h | h
    · omega
    · rw [h]; exact hl0)
  have HL0 := Lib.hid hl0
  have HSM := Lib.hid (show Psame.tabularylaw10_same.f (c.length + 1) c c = some true by rw [SameP.same_some c c _ (by omega) (by have := HL.out; omega)]; simp)
  have HSM0 := Lib.hid (show Psame.tabularylaw10_same.f (l0.length + 1) l0 l0 = some true by rw [SameP.same_some l0 l0 _ (by omega) (by omega)]; simp)
  obtain ⟨x1, x2, x3, x4, x5, x6, x7, e1, hg1⟩ := get_some hA0
  obtain ⟨z1, z2, z3, z4, z5, z6, z7, e2, hg2⟩ := get_some hcB
  have HG1 := Lib.hid hg1
  have HG2 := Lib.hid hg2
  have HC0 := Lib.hid h0
  have HC2 := Lib.hid h2
  have tk0 : True := trivial
  clear h0 h2 hb0 hy hT hA0 hb2 hg1 hg2 hcl hcB hl0
  go_enter Try.func5, Try.ntmps5
  go_wp2_with (first
    | ((with_reducible refine gate_dst (N := 20) rfl ?_); refine wpList_load_row rfl TH (.tmp 5) rfl W.heap.size rfl TH _ (0, 0) _ (blk_new W _) Try.underlying24 rfl (by kernel_rfl) ?_)
    | (go_at_call 11; go_loud ((with_reducible refine (PHeadSums.tabularylaw10_turned.calls (l2.length + 1) n p m s t y k A2 c2 l2 a3 _ A0 c0 l0 c _ (Kd.C_alloc HC2.out _) hc2 (V_of_C (Kd.C_alloc HC0.out _) hc0) HT.out).mono ?_); rintro e w1 ⟨v1, rfl, hv1, hb⟩; obtain ⟨Ac, cc, rfl, hcc, hC1⟩ := C_of_V hv1; have HW1 := Lib.hid (below_then ((Below.refl W.heap.size W).alloc (Nat.le_refl _) _) (by simp) hb); have HB1 := Lib.hid (Kd.C_below HC0.out HW1.out); have HC1 := Lib.hid hC1; clear hb hv1 hC1))
    | (go_at_call 12; have _tk := tk0; go_loud ((with_reducible refine (WalkHeadSums.lent_at A0 c0 l0 _ HB1.out hc0 HL0.out).mono ?_); rintro e w2 ⟨Ao, co, rfl, hco, hCo, hRo, hb⟩; have HW2 := Lib.hid (HW1.out.trans (hb.mono HW1.out.size)); have HB_2 := Lib.hid (Kd.C_below HB1.out hb); have HC_2 := Lib.hid (Kd.C_below HC1.out hb); have CO_2 := Lib.hid (hCo); have RO_2 := Lib.hid (hRo); have tk1 : True := trivial; clear hb hCo hRo tk0 _tk))
    | (go_at_call 12; have _tk := tk1; go_loud ((with_reducible refine (WalkHeadSums.lent_at Ac cc c _ HC_2.out hcc HL.out).mono ?_); rintro e w3 ⟨Ap, cp, rfl, hcp, hCp, hRp, hb⟩; have HW3 := Lib.hid (HW2.out.trans (hb.mono HW2.out.size)); have HB_3 := Lib.hid (Kd.C_below HB_2.out hb); have HC_3 := Lib.hid (Kd.C_below HC_2.out hb); have CO_3 := Lib.hid (Kd.C_below CO_2.out hb); have RO_3 := Lib.hid (Kd.R_below RO_2.out hb); have CP_3 := Lib.hid (hCp); have RP_3 := Lib.hid (hRp); have tk2 : True := trivial; clear hb hCp hRp tk1 _tk))
    | (go_at_call 25; have _tk := tk2; go_loud ((with_reducible refine (get_calls Ao co l0 x1 x2 x3 x4 x5 x6 x7 e1 _ CO_3.out hco HG1.out).mono ?_); rintro e w4 ⟨rfl, hb⟩; have HW4 := Lib.hid (HW3.out.trans (hb.mono HW3.out.size)); have HW4q := Lib.hid (HW4.out.alloc HW4.out.size (.cells (HV x1 x2 x3 x4 x5 x6 x7) TH)); have hq := (Below.refl w4.heap.size w4).alloc (Nat.le_refl _) (.cells (HV x1 x2 x3 x4 x5 x6 x7) TH); have HB_4 := Lib.hid (Kd.C_below (Kd.C_below HB_3.out hb) hq); have HC_4 := Lib.hid (Kd.C_below (Kd.C_below HC_3.out hb) hq); have CO_4 := Lib.hid (Kd.C_below (Kd.C_below CO_3.out hb) hq); have RO_4 := Lib.hid (Kd.R_below (Kd.R_below RO_3.out hb) hq); have CP_4 := Lib.hid (Kd.C_below (Kd.C_below CP_3.out hb) hq); have RP_4 := Lib.hid (Kd.R_below (Kd.R_below RP_3.out hb) hq); have BX4_4 := Lib.hid (blk_new w4 (.cells (HV x1 x2 x3 x4 x5 x6 x7) TH)); have tk3 : True := trivial; clear hb hq  tk2 _tk))
    | (go_at_call 25; have _tk := tk3; go_loud ((with_reducible refine (get_calls Ap cp c z1 z2 z3 z4 z5 z6 z7 e2 _ CP_4.out hcp HG2.out).mono ?_); rintro e w5 ⟨rfl, hb⟩; have HW5 := Lib.hid (HW4q.out.trans (hb.mono HW4q.out.size)); have HW5q := Lib.hid (HW5.out.alloc HW5.out.size (.cells (HV z1 z2 z3 z4 z5 z6 z7) TH)); have hq := (Below.refl w5.heap.size w5).alloc (Nat.le_refl _) (.cells (HV z1 z2 z3 z4 z5 z6 z7) TH); have HB_5 := Lib.hid (Kd.C_below (Kd.C_below HB_4.out hb) hq); have HC_5 := Lib.hid (Kd.C_below (Kd.C_below HC_4.out hb) hq); have CO_5 := Lib.hid (Kd.C_below (Kd.C_below CO_4.out hb) hq); have RO_5 := Lib.hid (Kd.R_below (Kd.R_below RO_4.out hb) hq); have CP_5 := Lib.hid (Kd.C_below (Kd.C_below CP_4.out hb) hq); have RP_5 := Lib.hid (Kd.R_below (Kd.R_below RP_4.out hb) hq); have BX4_5 := Lib.hid (blk_alloc (blk_below BX4_4.out hb) (.cells (HV z1 z2 z3 z4 z5 z6 z7) TH)); have BX5_5 := Lib.hid (blk_new w5 (.cells (HV z1 z2 z3 z4 z5 z6 z7) TH)); have tk4 : True := trivial; clear hb hq  tk3 _tk))
    | (go_at_call 26; have _tk := tk4; go_loud ((with_reducible refine (RefGetC.rget_calls A0 c0 l0 x1 x2 x3 x4 x5 x6 x7 e1 _ HB_5.out hc0 HG1.out).mono ?_); rintro e w6 ⟨rfl, hb⟩; have HW6 := Lib.hid (HW5q.out.trans (hb.mono HW5q.out.size)); have HW6q := Lib.hid (HW6.out.alloc HW6.out.size (.cells (HV x1 x2 x3 x4 x5 x6 x7) TH)); have hq := (Below.refl w6.heap.size w6).alloc (Nat.le_refl _) (.cells (HV x1 x2 x3 x4 x5 x6 x7) TH); have HB_6 := Lib.hid (Kd.C_below (Kd.C_below HB_5.out hb) hq); have HC_6 := Lib.hid (Kd.C_below (Kd.C_below HC_5.out hb) hq); have CO_6 := Lib.hid (Kd.C_below (Kd.C_below CO_5.out hb) hq); have RO_6 := Lib.hid (Kd.R_below (Kd.R_below RO_5.out hb) hq); have CP_6 := Lib.hid (Kd.C_below (Kd.C_below CP_5.out hb) hq); have RP_6 := Lib.hid (Kd.R_below (Kd.R_below RP_5.out hb) hq); have BX4_6 := Lib.hid (blk_alloc (blk_below BX4_5.out hb) (.cells (HV x1 x2 x3 x4 x5 x6 x7) TH)); have BX5_6 := Lib.hid (blk_alloc (blk_below BX5_5.out hb) (.cells (HV x1 x2 x3 x4 x5 x6 x7) TH)); have BX6_6 := Lib.hid (blk_new w6 (.cells (HV x1 x2 x3 x4 x5 x6 x7) TH)); have tk5 : True := trivial; clear hb hq  tk4 _tk))
    | (go_at_call 26; have _tk := tk5; go_loud ((with_reducible refine (RefGetC.rget_calls Ac cc c z1 z2 z3 z4 z5 z6 z7 e2 _ HC_6.out hcc HG2.out).mono ?_); rintro e w7 ⟨rfl, hb⟩; have HW7 := Lib.hid (HW6q.out.trans (hb.mono HW6q.out.size)); have HW7q := Lib.hid (HW7.out.alloc HW7.out.size (.cells (HV z1 z2 z3 z4 z5 z6 z7) TH)); have hq := (Below.refl w7.heap.size w7).alloc (Nat.le_refl _) (.cells (HV z1 z2 z3 z4 z5 z6 z7) TH); have HB_7 := Lib.hid (Kd.C_below (Kd.C_below HB_6.out hb) hq); have HC_7 := Lib.hid (Kd.C_below (Kd.C_below HC_6.out hb) hq); have CO_7 := Lib.hid (Kd.C_below (Kd.C_below CO_6.out hb) hq); have RO_7 := Lib.hid (Kd.R_below (Kd.R_below RO_6.out hb) hq); have CP_7 := Lib.hid (Kd.C_below (Kd.C_below CP_6.out hb) hq); have RP_7 := Lib.hid (Kd.R_below (Kd.R_below RP_6.out hb) hq); have BX4_7 := Lib.hid (blk_alloc (blk_below BX4_6.out hb) (.cells (HV z1 z2 z3 z4 z5 z6 z7) TH)); have BX5_7 := Lib.hid (blk_alloc (blk_below BX5_6.out hb) (.cells (HV z1 z2 z3 z4 z5 z6 z7) TH)); have BX6_7 := Lib.hid (blk_alloc (blk_below BX6_6.out hb) (.cells (HV z1 z2 z3 z4 z5 z6 z7) TH)); have BX7_7 := Lib.hid (blk_new w7 (.cells (HV z1 z2 z3 z4 z5 z6 z7) TH)); have tk6 : True := trivial; clear hb hq  tk5 _tk))
    | ((with_reducible refine gate_dst (N := 49) rfl ?_); refine wpList_load_row rfl TH (.tmp 12) rfl w4.heap.size rfl TH _ (0, 0) _ BX4_7.out Try.underlying24 rfl (by kernel_rfl) ?_)
    | ((with_reducible refine gate_dst (N := 50) rfl ?_); refine wpList_load_row rfl TH (.tmp 16) rfl w6.heap.size rfl TH _ (0, 0) _ BX6_7.out Try.underlying24 rfl (by kernel_rfl) ?_)
    | ((with_reducible refine gate_dst (N := 58) rfl ?_); refine gate_guard (by rfl) ?_; dsimp only; refine wpList_load_row rfl TH (.tmp 14) rfl w5.heap.size rfl TH _ (0, 0) _ BX5_7.out Try.underlying24 rfl (by kernel_rfl) ?_)
    | ((with_reducible refine gate_dst (N := 59) rfl ?_); refine gate_guard (by rfl) ?_; dsimp only; refine wpList_load_row rfl TH (.tmp 18) rfl w7.heap.size rfl TH _ (0, 0) _ BX7_7.out Try.underlying24 rfl (by kernel_rfl) ?_)
    | (go_at_call 17; have _tk := tk6; go_loud ((with_reducible refine (HLent.kept_any Ao co l0 A0 c0 _ _ RO_7.out HB_7.out hc0 HL0.out _ HSM0.out).mono ?_); rintro e w8 ⟨rfl, hb⟩; have HW8 := Lib.hid (HW7q.out.trans (hb.mono HW7q.out.size)); have HB_8 := Lib.hid (Kd.C_below HB_7.out hb); have HC_8 := Lib.hid (Kd.C_below HC_7.out hb); have CO_8 := Lib.hid (Kd.C_below CO_7.out hb); have RO_8 := Lib.hid (Kd.R_below RO_7.out hb); have CP_8 := Lib.hid (Kd.C_below CP_7.out hb); have RP_8 := Lib.hid (Kd.R_below RP_7.out hb); have BX4_8 := Lib.hid (blk_below BX4_7.out hb); have BX5_8 := Lib.hid (blk_below BX5_7.out hb); have BX6_8 := Lib.hid (blk_below BX6_7.out hb); have BX7_8 := Lib.hid (blk_below BX7_7.out hb); have tk7 : True := trivial; clear hb  tk6 _tk))
    | (go_at_call 17; have _tk := tk7; go_loud ((with_reducible refine (HLent.kept_any Ap cp c Ac cc _ _ RP_8.out HC_8.out hcc HL.out _ HSM.out).mono ?_); rintro e w9 ⟨rfl, hb⟩; have HW9 := Lib.hid (HW8.out.trans (hb.mono HW8.out.size)); have HB_9 := Lib.hid (Kd.C_below HB_8.out hb); have HC_9 := Lib.hid (Kd.C_below HC_8.out hb); have CO_9 := Lib.hid (Kd.C_below CO_8.out hb); have RO_9 := Lib.hid (Kd.R_below RO_8.out hb); have CP_9 := Lib.hid (Kd.C_below CP_8.out hb); have RP_9 := Lib.hid (Kd.R_below RP_8.out hb); have BX4_9 := Lib.hid (blk_below BX4_8.out hb); have BX5_9 := Lib.hid (blk_below BX5_8.out hb); have BX6_9 := Lib.hid (blk_below BX6_8.out hb); have BX7_9 := Lib.hid (blk_below BX7_8.out hb); have tk8 : True := trivial; clear hb  tk7 _tk)))
  go_ret
  exact ⟨rfl, HW9.out⟩
end Go.Proofs.Ytdmpbfhbjklajaa.WalkHeadGets
end
