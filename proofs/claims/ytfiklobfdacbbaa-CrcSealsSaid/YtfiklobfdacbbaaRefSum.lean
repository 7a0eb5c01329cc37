/- The reference's sum is the plain sum. -/
import Derived.Test.YtfiklobfdacbbaaPSumx
import Derived.Test.YtfiklobfdacbbaaCrcPure
namespace Go.Proofs.Ytfiklobfdacbbaa.RefSum
open Go.Proofs.Ytfiklobfdacbbaa Go.RowKit Go.Proofs.YtfiklobfdacbbaaW.PrintWords Go.Proofs.YtfiklobfdacbbaaW.PrintLast Go.Proofs.YtfiklobfdacbbaaW.PrintMore Go.Proofs.Ytfiklobfdacbbaa.PSum Go.Proofs.Ytfiklobfdacbbaa.CrcPure
set_option linter.unusedVariables false
set_option linter.unusedSimpArgs false

theorem rtake_l0 (d : Nat) : ∀ (k x i : Nat), i + d = 8 → d < k → x < 4294967296 → tabularyref04_take.l0 k (x : Int) (i : Int) = some ((CrcMath.shs d x : Nat) : Int) := by
  induction d with
  | zero =>
    intro k x i hi hk hx
    obtain ⟨k, rfl⟩ : ∃ m, k = m + 1 := ⟨k - 1, by omega⟩
    simp only [tabularyref04_take.l0]
    rw [if_neg (by omega)]
    rfl
  | succ d ih =>
    intro k x i hi hk hx
    obtain ⟨k, rfl⟩ : ∃ m, k = m + 1 := ⟨k - 1, by omega⟩
    simp only [tabularyref04_take.l0]
    have e2 : wrap64 ((i : Int) + 1) = ((i + 1 : Nat) : Int) := by rw [w64 ⟨by omega, by omega⟩]; omega
    have e1 : (x : Int) / 2 = ((x / 2 : Nat) : Int) := by omega
    have e3 : Go.bits .xor .u32 ((x / 2 : Nat) : Int) 2197175160 = ((x / 2 ^^^ 2197175160 : Nat) : Int) := xor32 (x / 2) 2197175160 (by omega) (by decide)
    rw [if_pos (by omega), e2, e1, e3, and1 x hx, CrcMath.shs_step]
    have hx2 := CrcMath.sh_lt hx
    by_cases hb : x % 2 = 1
    · have hs : CrcMath.sh x = x / 2 ^^^ 2197175160 := by
        unfold CrcMath.sh; rw [Nat.testBit_zero, hb]; rfl
      rw [if_pos (by omega), ← hs]
      exact ih k _ (i + 1) (by omega) (by omega) hx2
    · have hs : CrcMath.sh x = x / 2 := by
        unfold CrcMath.sh; rw [Nat.testBit_zero, show x % 2 = 0 by omega]; simp
      rw [if_neg (by omega), ← hs]
      exact ih k _ (i + 1) (by omega) (by omega) hx2

theorem rtake (x c : Nat) (hx : x < 4294967296) (hc : c < 256) (k : Nat) (hk : 10 < k) : tabularyref04_take.f k (x : Int) (c : Int) = some ((CrcMath.take x c : Nat) : Int) := by
  unfold tabularyref04_take.f
  have e : (c : Int) % 4294967296 = (c : Int) := by omega
  rw [e, xor32 x c hx (by omega)]
  exact rtake_l0 8 k _ 0 rfl (by omega) (Nat.xor_lt_two_pow (n := 32) hx (by omega))

theorem rmore_l0 (r : List Nat) : ∀ (k : Nat) (l : List Nat) (x i : Nat), r.length + 20 < k → l.length ≤ 1000000 → Small l → l.drop i = r → i ≤ l.length → x < 4294967296 →
    tabularyref04_More.l0 k (ints l) (x : Int) (i : Int) = some ((4294967295 ^^^ CrcMath.takes r x : Nat) : Int) := by
  induction r with
  | nil =>
    intro k l x i hk hl hs hd hi hx
    obtain ⟨k, rfl⟩ : ∃ m, k = m + 1 := ⟨k - 1, by omega⟩
    have : l.length ≤ i := by have := congrArg List.length hd; simp at this; omega
    simp only [tabularyref04_More.l0]
    rw [ints_len, if_neg (by omega)]
    have := xor32 4294967295 x (by decide) hx
    rw [show ((4294967295 : Nat) : Int) = 4294967295 from rfl] at this
    rw [this]; rfl
  | cons c r ih =>
    intro k l x i hk hl hs hd hi hx
    simp only [List.length_cons] at hk
    obtain ⟨k, rfl⟩ : ∃ m, k = m + 1 := ⟨k - 1, by omega⟩
    have hlt : i < l.length := by have := congrArg List.length hd; simp at this; omega
    have hc : l[i] = c := by rw [List.drop_eq_getElem_cons hlt] at hd; injection hd
    have hr : l.drop (i + 1) = r := by rw [List.drop_eq_getElem_cons hlt] at hd; injection hd
    have hcb : c < 256 := hs c (by rw [← hc]; exact List.getElem_mem hlt)
    have e2 : wrap64 ((i : Int) + 1) = ((i + 1 : Nat) : Int) := by rw [w64 ⟨by omega, by omega⟩]; omega
    have e3 : rd (ints l) (i : Int) = (c : Int) := by
      rw [rd_ints, List.getD_eq_getElem?_getD, List.getElem?_eq_getElem hlt, hc]; rfl
    simp only [tabularyref04_More.l0]
    rw [ints_len, if_pos (by omega), if_pos (by omega), e3, rtake x c hx hcb k (by omega), e2]
    simp only [Option.bind_some]
    exact ih k l _ (i + 1) (by omega) hl hs hr hlt (CrcMath.take_lt hx hcb)

theorem rmore (s : Nat) (l : List Nat) (hs : s < 4294967296) (hl : Small l) (hn : l.length ≤ 1000000) (k : Nat) (hk : l.length + 20 < k) :
    tabularyref04_More.f k (s : Int) (ints l) = some ((CrcMath.more s l : Nat) : Int) := by
  unfold tabularyref04_More.f
  have h1 := xor32 4294967295 s (by decide) hs
  rw [show ((4294967295 : Nat) : Int) = 4294967295 from rfl] at h1
  rw [h1]
  exact rmore_l0 l k l _ 0 (by omega) hn hl rfl (by omega) (Nat.xor_lt_two_pow (n := 32) (by decide) hs)

theorem rsum (l : List Nat) (hl : Small l) (hn : l.length ≤ 1000000) (k : Nat) (hk : l.length + 20 < k) : tabularyref04_Sum.f k (ints l) = some ((CrcMath.more 0 l : Nat) : Int) := by
  unfold tabularyref04_Sum.f
  have := rmore 0 l (by decide) hl hn k hk
  rw [show (0 : Int) = ((0 : Nat) : Int) from rfl, this]
  rfl

end Go.Proofs.Ytfiklobfdacbbaa.RefSum
