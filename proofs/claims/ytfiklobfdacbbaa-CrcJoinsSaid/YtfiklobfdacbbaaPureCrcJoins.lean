/- Any two sums are joined by the Go program as by the document's own text, at every length up to 2^12. -/
import Derived.Test.YtfiklobfdacbbaaPCrcJoinsx1
import Derived.Test.YtfiklobfdacbbaaCrcPure
import Derived.Test.YtfiklobfdacbbaaJoinPure
namespace Go.Proofs.Ytfiklobfdacbbaa.Pure
open Go.Proofs.Ytfiklobfdacbbaa.CrcPure Go.Proofs.Ytfiklobfdacbbaa Go.RowKit Go.Proofs.Ytfiklobfdacbbaa.PCrcJoins Go.Proofs.YtfiklobfdacbbaaW.PrintWords Go.Proofs.YtfiklobfdacbbaaW.PrintLast Go.Proofs.YtfiklobfdacbbaaW.PrintMore
set_option linter.unusedVariables false
set_option linter.unusedSimpArgs false

theorem wakes_crc : tabularylaw04_wakes.f = some true := rfl

theorem rtake_l0 (d : Nat) : ∀ (k x i : Nat), i + d = 8 → d < k → x < 4294967296 → tabularyref04_take.l0 k (x : Int) (i : Int) = some ((CrcMath.shs d x : Nat) : Int) := by
  induction d with
  | zero =>
    intro k x i hi hk hx
    obtain ⟨k, rfl⟩ : ∃ m, k = m + 1 := ⟨k - 1, by omega⟩
    simp only [tabularyref04_take.l0]
    rw [if_neg (by omega)]
    rfl
  | succ d ih =>
    intro k x i hi hk hx
    obtain ⟨k, rfl⟩ : ∃ m, k = m + 1 := ⟨k - 1, by omega⟩
    simp only [tabularyref04_take.l0]
    have e2 : wrap64 ((i : Int) + 1) = ((i + 1 : Nat) : Int) := by rw [w64 ⟨by omega, by omega⟩]; omega
    have e1 : (x : Int) / 2 = ((x / 2 : Nat) : Int) := by omega
    have e3 : Go.bits .xor .u32 ((x / 2 : Nat) : Int) 2197175160 = ((x / 2 ^^^ 2197175160 : Nat) : Int) := xor32 (x / 2) 2197175160 (by omega) (by decide)
    rw [if_pos (by omega), e2, e1, e3, and1 x hx, CrcMath.shs_step]
    have hx2 := CrcMath.sh_lt hx
    by_cases hb : x % 2 = 1
    · have hs : CrcMath.sh x = x / 2 ^^^ 2197175160 := by
        unfold CrcMath.sh; rw [Nat.testBit_zero, hb]; rfl
      rw [if_pos (by omega), ← hs]
      exact ih k _ (i + 1) (by omega) (by omega) hx2
    · have hs : CrcMath.sh x = x / 2 := by
        unfold CrcMath.sh; rw [Nat.testBit_zero, show x % 2 = 0 by omega]; simp
      rw [if_neg (by omega), ← hs]
      exact ih k _ (i + 1) (by omega) (by omega) hx2

theorem rtake (x c : Nat) (hx : x < 4294967296) (hc : c < 256) (k : Nat) (hk : 10 < k) : tabularyref04_take.f k (x : Int) (c : Int) = some ((CrcMath.take x c : Nat) : Int) := by
  unfold tabularyref04_take.f
  have e : (c : Int) % 4294967296 = (c : Int) := by omega
  rw [e, xor32 x c hx (by omega)]
  exact rtake_l0 8 k _ 0 rfl (by omega) (Nat.xor_lt_two_pow (n := 32) hx (by omega))


theorem noughts_l0 (d : Nat) : ∀ (k x i n : Nat), i + d = n → d + 20 < k → n ≤ 100000 → x < 4294967296 →
    tabularyref04_noughts.l0 k (n : Int) (x : Int) (i : Int) = some ((4294967295 ^^^ JoinPure.times (CrcMath.shs 8) d x : Nat) : Int) := by
  induction d with
  | zero =>
    intro k x i n hi hk hn hx
    obtain ⟨k, rfl⟩ : ∃ m, k = m + 1 := ⟨k - 1, by omega⟩
    have h3 := xor32 4294967295 x (by decide) hx
    have e : ((4294967295 : Nat) : Int) = 4294967295 := rfl
    rw [e] at h3
    simp only [tabularyref04_noughts.l0]
    rw [if_neg (by omega), h3]
    rfl
  | succ d ih =>
    intro k x i n hi hk hn hx
    obtain ⟨k, rfl⟩ : ∃ m, k = m + 1 := ⟨k - 1, by omega⟩
    have e2 : wrap64 ((i : Int) + 1) = ((i + 1 : Nat) : Int) := by rw [w64 ⟨by omega, by omega⟩]; omega
    have ht := rtake x 0 hx (by decide) k (by omega)
    simp only [tabularyref04_noughts.l0]
    rw [if_pos (by omega), show (0 : Int) = ((0 : Nat) : Int) from rfl, ht]
    simp only [Option.bind_some]
    rw [e2, ih k _ (i + 1) n (by omega) (by omega) hn (CrcMath.take_lt hx (by decide))]
    show _ = some ((4294967295 ^^^ JoinPure.times (CrcMath.shs 8) d (CrcMath.shs 8 x) : Nat) : Int)
    unfold CrcMath.take
    rw [Nat.xor_zero]

theorem noughts_nat (s : Nat) (n : Int) (k : Nat) (hk : n.toNat + 20 < k) (hn : n ≤ 100000) (hs : s < 4294967296) :
    tabularyref04_noughts.f k (s : Int) n = some ((4294967295 ^^^ JoinPure.times (CrcMath.shs 8) n.toNat (4294967295 ^^^ s) : Nat) : Int) := by
  have h1 := xor32 4294967295 s (by decide) hs
  have e : ((4294967295 : Nat) : Int) = 4294967295 := rfl
  rw [e] at h1
  unfold tabularyref04_noughts.f
  rw [h1]
  by_cases h0 : 0 ≤ n
  · obtain ⟨n, rfl⟩ := Int.eq_ofNat_of_zero_le h0
    exact noughts_l0 n k _ 0 n (by omega) (by simpa using hk) (by omega) (Nat.xor_lt_two_pow (n := 32) (by decide) hs)
  · obtain ⟨k, rfl⟩ : ∃ m, k = m + 1 := ⟨k - 1, by omega⟩
    have hn0 : n.toNat = 0 := by omega
    have h3 := xor32 4294967295 (4294967295 ^^^ s) (by decide) (Nat.xor_lt_two_pow (n := 32) (by decide) hs)
    rw [e] at h3
    simp only [tabularyref04_noughts.l0]
    rw [if_neg (by omega), h3, hn0]
    rfl

theorem rjoin_nat (a b : Nat) (n : Int) (k : Nat) (hk : n.toNat + 20 < k) (hn : n ≤ 100000) (ha : a < 4294967296) (hb : b < 4294967296) :
    tabularyref04_Join.f k (a : Int) (b : Int) n = some ((JoinPure.times (CrcMath.shs 8) n.toNat a ^^^ b : Nat) : Int) := by
  have hlt : ∀ x, x < 4294967296 → JoinPure.times (CrcMath.shs 8) n.toNat x < 4294967296 := JoinPure.times_lt JoinPure.stands_ms.lt _
  have hadd := JoinPure.times_add (CrcMath.shs_add 8) n.toNat
  have hx1 : 4294967295 ^^^ a < 4294967296 := Nat.xor_lt_two_pow (n := 32) (by decide) ha
  have hx2 : 4294967295 ^^^ 0 < 4294967296 := by decide
  unfold tabularyref04_Join.f
  rw [noughts_nat a n k hk hn ha, show (0 : Int) = ((0 : Nat) : Int) from rfl, noughts_nat 0 n k hk hn (by decide)]
  simp only [Option.bind_some]
  have l1 : 4294967295 ^^^ JoinPure.times (CrcMath.shs 8) n.toNat (4294967295 ^^^ a) < 4294967296 := Nat.xor_lt_two_pow (n := 32) (by decide) (hlt _ hx1)
  have l2 : 4294967295 ^^^ JoinPure.times (CrcMath.shs 8) n.toNat (4294967295 ^^^ 0) < 4294967296 := Nat.xor_lt_two_pow (n := 32) (by decide) (hlt _ hx2)
  rw [xor32 _ _ l1 l2, xor32 _ _ (Nat.xor_lt_two_pow (n := 32) l1 l2) hb]
  congr 3
  rw [CrcMath.xor4, Nat.xor_self, Nat.zero_xor, ← hadd, CrcMath.xor4, Nat.xor_self, Nat.zero_xor, Nat.xor_zero]

theorem CrcJoins : tabularylaw04_CrcJoins.Pure := by
  intro a b n ha hb hn
  have ha := wf32u ha
  have hb := wf32u hb
  obtain ⟨a, rfl⟩ := Int.eq_ofNat_of_zero_le ha.1
  obtain ⟨b, rfl⟩ := Int.eq_ofNat_of_zero_le hb.1
  obtain ⟨K, hK⟩ : ∃ K, K = 10000 := ⟨_, rfl⟩
  refine ⟨K, ?_⟩
  unfold tabularylaw04_CrcJoins.f
  by_cases h : n > 4096
  · rw [if_pos h, wakes_crc]; rfl
  · rw [if_neg h]
    have h1 : crc_Join.f (a : Int) (b : Int) n = some ((JoinPure.times (CrcMath.shs 8) n.toNat a ^^^ b : Nat) : Int) := JoinPure.join_nat a b n (by omega) (by omega) (by omega)
    rw [h1, rjoin_nat a b n K (by omega) (by omega) (by omega) (by omega)]
    simp only [Option.bind_some]
    rw [if_pos trivial, wakes_crc]
    rfl

end Go.Proofs.Ytfiklobfdacbbaa.Pure
