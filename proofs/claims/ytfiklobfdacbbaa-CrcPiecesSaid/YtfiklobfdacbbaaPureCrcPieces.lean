/- However bytes are cut, and whether their sums are gone on with or joined, the sum that the Go program tells is one. -/
import Derived.Test.YtfiklobfdacbbaaPCrcPiecesx2
import Derived.Test.YtfiklobfdacbbaaCrcPure
import Derived.Test.YtfiklobfdacbbaaJoinPure
import Derived.Test.YtfiklobfdacbbaaJoinPure
namespace Go.Proofs.Ytfiklobfdacbbaa.Pure
open Go.Proofs.Ytfiklobfdacbbaa.CrcPure Go.Proofs.Ytfiklobfdacbbaa Go.Proofs.Ytfiklobfdacbbaa.CrcPure Go.Proofs.Ytfiklobfdacbbaa Go.RowKit Go.Proofs.Ytfiklobfdacbbaa.PCrcPieces Go.Proofs.YtfiklobfdacbbaaW.PrintWords Go.Proofs.YtfiklobfdacbbaaW.PrintLast Go.Proofs.YtfiklobfdacbbaaW.PrintMore
set_option linter.unusedVariables false
set_option linter.unusedSimpArgs false

theorem more_crc (s : Nat) (l : List Nat) (hs : s < 4294967296) (hl : Small l) (hn : l.length ≤ 140737488355328) : crc_More.f (s : Int) (ints l) = some ((CrcMath.more s l : Nat) : Int) := more_nat s l hs hl hn

theorem sum_crc (l : List Nat) (hl : Small l) (hn : l.length ≤ 140737488355328) : crc_Sum.f (ints l) = some ((CrcMath.more 0 l : Nat) : Int) := by
  unfold crc_Sum.f
  have := more_crc 0 l (by decide) hl hn
  rw [show (0 : Int) = ((0 : Nat) : Int) from rfl, this]
  rfl

theorem wakes_crc : tabularylaw04_wakes.f = some true := rfl

theorem times_shs (n : Nat) : ∀ x, JoinPure.times (CrcMath.shs 8) n x = CrcMath.shs (8 * n) x := by
  induction n with
  | zero => intro x; rfl
  | succ n ih =>
    intro x
    show JoinPure.times (CrcMath.shs 8) n (CrcMath.shs 8 x) = _
    rw [ih, ← CrcMath.shs_shs]
    rfl

theorem more_join (s : Nat) (b : List Nat) : CrcMath.shs (8 * b.length) s ^^^ CrcMath.more 0 b = CrcMath.more s b := by
  unfold CrcMath.more
  rw [CrcMath.takes_eq, CrcMath.takes_eq, Nat.xor_zero, show 4294967295 ^^^ s ^^^ CrcMath.leNat b = (4294967295 ^^^ CrcMath.leNat b) ^^^ s by rw [Nat.xor_assoc, Nat.xor_comm s, ← Nat.xor_assoc], CrcMath.shs_add (8 * b.length) (4294967295 ^^^ CrcMath.leNat b) s]
  rw [Nat.xor_comm (CrcMath.shs (8 * b.length) s), Nat.xor_assoc]

theorem CrcPieces : tabularylaw04_CrcPieces.Pure := by
  intro l a1 hl0 hl1 hb ha
  obtain ⟨l, rfl, hsm⟩ := ints_of (bytes_of_wf hb)
  have ha : -9223372036854775808 ≤ a1 ∧ a1 ≤ 9223372036854775807 := by
    simp only [Lit.wf, Bool.and_eq_true, decide_eq_true_eq] at ha
    have hmin : IntKind.i64.min = -9223372036854775808 := rfl
    have hmax : IntKind.i64.max = 9223372036854775807 := rfl
    omega
  unfold tabularylaw04_CrcPieces.f
  rw [ints_len]
  by_cases h : (l.length : Int) > 65536
  · rw [if_pos h, wakes_crc]; rfl
  · rw [if_neg h]
    have e1 : wrap64 ((l.length : Int) + 1) = (l.length : Int) + 1 := w64 ⟨by omega, by omega⟩
    have hlt1 := Int.tmod_lt_of_pos a1 (show (0 : Int) < (l.length : Int) + 1 by omega)
    have hge1 : -((l.length : Int) + 1) < Int.tmod a1 ((l.length : Int) + 1) := by
      have := Int.tmod_lt_of_pos (-a1) (show (0 : Int) < (l.length : Int) + 1 by omega)
      rw [Int.neg_tmod] at this
      omega
    rw [e1]
    generalize Int.tmod a1 ((l.length : Int) + 1) = q at hlt1 hge1
    have e2 : wrap64 (q + (l.length : Int)) = q + (l.length : Int) := w64 ⟨by omega, by omega⟩
    have e3 : wrap64 (q + (l.length : Int) + 1) = q + (l.length : Int) + 1 := w64 ⟨by omega, by omega⟩
    rw [e2, e3]
    have hlt2 := Int.tmod_lt_of_pos (q + (l.length : Int) + 1) (show (0 : Int) < (l.length : Int) + 1 by omega)
    have hge2 := Int.tmod_nonneg ((l.length : Int) + 1) (show 0 ≤ q + (l.length : Int) + 1 by omega)
    generalize Int.tmod (q + (l.length : Int) + 1) ((l.length : Int) + 1) = p at hlt2 hge2
    obtain ⟨p, rfl⟩ := Int.eq_ofNat_of_zero_le hge2
    have e4 : wrap64 ((l.length : Int) - (p : Int)) = ((l.length - p : Nat) : Int) := by rw [w64 ⟨by omega, by omega⟩]; omega
    have hs1 : Small (l.take p) := fun c hc => hsm c (List.mem_of_mem_take hc)
    have hs2 : Small (l.drop p) := fun c hc => hsm c (List.mem_of_mem_drop hc)
    have hl1 : (l.take p).length ≤ l.length := by rw [List.length_take]; omega
    have hl2 : (l.drop p).length = l.length - p := List.length_drop
    have hm1 := CrcMath.more_lt 0 (l.take p) (by decide) hs1
    have hm2 := CrcMath.more_lt 0 (l.drop p) (by decide) hs2
    have hall : CrcMath.more (CrcMath.more 0 (l.take p)) (l.drop p) = CrcMath.more 0 l := by
      rw [← CrcMath.more_append, List.take_append_drop]
    rw [e4, if_neg (by omega), sum_crc l hsm (by omega)]
    simp only [Option.bind_some]
    rw [if_pos (by omega), if_pos (by omega), Int.toNat_natCast, ints_take, ints_drop, sum_crc _ hs1 (by omega)]
    simp only [Option.bind_some]
    rw [more_crc _ _ hm1 hs2 (by omega), sum_crc _ hs2 (by omega)]
    simp only [Option.bind_some]
    rw [if_pos (by rw [hall])]
    have hj : crc_Join.f ((CrcMath.more 0 (l.take p) : Nat) : Int) ((CrcMath.more 0 (l.drop p) : Nat) : Int) ((l.length - p : Nat) : Int) = some ((CrcMath.more 0 l : Nat) : Int) := by
      have := JoinPure.join_nat (CrcMath.more 0 (l.take p)) (CrcMath.more 0 (l.drop p)) ((l.length - p : Nat) : Int) hm1 hm2 (by omega)
      rw [Int.toNat_natCast, ← hl2, times_shs, more_join, hall, hl2] at this
      exact this
    rw [hj]
    simp only [Option.bind_some]
    rw [if_pos trivial, wakes_crc]
    rfl

end Go.Proofs.Ytfiklobfdacbbaa.Pure
