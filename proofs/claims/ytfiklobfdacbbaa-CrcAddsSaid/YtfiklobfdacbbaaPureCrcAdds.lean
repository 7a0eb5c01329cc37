/- CrcAdds: the sums of two rows, of both together, and of noughts come to nothing. -/
import Derived.Test.YtfiklobfdacbbaaPCrcAddsx2
import Derived.Test.YtfiklobfdacbbaaCrcPure
namespace Go.Proofs.Ytfiklobfdacbbaa.Pure
open Go.Proofs.Ytfiklobfdacbbaa.CrcPure Go.Proofs.Ytfiklobfdacbbaa Go.Proofs.Ytfiklobfdacbbaa.CrcPure Go.Proofs.Ytfiklobfdacbbaa Go.RowKit Go.Proofs.Ytfiklobfdacbbaa.PCrcAdds Go.Proofs.YtfiklobfdacbbaaW.PrintWords Go.Proofs.YtfiklobfdacbbaaW.PrintLast Go.Proofs.YtfiklobfdacbbaaW.PrintMore
set_option linter.unusedVariables false
set_option linter.unusedSimpArgs false

theorem more_crc (s : Nat) (l : List Nat) (hs : s < 4294967296) (hl : Small l) (hn : l.length ≤ 140737488355328) : crc_More.f (s : Int) (ints l) = some ((CrcMath.more s l : Nat) : Int) := more_nat s l hs hl hn

theorem sum_crc (l : List Nat) (hl : Small l) (hn : l.length ≤ 140737488355328) : crc_Sum.f (ints l) = some ((CrcMath.more 0 l : Nat) : Int) := by
  unfold crc_Sum.f
  have := more_crc 0 l (by decide) hl hn
  rw [show (0 : Int) = ((0 : Nat) : Int) from rfl, this]
  rfl

theorem wakes_crc : tabularylaw04_wakes.f = some true := rfl

theorem mn_nat (a b : Nat) : mn (a : Int) (b : Int) = ((min a b : Nat) : Int) := by
  unfold mn; split <;> omega

theorem ints_set (m : List Nat) (i c : Nat) : (ints m).set i (c : Int) = ints (m.set i c) := by
  unfold ints; rw [List.map_set]; rfl

theorem ints_zeros (n : Nat) : List.replicate n (0 : Int) = ints (List.replicate n 0) := by
  unfold ints; rw [List.map_replicate]; rfl

theorem small_take {l : List Nat} (h : Small l) (n : Nat) : Small (l.take n) := fun c hc => h c (List.mem_of_mem_take hc)

theorem small_zip {a b : List Nat} (ha : Small a) (hb : Small b) : Small (List.zipWith (· ^^^ ·) a b) := by
  intro c hc
  obtain ⟨i, hi, rfl⟩ := List.mem_iff_getElem.mp hc
  rw [List.getElem_zipWith]
  exact Nat.xor_lt_two_pow (n := 8) (ha _ (List.getElem_mem _)) (hb _ (List.getElem_mem _))

theorem small_zeros (n : Nat) : Small (List.replicate n 0) := by
  intro c hc
  rw [(List.mem_replicate.mp hc).2]; decide

theorem zip_zeros (z : List Nat) : List.zipWith (· ^^^ ·) z (List.replicate z.length 0) = z := by
  induction z with
  | nil => rfl
  | cons c r ih => simp only [List.length_cons, List.replicate_succ, List.zipWith_cons_cons, Nat.xor_zero, ih]

theorem adds_nothing (a b : List Nat) (h : a.length = b.length) :
    ((CrcMath.more 0 a ^^^ CrcMath.more 0 b) ^^^ CrcMath.more 0 (List.zipWith (· ^^^ ·) a b)) ^^^ CrcMath.more 0 (List.replicate a.length 0) = 0 := by
  have h1 := CrcMath.takes_xor a b 4294967295 4294967295 h
  have h2 := CrcMath.takes_xor (List.zipWith (· ^^^ ·) a b) (List.replicate a.length 0) 4294967295 4294967295 (by rw [List.length_zipWith, List.length_replicate, ← h, Nat.min_self])
  have h3 := zip_zeros (List.zipWith (· ^^^ ·) a b)
  rw [List.length_zipWith, ← h, Nat.min_self] at h3
  rw [h3, h1] at h2
  unfold CrcMath.more
  rw [Nat.xor_zero, CrcMath.xor4 4294967295, Nat.xor_self, Nat.zero_xor, h2, Nat.xor_assoc, CrcMath.xor4 4294967295, Nat.xor_self, Nat.zero_xor, Nat.xor_self]

theorem adds_l0 (a b z : List Nat) (n : Nat) (ha : Small a) (hb : Small b) (hz : z = List.zipWith (· ^^^ ·) (a.take n) (b.take n)) (hna : n ≤ a.length) (hnb : n ≤ b.length) (hn : n ≤ 65536) (d : Nat) :
    ∀ k i : Nat, i + d = n → d < k → tabularylaw04_CrcAdds.l0 k (ints a) (ints b) (n : Int) (ints (z.take i ++ List.replicate d 0)) (i : Int) = some true := by
  have hzl : z.length = n := by rw [hz, List.length_zipWith, List.length_take, List.length_take]; omega
  have hzs : Small z := by rw [hz]; exact small_zip (small_take ha n) (small_take hb n)
  induction d with
  | zero =>
    intro k i hi hk
    obtain ⟨k, rfl⟩ : ∃ m, k = m + 1 := ⟨k - 1, by omega⟩
    have e0 : z.take i ++ List.replicate 0 0 = z := by rw [List.replicate_zero, List.append_nil, List.take_of_length_le (by omega)]
    have hta : (a.take n).length = n := by rw [List.length_take]; omega
    have htb : (b.take n).length = n := by rw [List.length_take]; omega
    simp only [tabularylaw04_CrcAdds.l0]
    rw [e0, if_neg (by omega), ints_len, ints_len, if_pos (by omega), if_pos (by omega), Int.toNat_natCast, ints_take, ints_take, ints_zeros,
      sum_crc _ (small_take ha n) (by omega), sum_crc _ (small_take hb n) (by omega), sum_crc _ hzs (by omega), sum_crc _ (small_zeros n) (by rw [List.length_replicate]; omega)]
    simp only [Option.bind_some]
    rw [if_pos (by omega), if_pos (by omega)]
    have s1 := CrcMath.more_lt 0 (a.take n) (by decide) (small_take ha n)
    have s2 := CrcMath.more_lt 0 (b.take n) (by decide) (small_take hb n)
    have s3 := CrcMath.more_lt 0 z (by decide) hzs
    have s4 := CrcMath.more_lt 0 (List.replicate n 0) (by decide) (small_zeros n)
    have s12 := Nat.xor_lt_two_pow (n := 32) s1 s2
    have s123 := Nat.xor_lt_two_pow (n := 32) s12 s3
    rw [xor32 _ _ s1 s2, xor32 _ _ s12 s3, xor32 _ _ s123 s4]
    have h := adds_nothing (a.take n) (b.take n) (by omega)
    rw [hta, ← hz] at h
    rw [h, if_pos (show ((0 : Nat) : Int) = 0 from rfl), wakes_crc]
    rfl
  | succ d ih =>
    intro k i hi hk
    obtain ⟨k, rfl⟩ : ∃ m, k = m + 1 := ⟨k - 1, by omega⟩
    have e2 : wrap64 ((i : Int) + 1) = ((i + 1 : Nat) : Int) := by rw [w64 ⟨by omega, by omega⟩]; omega
    have ea : rd (ints a) (i : Int) = ((a[i]'(by omega) : Nat) : Int) := by
      rw [rd_ints, List.getD_eq_getElem?_getD, List.getElem?_eq_getElem (by omega)]; rfl
    have eb : rd (ints b) (i : Int) = ((b[i]'(by omega) : Nat) : Int) := by
      rw [rd_ints, List.getD_eq_getElem?_getD, List.getElem?_eq_getElem (by omega)]; rfl
    have ez : (a[i]'(by omega)) ^^^ (b[i]'(by omega)) = z[i]'(by omega) := by
      subst hz
      rw [List.getElem_zipWith, List.getElem_take, List.getElem_take]
    have hl : (z.take i).length = i := by rw [List.length_take]; omega
    have es : (z.take i ++ List.replicate (d + 1) 0).set i (z[i]'(by omega)) = z.take (i + 1) ++ List.replicate d 0 := by
      rw [List.set_append, hl, if_neg (by omega), Nat.sub_self, List.replicate_succ, List.set_cons_zero, ← List.take_append_getElem (by omega), List.append_assoc]
      rfl
    simp only [tabularylaw04_CrcAdds.l0]
    rw [ints_len, ints_len, ints_len, if_pos (by omega), if_pos (by omega), if_pos (by omega), if_pos (by omega),
      if_pos (by rw [List.length_append, hl, List.length_replicate]; omega), ea, eb, xor8 _ _ (ha _ (List.getElem_mem _)) (hb _ (List.getElem_mem _)), Int.toNat_natCast, ints_set, ez, es, e2]
    exact ih k (i + 1) (by omega) (by omega)

theorem CrcAdds : tabularylaw04_CrcAdds.Pure := by
  intro a b ha0 ha1 ha hb0 hb1 hb
  obtain ⟨a, rfl, hsa⟩ := ints_of (bytes_of_wf ha)
  obtain ⟨b, rfl, hsb⟩ := ints_of (bytes_of_wf hb)
  refine ⟨100000, ?_⟩
  unfold tabularylaw04_CrcAdds.f
  rw [ints_len, ints_len, mn_nat]
  by_cases h : ((min a.length b.length : Nat) : Int) > 65536
  · rw [if_pos h, wakes_crc]; rfl
  · rw [if_neg h, if_pos (by omega), if_pos (by omega), Int.toNat_natCast, ints_zeros]
    have h := adds_l0 a b _ (min a.length b.length) hsa hsb rfl (by omega) (by omega) (by omega) (min a.length b.length) 100000 0 (by omega) (by omega)
    exact h

end Go.Proofs.Ytfiklobfdacbbaa.Pure
