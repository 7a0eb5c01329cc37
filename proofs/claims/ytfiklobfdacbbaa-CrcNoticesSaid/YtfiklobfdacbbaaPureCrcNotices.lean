/- CrcNotices: sealed bytes that are changed anywhere within 32 bits side by side are not opened: the register is additive, and a step of it loses nothing. -/
import Derived.Test.YtfiklobfdacbbaaPCrcNoticesx2
import Derived.Test.YtfiklobfdacbbaaCrcPure
namespace Go.Proofs.Ytfiklobfdacbbaa.Pure
open Go.Proofs.Ytfiklobfdacbbaa.CrcPure Go.Proofs.Ytfiklobfdacbbaa Go.Proofs.Ytfiklobfdacbbaa.CrcPure Go.Proofs.Ytfiklobfdacbbaa Go.Proofs.Ytfiklobfdacbbaa.CrcPure Go.Proofs.Ytfiklobfdacbbaa Go.Proofs.Ytfiklobfdacbbaa.CrcPure Go.Proofs.Ytfiklobfdacbbaa Go.Proofs.Ytfiklobfdacbbaa.CrcPure Go.Proofs.Ytfiklobfdacbbaa Go.Proofs.Ytfiklobfdacbbaa.CrcPure Go.Proofs.Ytfiklobfdacbbaa Go.Proofs.Ytfiklobfdacbbaa.CrcPure Go.Proofs.Ytfiklobfdacbbaa Go.Proofs.Ytfiklobfdacbbaa.CrcPure Go.Proofs.Ytfiklobfdacbbaa Go.RowKit Go.Proofs.Ytfiklobfdacbbaa.PCrcNotices Go.Proofs.YtfiklobfdacbbaaW.PrintWords Go.Proofs.YtfiklobfdacbbaaW.PrintLast Go.Proofs.YtfiklobfdacbbaaW.PrintMore
set_option linter.unusedVariables false
set_option linter.unusedSimpArgs false

theorem more_crc (s : Nat) (l : List Nat) (hs : s < 4294967296) (hl : Small l) (hn : l.length ≤ 140737488355328) : crc_More.f (s : Int) (ints l) = some ((CrcMath.more s l : Nat) : Int) := more_nat s l hs hl hn

theorem sum_crc (l : List Nat) (hl : Small l) (hn : l.length ≤ 140737488355328) : crc_Sum.f (ints l) = some ((CrcMath.more 0 l : Nat) : Int) := by
  unfold crc_Sum.f
  have := more_crc 0 l (by decide) hl hn
  rw [show (0 : Int) = ((0 : Nat) : Int) from rfl, this]
  rfl

theorem wakes_crc : tabularylaw04_wakes.f = some true := rfl

theorem le4_ints (s : Nat) : ([((s : Nat) : Int) % 256, ((s : Nat) : Int) / 256 % 256, ((s : Nat) : Int) / 65536 % 256, ((s : Nat) : Int) / 16777216 % 256] : List Int) = ints (CrcMath.le4 s) := by
  show _ = [((s % 256 : Nat) : Int), ((s / 256 % 256 : Nat) : Int), ((s / 65536 % 256 : Nat) : Int), ((s / 16777216 % 256 : Nat) : Int)]
  simp

theorem clone_ints (l : List Nat) (hn : l.length < 140737488355328) : slices_Clone_byte_byte.f (ints l) = some (ints l) := by
  show Clone.cloneF (ints l) = _
  unfold Clone.cloneF
  rw [if_pos (by rw [ints_len]; exact hn)]

def sealN (m : List Nat) : List Nat := m ++ CrcMath.le4 (CrcMath.more 0 m)
theorem sealN_len (m : List Nat) : (sealN m).length = m.length + 4 := by unfold sealN; rw [List.length_append]; rfl
theorem small_append {a b : List Nat} (ha : Small a) (hb : Small b) : Small (a ++ b) := by
  intro c hc
  rcases List.mem_append.mp hc with h | h
  · exact ha c h
  · exact hb c h
theorem sealN_small {m : List Nat} (h : Small m) : Small (sealN m) := small_append h (CrcMath.le4_small _)

theorem seal_crc (m : List Nat) (hm : Small m) (hn : m.length ≤ 1000000) : crc_Seal.f (ints m) = some (ints (sealN m)) := by
  unfold crc_Seal.f
  rw [sum_crc m hm (by omega)]
  simp only [Option.bind_some]
  rw [clone_ints m (by omega)]
  simp only [Option.bind_some]
  rw [le4_ints, ints_len, ints_len, if_pos (by show m.length + 4 < _; omega), ints_append]
  rfl

theorem equal_l0 (a b : List Nat) (n : Nat) (ha : a.length = n) (hb : b.length = n) (hn : n ≤ 1000000) (d : Nat) :
    ∀ k i : Nat, i + d = n → d < k → slices_Equal_byte_byte.l0 k (ints a) (ints b) (n : Int) (i : Int) = some (decide (a.drop i = b.drop i)) := by
  induction d with
  | zero =>
    intro k i hi hk
    obtain ⟨k, rfl⟩ : ∃ m, k = m + 1 := ⟨k - 1, by omega⟩
    simp only [slices_Equal_byte_byte.l0]
    rw [if_neg (by omega), List.drop_of_length_le (by omega), List.drop_of_length_le (by omega)]
    rfl
  | succ d ih =>
    intro k i hi hk
    obtain ⟨k, rfl⟩ : ∃ m, k = m + 1 := ⟨k - 1, by omega⟩
    have e2 : wrap64 ((i : Int) + 1) = ((i + 1 : Nat) : Int) := by rw [w64 ⟨by omega, by omega⟩]; omega
    have ea : rd (ints a) (i : Int) = ((a[i]'(by omega) : Nat) : Int) := by
      rw [rd_ints, List.getD_eq_getElem?_getD, List.getElem?_eq_getElem (by omega)]; rfl
    have eb : rd (ints b) (i : Int) = ((b[i]'(by omega) : Nat) : Int) := by
      rw [rd_ints, List.getD_eq_getElem?_getD, List.getElem?_eq_getElem (by omega)]; rfl
    simp only [slices_Equal_byte_byte.l0]
    rw [ints_len, ints_len, if_pos (by omega), if_pos (by omega), if_pos (by omega), if_pos (by omega), ea, eb, e2]
    have da : a.drop i = a[i]'(by omega) :: a.drop (i + 1) := List.drop_eq_getElem_cons (by omega)
    have db : b.drop i = b[i]'(by omega) :: b.drop (i + 1) := List.drop_eq_getElem_cons (by omega)
    by_cases h : (a[i]'(by omega)) = (b[i]'(by omega))
    · rw [if_pos (by rw [h]), ih k (i + 1) (by omega) (by omega), da, db, h]
      simp only [List.cons.injEq, true_and]
    · rw [if_neg (by intro h2; exact h (by exact_mod_cast h2)), da, db]
      simp only [List.cons.injEq, h, false_and, decide_false]

theorem equal_nat (a b : List Nat) (ha : a.length ≤ 1000000) (k : Nat) (hk : a.length < k) : slices_Equal_byte_byte.f k (ints a) (ints b) = some (decide (a = b)) := by
  unfold slices_Equal_byte_byte.f
  rw [ints_len, ints_len]
  by_cases h : a.length = b.length
  · rw [if_pos (by omega)]
    have := equal_l0 a b a.length rfl h.symm ha a.length k 0 (by omega) (by omega)
    exact this
  · rw [if_neg (by omega)]
    have : a ≠ b := fun e => h (by rw [e])
    simp [this]

/-- Open of four bytes or more. -/
theorem open_crc (x : List Nat) (hx : Small x) (h4 : 4 ≤ x.length) (hn : x.length ≤ 1000000) (k : Nat) (hk : 4 < k) :
    crc_Open.f k (ints x) = if x = sealN (x.take (x.length - 4)) then some (ints (x.take (x.length - 4)), true) else some ([], false) := by
  have e1 : wrap64 ((x.length : Int) - 4) = ((x.length - 4 : Nat) : Int) := by rw [w64 ⟨by omega, by omega⟩]; omega
  have hld : (x.drop (x.length - 4)).length = 4 := by rw [List.length_drop]; omega
  have hlt : (x.take (x.length - 4)).length = x.length - 4 := by rw [List.length_take]; omega
  unfold crc_Open.f
  rw [ints_len, e1, if_neg (by omega), if_pos (by omega), if_pos (by omega), Int.toNat_natCast, ints_take, ints_drop, sum_crc _ (fun c hc => hx c (List.mem_of_mem_take hc)) (by omega)]
  simp only [Option.bind_some]
  rw [le4_ints, equal_nat _ _ (by omega) k (by omega)]
  simp only [Option.bind_some, decide_eq_true_eq]
  have hs : x.take (x.length - 4) ++ x.drop (x.length - 4) = x := List.take_append_drop _ _
  by_cases h : x.drop (x.length - 4) = CrcMath.le4 (CrcMath.more 0 (x.take (x.length - 4)))
  · rw [if_pos h, if_pos (by unfold sealN; rw [← h, hs]), clone_ints _ (by omega)]
    rfl
  · rw [if_neg h, if_neg]
    intro h2
    apply h
    have h3 : (sealN (x.take (x.length - 4))).drop (x.length - 4) = CrcMath.le4 (CrcMath.more 0 (x.take (x.length - 4))) := by
      unfold sealN
      conv => lhs; rw [← hlt]
      rw [hlt, List.drop_append, hlt, Nat.sub_self, List.drop_zero, List.drop_of_length_le (by omega)]
      rfl
    rw [← h2] at h3
    exact h3

theorem open_short (x : List Nat) (h4 : x.length < 4) (k : Nat) : crc_Open.f k (ints x) = some ([], false) := by
  have e1 : wrap64 ((x.length : Int) - 4) = (x.length : Int) - 4 := w64 ⟨by omega, by omega⟩
  unfold crc_Open.f
  rw [ints_len, e1, if_pos (by omega)]

theorem sealN_take (m : List Nat) : (sealN m).take ((sealN m).length - 4) = m := by
  rw [sealN_len]
  unfold sealN
  rw [Nat.add_sub_cancel, List.take_append_of_le_length (Nat.le_refl _), List.take_length]

theorem open_seal (m : List Nat) (hm : Small m) (hn : m.length ≤ 900000) (k : Nat) (hk : 4 < k) : crc_Open.f k (ints (sealN m)) = some (ints m, true) := by
  have hl := sealN_len m
  rw [open_crc _ (sealN_small hm) (by omega) (by omega) k hk, sealN_take, if_pos rfl]

theorem shl8 : ∀ r : Fin 8, shl .u8 1 ((r.val : Nat) : Int) = ((2 ^ r.val : Nat) : Int) := by decide

theorem ints_set (m : List Nat) (i c : Nat) : (ints m).set i (c : Int) = ints (m.set i c) := by
  unfold ints; rw [List.map_set]; rfl

theorem bit_more (b i : Nat) : b % 2 ^ (i + 1) = (b % 2 ^ i) ^^^ (if b / 2 ^ i % 2 = 1 then 2 ^ i else 0) := by
  apply Nat.eq_of_testBit_eq
  intro j
  rw [Nat.testBit_xor, Nat.testBit_mod_two_pow, Nat.testBit_mod_two_pow]
  have hbit : b.testBit i = decide (b / 2 ^ i % 2 = 1) := by rw [Nat.testBit_eq_decide_div_mod_eq]
  by_cases h : b / 2 ^ i % 2 = 1
  · rw [if_pos h, Nat.testBit_two_pow]
    by_cases hj : i = j
    · subst hj; rw [hbit]; simp [h]
    · by_cases hlt : j < i
      · simp [hj, hlt, show j < i + 1 by omega]
      · simp [hj, hlt, show ¬ j < i + 1 by omega]
  · rw [if_neg h, Nat.zero_testBit]
    by_cases hj : i = j
    · subst hj; rw [hbit]; simp [h]
    · by_cases hlt : j < i
      · simp [hlt, show j < i + 1 by omega]
      · simp [hlt, show ¬ j < i + 1 by omega]

theorem xor_mul (a b p : Nat) : (a ^^^ b) * 2 ^ p = (a * 2 ^ p) ^^^ (b * 2 ^ p) := by
  rw [← Nat.shiftLeft_eq, ← Nat.shiftLeft_eq, ← Nat.shiftLeft_eq, Nat.shiftLeft_xor_distrib]

theorem small_set {y : List Nat} (h : Small y) (j v : Nat) (hv : v < 256) : Small (y.set j v) := by
  intro c hc
  rcases List.mem_or_eq_of_mem_set hc with h2 | h2
  · exact h c h2
  · omega

theorem step_ints (b p i : Nat) (hi : i < 32) (hpi : p + 32 ≤ 8 * 100000) :
    wrap64 ((i : Int) + 1) = ((i + 1 : Nat) : Int) ∧ wrap64 ((p : Int) + (i : Int)) = ((p + i : Nat) : Int) ∧ Int.tdiv ((p + i : Nat) : Int) 8 = (((p + i) / 8 : Nat) : Int)
    ∧ Int.tmod ((p + i : Nat) : Int) 8 = (((p + i) % 8 : Nat) : Int) ∧ wrap64 (((p + i) / 8 : Nat) : Int) = (((p + i) / 8 : Nat) : Int) ∧ shr .u32 (b : Int) (i : Int) = ((b / 2 ^ i : Nat) : Int) := by
  refine ⟨?_, ?_, rfl, rfl, ?_, ?_⟩
  · rw [w64 ⟨by omega, by omega⟩]; omega
  · rw [w64 ⟨by omega, by omega⟩]; omega
  · exact w64 ⟨by omega, by omega⟩
  · unfold shr
    rw [Int.toNat_natCast, show min i IntKind.u32.bits = i from Nat.min_eq_left (by show i ≤ 32; omega)]
    norm_cast

theorem notices_l0 (m : List Nat) (hm : Small m) (hn : m.length ≤ 65536) (b p : Nat) (hb : b < 4294967296) (hb0 : b ≠ 0) (hp : p + 32 ≤ 8 * (sealN m).length) (d : Nat) :
    ∀ (k i : Nat) (y : List Nat), i + d = 32 → d + 10 < k → Small y → y.length = (sealN m).length → CrcMath.leNat y = CrcMath.leNat (sealN m) ^^^ (b % 2 ^ i * 2 ^ p) →
      tabularylaw04_CrcNotices.l0 k (b : Int) (ints y) (p : Int) (i : Int) = some true := by
  have hl := sealN_len m
  induction d with
  | zero =>
    intro k i y hi hk hy hly he
    obtain ⟨k, rfl⟩ : ∃ m, k = m + 1 := ⟨k - 1, by omega⟩
    have hi : i = 32 := by omega
    subst hi
    have he2 : CrcMath.leNat y = CrcMath.leNat (sealN m) ^^^ (b * 2 ^ p) := by rw [he, Nat.mod_eq_of_lt hb]
    have hne := CrcMath.notice (sealN m) y b p hly.symm hb hb0 (by omega) he2
    rw [show CrcMath.takes (sealN m) 4294967295 = CrcMath.shs 32 4294967295 from CrcMath.takes_sealed m hm] at hne
    simp only [tabularylaw04_CrcNotices.l0]
    rw [if_neg (by omega), open_crc y hy (by omega) (by omega) k (by omega), if_neg]
    · simp only [Option.bind_some]
      rw [if_neg (by simp), if_pos (show ((([] : List Int).length : Nat) : Int) = 0 from rfl), wakes_crc]
      rfl
    · intro e
      apply hne
      have h2 := CrcMath.takes_sealed (y.take (y.length - 4)) (fun c hc => hy c (List.mem_of_mem_take hc))
      unfold sealN at e
      rw [← e] at h2
      exact h2
  | succ d ih =>
    intro k i y hi hk hy hly he
    obtain ⟨k, rfl⟩ : ∃ m, k = m + 1 := ⟨k - 1, by omega⟩
    have hi32 : i < 32 := by clear he; omega
    have hpl : p + 32 ≤ 8 * 100000 := by clear he; omega
    obtain ⟨e2, e3, e4, e5, e6, es⟩ := step_ints b p i hi32 hpl
    have hj : (p + i) / 8 < y.length := by clear he e2 e3 e4 e5 e6 es; omega
    have hle : ((p + i) / 8 : Nat) < (y.length : Int) := by clear he e2 e3 e4 e5 e6 es; omega
    have hq0 : (0 : Int) ≤ (((p + i) / 8 : Nat) : Int) := Int.natCast_nonneg _
    have hq1 : (0 : Int) ≤ (((p + i) % 8 : Nat) : Int) := Int.natCast_nonneg _
    have hi0 : ((i : Nat) : Int) < 32 := by clear he e2 e3 e4 e5 e6 es; omega
    have hd10 : d + 10 < k := by clear he e2 e3 e4 e5 e6 es; omega
    have hid : i + 1 + d = 32 := by clear he e2 e3 e4 e5 e6 es; omega
    have hlt : b / 2 ^ i < 4294967296 := Nat.lt_of_le_of_lt (Nat.div_le_self _ _) hb
    simp only [tabularylaw04_CrcNotices.l0]
    rw [if_pos hi0, if_pos (Int.natCast_nonneg i), es, and1 _ hlt, e3, e4, e5, e6, e2, ints_len]
    by_cases hbit : b / 2 ^ i % 2 = 1
    · have e7 : shl .u8 1 (((p + i) % 8 : Nat) : Int) = ((2 ^ ((p + i) % 8) : Nat) : Int) := shl8 ⟨(p + i) % 8, Nat.mod_lt _ (by decide)⟩
      have h8 : 2 ^ ((p + i) % 8) < 256 := by
        have : 2 ^ ((p + i) % 8) ≤ 2 ^ 7 := Nat.pow_le_pow_right (by decide) (Nat.le_of_lt_succ (Nat.mod_lt _ (by decide)))
        exact Nat.lt_of_le_of_lt this (by decide)
      have er : rd (ints y) (((p + i) / 8 : Nat) : Int) = ((y[(p + i) / 8] : Nat) : Int) := by
        rw [rd_ints, List.getD_eq_getElem?_getD, List.getElem?_eq_getElem hj]; rfl
      have hyj := hy _ (List.getElem_mem hj)
      have hx8 : y[(p + i) / 8] ^^^ 2 ^ ((p + i) % 8) < 256 := Nat.xor_lt_two_pow (n := 8) hyj h8
      rw [if_pos (show ((b / 2 ^ i % 2 : Nat) : Int) = 1 from by rw [hbit]; rfl), if_pos hq0, if_pos hle, if_pos hq1, e7, er, xor8 _ _ hyj h8, Int.toNat_natCast, ints_set]
      refine ih k (i + 1) _ hid hd10 (small_set hy _ _ hx8) (by rw [List.length_set]; exact hly) ?_
      rw [CrcMath.leNat_set y _ _ hj, he, bit_more b i, if_pos hbit, xor_mul, Nat.xor_assoc]
      congr 2
      rw [← Nat.pow_add, ← Nat.pow_add]
      congr 1
      omega
    · rw [if_neg (show ¬ ((b / 2 ^ i % 2 : Nat) : Int) = 1 from fun h => hbit (by exact_mod_cast h))]
      refine ih k (i + 1) y hid hd10 hy hly ?_
      rw [he, bit_more b i, if_neg hbit, Nat.xor_zero]

theorem tmod_in (a m : Int) (h : 0 < m) : -m < Int.tmod a m ∧ Int.tmod a m < m := by
  refine ⟨?_, Int.tmod_lt_of_pos a h⟩
  have := Int.tmod_lt_of_pos (-a) h
  rw [Int.neg_tmod] at this
  omega

theorem CrcNotices : tabularylaw04_CrcNotices.Pure := by
  intro l0 a b ha0 ha1 ha hwa hwb
  obtain ⟨m, rfl, hm⟩ := ints_of (bytes_of_wf ha)
  have hb := wf32u hwb
  obtain ⟨b, rfl⟩ := Int.eq_ofNat_of_zero_le hb.1
  obtain ⟨K, hK⟩ : ∃ K : Nat, 1000 < K := ⟨1001, by decide⟩
  refine ⟨K + 1, ?_⟩
  unfold tabularylaw04_CrcNotices.f
  rw [ints_len]
  by_cases h : (m.length : Int) > 65536
  · rw [if_pos h, wakes_crc]; rfl
  · have hm0 : m.length ≤ 65536 := by clear hwa hwb ha0 ha1 ha; omega
    have hm1 : m.length ≤ 1000000 := Nat.le_trans hm0 (by decide)
    have hm9 : m.length ≤ 900000 := Nat.le_trans hm0 (by decide)
    have hK4 : 4 < K + 1 := by clear hwa hwb ha0 ha1 ha; omega
    clear hwa ha0 ha1 ha
    have e1 : wrap64 ((m.length : Int) + 4) = ((m.length + 4 : Nat) : Int) := by rw [w64 ⟨by omega, by omega⟩]; omega
    rw [if_neg h, seal_crc m hm hm1]
    simp only [Option.bind_some]
    rw [open_seal m hm hm9 (K + 1) hK4, Option.bind_some, ints_len, sealN_len, e1]
    refine (if_pos rfl).trans ((if_pos rfl).trans ?_)
    rw [show ((strOfNums (ints m)).toList != (strOfNums (ints m)).toList) = false from bne_self_eq_false _]
    generalize hF : false = F
    simp only [tabularylaw04_CrcNotices.j0]
    subst hF
    rw [if_neg (show ¬ false = true from Bool.false_ne_true)]
    by_cases hb0 : (b : Int) = 0
    · rw [if_pos hb0, wakes_crc]; rfl
    · have e2 : wrap64 (8 * ((m.length + 4 : Nat) : Int)) = ((8 * m.length + 32 : Nat) : Int) := by rw [w64 ⟨by omega, by omega⟩]; omega
      have e3 : wrap64 (((8 * m.length + 32 : Nat) : Int) - 31) = ((8 * m.length + 1 : Nat) : Int) := by rw [w64 ⟨by omega, by omega⟩]; omega
      rw [if_neg hb0, ints_len, sealN_len, e2, e3, if_neg (by omega)]
      have t1 := tmod_in a ((8 * m.length + 1 : Nat) : Int) (by omega)
      have e4 : wrap64 (Int.tmod a ((8 * m.length + 1 : Nat) : Int) + ((8 * m.length + 1 : Nat) : Int)) = Int.tmod a ((8 * m.length + 1 : Nat) : Int) + ((8 * m.length + 1 : Nat) : Int) := w64 ⟨by omega, by omega⟩
      rw [e4]
      have t2 := tmod_in (Int.tmod a ((8 * m.length + 1 : Nat) : Int) + ((8 * m.length + 1 : Nat) : Int)) ((8 * m.length + 1 : Nat) : Int) (by omega)
      have t3 := Int.tmod_nonneg ((8 * m.length + 1 : Nat) : Int) (a := Int.tmod a ((8 * m.length + 1 : Nat) : Int) + ((8 * m.length + 1 : Nat) : Int)) (by omega)
      obtain ⟨p, hp⟩ := Int.eq_ofNat_of_zero_le t3
      rw [hp] at t2 ⊢
      refine notices_l0 m hm (by omega) b p (by omega) (by omega) (by rw [sealN_len]; omega) 32 _ 0 (sealN m) (by omega) (by omega) (sealN_small hm) rfl ?_
      rw [Nat.pow_zero, Nat.mod_one, Nat.zero_mul, Nat.xor_zero]

end Go.Proofs.Ytfiklobfdacbbaa.Pure
