/- Any bytes of at most 2^16 are sealed and opened by the Go program as by the document's own text, in new memory. -/
import Derived.Test.YtfiklobfdacbbaaPCrcSealsx2
import Derived.Test.YtfiklobfdacbbaaCrcPure
import Derived.Test.YtfiklobfdacbbaaRefSum
namespace Go.Proofs.Ytfiklobfdacbbaa.Pure
open Go.Proofs.Ytfiklobfdacbbaa.CrcPure Go.Proofs.Ytfiklobfdacbbaa Go.Proofs.Ytfiklobfdacbbaa.CrcPure Go.Proofs.Ytfiklobfdacbbaa Go.RowKit Go.Proofs.Ytfiklobfdacbbaa.PCrcSeals Go.Proofs.YtfiklobfdacbbaaW.PrintWords Go.Proofs.YtfiklobfdacbbaaW.PrintLast Go.Proofs.YtfiklobfdacbbaaW.PrintMore
set_option linter.unusedVariables false
set_option linter.unusedSimpArgs false

theorem more_crc (s : Nat) (l : List Nat) (hs : s < 4294967296) (hl : Small l) (hn : l.length ≤ 140737488355328) : crc_More.f (s : Int) (ints l) = some ((CrcMath.more s l : Nat) : Int) := more_nat s l hs hl hn

theorem sum_crc (l : List Nat) (hl : Small l) (hn : l.length ≤ 140737488355328) : crc_Sum.f (ints l) = some ((CrcMath.more 0 l : Nat) : Int) := by
  unfold crc_Sum.f
  have := more_crc 0 l (by decide) hl hn
  rw [show (0 : Int) = ((0 : Nat) : Int) from rfl, this]
  rfl

theorem wakes_crc : tabularylaw04_wakes.f = some true := rfl

theorem rtake_l0 (d : Nat) : ∀ (k x i : Nat), i + d = 8 → d < k → x < 4294967296 → tabularyref04_take.l0 k (x : Int) (i : Int) = some ((CrcMath.shs d x : Nat) : Int) := by
  induction d with
  | zero =>
    intro k x i hi hk hx
    obtain ⟨k, rfl⟩ : ∃ m, k = m + 1 := ⟨k - 1, by omega⟩
    simp only [tabularyref04_take.l0]
    rw [if_neg (by omega)]
    rfl
  | succ d ih =>
    intro k x i hi hk hx
    obtain ⟨k, rfl⟩ : ∃ m, k = m + 1 := ⟨k - 1, by omega⟩
    simp only [tabularyref04_take.l0]
    have e2 : wrap64 ((i : Int) + 1) = ((i + 1 : Nat) : Int) := by rw [w64 ⟨by omega, by omega⟩]; omega
    have e1 : (x : Int) / 2 = ((x / 2 : Nat) : Int) := by omega
    have e3 : Go.bits .xor .u32 ((x / 2 : Nat) : Int) 2197175160 = ((x / 2 ^^^ 2197175160 : Nat) : Int) := xor32 (x / 2) 2197175160 (by omega) (by decide)
    rw [if_pos (by omega), e2, e1, e3, and1 x hx, CrcMath.shs_step]
    have hx2 := CrcMath.sh_lt hx
    by_cases hb : x % 2 = 1
    · have hs : CrcMath.sh x = x / 2 ^^^ 2197175160 := by
        unfold CrcMath.sh; rw [Nat.testBit_zero, hb]; rfl
      rw [if_pos (by omega), ← hs]
      exact ih k _ (i + 1) (by omega) (by omega) hx2
    · have hs : CrcMath.sh x = x / 2 := by
        unfold CrcMath.sh; rw [Nat.testBit_zero, show x % 2 = 0 by omega]; simp
      rw [if_neg (by omega), ← hs]
      exact ih k _ (i + 1) (by omega) (by omega) hx2

theorem rtake (x c : Nat) (hx : x < 4294967296) (hc : c < 256) (k : Nat) (hk : 10 < k) : tabularyref04_take.f k (x : Int) (c : Int) = some ((CrcMath.take x c : Nat) : Int) := by
  unfold tabularyref04_take.f
  have e : (c : Int) % 4294967296 = (c : Int) := by omega
  rw [e, xor32 x c hx (by omega)]
  exact rtake_l0 8 k _ 0 rfl (by omega) (Nat.xor_lt_two_pow (n := 32) hx (by omega))

theorem rmore_l0 (r : List Nat) : ∀ (k : Nat) (l : List Nat) (x i : Nat), r.length + 20 < k → l.length ≤ 1000000 → Small l → l.drop i = r → i ≤ l.length → x < 4294967296 →
    tabularyref04_More.l0 k (ints l) (x : Int) (i : Int) = some ((4294967295 ^^^ CrcMath.takes r x : Nat) : Int) := by
  induction r with
  | nil =>
    intro k l x i hk hl hs hd hi hx
    obtain ⟨k, rfl⟩ : ∃ m, k = m + 1 := ⟨k - 1, by omega⟩
    have : l.length ≤ i := by have := congrArg List.length hd; simp at this; omega
    simp only [tabularyref04_More.l0]
    rw [ints_len, if_neg (by omega)]
    have := xor32 4294967295 x (by decide) hx
    rw [show ((4294967295 : Nat) : Int) = 4294967295 from rfl] at this
    rw [this]; rfl
  | cons c r ih =>
    intro k l x i hk hl hs hd hi hx
    simp only [List.length_cons] at hk
    obtain ⟨k, rfl⟩ : ∃ m, k = m + 1 := ⟨k - 1, by omega⟩
    have hlt : i < l.length := by have := congrArg List.length hd; simp at this; omega
    have hc : l[i] = c := by rw [List.drop_eq_getElem_cons hlt] at hd; injection hd
    have hr : l.drop (i + 1) = r := by rw [List.drop_eq_getElem_cons hlt] at hd; injection hd
    have hcb : c < 256 := hs c (by rw [← hc]; exact List.getElem_mem hlt)
    have e2 : wrap64 ((i : Int) + 1) = ((i + 1 : Nat) : Int) := by rw [w64 ⟨by omega, by omega⟩]; omega
    have e3 : rd (ints l) (i : Int) = (c : Int) := by
      rw [rd_ints, List.getD_eq_getElem?_getD, List.getElem?_eq_getElem hlt, hc]; rfl
    simp only [tabularyref04_More.l0]
    rw [ints_len, if_pos (by omega), if_pos (by omega), e3, rtake x c hx hcb k (by omega), e2]
    simp only [Option.bind_some]
    exact ih k l _ (i + 1) (by omega) hl hs hr hlt (CrcMath.take_lt hx hcb)

theorem rmore (s : Nat) (l : List Nat) (hs : s < 4294967296) (hl : Small l) (hn : l.length ≤ 1000000) (k : Nat) (hk : l.length + 20 < k) :
    tabularyref04_More.f k (s : Int) (ints l) = some ((CrcMath.more s l : Nat) : Int) := by
  unfold tabularyref04_More.f
  have h1 := xor32 4294967295 s (by decide) hs
  rw [show ((4294967295 : Nat) : Int) = 4294967295 from rfl] at h1
  rw [h1]
  exact rmore_l0 l k l _ 0 (by omega) hn hl rfl (by omega) (Nat.xor_lt_two_pow (n := 32) (by decide) hs)

theorem rsum (l : List Nat) (hl : Small l) (hn : l.length ≤ 1000000) (k : Nat) (hk : l.length + 20 < k) : tabularyref04_Sum.f k (ints l) = some ((CrcMath.more 0 l : Nat) : Int) := by
  unfold tabularyref04_Sum.f
  have := rmore 0 l (by decide) hl hn k hk
  rw [show (0 : Int) = ((0 : Nat) : Int) from rfl, this]
  rfl

theorem le4_ints (s : Nat) : ([((s : Nat) : Int) % 256, ((s : Nat) : Int) / 256 % 256, ((s : Nat) : Int) / 65536 % 256, ((s : Nat) : Int) / 16777216 % 256] : List Int) = ints (CrcMath.le4 s) := by
  show _ = [((s % 256 : Nat) : Int), ((s / 256 % 256 : Nat) : Int), ((s / 65536 % 256 : Nat) : Int), ((s / 16777216 % 256 : Nat) : Int)]
  simp

theorem clone_ints (l : List Nat) (hn : l.length < 140737488355328) : slices_Clone_byte_byte.f (ints l) = some (ints l) := by
  show Clone.cloneF (ints l) = _
  unfold Clone.cloneF
  rw [if_pos (by rw [ints_len]; exact hn)]

def sealN (m : List Nat) : List Nat := m ++ CrcMath.le4 (CrcMath.more 0 m)
theorem sealN_len (m : List Nat) : (sealN m).length = m.length + 4 := by unfold sealN; rw [List.length_append]; rfl
theorem small_append {a b : List Nat} (ha : Small a) (hb : Small b) : Small (a ++ b) := by
  intro c hc
  rcases List.mem_append.mp hc with h | h
  · exact ha c h
  · exact hb c h
theorem sealN_small {m : List Nat} (h : Small m) : Small (sealN m) := small_append h (CrcMath.le4_small _)

theorem seal_crc (m : List Nat) (hm : Small m) (hn : m.length ≤ 1000000) : crc_Seal.f (ints m) = some (ints (sealN m)) := by
  unfold crc_Seal.f
  rw [sum_crc m hm (by omega)]
  simp only [Option.bind_some]
  rw [clone_ints m (by omega)]
  simp only [Option.bind_some]
  rw [le4_ints, ints_len, ints_len, if_pos (by show m.length + 4 < _; omega), ints_append]
  rfl

theorem equal_l0 (a b : List Nat) (n : Nat) (ha : a.length = n) (hb : b.length = n) (hn : n ≤ 1000000) (d : Nat) :
    ∀ k i : Nat, i + d = n → d < k → slices_Equal_byte_byte.l0 k (ints a) (ints b) (n : Int) (i : Int) = some (decide (a.drop i = b.drop i)) := by
  induction d with
  | zero =>
    intro k i hi hk
    obtain ⟨k, rfl⟩ : ∃ m, k = m + 1 := ⟨k - 1, by omega⟩
    simp only [slices_Equal_byte_byte.l0]
    rw [if_neg (by omega), List.drop_of_length_le (by omega), List.drop_of_length_le (by omega)]
    rfl
  | succ d ih =>
    intro k i hi hk
    obtain ⟨k, rfl⟩ : ∃ m, k = m + 1 := ⟨k - 1, by omega⟩
    have e2 : wrap64 ((i : Int) + 1) = ((i + 1 : Nat) : Int) := by rw [w64 ⟨by omega, by omega⟩]; omega
    have ea : rd (ints a) (i : Int) = ((a[i]'(by omega) : Nat) : Int) := by
      rw [rd_ints, List.getD_eq_getElem?_getD, List.getElem?_eq_getElem (by omega)]; rfl
    have eb : rd (ints b) (i : Int) = ((b[i]'(by omega) : Nat) : Int) := by
      rw [rd_ints, List.getD_eq_getElem?_getD, List.getElem?_eq_getElem (by omega)]; rfl
    simp only [slices_Equal_byte_byte.l0]
    rw [ints_len, ints_len, if_pos (by omega), if_pos (by omega), if_pos (by omega), if_pos (by omega), ea, eb, e2]
    have da : a.drop i = a[i]'(by omega) :: a.drop (i + 1) := List.drop_eq_getElem_cons (by omega)
    have db : b.drop i = b[i]'(by omega) :: b.drop (i + 1) := List.drop_eq_getElem_cons (by omega)
    by_cases h : (a[i]'(by omega)) = (b[i]'(by omega))
    · rw [if_pos (by rw [h]), ih k (i + 1) (by omega) (by omega), da, db, h]
      simp only [List.cons.injEq, true_and]
    · rw [if_neg (by intro h2; exact h (by exact_mod_cast h2)), da, db]
      simp only [List.cons.injEq, h, false_and, decide_false]

theorem equal_nat (a b : List Nat) (ha : a.length ≤ 1000000) (k : Nat) (hk : a.length < k) : slices_Equal_byte_byte.f k (ints a) (ints b) = some (decide (a = b)) := by
  unfold slices_Equal_byte_byte.f
  rw [ints_len, ints_len]
  by_cases h : a.length = b.length
  · rw [if_pos (by omega)]
    have := equal_l0 a b a.length rfl h.symm ha a.length k 0 (by omega) (by omega)
    exact this
  · rw [if_neg (by omega)]
    have : a ≠ b := fun e => h (by rw [e])
    simp [this]

/-- Open of four bytes or more. -/
theorem open_crc (x : List Nat) (hx : Small x) (h4 : 4 ≤ x.length) (hn : x.length ≤ 1000000) (k : Nat) (hk : 4 < k) :
    crc_Open.f k (ints x) = if x = sealN (x.take (x.length - 4)) then some (ints (x.take (x.length - 4)), true) else some ([], false) := by
  have e1 : wrap64 ((x.length : Int) - 4) = ((x.length - 4 : Nat) : Int) := by rw [w64 ⟨by omega, by omega⟩]; omega
  have hld : (x.drop (x.length - 4)).length = 4 := by rw [List.length_drop]; omega
  have hlt : (x.take (x.length - 4)).length = x.length - 4 := by rw [List.length_take]; omega
  unfold crc_Open.f
  rw [ints_len, e1, if_neg (by omega), if_pos (by omega), if_pos (by omega), Int.toNat_natCast, ints_take, ints_drop, sum_crc _ (fun c hc => hx c (List.mem_of_mem_take hc)) (by omega)]
  simp only [Option.bind_some]
  rw [le4_ints, equal_nat _ _ (by omega) k (by omega)]
  simp only [Option.bind_some, decide_eq_true_eq]
  have hs : x.take (x.length - 4) ++ x.drop (x.length - 4) = x := List.take_append_drop _ _
  by_cases h : x.drop (x.length - 4) = CrcMath.le4 (CrcMath.more 0 (x.take (x.length - 4)))
  · rw [if_pos h, if_pos (by unfold sealN; rw [← h, hs]), clone_ints _ (by omega)]
    rfl
  · rw [if_neg h, if_neg]
    intro h2
    apply h
    have h3 : (sealN (x.take (x.length - 4))).drop (x.length - 4) = CrcMath.le4 (CrcMath.more 0 (x.take (x.length - 4))) := by
      unfold sealN
      conv => lhs; rw [← hlt]
      rw [hlt, List.drop_append, hlt, Nat.sub_self, List.drop_zero, List.drop_of_length_le (by omega)]
      rfl
    rw [← h2] at h3
    exact h3

theorem open_short (x : List Nat) (h4 : x.length < 4) (k : Nat) : crc_Open.f k (ints x) = some ([], false) := by
  have e1 : wrap64 ((x.length : Int) - 4) = (x.length : Int) - 4 := w64 ⟨by omega, by omega⟩
  unfold crc_Open.f
  rw [ints_len, e1, if_pos (by omega)]

theorem sealN_take (m : List Nat) : (sealN m).take ((sealN m).length - 4) = m := by
  rw [sealN_len]
  unfold sealN
  rw [Nat.add_sub_cancel, List.take_append_of_le_length (Nat.le_refl _), List.take_length]

theorem open_seal (m : List Nat) (hm : Small m) (hn : m.length ≤ 900000) (k : Nat) (hk : 4 < k) : crc_Open.f k (ints (sealN m)) = some (ints m, true) := by
  have hl := sealN_len m
  rw [open_crc _ (sealN_small hm) (by omega) (by omega) k hk, sealN_take, if_pos rfl]

theorem four_last (x : List Nat) (h : 4 ≤ x.length) : ∃ p a b c d, x = p ++ [a, b, c, d] ∧ p.length = x.length - 4 := by
  have hs : x.take (x.length - 4) ++ x.drop (x.length - 4) = x := List.take_append_drop _ _
  have hl : (x.drop (x.length - 4)).length = 4 := by rw [List.length_drop]; omega
  have ht : (x.take (x.length - 4)).length = x.length - 4 := by rw [List.length_take]; omega
  match hd : x.drop (x.length - 4), hl with
  | [a, b, c, d], _ => exact ⟨x.take (x.length - 4), a, b, c, d, by rw [← hd, hs], ht⟩

theorem rd_last (p : List Nat) (l : List Nat) (i : Nat) (n : Nat) (hn : n = p.length + i) : rd (ints (p ++ l)) (n : Int) = ((l.getD i 0 : Nat) : Int) := by
  subst hn
  rw [rd_ints, List.getD_eq_getElem?_getD, List.getElem?_append_right (by omega), List.getD_eq_getElem?_getD]
  congr 3; omega

theorem ropen_crc (x : List Nat) (hx : Small x) (h4 : 4 ≤ x.length) (hn : x.length ≤ 1000000) :
    tabularyref04_Open.f (ints x) = if x = sealN (x.take (x.length - 4)) then some (ints (x.take (x.length - 4)), true) else some ([], false) := by
  obtain ⟨p, a, b, c, d, rfl, hp⟩ := four_last x h4
  have hl : (p ++ [a, b, c, d]).length = p.length + 4 := by rw [List.length_append]; rfl
  have ht : (p ++ [a, b, c, d]).take ((p ++ [a, b, c, d]).length - 4) = p := by rw [hl, Nat.add_sub_cancel, List.take_append_of_le_length (Nat.le_refl _), List.take_length]
  have hsp : Small p := fun c hc => hx c (List.mem_append_left _ hc)
  rw [ht]
  show RefOpen.openF _ = _
  unfold RefOpen.openF RefOpen.tabularyref04_Open.f
  have e0 : wrap64 (((p.length + 4 : Nat) : Int) - 4) = ((p.length : Nat) : Int) := by rw [w64 ⟨by omega, by omega⟩]; omega
  have e1 : wrap64 (((p.length : Nat) : Int) + 1) = ((p.length + 1 : Nat) : Int) := by rw [w64 ⟨by omega, by omega⟩]; omega
  have e2 : wrap64 (((p.length : Nat) : Int) + 2) = ((p.length + 2 : Nat) : Int) := by rw [w64 ⟨by omega, by omega⟩]; omega
  have e3 : wrap64 (((p.length : Nat) : Int) + 3) = ((p.length + 3 : Nat) : Int) := by rw [w64 ⟨by omega, by omega⟩]; omega
  rw [ints_len, hl, e0, e1, e2, e3, if_neg (by omega), if_pos (by omega), if_pos (by omega), Int.toNat_natCast, ints_take, List.take_append_of_le_length (Nat.le_refl _), List.take_length]
  rw [RefSum.rsum p hsp (by omega) _ (by omega)]
  simp only [Option.bind_some]
  rw [rd_last p _ 0 p.length rfl, rd_last p _ 1 (p.length + 1) rfl, rd_last p _ 2 (p.length + 2) rfl, rd_last p _ 3 (p.length + 3) rfl]
  rw [if_pos (by omega), if_pos (by omega : (0 : Int) ≤ ((p.length + 1 : Nat) : Int)), if_pos (by omega : ((p.length + 1 : Nat) : Int) < ((p.length + 4 : Nat) : Int)), if_pos (by omega : (0 : Int) ≤ ((p.length + 2 : Nat) : Int)), if_pos (by omega : ((p.length + 2 : Nat) : Int) < ((p.length + 4 : Nat) : Int)), if_pos (by omega : (0 : Int) ≤ ((p.length + 3 : Nat) : Int)), if_pos (by omega : ((p.length + 3 : Nat) : Int) < ((p.length + 4 : Nat) : Int))]
  generalize hS : CrcMath.more 0 p = s
  have hseal : (p ++ [a, b, c, d] = sealN p) ↔ (a = s % 256 ∧ b = s / 256 % 256 ∧ c = s / 65536 % 256 ∧ d = s / 16777216 % 256) := by
    unfold sealN
    rw [hS, List.append_cancel_left_eq]
    unfold CrcMath.le4
    simp
  have f0 : ((([a, b, c, d].getD 0 0 : Nat) : Int) = (s : Int) % 256) ↔ a = s % 256 := by simp only [List.getD_cons_zero]; omega
  have f1 : ((([a, b, c, d].getD 1 0 : Nat) : Int) = (s : Int) / 256 % 256) ↔ b = s / 256 % 256 := by simp only [List.getD_cons_succ, List.getD_cons_zero]; omega
  have f2 : ((([a, b, c, d].getD 2 0 : Nat) : Int) = (s : Int) / 65536 % 256) ↔ c = s / 65536 % 256 := by simp only [List.getD_cons_succ, List.getD_cons_zero]; omega
  have f3 : ((([a, b, c, d].getD 3 0 : Nat) : Int) = (s : Int) / 16777216 % 256) ↔ d = s / 16777216 % 256 := by simp only [List.getD_cons_succ, List.getD_cons_zero]; omega
  by_cases h0 : a = s % 256
  · rw [if_pos (f0.mpr h0)]
    by_cases h1 : b = s / 256 % 256
    · rw [if_pos (f1.mpr h1)]
      by_cases h2 : c = s / 65536 % 256
      · rw [if_pos (f2.mpr h2)]
        by_cases h3 : d = s / 16777216 % 256
        · rw [if_pos (f3.mpr h3), if_pos (hseal.mpr ⟨h0, h1, h2, h3⟩)]
        · rw [if_neg (fun h => h3 (f3.mp h)), if_neg (fun h => h3 (hseal.mp h).2.2.2)]
      · rw [if_neg (fun h => h2 (f2.mp h)), if_neg (fun h => h2 (hseal.mp h).2.2.1)]
    · rw [if_neg (fun h => h1 (f1.mp h)), if_neg (fun h => h1 (hseal.mp h).2.1)]
  · rw [if_neg (fun h => h0 (f0.mp h)), if_neg (fun h => h0 (hseal.mp h).1)]

theorem ropen_short (x : List Nat) (h4 : x.length < 4) : tabularyref04_Open.f (ints x) = some ([], false) := by
  have e1 : wrap64 ((x.length : Int) - 4) = (x.length : Int) - 4 := w64 ⟨by omega, by omega⟩
  show RefOpen.openF _ = _
  unfold RefOpen.openF RefOpen.tabularyref04_Open.f
  rw [ints_len, e1, if_pos (by omega)]

theorem opens_same (x : List Nat) (hx : Small x) (hn : x.length ≤ 1000000) (k : Nat) (hk : 4 < k) : ∃ r, crc_Open.f k (ints x) = some r ∧ tabularyref04_Open.f (ints x) = some r := by
  by_cases h4 : 4 ≤ x.length
  · rw [open_crc x hx h4 hn k hk, ropen_crc x hx h4 hn]
    by_cases h : x = sealN (x.take (x.length - 4))
    · rw [if_pos h]; exact ⟨_, rfl, rfl⟩
    · rw [if_neg h]; exact ⟨_, rfl, rfl⟩
  · rw [open_short x (by omega), ropen_short x (by omega)]
    exact ⟨_, rfl, rfl⟩

theorem rseal_crc (m : List Nat) (hm : Small m) (hn : m.length ≤ 1000000) (k : Nat) (hk : m.length + 20 < k) : tabularyref04_Seal.f k (ints m) = some (ints (sealN m)) := by
  unfold tabularyref04_Seal.f
  rw [rsum m hm hn k hk]
  simp only [Option.bind_some, List.nil_append]
  rw [le4_ints, ints_len, ints_len, if_pos (by show 0 + m.length < _; omega), if_pos (by show m.length + 4 < _; omega), ints_append]
  rfl

theorem seals_l0 (x : List Int) (hx : x.length ≤ 65536) (x4 x5 : List Int) (x6 : Bool) (ho : tabularyref04_Open.f x = some (x5, x6)) (d : Nat) :
    ∀ (k : Nat) (y : List Int) (i : Nat), y.length = x.length → i + d = x.length → x.length + 100 + d < k → (∀ k, x.length + 20 < k → tabularyref04_Seal.f k x = some x4) → tabularylaw04_CrcSeals.l0 k x y x4 x5 x6 (i : Int) = some true := by
  induction d with
  | zero =>
    intro k y i hy hi hk hs
    obtain ⟨k, rfl⟩ : ∃ m, k = m + 1 := ⟨k - 1, by omega⟩
    simp only [tabularylaw04_CrcSeals.l0]
    rw [if_neg (by omega), ho, hs k (by omega)]
    simp only [Option.bind_some]
    rw [if_pos trivial, if_pos (by simp), if_pos trivial, wakes_crc]
    rfl
  | succ d ih =>
    intro k y i hy hi hk hs
    obtain ⟨k, rfl⟩ : ∃ m, k = m + 1 := ⟨k - 1, by omega⟩
    have e2 : wrap64 ((i : Int) + 1) = ((i + 1 : Nat) : Int) := by rw [w64 ⟨by omega, by omega⟩]; omega
    simp only [tabularylaw04_CrcSeals.l0]
    rw [if_pos (by omega), if_pos (by omega), e2]
    exact ih k _ (i + 1) (by rw [List.length_set]; exact hy) (by omega) (by omega) hs

theorem CrcSeals : tabularylaw04_CrcSeals.Pure := by
  intro l hl0 hl1 hb
  obtain ⟨l, rfl, hsm⟩ := ints_of (bytes_of_wf hb)
  obtain ⟨K, hK⟩ : ∃ K, K = 200000 := ⟨_, rfl⟩
  refine ⟨K, ?_⟩
  unfold tabularylaw04_CrcSeals.f
  rw [ints_len]
  by_cases h : (l.length : Int) > 65536
  · rw [if_pos h, wakes_crc]; rfl
  · rw [if_neg h]
    simp only [Option.bind_some, List.nil_append]
    rw [if_pos (by show 0 + l.length < _; omega), seal_crc l hsm (by omega)]
    obtain ⟨⟨o1, o2⟩, h1, h2⟩ := opens_same l hsm (by omega) K (by omega)
    rw [h1]
    simp only [Option.bind_some]
    rw [if_pos trivial]
    refine seals_l0 (ints l) (by rw [ints_len]; omega) _ _ _ h2 l.length K _ 0 rfl (by rw [ints_len]; omega) (by rw [ints_len]; omega) (fun k hk => ?_)
    rw [ints_len] at hk
    exact rseal_crc l hsm (by omega) k hk

end Go.Proofs.Ytfiklobfdacbbaa.Pure
