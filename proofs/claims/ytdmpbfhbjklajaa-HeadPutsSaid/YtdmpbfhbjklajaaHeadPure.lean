/- The two ways of laying a head's bytes are one: over a table of noughts, and one behind the other. -/
import Derived.Test.YtdmpbfhbjklajaaHeadPut
import Derived.Test.YtdmpbfhbjklajaaRefLay
import Derived.Lib.IndexAny
namespace Go.Proofs.Ytdmpbfhbjklajaa.HeadPure
open Go.Proofs.Ytdmpbfhbjklajaa Go.RowKit Go.Proofs.YtdmpbfhbjklajaaW.PrintWords Go.Proofs.YtdmpbfhbjklajaaW.PrintLast Go.Proofs.YtdmpbfhbjklajaaW.PrintMore Go.Proofs.Ytdmpbfhbjklajaa.Byt Go.Proofs.Ytdmpbfhbjklajaa.OctPure Go.Proofs.Ytdmpbfhbjklajaa.Img Go.Proofs.Ytdmpbfhbjklajaa.Head Go.Proofs.Ytdmpbfhbjklajaa.HeadPut Go.Proofs.Ytdmpbfhbjklajaa.RefLay
set_option linter.unusedVariables false

abbrev Z (n : Nat) : List Int := List.replicate n 0
theorem Z_add (a b : Nat) : Z (a + b) = Z a ++ Z b := List.replicate_append_replicate.symm
theorem ins_end {P m : List Int} {o c : Nat} (hP : P.length = o) (hm : m.length ≤ c) : ins (P ++ Z c) o m = (P ++ m) ++ Z (c - m.length) := by
  subst hP
  rw [ins_eq _ _ _ (by rw [List.length_append, List.length_replicate]; omega)]
  have h1 : (P ++ Z c).take P.length = P := List.take_left
  have h2 : (P ++ Z c).drop (P.length + m.length) = Z (c - m.length) := by
    rw [← List.drop_drop, List.drop_left, List.drop_replicate]
  rw [h1, h2]
theorem ins_text {P : List Int} {s : ByteArray} {o c wd : Nat} (hP : P.length = o) (hs : s.size ≤ wd) (hw : wd ≤ c) : ins (P ++ Z c) o (bytesOf s) = (P ++ tx s wd) ++ Z (c - wd) := by
  rw [ins_end hP (by rw [bytesOf_length]; omega), bytesOf_length]
  unfold tx
  rw [show c - s.size = (wd - s.size) + (c - wd) by omega, Z_add]
  simp only [List.append_assoc]
theorem gap {P : List Int} {c g : Nat} (h : g ≤ c) : P ++ Z c = (P ++ tx ⟨#[]⟩ g) ++ Z (c - g) := by
  have e : tx ⟨#[]⟩ g = Z g := by unfold tx; simp [bytesOf]; rfl
  rw [e, List.append_assoc, ← Z_add, Nat.add_sub_cancel' h]
theorem putlen (n w : Int) (h : (putS n w).2 = 0) : ((putS n w).1.length : Int) = w := by
  unfold putS at h ⊢
  split at h
  · rename_i hc
    rw [if_pos hc]
    split at h
    · rename_i h1
      rw [if_pos h1]
      simp [digs_length]; omega
    · split at h
      · rename_i h1 h2
        rw [if_neg h1, if_pos h2]
        simp [byts_length]; omega
      · cases h
  · cases h
theorem ok8 (n : Int) (h0 : 0 ≤ n) (h1 : n ≤ 2097151) : (putS n 8).2 = 0 := by
  have h8 : ((8 : Int) ^ ((8 : Int) - 1).toNat) = 2097152 := by decide
  unfold putS
  rw [if_pos (by omega), if_pos (by rw [h8]; omega)]
theorem left_zero : ∀ (c : Nat) (x : Int), 0 ≤ x → x < 256 ^ c → left c x = 0
  | 0, x, h0, h1 => by
    have : (256 : Int) ^ 0 = 1 := by decide
    unfold left
    omega
  | c + 1, x, h0, h1 => by
    have h2 : (256 : Int) ^ (c + 1) = 256 ^ c * 256 := Int.pow_succ ..
    have h3 : x / 256 < 256 ^ c := by
      apply Int.ediv_lt_of_lt_mul (by decide)
      rw [← h2]; exact h1
    have := left_zero c (x / 256) (by omega) h3
    unfold left
    exact this
theorem ok12 (n : Int) (h0 : 0 ≤ n) (h1 : n ≤ 1099511627776) : (putS n 12).2 = 0 := by
  unfold putS
  rw [if_pos (by omega)]
  split
  · rfl
  · rw [if_pos]
    refine left_zero _ n h0 ?_
    have : ((256 : Int) ^ ((12 : Int) - 1).toNat) = 309485009821345068724781056 := by decide
    omega
theorem len8 (n : Int) (h0 : 0 ≤ n) (h1 : n ≤ 2097151) : (putS n 8).1.length = 8 := by have := putlen n 8 (ok8 n h0 h1); omega
theorem len12 (n : Int) (h0 : 0 ≤ n) (h1 : n ≤ 1099511627776) : (putS n 12).1.length = 12 := by have := putlen n 12 (ok12 n h0 h1); omega
theorem ustar : tx USTAR 8 = MAGIC := by decide

theorem body_eq (n p : ByteArray) (m s t y : Int) (k : ByteArray) (hn : n.size ≤ 100) (hp : p.size ≤ 155) (hk : k.size ≤ 100) (hm : 0 ≤ m ∧ m ≤ 4095) (hs : 0 ≤ s ∧ s ≤ 8589934591) (ht : 0 ≤ t ∧ t ≤ 1099511627776) :
    bodyS n p m s t y k = rbodyS n p m s t y k := by
  unfold bodyS rbodyS
  have m8 := len8 m hm.1 (by omega)
  have z8 := len8 0 (by decide) (by decide)
  have s12 := len12 s hs.1 (by omega)
  have t12 := len12 t ht.1 ht.2
  have tn := tx_len hn
  have tk := tx_len hk
  have tp := tx_len hp
  generalize (putS m 8).1 = M at m8 ⊢
  generalize (putS 0 8).1 = O at z8 ⊢
  generalize (putS s 12).1 = S at s12 ⊢
  generalize (putS t 12).1 = T at t12 ⊢
  have e8 : (tx (⟨#[]⟩ : ByteArray) 8).length = 8 := tx_len (by decide)
  have e64 : (tx (⟨#[]⟩ : ByteArray) 64).length = 64 := tx_len (by decide)
  have eM : MAGIC.length = 8 := rfl
  have h0 : Z512 = [] ++ Z 512 := rfl
  rw [h0, ins_text (P := []) (o := 0) (wd := 100) rfl hn (by decide)]
  rw [ins_end (by simp only [List.length_append, List.length_nil, tn]) (by rw [m8]; decide), m8]
  rw [ins_end (by simp only [List.length_append, List.length_nil, tn, m8]) (by rw [z8]; decide), z8]
  rw [ins_end (by simp only [List.length_append, List.length_nil, tn, m8, z8]) (by rw [z8]; decide), z8]
  rw [ins_end (by simp only [List.length_append, List.length_nil, tn, m8, z8]) (by rw [s12]; decide), s12]
  rw [ins_end (by simp only [List.length_append, List.length_nil, tn, m8, z8, s12]) (by rw [t12]; decide), t12]
  rw [gap (g := 8) (by decide)]
  rw [show ∀ l : List Int, l.set 156 y = ins l 156 [y] from fun _ => rfl]
  rw [ins_end (by simp only [List.length_append, List.length_nil, tn, m8, z8, s12, t12, e8]) (by simp only [List.length_cons, List.length_nil]; decide), show [y].length = 1 from rfl]
  rw [ins_text (wd := 100) (by simp only [List.length_append, List.length_nil, List.length_cons, tn, m8, z8, s12, t12, e8]) hk (by decide)]
  rw [ins_end (by simp only [List.length_append, List.length_nil, List.length_cons, tn, m8, z8, s12, t12, e8, tk]) (by rw [eM]; decide)]
  rw [eM, gap (g := 64) (by decide)]
  rw [ins_end (by simp only [List.length_append, List.length_nil, List.length_cons, tn, m8, z8, s12, t12, e8, tk, eM, e64]) (by rw [z8]; decide), z8]
  rw [ins_end (by simp only [List.length_append, List.length_nil, List.length_cons, tn, m8, z8, s12, t12, e8, tk, eM, e64]) (by rw [z8]; decide), z8]
  rw [ins_text (wd := 155) (by simp only [List.length_append, List.length_nil, List.length_cons, tn, m8, z8, s12, t12, e8, tk, eM, e64]) hp (by decide)]
  rw [gap (g := 12) (by decide), ustar]
  simp

/-- The reference's sum. -/
theorem rsum_l0 (B : List Int) (hl : B.length = 512) (hB : Bytes B) (d : Nat) : ∀ (k i : Nat), d + i = 512 → d < k → PSeal.tabularyref10_Sum.l0 k B (sumS B i) (i : Int) = some (sumS B 512) := by
  induction d with
  | zero =>
    intro k i hi hk
    obtain ⟨k, rfl⟩ : ∃ m, k = m + 1 := ⟨k - 1, by omega⟩
    obtain rfl : i = 512 := by omega
    simp only [PSeal.tabularyref10_Sum.l0]
    rw [if_neg (by omega)]
  | succ d ih =>
    intro k i hi hk
    obtain ⟨k, rfl⟩ : ∃ m, k = m + 1 := ⟨k - 1, by omega⟩
    have hr := sumS_range hB i
    have hb := hB i
    simp only [PSeal.tabularyref10_Sum.l0]
    rw [if_pos (by omega)]
    have e1 : wrap64 ((i : Int) + 1) = ((i + 1 : Nat) : Int) := by rw [w64 (by omega)]; rfl
    by_cases h1 : 148 ≤ i
    · rw [if_pos (by omega)]
      by_cases h2 : i < 156
      · rw [if_pos (by omega), e1, w64 (by omega), ← sumS_in ⟨h1, h2⟩]
        exact ih k (i + 1) (by omega) (by omega)
      · rw [if_neg (by omega), if_pos (by omega), e1, show rd B (i : Int) = bn B i from rfl, w64 (a := bn B i) (by omega), w64 (by omega), ← sumS_out (by omega)]
        exact ih k (i + 1) (by omega) (by omega)
    · rw [if_neg (by omega), if_pos (by omega), e1, show rd B (i : Int) = bn B i from rfl, w64 (a := bn B i) (by omega), w64 (by omega), ← sumS_out (by omega)]
      exact ih k (i + 1) (by omega) (by omega)
theorem rsum (B : List Int) (hl : B.length = 512) (hB : Bytes B) (k : Nat) (hk : 600 < k) : PSeal.tabularyref10_Sum.f k B = some (sumS B 512) := rsum_l0 B hl hB 512 k 0 rfl (by omega)

theorem seal_list (B : List Int) (hl : B.length = 512) (hB : Bytes B) : sealS B = B.take 148 ++ (putS (sumS B 512) 7).1 ++ [32] ++ B.drop 156 := by
  have hr := sumS_range hB 512
  have h7 := (put7 (sumS B 512) (by omega) (by omega)).1
  unfold sealS
  rw [ins_eq _ _ _ (by omega), h7]
  generalize (putS (sumS B 512) 7).1 = m at h7 ⊢
  have e : B.drop 155 = B[155]'(by omega) :: B.drop 156 := List.drop_eq_getElem_cons (by omega)
  rw [show 148 + 7 = 155 from rfl, e, List.set_append_right _ _ (by rw [List.length_append, List.length_take]; omega)]
  rw [show 155 - (B.take 148 ++ m).length = 0 by rw [List.length_append, List.length_take]; omega]
  simp only [List.set_cons_zero, List.append_assoc, List.cons_append, List.nil_append]
theorem rseal (B : List Int) (hl : B.length = 512) (hB : Bytes B) (k : Nat) (hk : 600 < k) : PSeal.tabularyref10_Seal.f k B = some (sealS B) := by
  have hr := sumS_range hB 512
  have h7 := (put7 (sumS B 512) (by omega) (by omega)).1
  unfold PSeal.tabularyref10_Seal.f
  rw [if_pos (by omega), if_pos (by simp only [List.length_nil, List.length_take]; omega), rsum B hl hB k hk]
  simp only [Option.bind_some]
  unfold PSeal.tabularyref10_number.f
  rw [RefPure.rput _ _ (by omega) k (by omega)]
  simp only [Option.bind_some, List.nil_append]
  rw [if_pos (by rw [List.length_take, h7]; omega)]
  simp only [Option.bind_some]
  rw [if_pos (by rw [List.length_append, List.length_take, h7]; omega), if_pos (by omega), if_pos (by simp only [List.length_append, List.length_take, h7, List.length_drop, List.length_cons, List.length_nil]; omega), seal_list B hl hB]

theorem may_zero {n p : ByteArray} {m s t y : Int} {k : ByteArray} (h : mayS n p m s t y k = 0) : (0 ≤ m ∧ m ≤ 4095) ∧ (0 ≤ s ∧ s ≤ 8589934591) ∧ (0 ≤ t ∧ t ≤ 1099511627776) := by
  unfold mayS at h
  split at h
  · split at h
    · cases h
    · split at h
      · cases h
      · split at h
        · cases h
        · omega
  · cases h
/-- A head that may be is laid the same. -/
theorem rlay_eq (n p : ByteArray) (m s t y : Int) (k : ByteArray) (hy : 0 ≤ y ∧ y ≤ 255) (h : mayS n p m s t y k = 0) : rlayF n p m s t y k = some (layS n p m s t y k) := by
  obtain ⟨h1, h2, h3⟩ := may_sizes h
  obtain ⟨hm, hs, ht⟩ := may_zero h
  have hb := body_ok n p m s t y k hy
  unfold rlayF
  rw [if_pos ⟨h1, h3, h2, by omega, by omega, by omega⟩, ← body_eq n p m s t y k h1 h3 h2 hm hs ht, rseal _ hb.1 hb.2 1000 (by decide)]
  rfl
theorem nul_iff (n p k : ByteArray) : 0 ≤ nulAt n p k ↔ (0 ∈ n.data.toList ∨ 0 ∈ k.data.toList ∨ 0 ∈ p.data.toList) := by
  unfold nulAt
  have := Lib.contains_iff_indexByte (n.data.toList ++ (k.data.toList ++ p.data.toList)) 0
  simp only [List.contains_eq_mem] at this
  have h2 := decide_eq_decide.1 this
  rw [← h2]
  simp
end Go.Proofs.Ytdmpbfhbjklajaa.HeadPure
