/- Texts of this claim, laid together by wip/tools/squash.py: HeadPure, HeadLaw, HPutIm, PPutx0, PPutx1, PPutx2. -/
import Derived.Test.YtdmpbfhbjklajaaQB7
import Derived.Lib.IndexAny
import Derived.Test.YtdmpbfhbjklajaaProg
import Derived.Below
import Derived.Deep.Draws
import Derived.Deep.AppendLies
import Derived.Maps.AppendAt
import Derived.OwnWalk
import Derived.Laws.BytesArg
import Derived.Laws.MakeOwn
import Derived.Laws.OwnMore
import Derived.Deep.OwnRows
import Derived.Tactics
import Derived.Lib.ConvBytes
import Derived.Laws.Slices
import Derived.WalkKit
import Derived.KernelRfl
import Derived.RowKit3
import Derived.Deep.LoopGhost
import Derived.Deep.QuietTactic
import Derived.BigQuiet
import Derived.WideLaws
import Derived.Deep.DeepCutAuto
import Derived.Deep.CutBlock
import Derived.Deep.RegionHeld3
import Derived.Laws.Rows
import Derived.Lib.AppendStr
import Derived.ArgAppend
import Derived.Laws.IdiomCopy
import Derived.OrdersHeld
import Derived.Laws.BitsLemmas
import Derived.RowKit
import Derived.Test.YtdmpbfhbjklajaaWWords
import Derived.Test.YtdmpbfhbjklajaaWLast
import Derived.Test.YtdmpbfhbjklajaaWTab
import Derived.Test.YtdmpbfhbjklajaaWFour
import Derived.Test.YtdmpbfhbjklajaaWQPut
import Derived.Test.YtdmpbfhbjklajaaWApart
import Derived.Test.YtdmpbfhbjklajaaWArr
import Derived.Test.YtdmpbfhbjklajaaWZeros
import Derived.Test.YtdmpbfhbjklajaaWFoot
import Derived.Test.YtdmpbfhbjklajaaWKept
import Derived.Test.YtdmpbfhbjklajaaWShare
import Derived.Test.YtdmpbfhbjklajaaWN
import Derived.Test.YtdmpbfhbjklajaaWFootNe
import Derived.Test.YtdmpbfhbjklajaaWAt
import Derived.Test.YtdmpbfhbjklajaaWEqStruct
import Derived.Test.YtdmpbfhbjklajaaWRepsOne
import Derived.Test.YtdmpbfhbjklajaaWInv
import Derived.Test.YtdmpbfhbjklajaaWInvWords
import Derived.Test.YtdmpbfhbjklajaaWGuard
import Derived.Test.YtdmpbfhbjklajaaWNEv
import Derived.Test.YtdmpbfhbjklajaaWMore

/- The two ways of laying a head's bytes are one: over a table of noughts, and one behind the other. -/
section
namespace Go.Proofs.Ytdmpbfhbjklajaa.HeadPure
open Go.Proofs.Ytdmpbfhbjklajaa Go.RowKit Go.Proofs.YtdmpbfhbjklajaaW.PrintWords Go.Proofs.YtdmpbfhbjklajaaW.PrintLast Go.Proofs.YtdmpbfhbjklajaaW.PrintMore Go.Proofs.Ytdmpbfhbjklajaa.Byt Go.Proofs.Ytdmpbfhbjklajaa.OctPure Go.Proofs.Ytdmpbfhbjklajaa.Img Go.Proofs.Ytdmpbfhbjklajaa.Head Go.Proofs.Ytdmpbfhbjklajaa.HeadPut Go.Proofs.Ytdmpbfhbjklajaa.RefLay
set_option linter.unusedVariables false

abbrev Z (n : Nat) : List Int := List.replicate n 0
theorem Z_add (a b : Nat) : Z (a + b) = Z a ++ Z b := List.replicate_append_replicate.symm
theorem ins_end {P m : List Int} {o c : Nat} (hP : P.length = o) (hm : m.length ≤ c) : ins (P ++ Z c) o m = (P ++ m) ++ Z (c - m.length) := by
  subst hP
  rw [ins_eq _ _ _ (by rw [List.length_append, List.length_replicate]; omega)]
  have h1 : (P ++ Z c).take P.length = P := List.take_left
  have h2 : (P ++ Z c).drop (P.length + m.length) = Z (c - m.length) := by
    rw [← List.drop_drop, List.drop_left, List.drop_replicate]
  rw [h1, h2]
theorem ins_text {P : List Int} {s : ByteArray} {o c wd : Nat} (hP : P.length = o) (hs : s.size ≤ wd) (hw : wd ≤ c) : ins (P ++ Z c) o (bytesOf s) = (P ++ tx s wd) ++ Z (c - wd) := by
  rw [ins_end hP (by rw [bytesOf_length]; omega), bytesOf_length]
  unfold tx
  rw [show c - s.size = (wd - s.size) + (c - wd) by omega, Z_add]
  simp only [List.append_assoc]
theorem gap {P : List Int} {c g : Nat} (h : g ≤ c) : P ++ Z c = (P ++ tx ⟨#[]⟩ g) ++ Z (c - g) := by
  have e : tx ⟨#[]⟩ g = Z g := by unfold tx; simp [bytesOf]; rfl
  rw [e, List.append_assoc, ← Z_add, Nat.add_sub_cancel' h]
theorem putlen (n w : Int) (h : (putS n w).2 = 0) : ((putS n w).1.length : Int) = w := by
  unfold putS at h ⊢
  split at h
  · rename_i hc
    rw [if_pos hc]
    split at h
    · rename_i h1
      rw [if_pos h1]
      simp [digs_length]; omega
    · split at h
      · rename_i h1 h2
        rw [if_neg h1, if_pos h2]
        simp [byts_length]; omega
      · cases h
  · cases h
theorem ok8 (n : Int) (h0 : 0 ≤ n) (h1 : n ≤ 2097151) : (putS n 8).2 = 0 := by
  have h8 : ((8 : Int) ^ ((8 : Int) - 1).toNat) = 2097152 := by decide
  unfold putS
  rw [if_pos (by omega), if_pos (by rw [h8]; omega)]
theorem left_zero : ∀ (c : Nat) (x : Int), 0 ≤ x → x < 256 ^ c → left c x = 0
  | 0, x, h0, h1 => by
    have : (256 : Int) ^ 0 = 1 := by decide
    unfold left
    omega
  | c + 1, x, h0, h1 => by
    have h2 : (256 : Int) ^ (c + 1) = 256 ^ c * 256 := Int.pow_succ ..
    have h3 : x / 256 < 256 ^ c := by
      apply Int.ediv_lt_of_lt_mul (by decide)
      rw [← h2]; exact h1
    have := left_zero c (x / 256) (by omega) h3
    unfold left
    exact this
theorem ok12 (n : Int) (h0 : 0 ≤ n) (h1 : n ≤ 1099511627776) : (putS n 12).2 = 0 := by
  unfold putS
  rw [if_pos (by omega)]
  split
  · rfl
  · rw [if_pos]
    refine left_zero _ n h0 ?_
    have : ((256 : Int) ^ ((12 : Int) - 1).toNat) = 309485009821345068724781056 := by decide
    omega
theorem len8 (n : Int) (h0 : 0 ≤ n) (h1 : n ≤ 2097151) : (putS n 8).1.length = 8 := by have := putlen n 8 (ok8 n h0 h1); omega
theorem len12 (n : Int) (h0 : 0 ≤ n) (h1 : n ≤ 1099511627776) : (putS n 12).1.length = 12 := by have := putlen n 12 (ok12 n h0 h1); omega
theorem ustar : tx USTAR 8 = MAGIC := by decide

theorem body_eq (n p : ByteArray) (m s t y : Int) (k : ByteArray) (hn : n.size ≤ 100) (hp : p.size ≤ 155) (hk : k.size ≤ 100) (hm : 0 ≤ m ∧ m ≤ 4095) (hs : 0 ≤ s ∧ s ≤ 8589934591) (ht : 0 ≤ t ∧ t ≤ 1099511627776) :
    bodyS n p m s t y k = rbodyS n p m s t y k := by
  unfold bodyS rbodyS
  have m8 := len8 m hm.1 (by omega)
  have z8 := len8 0 (by decide) (by decide)
  have s12 := len12 s hs.1 (by omega)
  have t12 := len12 t ht.1 ht.2
  have tn := tx_len hn
  have tk := tx_len hk
  have tp := tx_len hp
  generalize (putS m 8).1 = M at m8 ⊢
  generalize (putS 0 8).1 = O at z8 ⊢
  generalize (putS s 12).1 = S at s12 ⊢
  generalize (putS t 12).1 = T at t12 ⊢
  have e8 : (tx (⟨#[]⟩ : ByteArray) 8).length = 8 := tx_len (by decide)
  have e64 : (tx (⟨#[]⟩ : ByteArray) 64).length = 64 := tx_len (by decide)
  have eM : MAGIC.length = 8 := rfl
  have h0 : Z512 = [] ++ Z 512 := rfl
  rw [h0, ins_text (P := []) (o := 0) (wd := 100) rfl hn (by decide)]
  rw [ins_end (by simp only [List.length_append, List.length_nil, tn]) (by rw [m8]; decide), m8]
  rw [ins_end (by simp only [List.length_append, List.length_nil, tn, m8]) (by rw [z8]; decide), z8]
  rw [ins_end (by simp only [List.length_append, List.length_nil, tn, m8, z8]) (by rw [z8]; decide), z8]
  rw [ins_end (by simp only [List.length_append, List.length_nil, tn, m8, z8]) (by rw [s12]; decide), s12]
  rw [ins_end (by simp only [List.length_append, List.length_nil, tn, m8, z8, s12]) (by rw [t12]; decide), t12]
  rw [gap (g := 8) (by decide)]
  rw [show ∀ l : List Int, l.set 156 y = ins l 156 [y] from fun _ => rfl]
  rw [ins_end (by simp only [List.length_append, List.length_nil, tn, m8, z8, s12, t12, e8]) (by simp only [List.length_cons, List.length_nil]; decide), show [y].length = 1 from rfl]
  rw [ins_text (wd := 100) (by simp only [List.length_append, List.length_nil, List.length_cons, tn, m8, z8, s12, t12, e8]) hk (by decide)]
  rw [ins_end (by simp only [List.length_append, List.length_nil, List.length_cons, tn, m8, z8, s12, t12, e8, tk]) (by rw [eM]; decide)]
  rw [eM, gap (g := 64) (by decide)]
  rw [ins_end (by simp only [List.length_append, List.length_nil, List.length_cons, tn, m8, z8, s12, t12, e8, tk, eM, e64]) (by rw [z8]; decide), z8]
  rw [ins_end (by simp only [List.length_append, List.length_nil, List.length_cons, tn, m8, z8, s12, t12, e8, tk, eM, e64]) (by rw [z8]; decide), z8]
  rw [ins_text (wd := 155) (by simp only [List.length_append, List.length_nil, List.length_cons, tn, m8, z8, s12, t12, e8, tk, eM, e64]) hp (by decide)]
  rw [gap (g := 12) (by decide), ustar]
  simp

/-- The reference's sum. -/
theorem rsum_l0 (B : List Int) (hl : B.length = 512) (hB : Bytes B) (d : Nat) : ∀ (k i : Nat), d + i = 512 → d < k → PSeal.tabularyref10_Sum.l0 k B (sumS B i) (i : Int) = some (sumS B 512) := by
  induction d with
  | zero =>
    intro k i hi hk
    obtain ⟨k, rfl⟩ : ∃ m, k = m + 1 := ⟨k - 1, by omega⟩
    obtain rfl : i = 512 := by omega
    simp only [PSeal.tabularyref10_Sum.l0]
    rw [if_neg (by omega)]
  | succ d ih =>
    intro k i hi hk
    obtain ⟨k, rfl⟩ : ∃ m, k = m + 1 := ⟨k - 1, by omega⟩
    have hr := sumS_range hB i
    have hb := hB i
    simp only [PSeal.tabularyref10_Sum.l0]
    rw [if_pos (by omega)]
    have e1 : wrap64 ((i : Int) + 1) = ((i + 1 : Nat) : Int) := by rw [w64 (by omega)]; rfl
    by_cases h1 : 148 ≤ i
    · rw [if_pos (by omega)]
      by_cases h2 : i < 156
      · rw [if_pos (by omega), e1, w64 (by omega), ← sumS_in ⟨h1, h2⟩]
        exact ih k (i + 1) (by omega) (by omega)
      · rw [if_neg (by omega), if_pos (by omega), e1, show rd B (i : Int) = bn B i from rfl, w64 (a := bn B i) (by omega), w64 (by omega), ← sumS_out (by omega)]
        exact ih k (i + 1) (by omega) (by omega)
    · rw [if_neg (by omega), if_pos (by omega), e1, show rd B (i : Int) = bn B i from rfl, w64 (a := bn B i) (by omega), w64 (by omega), ← sumS_out (by omega)]
      exact ih k (i + 1) (by omega) (by omega)
theorem rsum (B : List Int) (hl : B.length = 512) (hB : Bytes B) (k : Nat) (hk : 600 < k) : PSeal.tabularyref10_Sum.f k B = some (sumS B 512) := rsum_l0 B hl hB 512 k 0 rfl (by omega)

theorem seal_list (B : List Int) (hl : B.length = 512) (hB : Bytes B) : sealS B = B.take 148 ++ (putS (sumS B 512) 7).1 ++ [32] ++ B.drop 156 := by
  have hr := sumS_range hB 512
  have h7 := (put7 (sumS B 512) (by omega) (by omega)).1
  unfold sealS
  rw [ins_eq _ _ _ (by omega), h7]
  generalize (putS (sumS B 512) 7).1 = m at h7 ⊢
  have e : B.drop 155 = B[155]'(by omega) :: B.drop 156 := List.drop_eq_getElem_cons (by omega)
  rw [show 148 + 7 = 155 from rfl, e, List.set_append_right _ _ (by rw [List.length_append, List.length_take]; omega)]
  rw [show 155 - (B.take 148 ++ m).length = 0 by rw [List.length_append, List.length_take]; omega]
  simp only [List.set_cons_zero, List.append_assoc, List.cons_append, List.nil_append]
theorem rseal (B : List Int) (hl : B.length = 512) (hB : Bytes B) (k : Nat) (hk : 600 < k) : PSeal.tabularyref10_Seal.f k B = some (sealS B) := by
  have hr := sumS_range hB 512
  have h7 := (put7 (sumS B 512) (by omega) (by omega)).1
  unfold PSeal.tabularyref10_Seal.f
  rw [if_pos (by omega), if_pos (by simp only [List.length_nil, List.length_take]; omega), rsum B hl hB k hk]
  simp only [Option.bind_some]
  unfold PSeal.tabularyref10_number.f
  rw [RefPure.rput _ _ (by omega) k (by omega)]
  simp only [Option.bind_some, List.nil_append]
  rw [if_pos (by rw [List.length_take, h7]; omega)]
  simp only [Option.bind_some]
  rw [if_pos (by rw [List.length_append, List.length_take, h7]; omega), if_pos (by omega), if_pos (by simp only [List.length_append, List.length_take, h7, List.length_drop, List.length_cons, List.length_nil]; omega), seal_list B hl hB]

theorem may_zero {n p : ByteArray} {m s t y : Int} {k : ByteArray} (h : mayS n p m s t y k = 0) : (0 ≤ m ∧ m ≤ 4095) ∧ (0 ≤ s ∧ s ≤ 8589934591) ∧ (0 ≤ t ∧ t ≤ 1099511627776) := by
  unfold mayS at h
  split at h
  · split at h
    · cases h
    · split at h
      · cases h
      · split at h
        · cases h
        · omega
  · cases h
/-- A head that may be is laid the same. -/
theorem rlay_eq (n p : ByteArray) (m s t y : Int) (k : ByteArray) (hy : 0 ≤ y ∧ y ≤ 255) (h : mayS n p m s t y k = 0) : rlayF n p m s t y k = some (layS n p m s t y k) := by
  obtain ⟨h1, h2, h3⟩ := may_sizes h
  obtain ⟨hm, hs, ht⟩ := may_zero h
  have hb := body_ok n p m s t y k hy
  unfold rlayF
  rw [if_pos ⟨h1, h3, h2, by omega, by omega, by omega⟩, ← body_eq n p m s t y k h1 h3 h2 hm hs ht, rseal _ hb.1 hb.2 1000 (by decide)]
  rfl
theorem nul_iff (n p k : ByteArray) : 0 ≤ nulAt n p k ↔ (0 ∈ n.data.toList ∨ 0 ∈ k.data.toList ∨ 0 ∈ p.data.toList) := by
  unfold nulAt
  have := Lib.contains_iff_indexByte (n.data.toList ++ (k.data.toList ++ p.data.toList)) 0
  simp only [List.contains_eq_mem] at this
  have h2 := decide_eq_decide.1 this
  rw [← h2]
  simp
end Go.Proofs.Ytdmpbfhbjklajaa.HeadPure
end

/- A head's bytes, in plain words: there and back; a byte that is another is seen; what is sealed. -/
section
namespace Go.Proofs.Ytdmpbfhbjklajaa.HeadLaw
open Go.Proofs.Ytdmpbfhbjklajaa Go.RowKit Go.Proofs.YtdmpbfhbjklajaaW.PrintWords Go.Proofs.YtdmpbfhbjklajaaW.PrintLast Go.Proofs.YtdmpbfhbjklajaaW.PrintMore Go.Proofs.Ytdmpbfhbjklajaa.Byt Go.Proofs.Ytdmpbfhbjklajaa.OctPure Go.Proofs.Ytdmpbfhbjklajaa.Img Go.Proofs.Ytdmpbfhbjklajaa.Head Go.Proofs.Ytdmpbfhbjklajaa.HeadPut Go.Proofs.Ytdmpbfhbjklajaa.HeadSums Go.Proofs.Ytdmpbfhbjklajaa.HText Go.Proofs.Ytdmpbfhbjklajaa.RefLay Go.Proofs.Ytdmpbfhbjklajaa.HeadPure Go.Proofs.Ytdmpbfhbjklajaa.HGetC
set_option linter.unusedVariables false
set_option linter.unusedSimpArgs false

theorem part_mid (a b c : List Int) {o n : Nat} (ha : a.length = o) (hb : b.length = n) : HGet.part (a ++ (b ++ c)) o n = b := by
  subst ha hb
  unfold HGet.part
  rw [List.drop_left, List.take_left]
theorem str_bytes (s : ByteArray) : strOfNums (bytesOf s) = s := by
  apply ba_ext
  rw [strOfNums_list]
  unfold bytesOf
  rw [List.map_map]
  conv => rhs; rw [← List.map_id s.data.toList]
  refine List.map_congr_left fun b _ => ?_
  simp
theorem first_tx {s : ByteArray} {wd : Nat} (h : (0 : UInt8) ∉ s.data.toList) : firstS (tx s wd) = s := by
  unfold firstS tx
  rw [List.takeWhile_append_of_pos]
  · rw [show (List.replicate (wd - s.size) (0 : Int)).takeWhile (fun x => decide (x ≠ 0)) = [] by cases (wd - s.size) <;> simp [List.replicate_succ], List.append_nil, str_bytes]
  · intro x hx
    unfold bytesOf at hx
    obtain ⟨b, hb, rfl⟩ := List.mem_map.1 hx
    refine decide_eq_true fun e => h ?_
    have : b = 0 := by
      apply UInt8.toNat_inj.1
      have : (b.toNat : Int) = 0 := e
      simpa using this
    rw [← this]; exact hb
theorem bn_append_left {a b : List Int} {j : Nat} (h : j < a.length) : bn (a ++ b) j = bn a j := by
  rw [bn_getD, bn_getD, List.getD_eq_getElem?_getD, List.getD_eq_getElem?_getD, List.getElem?_append_left h]
theorem bn_append_right {a b : List Int} {j : Nat} (h : a.length ≤ j) : bn (a ++ b) j = bn b (j - a.length) := by
  rw [bn_getD, bn_getD, List.getD_eq_getElem?_getD, List.getD_eq_getElem?_getD, List.getElem?_append_right h]
/-- What is sealed: what stands ahead, the sum, a blank, what stands behind. -/
theorem seal_parts (B : List Int) (hl : B.length = 512) (hB : Bytes B) : (sealS B).take 148 = B.take 148 ∧ (sealS B).drop 156 = B.drop 156 ∧ HGet.part (sealS B) 148 7 = (putS (sumS B 512) 7).1 ∧ ∀ j, ¬ (148 ≤ j ∧ j < 156) → bn (sealS B) j = bn B j := by
  have hr := sumS_range hB 512
  have h7 := (put7 (sumS B 512) (by omega) (by omega)).1
  rw [seal_list B hl hB]
  generalize (putS (sumS B 512) 7).1 = m at h7 ⊢
  have h1 : (B.take 148).length = 148 := by rw [List.length_take]; omega
  have e : B.take 148 ++ m ++ [32] ++ B.drop 156 = B.take 148 ++ (m ++ ([32] ++ B.drop 156)) := by simp only [List.append_assoc]
  have e2 : B.take 148 ++ m ++ [32] ++ B.drop 156 = (B.take 148 ++ m ++ [32]) ++ B.drop 156 := rfl
  have h3 : (B.take 148 ++ m ++ [32]).length = 156 := by simp only [List.length_append, h1, h7, List.length_cons, List.length_nil]
  refine ⟨?_, ?_, ?_, ?_⟩
  · rw [e]; exact List.take_left' h1
  · rw [e2]; exact List.drop_left' h3
  · rw [e]; exact part_mid _ _ _ h1 h7
  · intro j hj
    by_cases h : j < 148
    · rw [e, bn_append_left (by omega), bn_take B 148 j h]
    · rw [e2, bn_append_right (by omega), h3, bn_drop, show 156 + (j - 156) = j by omega]
theorem sum_congr {l l' : List Int} (h : ∀ j, ¬ (148 ≤ j ∧ j < 156) → bn l j = bn l' j) : ∀ k, sumS l k = sumS l' k
  | 0 => rfl
  | k + 1 => by
    have := sum_congr h k
    by_cases hk : 148 ≤ k ∧ k < 156
    · rw [sumS_in hk, sumS_in hk, this]
    · rw [sumS_out hk, sumS_out hk, this, h k hk]
theorem sum_seal (B : List Int) (hl : B.length = 512) (hB : Bytes B) : sumS (sealS B) 512 = sumS B 512 := sum_congr (seal_parts B hl hB).2.2.2 512
/-- What is alike but for the sum's place is sealed the same. -/
theorem seal_congr (A B : List Int) (hA : A.length = 512 ∧ Bytes A) (hB : B.length = 512 ∧ Bytes B) (h1 : A.take 148 = B.take 148) (h2 : A.drop 156 = B.drop 156) (h3 : sumS A 512 = sumS B 512) : sealS A = sealS B := by
  rw [seal_list A hA.1 hA.2, seal_list B hB.1 hB.2, h1, h2, h3]
theorem seal_seal (B : List Int) (hl : B.length = 512) (hB : Bytes B) : sealS (sealS B) = sealS B := by
  have hp := seal_parts B hl hB
  exact seal_congr _ _ (seal_ok ⟨hl, hB⟩) ⟨hl, hB⟩ hp.1 hp.2.1 (sum_seal B hl hB)
theorem bn_set (l : List Int) (i : Nat) (c : Int) (j : Nat) : bn (l.set i c) j = if i = j ∧ i < l.length then c else bn l j := by
  rw [bn_getD, bn_getD, List.getD_eq_getElem?_getD, List.getD_eq_getElem?_getD, List.getElem?_set]
  by_cases h : i = j
  · subst h
    by_cases h2 : i < l.length
    · rw [if_pos rfl, if_pos h2, if_pos ⟨rfl, h2⟩]; rfl
    · rw [if_pos rfl, if_neg h2, if_neg (by simp [h2]), List.getElem?_eq_none (by omega)]
  · rw [if_neg h, if_neg (by simp [h])]
theorem sum_set (l : List Int) (i : Nat) (c : Int) (hi : i < l.length) (ho : ¬ (148 ≤ i ∧ i < 156)) : ∀ k, sumS (l.set i c) k = sumS l k + if i < k then c - bn l i else 0
  | 0 => by simp [sumS]
  | k + 1 => by
    have := sum_set l i c hi ho k
    by_cases hk : 148 ≤ k ∧ k < 156
    · rw [sumS_in hk, sumS_in hk, this]
      have : k ≠ i := fun e => ho (by omega)
      by_cases h : i < k
      · rw [if_pos h, if_pos (by omega)]; omega
      · rw [if_neg h, if_neg (by omega)]; omega
    · rw [sumS_out hk, sumS_out hk, this, bn_set]
      by_cases h : i < k
      · rw [if_pos h, if_neg (by omega), if_pos (show i < k + 1 by omega)]; omega
      · by_cases h2 : i = k
        · subst h2; rw [if_neg h, if_pos ⟨rfl, hi⟩, if_pos (show i < i + 1 by omega)]; omega
        · rw [if_neg h, if_neg (by omega), if_neg (show ¬ i < k + 1 by omega)]; omega
theorem put7_inj {a b : Int} (ha : 0 ≤ a ∧ a ≤ 130560) (hb : 0 ≤ b ∧ b ≤ 130560) (h : (putS a 7).1 = (putS b 7).1) : a = b := by
  have h1 := exact_put a 7 (by omega) (put7 a ha.1 ha.2).2
  have h2 := exact_put b 7 (by omega) (put7 b hb.1 hb.2).2
  rw [h, h2] at h1
  exact (Prod.ext_iff.1 h1).1.symm
theorem set_bytes {l : List Int} (h : l.length = 512 ∧ Bytes l) (i : Nat) {c : Int} (hc : 0 ≤ c ∧ c ≤ 255) : (l.set i c).length = 512 ∧ Bytes (l.set i c) := set_ok hc h
/-- A byte of what is sealed that is another: it is sealed no more. -/
theorem unsealed_set (L : List Int) (hL : L.length = 512 ∧ Bytes L) (hS : sealS L = L) (i : Nat) (hi : i < 512) (c : Int) (hc : 0 ≤ c ∧ c ≤ 255) (hn : bn L i ≠ c) : sealS (L.set i c) ≠ L.set i c := by
  intro h
  have hL' := set_bytes hL i hc
  have hr := sumS_range hL.2 512
  have hr' := sumS_range hL'.2 512
  have p1 := seal_parts L hL.1 hL.2
  have p2 := seal_parts _ hL'.1 hL'.2
  by_cases hin : 148 ≤ i ∧ i < 156
  · have hs : sumS (L.set i c) 512 = sumS L 512 := sum_congr (fun j hj => by rw [bn_set, if_neg (by omega)]) 512
    have : sealS (L.set i c) = sealS L := seal_congr _ _ hL' hL (by rw [List.take_set_of_le hin.1]) (by rw [List.drop_set_of_lt hin.2]) hs
    rw [h, hS] at this
    have := congrArg (fun l => bn l i) this
    simp only [bn_set] at this
    rw [if_pos ⟨trivial, by omega⟩] at this
    exact hn this.symm
  · have e1 : HGet.part (L.set i c) 148 7 = HGet.part L 148 7 := by
      unfold HGet.part
      by_cases h1 : i < 148
      · rw [List.drop_set_of_lt h1]
      · apply List.ext_getElem?
        intro j
        simp only [List.getElem?_take, List.getElem?_drop, List.getElem?_set]
        by_cases hj : j < 7
        · rw [if_pos hj, if_pos hj, if_neg (by omega)]
        · rw [if_neg hj, if_neg hj]
    have e2 : (putS (sumS (L.set i c) 512) 7).1 = (putS (sumS L 512) 7).1 := by rw [← p2.2.2.1, ← p1.2.2.1, h, hS, e1]
    have e3 := put7_inj ⟨hr'.1, by omega⟩ ⟨hr.1, by omega⟩ e2
    rw [sum_set L i c (by omega) hin, if_pos hi] at e3
    exact hn (by omega)
/-- Two bytes changed about: the same sum. -/
theorem sum_swap (L : List Int) (hL : L.length = 512) (i k : Nat) (hi : i < 512) (hk : k < 512) (oi : ¬ (148 ≤ i ∧ i < 156)) (ok : ¬ (148 ≤ k ∧ k < 156)) : sumS ((L.set i (bn L k)).set k (bn L i)) 512 = sumS L 512 := by
  rw [sum_set _ k _ (by rw [List.length_set]; omega) ok, sum_set L i _ (by omega) oi, if_pos hi, if_pos hk, bn_set]
  by_cases h : i = k
  · subst h; rw [if_pos ⟨rfl, by omega⟩]; omega
  · rw [if_neg (by omega)]; omega

/-- The list of a head that may be. -/
theorem lay_list (n p : ByteArray) (m s t y : Int) (k : ByteArray) (hy : 0 ≤ y ∧ y ≤ 255) (h : mayS n p m s t y k = 0) :
    sealS (layS n p m s t y k) = layS n p m s t y k ∧ (layS n p m s t y k).length = 512 ∧ Bytes (layS n p m s t y k) ∧
    HGet.part (layS n p m s t y k) 0 100 = tx n 100 ∧ HGet.part (layS n p m s t y k) 100 8 = (putS m 8).1 ∧ HGet.part (layS n p m s t y k) 124 12 = (putS s 12).1 ∧ HGet.part (layS n p m s t y k) 136 12 = (putS t 12).1 ∧
    bn (layS n p m s t y k) 156 = y ∧ HGet.part (layS n p m s t y k) 157 100 = tx k 100 ∧ HGet.part (layS n p m s t y k) 257 8 = MAGIC ∧ HGet.part (layS n p m s t y k) 345 155 = tx p 155 := by
  obtain ⟨h1, h2, h3⟩ := may_sizes h
  obtain ⟨hm, hs, ht⟩ := may_zero h
  have hb := body_ok n p m s t y k hy
  have hok := seal_ok hb
  have hp := seal_parts _ hb.1 hb.2
  have hss := seal_seal _ hb.1 hb.2
  have hlist := seal_list _ hb.1 hb.2
  have hr := sumS_range hb.2 512
  have h7 := (put7 (sumS (bodyS n p m s t y k) 512) (by omega) (by omega)).1
  refine ⟨hss, hok.1, hok.2, ?_⟩
  unfold layS
  rw [hlist]
  generalize (putS (sumS (bodyS n p m s t y k) 512) 7).1 = P7 at h7 ⊢
  clear hlist hss hp hok hr
  rw [body_eq n p m s t y k h1 h3 h2 hm hs ht]
  clear hb
  have m8 := len8 m hm.1 (by omega)
  have z8 := len8 0 (by decide) (by decide)
  have s12 := len12 s hs.1 (by omega)
  have t12 := len12 t ht.1 ht.2
  have tn := tx_len h1
  have tk := tx_len h2
  have tp := tx_len h3
  unfold rbodyS
  generalize (putS m 8).1 = M at m8 ⊢
  generalize (putS 0 8).1 = O at z8 ⊢
  generalize (putS s 12).1 = S at s12 ⊢
  generalize (putS t 12).1 = T at t12 ⊢
  generalize tx n 100 = N at tn ⊢
  generalize tx k 100 = K at tk ⊢
  generalize tx p 155 = P at tp ⊢
  have e8 : (tx (⟨#[]⟩ : ByteArray) 8).length = 8 := tx_len (by decide)
  have e64 : (tx (⟨#[]⟩ : ByteArray) 64).length = 64 := tx_len (by decide)
  rw [ustar]
  have eM : MAGIC.length = 8 := rfl
  generalize tx (⟨#[]⟩ : ByteArray) 8 = E8 at e8 ⊢
  generalize tx (⟨#[]⟩ : ByteArray) 64 = E64 at e64 ⊢
  generalize tx (⟨#[]⟩ : ByteArray) 12 = E12
  generalize MAGIC = MG at eM ⊢
  have hR : ((((((((((((((([] ++ N) ++ M) ++ O) ++ O) ++ S) ++ T) ++ E8) ++ [y]) ++ K) ++ MG) ++ E64) ++ O) ++ O) ++ P) ++ E12) = (N ++ M ++ O ++ O ++ S ++ T) ++ (E8 ++ ([y] ++ K ++ MG ++ E64 ++ O ++ O ++ P ++ E12)) := by simp only [List.append_assoc, List.nil_append]
  rw [hR]
  have hA : (N ++ M ++ O ++ O ++ S ++ T).length = 148 := by simp only [List.length_append, tn, m8, z8, s12, t12]
  rw [List.take_left' hA, show (156 : Nat) = 148 + 8 from rfl, ← List.drop_drop, List.drop_left' hA, List.drop_left' e8]
  refine ⟨?_, ?_, ?_, ?_, ?_, ?_, ?_, ?_⟩
  · rw [show (N ++ M ++ O ++ O ++ S ++ T) ++ P7 ++ [32] ++ ([y] ++ K ++ MG ++ E64 ++ O ++ O ++ P ++ E12) = [] ++ (N ++ (M ++ O ++ O ++ S ++ T ++ P7 ++ [32] ++ ([y] ++ K ++ MG ++ E64 ++ O ++ O ++ P ++ E12))) by simp only [List.append_assoc, List.nil_append]]
    exact part_mid _ _ _ rfl tn
  · rw [show (N ++ M ++ O ++ O ++ S ++ T) ++ P7 ++ [32] ++ ([y] ++ K ++ MG ++ E64 ++ O ++ O ++ P ++ E12) = N ++ (M ++ (O ++ O ++ S ++ T ++ P7 ++ [32] ++ ([y] ++ K ++ MG ++ E64 ++ O ++ O ++ P ++ E12))) by simp only [List.append_assoc]]
    exact part_mid _ _ _ tn m8
  · rw [show (N ++ M ++ O ++ O ++ S ++ T) ++ P7 ++ [32] ++ ([y] ++ K ++ MG ++ E64 ++ O ++ O ++ P ++ E12) = (N ++ M ++ O ++ O) ++ (S ++ (T ++ P7 ++ [32] ++ ([y] ++ K ++ MG ++ E64 ++ O ++ O ++ P ++ E12))) by simp only [List.append_assoc]]
    exact part_mid _ _ _ (by simp only [List.length_append, tn, m8, z8]) s12
  · rw [show (N ++ M ++ O ++ O ++ S ++ T) ++ P7 ++ [32] ++ ([y] ++ K ++ MG ++ E64 ++ O ++ O ++ P ++ E12) = (N ++ M ++ O ++ O ++ S) ++ (T ++ (P7 ++ [32] ++ ([y] ++ K ++ MG ++ E64 ++ O ++ O ++ P ++ E12))) by simp only [List.append_assoc]]
    exact part_mid _ _ _ (by simp only [List.length_append, tn, m8, z8, s12]) t12
  · rw [show (N ++ M ++ O ++ O ++ S ++ T) ++ P7 ++ [32] ++ ([y] ++ K ++ MG ++ E64 ++ O ++ O ++ P ++ E12) = (N ++ M ++ O ++ O ++ S ++ T ++ P7 ++ [32]) ++ (y :: (K ++ MG ++ E64 ++ O ++ O ++ P ++ E12)) by simp only [List.append_assoc, List.cons_append, List.nil_append]]
    have h0 : (N ++ M ++ O ++ O ++ S ++ T ++ P7 ++ [32]).length = 156 := by simp only [List.length_append, tn, m8, z8, s12, t12, h7, List.length_cons, List.length_nil]
    rw [bn_append_right (by omega), h0]
    rfl
  · rw [show (N ++ M ++ O ++ O ++ S ++ T) ++ P7 ++ [32] ++ ([y] ++ K ++ MG ++ E64 ++ O ++ O ++ P ++ E12) = (N ++ M ++ O ++ O ++ S ++ T ++ P7 ++ [32] ++ [y]) ++ (K ++ (MG ++ E64 ++ O ++ O ++ P ++ E12)) by simp only [List.append_assoc]]
    exact part_mid _ _ _ (by simp only [List.length_append, tn, m8, z8, s12, t12, h7, List.length_cons, List.length_nil]) tk
  · rw [show (N ++ M ++ O ++ O ++ S ++ T) ++ P7 ++ [32] ++ ([y] ++ K ++ MG ++ E64 ++ O ++ O ++ P ++ E12) = (N ++ M ++ O ++ O ++ S ++ T ++ P7 ++ [32] ++ [y] ++ K) ++ (MG ++ (E64 ++ O ++ O ++ P ++ E12)) by simp only [List.append_assoc]]
    exact part_mid _ _ _ (by simp only [List.length_append, tn, m8, z8, s12, t12, h7, tk, List.length_cons, List.length_nil]) eM
  · rw [show (N ++ M ++ O ++ O ++ S ++ T) ++ P7 ++ [32] ++ ([y] ++ K ++ MG ++ E64 ++ O ++ O ++ P ++ E12) = (N ++ M ++ O ++ O ++ S ++ T ++ P7 ++ [32] ++ [y] ++ K ++ MG ++ E64 ++ O ++ O) ++ (P ++ E12) by simp only [List.append_assoc]]
    exact part_mid _ _ _ (by simp only [List.length_append, tn, m8, z8, s12, t12, h7, tk, eM, e64, List.length_cons, List.length_nil]) tp
theorem may_nul {n p : ByteArray} {m s t y : Int} {k : ByteArray} (h : mayS n p m s t y k = 0) : (0 : UInt8) ∉ n.data.toList ∧ (0 : UInt8) ∉ k.data.toList ∧ (0 : UInt8) ∉ p.data.toList := by
  have hn : ¬ 0 ≤ nulAt n p k := by
    unfold mayS at h
    split at h
    · split at h
      · cases h
      · split at h
        · cases h
        · assumption
    · cases h
  rw [nul_iff] at hn
  exact ⟨fun h => hn (.inl h), fun h => hn (.inr (.inl h)), fun h => hn (.inr (.inr h))⟩
/-- THERE AND BACK. -/
theorem get_lay (n p : ByteArray) (m s t y : Int) (k : ByteArray) (hy : 0 ≤ y ∧ y ≤ 255) (h : mayS n p m s t y k = 0) : getF (layS n p m s t y k) = some (n, p, m, s, t, y, k, 0) := by
  obtain ⟨q0, q1, q2, q3, q4, q5, q6, q7, q8, q9, q10⟩ := lay_list n p m s t y k hy h
  obtain ⟨n1, n2, n3⟩ := may_nul h
  obtain ⟨hm, hs, ht⟩ := may_zero h
  have h8 := exact_put m 8 (by omega) (ok8 m hm.1 (by omega))
  have h9 := exact_put s 12 (by omega) (ok12 s hs.1 (by omega))
  have h10 := exact_put t 12 (by omega) (ok12 t ht.1 ht.2)
  unfold getF
  rw [if_pos (show AreB _ from mem_of_bytes q2), if_pos q1, if_pos q9, if_pos q0, q3, q4, q5, q6, q7, q8, q10, first_tx n1, first_tx n2, first_tx n3, h8, h9, h10, if_pos ⟨rfl, rfl, rfl⟩, if_pos ⟨h, rfl⟩]
/-- AND BACK AGAIN. -/
theorem put_get {l : List Int} {n p : ByteArray} {m s t y : Int} {k : ByteArray} {e : Int} (h : getF l = some (n, p, m, s, t, y, k, e)) :
    (e = 0 → putF n p m s t y k = some (l, 0)) ∧ (e ≠ 0 → n = ⟨#[]⟩ ∧ p = ⟨#[]⟩ ∧ m = 0 ∧ s = 0 ∧ t = 0 ∧ y = 0 ∧ k = ⟨#[]⟩) := by
  unfold getF at h
  split at h
  · rename_i hB
    have h := Option.some.inj h
    split at h
    · split at h
      · split at h
        · split at h
          · split at h
            · rename_i h1 h2 h3 h4 h5
              simp only [Prod.mk.injEq] at h
              obtain ⟨rfl, rfl, rfl, rfl, rfl, rfl, rfl, rfl⟩ := h
              refine ⟨fun _ => ?_, fun h => absurd rfl h⟩
              obtain ⟨hm, hs, ht⟩ := may_zero h5.1
              unfold putF
              have hy := bytes_of_mem hB 156
              rw [if_pos ⟨hy, by omega, by omega, by omega⟩, if_pos h5.1, h5.2]
            · simp only [Prod.mk.injEq] at h
              obtain ⟨rfl, rfl, rfl, rfl, rfl, rfl, rfl, rfl⟩ := h
              exact ⟨fun h => absurd h (by decide), fun _ => ⟨rfl, rfl, rfl, rfl, rfl, rfl, rfl⟩⟩
          · simp only [Prod.mk.injEq] at h
            obtain ⟨rfl, rfl, rfl, rfl, rfl, rfl, rfl, rfl⟩ := h
            exact ⟨fun h => absurd h (by decide), fun _ => ⟨rfl, rfl, rfl, rfl, rfl, rfl, rfl⟩⟩
        · simp only [Prod.mk.injEq] at h
          obtain ⟨rfl, rfl, rfl, rfl, rfl, rfl, rfl, rfl⟩ := h
          exact ⟨fun h => absurd h (by decide), fun _ => ⟨rfl, rfl, rfl, rfl, rfl, rfl, rfl⟩⟩
      · simp only [Prod.mk.injEq] at h
        obtain ⟨rfl, rfl, rfl, rfl, rfl, rfl, rfl, rfl⟩ := h
        exact ⟨fun h => absurd h (by decide), fun _ => ⟨rfl, rfl, rfl, rfl, rfl, rfl, rfl⟩⟩
    · simp only [Prod.mk.injEq] at h
      obtain ⟨rfl, rfl, rfl, rfl, rfl, rfl, rfl, rfl⟩ := h
      exact ⟨fun h => absurd h (by decide), fun _ => ⟨rfl, rfl, rfl, rfl, rfl, rfl, rfl⟩⟩
  · cases h
/-- A head's byte that is another is seen. -/
theorem get_set (L : List Int) (hL : L.length = 512 ∧ Bytes L) (hS : sealS L = L) (i : Nat) (hi : i < 512) (c : Int) (hc : 0 ≤ c ∧ c ≤ 255) (hn : bn L i ≠ c) :
    ∃ e : Int, (e = 100 ∨ e = 101) ∧ getF (L.set i c) = some (⟨#[]⟩, ⟨#[]⟩, 0, 0, 0, 0, ⟨#[]⟩, e) := by
  have hL' := set_bytes hL i hc
  have hu := unsealed_set L hL hS i hi c hc hn
  unfold getF
  rw [if_pos (show AreB _ from mem_of_bytes hL'.2), if_pos hL'.1, if_neg hu]
  by_cases h : HGet.part (L.set i c) 257 8 = MAGIC
  · rw [if_pos h]; exact ⟨101, .inr rfl, rfl⟩
  · rw [if_neg h]; exact ⟨100, .inl rfl, rfl⟩
/-- What is sealed is never refused for its sum. -/
theorem get_sealed {L : List Int} (hS : sealS L = L) (hA : AreB L) : ∃ n p m s t y k e, getF L = some (n, p, m, s, t, y, k, e) ∧ e ≠ 101 := by
  unfold getF
  rw [if_pos hA, if_pos hS]
  split
  · split
    · split
      · split
        · exact ⟨_, _, _, _, _, _, _, _, rfl, by decide⟩
        · exact ⟨_, _, _, _, _, _, _, _, rfl, by decide⟩
      · exact ⟨_, _, _, _, _, _, _, _, rfl, by decide⟩
    · exact ⟨_, _, _, _, _, _, _, _, rfl, by decide⟩
  · exact ⟨_, _, _, _, _, _, _, _, rfl, by decide⟩
theorem get_some {L : List Int} (hA : AreB L) : ∃ n p m s t y k e, getF L = some (n, p, m, s, t, y, k, e) := by
  unfold getF
  rw [if_pos hA]
  exact ⟨_, _, _, _, _, _, _, _, rfl⟩
end Go.Proofs.Ytdmpbfhbjklajaa.HeadLaw
end

/- A head put: its bytes lie in an array of their own. -/
section
namespace Go.Proofs.Ytdmpbfhbjklajaa.HPutIm
open Go.Proofs.Ytdmpbfhbjklajaa Go.RowKit Go.Proofs.YtdmpbfhbjklajaaW.PrintWords Go.Proofs.YtdmpbfhbjklajaaW.PrintLast Go.Proofs.YtdmpbfhbjklajaaW.PrintMore Go.Proofs.Ytdmpbfhbjklajaa.Byt Go.Proofs.Ytdmpbfhbjklajaa.OctPure Go.Proofs.Ytdmpbfhbjklajaa.Img Go.Proofs.Ytdmpbfhbjklajaa.Head Go.Proofs.Ytdmpbfhbjklajaa.Lay Go.Proofs.Ytdmpbfhbjklajaa.HeadPut
set_option linter.unusedVariables false
set_option linter.unusedSimpArgs false
set_option maxRecDepth 100000 in
set_option maxHeartbeats 16000000 in
theorem put_im (n p : ByteArray) (m s t y : Int) (k : ByteArray) (R : List Int) (w : World) (hF : Fit m s t y) (hE : mayS n p m s t y k = 0) (hR : R = layS n p m s t y k) :
    Calls Try.prog 21 #[.agg #[.string n, .string p, .int .i64 m, .int .i64 s, .int .i64 t, .int .u8 y, .string k]] w fun e w' => ∃ g, e = .returned (.tuple #[.slice (some ⟨g, 0, none⟩) 512 512, .int .i64 0]) ∧ w.heap.size ≤ g ∧ IM w' g R ∧ Below w.heap.size w w' := by
  have HE := Lib.hid hE.symm
  have HR := Lib.hid hR
  have HF := Lib.hid hF
  have hz := zI
  have HS := Lib.hid (may_sizes hE)
  have hRl : R.length = 512 := by rw [hR]; exact (seal_ok (body_ok n p m s t y k hF.1)).1
  have HI := Lib.hid (show (Try.prog.info? TI).map (·.size) = some (nums .u8 R).toArray.size by rw [show (nums .u8 R).toArray.size = 512 by simp [nums, hRl]]; exact infoI)
  have HT := Lib.hid (show ZV.size = (nums .u8 R).toArray.size by rw [show (nums .u8 R).toArray.size = 512 by simp [nums, hRl]]; rfl)
  clear hE hR hF hRl
  go_enter Try.func21, Try.ntmps21
  go_wp2_with (first
    | (go_at_call 34; go_loud ((with_reducible refine (may_at n p m s t y k 0 _ HE.out).mono ?_); rintro e w1 ⟨rfl, hb1⟩; have HB1 := Lib.hid (below_then ((Below.refl w.heap.size w).alloc (Nat.le_refl _) _) (by simp) hb1); have HX1 := Lib.hid (blk_below (blk_new w (.cells #[.string n, .string p, .int .i64 m, .int .i64 s, .int .i64 t, .int .u8 y, .string k] TH)) hb1); clear hb1))
    | (go_at_call 35; go_loud ((with_reducible refine (lay_at n p m s t y k R _ HR.out HS.out HF.out).mono ?_); rintro e w2 ⟨rfl, hb2⟩; have HB2 := Lib.hid (HB1.out.trans (hb2.mono HB1.out.size)); clear hb2))
    | ((with_reducible refine gate_dst (N := 11) rfl ?_); refine wpList_load_row rfl TH (.tmp 1) rfl w.heap.size rfl TH _ (0, 0) _ HX1.out Try.underlying24 rfl (by kernel_rfl) ?_)
    | (refine wpList_store_row rfl TI (.tmp 5) (.tmp 12) rfl w2.heap.size (nums .u8 R).toArray rfl rfl TI ZV (blk_new w2 (.cells ZV TI)) HI.out HT.out (bytes_one R) ?_))
  go_ret2
  refine ⟨w2.heap.size, rfl, HB2.out.size, ?_, below_setRow (HB2.out.alloc HB2.out.size _) HB2.out.size _⟩
  exact setRow_heap _ w2.heap.size ZV (nums .u8 R).toArray TI (0, 0) (blk_new w2 (.cells ZV TI))
theorem put_no (n p : ByteArray) (m s t y : Int) (k : ByteArray) (E : Int) (w : World) (hF : Fit m s t y) (hE : E = mayS n p m s t y k) (h0 : E ≠ 0) :
    Calls Try.prog 21 #[.agg #[.string n, .string p, .int .i64 m, .int .i64 s, .int .i64 t, .int .u8 y, .string k]] w fun e w' => e = .returned (.tuple #[.slice none 0 0, .int .i64 E]) ∧ Below w.heap.size w w' := by
  have HE := Lib.hid hE
  have hne : (E == 0) = false := by simpa using h0
  clear hE hF h0
  go_enter Try.func21, Try.ntmps21
  go_wp2_with (go_at_call 34; go_loud ((with_reducible refine (may_at n p m s t y k E _ HE.out).mono ?_); rintro e w1 ⟨rfl, hb1⟩; have HB1 := Lib.hid (below_then ((Below.refl w.heap.size w).alloc (Nat.le_refl _) _) (by simp) hb1); clear hb1))
  go_ret2
  exact ⟨rfl, HB1.out⟩
end Go.Proofs.Ytdmpbfhbjklajaa.HPutIm
end

-- Written by wip/tools/myprint.py, a program of this session over the print tool: not a printed text of the kit's
section
namespace Go.Proofs.Ytdmpbfhbjklajaa.PPut
open Go.RowKit Go.Proofs.YtdmpbfhbjklajaaW.PrintWords Go.Proofs.YtdmpbfhbjklajaaW.PrintLast Go.Proofs.YtdmpbfhbjklajaaW.PrintMore
attribute [local go_sem] max2_int min2_int max_two min_two max_three min_three max_four min_four   -- for this text's walks alone
set_option linter.unusedVariables false
set_option linter.unusedSimpArgs false
set_option maxRecDepth 20000



def errW : Option Int → Value
 | none => .nilIface
 | some c => .iface 0 (.int .i64 c)
theorem errW_none : errW none = .nilIface := rfl
theorem errW_some (c : Int) : errW (some c) = .iface 0 (.int .i64 c) := rfl

-- the values' own types

end Go.Proofs.Ytdmpbfhbjklajaa.PPut
end

-- Written by wip/tools/myprint.py, a program of this session over the print tool: not a printed text of the kit's
section
namespace Go.Proofs.Ytdmpbfhbjklajaa.PPut
open Go.RowKit Go.Proofs.YtdmpbfhbjklajaaW.PrintWords Go.Proofs.YtdmpbfhbjklajaaW.PrintLast Go.Proofs.YtdmpbfhbjklajaaW.PrintMore
attribute [local go_sem] max2_int min2_int max_two min_two max_three min_three max_four min_four   -- for this text's walks alone
set_option linter.unusedVariables false
set_option linter.unusedSimpArgs false
set_option maxRecDepth 20000

/-! ### tabularyref10_nul: function 45 -/
def tabularyref10_nul.l0 : Nat → ByteArray → Int → Option (Bool)
 | 0, _, _ => none
 | k + 1, x0, x3 => if x3 < (x0.size : Int) then (if 0 ≤ x3 then (if (bt x0 x3) = 0 then (some true) else (tabularyref10_nul.l0 k x0 (wrap64 (x3 + 1)))) else (none)) else (some false)
def tabularyref10_nul.f (k : Nat) (a0 : ByteArray) : Option (Bool) := tabularyref10_nul.l0 k a0 0
set_option maxHeartbeats 8000000 in
set_option maxRecDepth 100000 in
theorem tabularyref10_nul.calls (k : Nat) (a0 : ByteArray) (r : Bool) (w : World) (h : tabularyref10_nul.f k a0 = some r) :
  Calls Try.prog 45 #[.string a0] w fun e w' => e = .returned (.bool r) ∧ Drawn0 w w' := by
 have H : (tabularyref10_nul.l0 k a0 0) = some r := h
 clear h
 have H' := Aside0.mk H
 clear H
 go_enter Try.func45, Try.ntmps45
 go_wp2
 go_loopg [3] k (fun kq v3 w' => ∃ (x3_1 : Int), v3 = .int .i64 x3_1 ∧ Aside0 (tabularyref10_nul.l0 kq a0 x3_1 = some r) ∧ Aside0 (kq ≤ k) ∧ Drawn0 w w')
 case atStart => exact ⟨(0), (by first | rfl | (simp; done) | (simp [*]; done)), H', ⟨Nat.le_refl _⟩, by repeat (first | exact Drawn0.refl _ | apply Drawn0.step)⟩
 case round =>
  clear H'
  obtain ⟨x3_1, rfl, HA, HK1, ⟨m1, rfl⟩⟩ := hrel
  cases gk with
  | zero => exact absurd HA.out (by simp [tabularyref10_nul.l0])
  | succ k1 =>
   have H := HA.out
   clear HA
   simp only [tabularyref10_nul.l0] at H
   by_cases c2 : x3_1 < (a0.size : Int)
   ·rw [if_pos c2] at H
    have c2b0 : decide (x3_1 < (a0.size : Int)) = true := decide_eq_true c2
    clear c2
    by_cases c3 : 0 ≤ x3_1
    ·rw [if_pos c3] at H
     have c3b0 : decide (0 ≤ x3_1) = true := decide_eq_true c3
     clear c3
     by_cases c5 : (bt a0 x3_1) = 0
     ·rw [if_pos c5] at H
      have c5b0 : ((bt a0 x3_1) == 0) = true := beq_iff_eq.mpr c5
      have c5b1 : ((bt a0 x3_1) != 0) = false := bne_eq_false_iff_eq.mpr c5
      clear c5
      obtain rfl := Option.some.inj H
      have p4 : 0 ≤ (x3_1 : Int) := of_decide_eq_true (by first | (with_reducible assumption) | assumption)
      have q4 : x3_1 < (a0.size : Int) := of_decide_eq_true (by first | (with_reducible assumption) | assumption)
      have hx4 := bt_at a0 x3_1
      replace p4 := eq_true p4
      replace q4 := eq_true q4
      go_wp2
      go_ret
      exact ⟨by first | rfl | (simp; done) | (simp [*]; done), by repeat (first | exact Drawn0.refl _ | apply Drawn0.step)⟩
     ·rw [if_neg c5] at H
      have c5b0 : ((bt a0 x3_1) == 0) = false := beq_eq_false_iff_ne.mpr c5
      have c5b1 : ((bt a0 x3_1) != 0) = true := bne_iff_ne.mpr c5
      have H' := Aside0.mk H
      clear H
      have p4 : 0 ≤ (x3_1 : Int) := of_decide_eq_true (by first | (with_reducible assumption) | assumption)
      have q4 : x3_1 < (a0.size : Int) := of_decide_eq_true (by first | (with_reducible assumption) | assumption)
      have hx4 := bt_at a0 x3_1
      replace p4 := eq_true p4
      replace q4 := eq_true q4
      go_wp2
      go_roundg k1
      case measure => have := HK1.out; omega
      case rel => exact ⟨(wrap64 (x3_1 + 1)), (by first | rfl | (simp; done) | (simp [*]; done)), H', ⟨by have := HK1.out; omega⟩, by repeat (first | exact Drawn0.refl _ | apply Drawn0.step)⟩
    ·rw [if_neg c3] at H
     exact absurd H (by simp)
   ·rw [if_neg c2] at H
    have c2b0 : decide (x3_1 < (a0.size : Int)) = false := decide_eq_false c2
    clear c2
    obtain rfl := Option.some.inj H
    go_wp2
    go_ret
    exact ⟨by first | rfl | (simp; done) | (simp [*]; done), by repeat (first | exact Drawn0.refl _ | apply Drawn0.step)⟩

end Go.Proofs.Ytdmpbfhbjklajaa.PPut
end

-- Written by wip/tools/myprint.py, a program of this session over the print tool: not a printed text of the kit's
section
namespace Go.Proofs.Ytdmpbfhbjklajaa.PPut
open Go.RowKit Go.Proofs.YtdmpbfhbjklajaaW.PrintWords Go.Proofs.YtdmpbfhbjklajaaW.PrintLast Go.Proofs.YtdmpbfhbjklajaaW.PrintMore
attribute [local go_sem] max2_int min2_int max_two min_two max_three min_three max_four min_four   -- for this text's walks alone
set_option linter.unusedVariables false
set_option linter.unusedSimpArgs false
set_option maxRecDepth 20000

/-! ### tabularyref10_May: function 36 -/
mutual
def tabularyref10_May.j0 : Nat → Bool → ByteArray → ByteArray → Int → Int → Int → Int → ByteArray → Option (Int)
 | 0, _, _, _, _, _, _, _, _ => none
 | k + 1, x25, x102000, x102001, x102002, x102003, x102004, x102005, x102006 => if x25 = true then (some 102) else (if (x102000.size : Int) > 100 then (tabularyref10_May.j1 k true x102000 x102001 x102002 x102003 x102004 x102005 x102006) else (if (x102006.size : Int) > 100 then (tabularyref10_May.j1 k true x102000 x102001 x102002 x102003 x102004 x102005 x102006) else (tabularyref10_May.j1 k (decide ((x102001.size : Int) > 155)) x102000 x102001 x102002 x102003 x102004 x102005 x102006)))
def tabularyref10_May.j1 : Nat → Bool → ByteArray → ByteArray → Int → Int → Int → Int → ByteArray → Option (Int)
 | 0, _, _, _, _, _, _, _, _ => none
 | k + 1, x41, x102000, x102001, x102002, x102003, x102004, x102005, x102006 => if x41 = true then (some 2) else ((tabularyref10_nul.f k x102000).bind fun t102 => (if t102 = true then (tabularyref10_May.j2 k true x102000 x102001 x102002 x102003 x102004 x102005 x102006) else ((tabularyref10_nul.f k x102006).bind fun t103 => (if t103 = true then (tabularyref10_May.j2 k true x102000 x102001 x102002 x102003 x102004 x102005 x102006) else ((tabularyref10_nul.f k x102001).bind fun t104 => (tabularyref10_May.j2 k t104 x102000 x102001 x102002 x102003 x102004 x102005 x102006))))))
def tabularyref10_May.j2 : Nat → Bool → ByteArray → ByteArray → Int → Int → Int → Int → ByteArray → Option (Int)
 | 0, _, _, _, _, _, _, _, _ => none
 | k + 1, x54, x102000, x102001, x102002, x102003, x102004, x102005, x102006 => if x54 = true then (some 82) else (if x102002 < 0 then (some 1) else (if x102002 > 4095 then (some 1) else (if x102003 < 0 then (some 1) else (if x102003 > 8589934591 then (some 1) else (if x102004 < 0 then (some 1) else (if x102004 > 1099511627776 then (some 1) else (some 0)))))))
end
def tabularyref10_May.f (k : Nat) (a0_0 : ByteArray) (a0_1 : ByteArray) (a0_2 : Int) (a0_3 : Int) (a0_4 : Int) (a0_5 : Int) (a0_6 : ByteArray) : Option (Int) := if a0_5 = 48 then (tabularyref10_May.j0 k false a0_0 a0_1 a0_2 a0_3 a0_4 a0_5 a0_6) else (if a0_5 = 49 then (tabularyref10_May.j0 k false a0_0 a0_1 a0_2 a0_3 a0_4 a0_5 a0_6) else (if a0_5 = 50 then (tabularyref10_May.j0 k false a0_0 a0_1 a0_2 a0_3 a0_4 a0_5 a0_6) else (if a0_5 = 53 then (tabularyref10_May.j0 k false a0_0 a0_1 a0_2 a0_3 a0_4 a0_5 a0_6) else (tabularyref10_May.j0 k (a0_5 != 120) a0_0 a0_1 a0_2 a0_3 a0_4 a0_5 a0_6))))
set_option maxHeartbeats 8000000 in
set_option maxRecDepth 100000 in
theorem tabularyref10_May.calls (k : Nat) (a0_0 : ByteArray) (a0_1 : ByteArray) (a0_2 : Int) (a0_3 : Int) (a0_4 : Int) (a0_5 : Int) (a0_6 : ByteArray) (r : Int) (w : World) (h : tabularyref10_May.f k a0_0 a0_1 a0_2 a0_3 a0_4 a0_5 a0_6 = some r) :
  Calls Try.prog 36 #[.agg #[.string a0_0, .string a0_1, .int .i64 a0_2, .int .i64 a0_3, .int .i64 a0_4, .int .u8 a0_5, .string a0_6]] w fun e w' => e = .returned (.int .i64 r) ∧ Below w.heap.size w w' := by
 have hu24 := Try.underlying24
 have HB := Aside0.mk (Below.refl w.heap.size w)
 have H : (if a0_5 = 48 then (tabularyref10_May.j0 k false a0_0 a0_1 a0_2 a0_3 a0_4 a0_5 a0_6) else (if a0_5 = 49 then (tabularyref10_May.j0 k false a0_0 a0_1 a0_2 a0_3 a0_4 a0_5 a0_6) else (if a0_5 = 50 then (tabularyref10_May.j0 k false a0_0 a0_1 a0_2 a0_3 a0_4 a0_5 a0_6) else (if a0_5 = 53 then (tabularyref10_May.j0 k false a0_0 a0_1 a0_2 a0_3 a0_4 a0_5 a0_6) else (tabularyref10_May.j0 k (a0_5 != 120) a0_0 a0_1 a0_2 a0_3 a0_4 a0_5 a0_6))))) = some r := h
 clear h
 have HC2 := Aside0.mk H
 clear H
 go_enter Try.func36, Try.ntmps36
 go_upto_region 1 with (first | ((with_reducible refine gate_dst (N := 1) rfl ?_); (try (refine gate_guard (by rfl) ?_; dsimp only)); refine box_event ?hg (N := 1) ?hd (cs := #[.string a0_0, .string a0_1, .int .i64 a0_2, .int .i64 a0_3, .int .i64 a0_4, .int .u8 a0_5, .string a0_6]) (t := 24) ?hr ?_; (case hd => rfl); (case hg => rfl); (case hr => first | (go_simp; done) | (go_simp; rfl)); intro gb101 hg w3 hbox hb; have n0_ := Aside0.mk (below_step (by repeat (first | (with_reducible first | exact HB.out | apply below_alloc | apply pw_below_drewN | apply below_drew1) | exact HB.out)) hb); have n1_ := Aside0.mk (hbox); have n2_ := Aside0.mk ((by rw [hg]; exact (below_size (by repeat (first | (with_reducible first | exact HB.out | apply below_alloc | apply pw_below_drewN | apply below_drew1) | exact HB.out))) : w.heap.size ≤ gb101)); have n3_ := Aside0.mk ((by rw [hg]; exact (below_size (by repeat (first | (with_reducible first | exact HB.out | apply below_alloc | apply pw_below_drewN | apply below_drew1) | exact HB.out))) : w.heap.size ≤ gb101)); clear HB; have HB := n0_; have BK101 := n1_; have GW101 := n2_; have GE101 := n3_; clear n0_ n1_ n2_ n3_; clear hb hbox hg))
 (try simp only [Act.put, List.setIfInBounds_toArray, List.set_cons_zero, List.set_cons_succ])
 go_cut [25] (fun v25 wc => ∃ (kq : Nat) (x25_1 : Bool), v25 = .bool x25_1 ∧ Aside0 (tabularyref10_May.j0 kq x25_1 a0_0 a0_1 a0_2 a0_3 a0_4 a0_5 a0_6 = some r) ∧ Aside0 (kq ≤ k) ∧ Aside0 (wc.heap[gb101]? = some (.cells #[.string a0_0, .string a0_1, .int .i64 a0_2, .int .i64 a0_3, .int .i64 a0_4, .int .u8 a0_5, .string a0_6] 24 (0, 0))) ∧ Aside0 (Below w.heap.size w wc))
 case first =>
  have H := HC2.out
  clear HC2
  by_cases c4 : a0_5 = 48
  ·rw [if_pos c4] at H
   have c4b0 : (a0_5 == 48) = true := beq_iff_eq.mpr c4
   have c4b1 : (a0_5 != 48) = false := bne_eq_false_iff_eq.mpr c4
   clear c4
   (first | rw [c4b0] | (simp only [i64_w, i32_w]; rw [c4b0]) | skip)
   have H' := Aside0.mk H
   clear H
   have hcz5_0 : w3.cell? ⟨gb101, 0, none⟩ = some (.string a0_0) := (blk_cell BK101.out 0).trans rfl
   have hcz5_1 : w3.cell? ⟨gb101, 1, none⟩ = some (.string a0_1) := (blk_cell BK101.out 1).trans rfl
   have hcz5_2 : w3.cell? ⟨gb101, 2, none⟩ = some (.int .i64 a0_2) := (blk_cell BK101.out 2).trans rfl
   have hcz5_3 : w3.cell? ⟨gb101, 3, none⟩ = some (.int .i64 a0_3) := (blk_cell BK101.out 3).trans rfl
   have hcz5_4 : w3.cell? ⟨gb101, 4, none⟩ = some (.int .i64 a0_4) := (blk_cell BK101.out 4).trans rfl
   have hcz5_5 : w3.cell? ⟨gb101, 5, none⟩ = some (.int .u8 a0_5) := (blk_cell BK101.out 5).trans rfl
   have hcz5_6 : w3.cell? ⟨gb101, 6, none⟩ = some (.string a0_6) := (blk_cell BK101.out 6).trans rfl
   have hfz5_0 := blk_frozen BK101.out 0
   have hfz5_1 := blk_frozen BK101.out 1
   have hfz5_2 := blk_frozen BK101.out 2
   have hfz5_3 := blk_frozen BK101.out 3
   have hfz5_4 := blk_frozen BK101.out 4
   have hfz5_5 := blk_frozen BK101.out 5
   have hfz5_6 := blk_frozen BK101.out 6
   go_wp2
   go_meet
   case rel => exact ⟨_, (false), (by first | rfl | (simp; done) | (simp [*]; done)), H', ⟨by first | omega | exact Nat.le_refl _⟩, ⟨by (with_reducible repeat (first | refine blk_drewN ?_ _ | refine blk_drew ?_ | refine blk_alloc ?_ _)); exact BK101.out⟩, ⟨by repeat (first | (with_reducible first | exact HB.out | apply below_alloc | apply pw_below_drewN | apply below_drew1 | refine below_set ?_ GE101.out) | exact HB.out)⟩⟩
  ·rw [if_neg c4] at H
   have c4b0 : (a0_5 == 48) = false := beq_eq_false_iff_ne.mpr c4
   have c4b1 : (a0_5 != 48) = true := bne_iff_ne.mpr c4
   (first | rw [c4b0] | (simp only [i64_w, i32_w]; rw [c4b0]) | skip)
   by_cases c6 : a0_5 = 49
   ·rw [if_pos c6] at H
    have c6b0 : (a0_5 == 49) = true := beq_iff_eq.mpr c6
    have c6b1 : (a0_5 != 49) = false := bne_eq_false_iff_eq.mpr c6
    clear c6
    have H' := Aside0.mk H
    clear H
    have hcz7_0 : w3.cell? ⟨gb101, 0, none⟩ = some (.string a0_0) := (blk_cell BK101.out 0).trans rfl
    have hcz7_1 : w3.cell? ⟨gb101, 1, none⟩ = some (.string a0_1) := (blk_cell BK101.out 1).trans rfl
    have hcz7_2 : w3.cell? ⟨gb101, 2, none⟩ = some (.int .i64 a0_2) := (blk_cell BK101.out 2).trans rfl
    have hcz7_3 : w3.cell? ⟨gb101, 3, none⟩ = some (.int .i64 a0_3) := (blk_cell BK101.out 3).trans rfl
    have hcz7_4 : w3.cell? ⟨gb101, 4, none⟩ = some (.int .i64 a0_4) := (blk_cell BK101.out 4).trans rfl
    have hcz7_5 : w3.cell? ⟨gb101, 5, none⟩ = some (.int .u8 a0_5) := (blk_cell BK101.out 5).trans rfl
    have hcz7_6 : w3.cell? ⟨gb101, 6, none⟩ = some (.string a0_6) := (blk_cell BK101.out 6).trans rfl
    have hfz7_0 := blk_frozen BK101.out 0
    have hfz7_1 := blk_frozen BK101.out 1
    have hfz7_2 := blk_frozen BK101.out 2
    have hfz7_3 := blk_frozen BK101.out 3
    have hfz7_4 := blk_frozen BK101.out 4
    have hfz7_5 := blk_frozen BK101.out 5
    have hfz7_6 := blk_frozen BK101.out 6
    go_wp2
    go_meet
    case rel => exact ⟨_, (false), (by first | rfl | (simp; done) | (simp [*]; done)), H', ⟨by first | omega | exact Nat.le_refl _⟩, ⟨by (with_reducible repeat (first | refine blk_drewN ?_ _ | refine blk_drew ?_ | refine blk_alloc ?_ _)); exact BK101.out⟩, ⟨by repeat (first | (with_reducible first | exact HB.out | apply below_alloc | apply pw_below_drewN | apply below_drew1 | refine below_set ?_ GE101.out) | exact HB.out)⟩⟩
   ·rw [if_neg c6] at H
    have c6b0 : (a0_5 == 49) = false := beq_eq_false_iff_ne.mpr c6
    have c6b1 : (a0_5 != 49) = true := bne_iff_ne.mpr c6
    by_cases c8 : a0_5 = 50
    ·rw [if_pos c8] at H
     have c8b0 : (a0_5 == 50) = true := beq_iff_eq.mpr c8
     have c8b1 : (a0_5 != 50) = false := bne_eq_false_iff_eq.mpr c8
     clear c8
     have H' := Aside0.mk H
     clear H
     have hcz9_0 : w3.cell? ⟨gb101, 0, none⟩ = some (.string a0_0) := (blk_cell BK101.out 0).trans rfl
     have hcz9_1 : w3.cell? ⟨gb101, 1, none⟩ = some (.string a0_1) := (blk_cell BK101.out 1).trans rfl
     have hcz9_2 : w3.cell? ⟨gb101, 2, none⟩ = some (.int .i64 a0_2) := (blk_cell BK101.out 2).trans rfl
     have hcz9_3 : w3.cell? ⟨gb101, 3, none⟩ = some (.int .i64 a0_3) := (blk_cell BK101.out 3).trans rfl
     have hcz9_4 : w3.cell? ⟨gb101, 4, none⟩ = some (.int .i64 a0_4) := (blk_cell BK101.out 4).trans rfl
     have hcz9_5 : w3.cell? ⟨gb101, 5, none⟩ = some (.int .u8 a0_5) := (blk_cell BK101.out 5).trans rfl
     have hcz9_6 : w3.cell? ⟨gb101, 6, none⟩ = some (.string a0_6) := (blk_cell BK101.out 6).trans rfl
     have hfz9_0 := blk_frozen BK101.out 0
     have hfz9_1 := blk_frozen BK101.out 1
     have hfz9_2 := blk_frozen BK101.out 2
     have hfz9_3 := blk_frozen BK101.out 3
     have hfz9_4 := blk_frozen BK101.out 4
     have hfz9_5 := blk_frozen BK101.out 5
     have hfz9_6 := blk_frozen BK101.out 6
     go_wp2
     go_meet
     case rel => exact ⟨_, (false), (by first | rfl | (simp; done) | (simp [*]; done)), H', ⟨by first | omega | exact Nat.le_refl _⟩, ⟨by (with_reducible repeat (first | refine blk_drewN ?_ _ | refine blk_drew ?_ | refine blk_alloc ?_ _)); exact BK101.out⟩, ⟨by repeat (first | (with_reducible first | exact HB.out | apply below_alloc | apply pw_below_drewN | apply below_drew1 | refine below_set ?_ GE101.out) | exact HB.out)⟩⟩
    ·rw [if_neg c8] at H
     have c8b0 : (a0_5 == 50) = false := beq_eq_false_iff_ne.mpr c8
     have c8b1 : (a0_5 != 50) = true := bne_iff_ne.mpr c8
     by_cases c10 : a0_5 = 53
     ·rw [if_pos c10] at H
      have c10b0 : (a0_5 == 53) = true := beq_iff_eq.mpr c10
      have c10b1 : (a0_5 != 53) = false := bne_eq_false_iff_eq.mpr c10
      clear c10
      have H' := Aside0.mk H
      clear H
      have hcz11_0 : w3.cell? ⟨gb101, 0, none⟩ = some (.string a0_0) := (blk_cell BK101.out 0).trans rfl
      have hcz11_1 : w3.cell? ⟨gb101, 1, none⟩ = some (.string a0_1) := (blk_cell BK101.out 1).trans rfl
      have hcz11_2 : w3.cell? ⟨gb101, 2, none⟩ = some (.int .i64 a0_2) := (blk_cell BK101.out 2).trans rfl
      have hcz11_3 : w3.cell? ⟨gb101, 3, none⟩ = some (.int .i64 a0_3) := (blk_cell BK101.out 3).trans rfl
      have hcz11_4 : w3.cell? ⟨gb101, 4, none⟩ = some (.int .i64 a0_4) := (blk_cell BK101.out 4).trans rfl
      have hcz11_5 : w3.cell? ⟨gb101, 5, none⟩ = some (.int .u8 a0_5) := (blk_cell BK101.out 5).trans rfl
      have hcz11_6 : w3.cell? ⟨gb101, 6, none⟩ = some (.string a0_6) := (blk_cell BK101.out 6).trans rfl
      have hfz11_0 := blk_frozen BK101.out 0
      have hfz11_1 := blk_frozen BK101.out 1
      have hfz11_2 := blk_frozen BK101.out 2
      have hfz11_3 := blk_frozen BK101.out 3
      have hfz11_4 := blk_frozen BK101.out 4
      have hfz11_5 := blk_frozen BK101.out 5
      have hfz11_6 := blk_frozen BK101.out 6
      go_wp2
      go_meet
      case rel => exact ⟨_, (false), (by first | rfl | (simp; done) | (simp [*]; done)), H', ⟨by first | omega | exact Nat.le_refl _⟩, ⟨by (with_reducible repeat (first | refine blk_drewN ?_ _ | refine blk_drew ?_ | refine blk_alloc ?_ _)); exact BK101.out⟩, ⟨by repeat (first | (with_reducible first | exact HB.out | apply below_alloc | apply pw_below_drewN | apply below_drew1 | refine below_set ?_ GE101.out) | exact HB.out)⟩⟩
     ·rw [if_neg c10] at H
      have c10b0 : (a0_5 == 53) = false := beq_eq_false_iff_ne.mpr c10
      have c10b1 : (a0_5 != 53) = true := bne_iff_ne.mpr c10
      have H' := Aside0.mk H
      clear H
      have hcz12_0 : w3.cell? ⟨gb101, 0, none⟩ = some (.string a0_0) := (blk_cell BK101.out 0).trans rfl
      have hcz12_1 : w3.cell? ⟨gb101, 1, none⟩ = some (.string a0_1) := (blk_cell BK101.out 1).trans rfl
      have hcz12_2 : w3.cell? ⟨gb101, 2, none⟩ = some (.int .i64 a0_2) := (blk_cell BK101.out 2).trans rfl
      have hcz12_3 : w3.cell? ⟨gb101, 3, none⟩ = some (.int .i64 a0_3) := (blk_cell BK101.out 3).trans rfl
      have hcz12_4 : w3.cell? ⟨gb101, 4, none⟩ = some (.int .i64 a0_4) := (blk_cell BK101.out 4).trans rfl
      have hcz12_5 : w3.cell? ⟨gb101, 5, none⟩ = some (.int .u8 a0_5) := (blk_cell BK101.out 5).trans rfl
      have hcz12_6 : w3.cell? ⟨gb101, 6, none⟩ = some (.string a0_6) := (blk_cell BK101.out 6).trans rfl
      have hfz12_0 := blk_frozen BK101.out 0
      have hfz12_1 := blk_frozen BK101.out 1
      have hfz12_2 := blk_frozen BK101.out 2
      have hfz12_3 := blk_frozen BK101.out 3
      have hfz12_4 := blk_frozen BK101.out 4
      have hfz12_5 := blk_frozen BK101.out 5
      have hfz12_6 := blk_frozen BK101.out 6
      go_wp2
      go_meet
      case rel => exact ⟨_, ((a0_5 != 120)), (by first | rfl | (simp; done) | (simp [*]; done)), H', ⟨by first | omega | exact Nat.le_refl _⟩, ⟨by (with_reducible repeat (first | refine blk_drewN ?_ _ | refine blk_drew ?_ | refine blk_alloc ?_ _)); exact BK101.out⟩, ⟨by repeat (first | (with_reducible first | exact HB.out | apply below_alloc | apply pw_below_drewN | apply below_drew1 | refine below_set ?_ GE101.out) | exact HB.out)⟩⟩
 case rest =>
  clear HC2
  try clear c1
  try clear p2
  try clear c3
  try clear c4
  try clear c4b0
  try clear c4b1
  try clear c6
  try clear c6b0
  try clear c6b1
  try clear c8
  try clear c8b0
  try clear c8b1
  try clear c10
  try clear c10b0
  try clear c10b1
  try clear hcz11_0
  try clear hcz11_1
  try clear hcz11_2
  try clear hcz11_3
  try clear hcz11_4
  try clear hcz11_5
  try clear hcz11_6
  try clear hcz12_0
  try clear hcz12_1
  try clear hcz12_2
  try clear hcz12_3
  try clear hcz12_4
  try clear hcz12_5
  try clear hcz12_6
  try clear hcz5_0
  try clear hcz5_1
  try clear hcz5_2
  try clear hcz5_3
  try clear hcz5_4
  try clear hcz5_5
  try clear hcz5_6
  try clear hcz7_0
  try clear hcz7_1
  try clear hcz7_2
  try clear hcz7_3
  try clear hcz7_4
  try clear hcz7_5
  try clear hcz7_6
  try clear hcz9_0
  try clear hcz9_1
  try clear hcz9_2
  try clear hcz9_3
  try clear hcz9_4
  try clear hcz9_5
  try clear hcz9_6
  try clear hfz11_0
  try clear hfz11_1
  try clear hfz11_2
  try clear hfz11_3
  try clear hfz11_4
  try clear hfz11_5
  try clear hfz11_6
  try clear hfz12_0
  try clear hfz12_1
  try clear hfz12_2
  try clear hfz12_3
  try clear hfz12_4
  try clear hfz12_5
  try clear hfz12_6
  try clear hfz5_0
  try clear hfz5_1
  try clear hfz5_2
  try clear hfz5_3
  try clear hfz5_4
  try clear hfz5_5
  try clear hfz5_6
  try clear hfz7_0
  try clear hfz7_1
  try clear hfz7_2
  try clear hfz7_3
  try clear hfz7_4
  try clear hfz7_5
  try clear hfz7_6
  try clear hfz9_0
  try clear hfz9_1
  try clear hfz9_2
  try clear hfz9_3
  try clear hfz9_4
  try clear hfz9_5
  try clear hfz9_6
  obtain ⟨kq, x25_1, rfl, HA, HJ1, BK101, HB⟩ := hcut
  cases kq with
  | zero => exact absurd HA.out (by simp [tabularyref10_May.j0])
  | succ kj1 =>
   have H := HA.out
   clear HA
   simp only [tabularyref10_May.j0] at H
   by_cases c13 : x25_1 = true
   ·subst c13
    have H1 : (some 102) = some r := by rw [if_pos rfl] at H; exact H
    clear H
    have H := H1
    clear H1
    obtain rfl := Option.some.inj H
    go_wp2
    go_ret
    exact ⟨by first | rfl | (simp [errW_none, errW_some] <;> rfl) | (simp [*, errW_none, errW_some] <;> rfl), by repeat (first | (with_reducible first | exact HB.out | apply below_alloc | apply pw_below_drewN | apply below_drew1 | refine below_set ?_ GE101.out) | exact HB.out)⟩
   ·replace c13 := Bool.eq_false_iff.mpr c13
    subst c13
    have H1 : (if (a0_0.size : Int) > 100 then (tabularyref10_May.j1 kj1 true a0_0 a0_1 a0_2 a0_3 a0_4 a0_5 a0_6) else (if (a0_6.size : Int) > 100 then (tabularyref10_May.j1 kj1 true a0_0 a0_1 a0_2 a0_3 a0_4 a0_5 a0_6) else (tabularyref10_May.j1 kj1 (decide ((a0_1.size : Int) > 155)) a0_0 a0_1 a0_2 a0_3 a0_4 a0_5 a0_6))) = some r := by rw [if_neg (show ¬ (false = true) by decide)] at H; exact H
    clear H
    have H := H1
    clear H1
    have HC14 := Aside0.mk H
    clear H
    go_upto_region 3 with (fail)
    go_cut [41] (fun v41 wc => ∃ (kq : Nat) (x41_13 : Bool), v41 = .bool x41_13 ∧ Aside0 (tabularyref10_May.j1 kq x41_13 a0_0 a0_1 a0_2 a0_3 a0_4 a0_5 a0_6 = some r) ∧ Aside0 (kq ≤ kj1) ∧ Aside0 (wc.heap[gb101]? = some (.cells #[.string a0_0, .string a0_1, .int .i64 a0_2, .int .i64 a0_3, .int .i64 a0_4, .int .u8 a0_5, .string a0_6] 24 (0, 0))) ∧ Aside0 (Below w.heap.size w wc))
    case first =>
     have H := HC14.out
     clear HC14
     by_cases c15 : (a0_0.size : Int) > 100
     ·rw [if_pos c15] at H
      have c15b0 : decide (100 < (a0_0.size : Int)) = true := decide_eq_true c15
      have c15b1 : decide (100 < a0_0.size) = true := decide_eq_true (by omega)
      clear c15
      (first | rw [c15b0] | (simp only [i64_w, i32_w]; rw [c15b0]) | skip)
      have H' := Aside0.mk H
      clear H
      have hcz16_0 : wc.cell? ⟨gb101, 0, none⟩ = some (.string a0_0) := (blk_cell BK101.out 0).trans rfl
      have hcz16_1 : wc.cell? ⟨gb101, 1, none⟩ = some (.string a0_1) := (blk_cell BK101.out 1).trans rfl
      have hcz16_2 : wc.cell? ⟨gb101, 2, none⟩ = some (.int .i64 a0_2) := (blk_cell BK101.out 2).trans rfl
      have hcz16_3 : wc.cell? ⟨gb101, 3, none⟩ = some (.int .i64 a0_3) := (blk_cell BK101.out 3).trans rfl
      have hcz16_4 : wc.cell? ⟨gb101, 4, none⟩ = some (.int .i64 a0_4) := (blk_cell BK101.out 4).trans rfl
      have hcz16_5 : wc.cell? ⟨gb101, 5, none⟩ = some (.int .u8 a0_5) := (blk_cell BK101.out 5).trans rfl
      have hcz16_6 : wc.cell? ⟨gb101, 6, none⟩ = some (.string a0_6) := (blk_cell BK101.out 6).trans rfl
      have hfz16_0 := blk_frozen BK101.out 0
      have hfz16_1 := blk_frozen BK101.out 1
      have hfz16_2 := blk_frozen BK101.out 2
      have hfz16_3 := blk_frozen BK101.out 3
      have hfz16_4 := blk_frozen BK101.out 4
      have hfz16_5 := blk_frozen BK101.out 5
      have hfz16_6 := blk_frozen BK101.out 6
      go_wp2
      go_meet
      case rel => exact ⟨_, (true), (by first | rfl | (simp; done) | (simp [*]; done)), H', ⟨by have := HJ1.out; first | omega | exact Nat.le_refl _⟩, ⟨by (with_reducible repeat (first | refine blk_drewN ?_ _ | refine blk_drew ?_ | refine blk_alloc ?_ _)); exact BK101.out⟩, ⟨by repeat (first | (with_reducible first | exact HB.out | apply below_alloc | apply pw_below_drewN | apply below_drew1 | refine below_set ?_ GE101.out) | exact HB.out)⟩⟩
     ·rw [if_neg c15] at H
      have c15b0 : decide (100 < (a0_0.size : Int)) = false := decide_eq_false c15
      have c15b1 : decide (100 < a0_0.size) = false := decide_eq_false (by omega)
      clear c15
      (first | rw [c15b0] | (simp only [i64_w, i32_w]; rw [c15b0]) | skip)
      by_cases c17 : (a0_6.size : Int) > 100
      ·rw [if_pos c17] at H
       have c17b0 : decide (100 < (a0_6.size : Int)) = true := decide_eq_true c17
       have c17b1 : decide (100 < a0_6.size) = true := decide_eq_true (by omega)
       clear c17
       have H' := Aside0.mk H
       clear H
       have hcz18_0 : wc.cell? ⟨gb101, 0, none⟩ = some (.string a0_0) := (blk_cell BK101.out 0).trans rfl
       have hcz18_1 : wc.cell? ⟨gb101, 1, none⟩ = some (.string a0_1) := (blk_cell BK101.out 1).trans rfl
       have hcz18_2 : wc.cell? ⟨gb101, 2, none⟩ = some (.int .i64 a0_2) := (blk_cell BK101.out 2).trans rfl
       have hcz18_3 : wc.cell? ⟨gb101, 3, none⟩ = some (.int .i64 a0_3) := (blk_cell BK101.out 3).trans rfl
       have hcz18_4 : wc.cell? ⟨gb101, 4, none⟩ = some (.int .i64 a0_4) := (blk_cell BK101.out 4).trans rfl
       have hcz18_5 : wc.cell? ⟨gb101, 5, none⟩ = some (.int .u8 a0_5) := (blk_cell BK101.out 5).trans rfl
       have hcz18_6 : wc.cell? ⟨gb101, 6, none⟩ = some (.string a0_6) := (blk_cell BK101.out 6).trans rfl
       have hfz18_0 := blk_frozen BK101.out 0
       have hfz18_1 := blk_frozen BK101.out 1
       have hfz18_2 := blk_frozen BK101.out 2
       have hfz18_3 := blk_frozen BK101.out 3
       have hfz18_4 := blk_frozen BK101.out 4
       have hfz18_5 := blk_frozen BK101.out 5
       have hfz18_6 := blk_frozen BK101.out 6
       go_wp2
       go_meet
       case rel => exact ⟨_, (true), (by first | rfl | (simp; done) | (simp [*]; done)), H', ⟨by have := HJ1.out; first | omega | exact Nat.le_refl _⟩, ⟨by (with_reducible repeat (first | refine blk_drewN ?_ _ | refine blk_drew ?_ | refine blk_alloc ?_ _)); exact BK101.out⟩, ⟨by repeat (first | (with_reducible first | exact HB.out | apply below_alloc | apply pw_below_drewN | apply below_drew1 | refine below_set ?_ GE101.out) | exact HB.out)⟩⟩
      ·rw [if_neg c17] at H
       have c17b0 : decide (100 < (a0_6.size : Int)) = false := decide_eq_false c17
       have c17b1 : decide (100 < a0_6.size) = false := decide_eq_false (by omega)
       clear c17
       have H' := Aside0.mk H
       clear H
       have hcz19_0 : wc.cell? ⟨gb101, 0, none⟩ = some (.string a0_0) := (blk_cell BK101.out 0).trans rfl
       have hcz19_1 : wc.cell? ⟨gb101, 1, none⟩ = some (.string a0_1) := (blk_cell BK101.out 1).trans rfl
       have hcz19_2 : wc.cell? ⟨gb101, 2, none⟩ = some (.int .i64 a0_2) := (blk_cell BK101.out 2).trans rfl
       have hcz19_3 : wc.cell? ⟨gb101, 3, none⟩ = some (.int .i64 a0_3) := (blk_cell BK101.out 3).trans rfl
       have hcz19_4 : wc.cell? ⟨gb101, 4, none⟩ = some (.int .i64 a0_4) := (blk_cell BK101.out 4).trans rfl
       have hcz19_5 : wc.cell? ⟨gb101, 5, none⟩ = some (.int .u8 a0_5) := (blk_cell BK101.out 5).trans rfl
       have hcz19_6 : wc.cell? ⟨gb101, 6, none⟩ = some (.string a0_6) := (blk_cell BK101.out 6).trans rfl
       have hfz19_0 := blk_frozen BK101.out 0
       have hfz19_1 := blk_frozen BK101.out 1
       have hfz19_2 := blk_frozen BK101.out 2
       have hfz19_3 := blk_frozen BK101.out 3
       have hfz19_4 := blk_frozen BK101.out 4
       have hfz19_5 := blk_frozen BK101.out 5
       have hfz19_6 := blk_frozen BK101.out 6
       go_wp2
       go_meet
       case rel => exact ⟨_, (decide ((a0_1.size : Int) > 155)), (by first | rfl | (simp; done) | (simp [*]; done)), H', ⟨by have := HJ1.out; first | omega | exact Nat.le_refl _⟩, ⟨by (with_reducible repeat (first | refine blk_drewN ?_ _ | refine blk_drew ?_ | refine blk_alloc ?_ _)); exact BK101.out⟩, ⟨by repeat (first | (with_reducible first | exact HB.out | apply below_alloc | apply pw_below_drewN | apply below_drew1 | refine below_set ?_ GE101.out) | exact HB.out)⟩⟩
    case rest =>
     clear HC14
     try clear c1
     try clear p2
     try clear c3
     try clear c4
     try clear c4b0
     try clear c4b1
     try clear c6
     try clear c6b0
     try clear c6b1
     try clear c8
     try clear c8b0
     try clear c8b1
     try clear c10
     try clear c10b0
     try clear c10b1
     try clear c13
     try clear c15
     try clear c15b0
     try clear c15b1
     try clear c17
     try clear c17b0
     try clear c17b1
     try clear hcz11_0
     try clear hcz11_1
     try clear hcz11_2
     try clear hcz11_3
     try clear hcz11_4
     try clear hcz11_5
     try clear hcz11_6
     try clear hcz12_0
     try clear hcz12_1
     try clear hcz12_2
     try clear hcz12_3
     try clear hcz12_4
     try clear hcz12_5
     try clear hcz12_6
     try clear hcz16_0
     try clear hcz16_1
     try clear hcz16_2
     try clear hcz16_3
     try clear hcz16_4
     try clear hcz16_5
     try clear hcz16_6
     try clear hcz18_0
     try clear hcz18_1
     try clear hcz18_2
     try clear hcz18_3
     try clear hcz18_4
     try clear hcz18_5
     try clear hcz18_6
     try clear hcz19_0
     try clear hcz19_1
     try clear hcz19_2
     try clear hcz19_3
     try clear hcz19_4
     try clear hcz19_5
     try clear hcz19_6
     try clear hcz5_0
     try clear hcz5_1
     try clear hcz5_2
     try clear hcz5_3
     try clear hcz5_4
     try clear hcz5_5
     try clear hcz5_6
     try clear hcz7_0
     try clear hcz7_1
     try clear hcz7_2
     try clear hcz7_3
     try clear hcz7_4
     try clear hcz7_5
     try clear hcz7_6
     try clear hcz9_0
     try clear hcz9_1
     try clear hcz9_2
     try clear hcz9_3
     try clear hcz9_4
     try clear hcz9_5
     try clear hcz9_6
     try clear hfz11_0
     try clear hfz11_1
     try clear hfz11_2
     try clear hfz11_3
     try clear hfz11_4
     try clear hfz11_5
     try clear hfz11_6
     try clear hfz12_0
     try clear hfz12_1
     try clear hfz12_2
     try clear hfz12_3
     try clear hfz12_4
     try clear hfz12_5
     try clear hfz12_6
     try clear hfz16_0
     try clear hfz16_1
     try clear hfz16_2
     try clear hfz16_3
     try clear hfz16_4
     try clear hfz16_5
     try clear hfz16_6
     try clear hfz18_0
     try clear hfz18_1
     try clear hfz18_2
     try clear hfz18_3
     try clear hfz18_4
     try clear hfz18_5
     try clear hfz18_6
     try clear hfz19_0
     try clear hfz19_1
     try clear hfz19_2
     try clear hfz19_3
     try clear hfz19_4
     try clear hfz19_5
     try clear hfz19_6
     try clear hfz5_0
     try clear hfz5_1
     try clear hfz5_2
     try clear hfz5_3
     try clear hfz5_4
     try clear hfz5_5
     try clear hfz5_6
     try clear hfz7_0
     try clear hfz7_1
     try clear hfz7_2
     try clear hfz7_3
     try clear hfz7_4
     try clear hfz7_5
     try clear hfz7_6
     try clear hfz9_0
     try clear hfz9_1
     try clear hfz9_2
     try clear hfz9_3
     try clear hfz9_4
     try clear hfz9_5
     try clear hfz9_6
     try clear p2
     obtain ⟨kq, x41_13, rfl, HA, HJ13, BK101, HB⟩ := hcut
     cases kq with
     | zero => exact absurd HA.out (by simp [tabularyref10_May.j1])
     | succ kj13 =>
      have H := HA.out
      clear HA
      simp only [tabularyref10_May.j1] at H
      by_cases c20 : x41_13 = true
      ·subst c20
       have H1 : (some 2) = some r := by rw [if_pos rfl] at H; exact H
       clear H
       have H := H1
       clear H1
       obtain rfl := Option.some.inj H
       go_wp2
       go_ret
       exact ⟨by first | rfl | (simp [errW_none, errW_some] <;> rfl) | (simp [*, errW_none, errW_some] <;> rfl), by repeat (first | (with_reducible first | exact HB.out | apply below_alloc | apply pw_below_drewN | apply below_drew1 | refine below_set ?_ GE101.out) | exact HB.out)⟩
      ·replace c20 := Bool.eq_false_iff.mpr c20
       subst c20
       have H1 : ((tabularyref10_nul.f kj13 a0_0).bind fun t102 => (if t102 = true then (tabularyref10_May.j2 kj13 true a0_0 a0_1 a0_2 a0_3 a0_4 a0_5 a0_6) else ((tabularyref10_nul.f kj13 a0_6).bind fun t103 => (if t103 = true then (tabularyref10_May.j2 kj13 true a0_0 a0_1 a0_2 a0_3 a0_4 a0_5 a0_6) else ((tabularyref10_nul.f kj13 a0_1).bind fun t104 => (tabularyref10_May.j2 kj13 t104 a0_0 a0_1 a0_2 a0_3 a0_4 a0_5 a0_6)))))) = some r := by rw [if_neg (show ¬ (false = true) by decide)] at H; exact H
       clear H
       have H := H1
       clear H1
       have HC21 := Aside0.mk H
       clear H
       go_upto_region 5 with (fail)
       go_cut [54] (fun v54 wc => ∃ (kq : Nat) (x54_20 : Bool), v54 = .bool x54_20 ∧ Aside0 (tabularyref10_May.j2 kq x54_20 a0_0 a0_1 a0_2 a0_3 a0_4 a0_5 a0_6 = some r) ∧ Aside0 (kq ≤ kj13) ∧ Aside0 (wc.heap[gb101]? = some (.cells #[.string a0_0, .string a0_1, .int .i64 a0_2, .int .i64 a0_3, .int .i64 a0_4, .int .u8 a0_5, .string a0_6] 24 (0, 0))) ∧ Aside0 (Below w.heap.size w wc))
       case first =>
        have H := HC21.out
        clear HC21
        replace H := Option.bind_eq_some_iff.mp H
        obtain ⟨t102, A220, H⟩ := H
        replace H : (if t102 = true then (tabularyref10_May.j2 kj13 true a0_0 a0_1 a0_2 a0_3 a0_4 a0_5 a0_6) else ((tabularyref10_nul.f kj13 a0_6).bind fun t103 => (if t103 = true then (tabularyref10_May.j2 kj13 true a0_0 a0_1 a0_2 a0_3 a0_4 a0_5 a0_6) else ((tabularyref10_nul.f kj13 a0_1).bind fun t104 => (tabularyref10_May.j2 kj13 t104 a0_0 a0_1 a0_2 a0_3 a0_4 a0_5 a0_6))))) = some r := H
        have A22 := Aside0.mk A220
        clear A220
        by_cases c23 : t102 = true
        ·subst c23
         have H1 : (tabularyref10_May.j2 kj13 true a0_0 a0_1 a0_2 a0_3 a0_4 a0_5 a0_6) = some r := by rw [if_pos rfl] at H; exact H
         clear H
         have H := H1
         clear H1
         have H' := Aside0.mk H
         clear H
         have hcz24_0 : wc.cell? ⟨gb101, 0, none⟩ = some (.string a0_0) := (blk_cell BK101.out 0).trans rfl
         have hcz24_1 : wc.cell? ⟨gb101, 1, none⟩ = some (.string a0_1) := (blk_cell BK101.out 1).trans rfl
         have hcz24_2 : wc.cell? ⟨gb101, 2, none⟩ = some (.int .i64 a0_2) := (blk_cell BK101.out 2).trans rfl
         have hcz24_3 : wc.cell? ⟨gb101, 3, none⟩ = some (.int .i64 a0_3) := (blk_cell BK101.out 3).trans rfl
         have hcz24_4 : wc.cell? ⟨gb101, 4, none⟩ = some (.int .i64 a0_4) := (blk_cell BK101.out 4).trans rfl
         have hcz24_5 : wc.cell? ⟨gb101, 5, none⟩ = some (.int .u8 a0_5) := (blk_cell BK101.out 5).trans rfl
         have hcz24_6 : wc.cell? ⟨gb101, 6, none⟩ = some (.string a0_6) := (blk_cell BK101.out 6).trans rfl
         have hfz24_0 := blk_frozen BK101.out 0
         have hfz24_1 := blk_frozen BK101.out 1
         have hfz24_2 := blk_frozen BK101.out 2
         have hfz24_3 := blk_frozen BK101.out 3
         have hfz24_4 := blk_frozen BK101.out 4
         have hfz24_5 := blk_frozen BK101.out 5
         have hfz24_6 := blk_frozen BK101.out 6
         go_wp2_with (first | ((with_reducible refine gate_callee (f := 45) rfl ?_); refine goesL_ (some 44) rfl rfl Try.func45 (by kernel_rfl) rfl #[.string a0_0] rfl (by (try simp only [List.map_toArray, List.map_cons, List.map_nil]); first | done | rfl | (simp only [List.length_drop, List.length_take]; rfl)) ?_; (with_reducible refine (tabularyref10_nul.calls kj13 a0_0 true _ A22.out).mono ?_); rintro e w' ⟨rfl, ⟨nd, rfl⟩⟩; refine ⟨_, rfl, ?_⟩))
         go_meet
         case rel => exact ⟨_, (true), (by first | rfl | (simp; done) | (simp [*]; done)), H', ⟨by have := HJ1.out; have := HJ13.out; first | omega | exact Nat.le_refl _⟩, ⟨by (with_reducible repeat (first | refine blk_drewN ?_ _ | refine blk_drew ?_ | refine blk_alloc ?_ _)); exact BK101.out⟩, ⟨by repeat (first | (with_reducible first | exact HB.out | apply below_alloc | apply pw_below_drewN | apply below_drew1 | refine below_set ?_ GE101.out) | exact HB.out)⟩⟩
        ·replace c23 := Bool.eq_false_iff.mpr c23
         subst c23
         have H1 : ((tabularyref10_nul.f kj13 a0_6).bind fun t103 => (if t103 = true then (tabularyref10_May.j2 kj13 true a0_0 a0_1 a0_2 a0_3 a0_4 a0_5 a0_6) else ((tabularyref10_nul.f kj13 a0_1).bind fun t104 => (tabularyref10_May.j2 kj13 t104 a0_0 a0_1 a0_2 a0_3 a0_4 a0_5 a0_6)))) = some r := by rw [if_neg (show ¬ (false = true) by decide)] at H; exact H
         clear H
         have H := H1
         clear H1
         replace H := Option.bind_eq_some_iff.mp H
         obtain ⟨t103, A250, H⟩ := H
         replace H : (if t103 = true then (tabularyref10_May.j2 kj13 true a0_0 a0_1 a0_2 a0_3 a0_4 a0_5 a0_6) else ((tabularyref10_nul.f kj13 a0_1).bind fun t104 => (tabularyref10_May.j2 kj13 t104 a0_0 a0_1 a0_2 a0_3 a0_4 a0_5 a0_6))) = some r := H
         have A25 := Aside0.mk A250
         clear A250
         by_cases c26 : t103 = true
         ·subst c26
          have H1 : (tabularyref10_May.j2 kj13 true a0_0 a0_1 a0_2 a0_3 a0_4 a0_5 a0_6) = some r := by rw [if_pos rfl] at H; exact H
          clear H
          have H := H1
          clear H1
          have H' := Aside0.mk H
          clear H
          have hcz27_0 : wc.cell? ⟨gb101, 0, none⟩ = some (.string a0_0) := (blk_cell BK101.out 0).trans rfl
          have hcz27_1 : wc.cell? ⟨gb101, 1, none⟩ = some (.string a0_1) := (blk_cell BK101.out 1).trans rfl
          have hcz27_2 : wc.cell? ⟨gb101, 2, none⟩ = some (.int .i64 a0_2) := (blk_cell BK101.out 2).trans rfl
          have hcz27_3 : wc.cell? ⟨gb101, 3, none⟩ = some (.int .i64 a0_3) := (blk_cell BK101.out 3).trans rfl
          have hcz27_4 : wc.cell? ⟨gb101, 4, none⟩ = some (.int .i64 a0_4) := (blk_cell BK101.out 4).trans rfl
          have hcz27_5 : wc.cell? ⟨gb101, 5, none⟩ = some (.int .u8 a0_5) := (blk_cell BK101.out 5).trans rfl
          have hcz27_6 : wc.cell? ⟨gb101, 6, none⟩ = some (.string a0_6) := (blk_cell BK101.out 6).trans rfl
          have hfz27_0 := blk_frozen BK101.out 0
          have hfz27_1 := blk_frozen BK101.out 1
          have hfz27_2 := blk_frozen BK101.out 2
          have hfz27_3 := blk_frozen BK101.out 3
          have hfz27_4 := blk_frozen BK101.out 4
          have hfz27_5 := blk_frozen BK101.out 5
          have hfz27_6 := blk_frozen BK101.out 6
          go_wp2_with (first | ((with_reducible refine gate_callee (f := 45) rfl ?_); refine goesL_ (some 44) rfl rfl Try.func45 (by kernel_rfl) rfl #[.string a0_0] rfl (by (try simp only [List.map_toArray, List.map_cons, List.map_nil]); first | done | rfl | (simp only [List.length_drop, List.length_take]; rfl)) ?_; (with_reducible refine (tabularyref10_nul.calls kj13 a0_0 false _ A22.out).mono ?_); rintro e w' ⟨rfl, ⟨nd, rfl⟩⟩; refine ⟨_, rfl, ?_⟩) | (go_at_call 45; (with_reducible refine (tabularyref10_nul.calls kj13 a0_6 true _ A25.out).mono ?_); rintro e w' ⟨rfl, ⟨nd, rfl⟩⟩))
          go_meet
          case rel => exact ⟨_, (true), (by first | rfl | (simp; done) | (simp [*]; done)), H', ⟨by have := HJ1.out; have := HJ13.out; first | omega | exact Nat.le_refl _⟩, ⟨by (with_reducible repeat (first | refine blk_drewN ?_ _ | refine blk_drew ?_ | refine blk_alloc ?_ _)); exact BK101.out⟩, ⟨by repeat (first | (with_reducible first | exact HB.out | apply below_alloc | apply pw_below_drewN | apply below_drew1 | refine below_set ?_ GE101.out) | exact HB.out)⟩⟩
         ·replace c26 := Bool.eq_false_iff.mpr c26
          subst c26
          have H1 : ((tabularyref10_nul.f kj13 a0_1).bind fun t104 => (tabularyref10_May.j2 kj13 t104 a0_0 a0_1 a0_2 a0_3 a0_4 a0_5 a0_6)) = some r := by rw [if_neg (show ¬ (false = true) by decide)] at H; exact H
          clear H
          have H := H1
          clear H1
          replace H := Option.bind_eq_some_iff.mp H
          obtain ⟨t104, A280, H⟩ := H
          replace H : (tabularyref10_May.j2 kj13 t104 a0_0 a0_1 a0_2 a0_3 a0_4 a0_5 a0_6) = some r := H
          have A28 := Aside0.mk A280
          clear A280
          have H' := Aside0.mk H
          clear H
          have hcz29_0 : wc.cell? ⟨gb101, 0, none⟩ = some (.string a0_0) := (blk_cell BK101.out 0).trans rfl
          have hcz29_1 : wc.cell? ⟨gb101, 1, none⟩ = some (.string a0_1) := (blk_cell BK101.out 1).trans rfl
          have hcz29_2 : wc.cell? ⟨gb101, 2, none⟩ = some (.int .i64 a0_2) := (blk_cell BK101.out 2).trans rfl
          have hcz29_3 : wc.cell? ⟨gb101, 3, none⟩ = some (.int .i64 a0_3) := (blk_cell BK101.out 3).trans rfl
          have hcz29_4 : wc.cell? ⟨gb101, 4, none⟩ = some (.int .i64 a0_4) := (blk_cell BK101.out 4).trans rfl
          have hcz29_5 : wc.cell? ⟨gb101, 5, none⟩ = some (.int .u8 a0_5) := (blk_cell BK101.out 5).trans rfl
          have hcz29_6 : wc.cell? ⟨gb101, 6, none⟩ = some (.string a0_6) := (blk_cell BK101.out 6).trans rfl
          have hfz29_0 := blk_frozen BK101.out 0
          have hfz29_1 := blk_frozen BK101.out 1
          have hfz29_2 := blk_frozen BK101.out 2
          have hfz29_3 := blk_frozen BK101.out 3
          have hfz29_4 := blk_frozen BK101.out 4
          have hfz29_5 := blk_frozen BK101.out 5
          have hfz29_6 := blk_frozen BK101.out 6
          go_wp2_with (first | ((with_reducible refine gate_callee (f := 45) rfl ?_); refine goesL_ (some 44) rfl rfl Try.func45 (by kernel_rfl) rfl #[.string a0_0] rfl (by (try simp only [List.map_toArray, List.map_cons, List.map_nil]); first | done | rfl | (simp only [List.length_drop, List.length_take]; rfl)) ?_; (with_reducible refine (tabularyref10_nul.calls kj13 a0_0 false _ A22.out).mono ?_); rintro e w' ⟨rfl, ⟨nd, rfl⟩⟩; refine ⟨_, rfl, ?_⟩) | (go_at_call 45; (with_reducible refine (tabularyref10_nul.calls kj13 a0_6 false _ A25.out).mono ?_); rintro e w' ⟨rfl, ⟨nd, rfl⟩⟩) | (go_at_call 45; (with_reducible refine (tabularyref10_nul.calls kj13 a0_1 t104 _ A28.out).mono ?_); rintro e w' ⟨rfl, ⟨nd, rfl⟩⟩))
          go_meet
          case rel => exact ⟨_, (t104), (by first | rfl | (simp; done) | (simp [*]; done)), H', ⟨by have := HJ1.out; have := HJ13.out; first | omega | exact Nat.le_refl _⟩, ⟨by (with_reducible repeat (first | refine blk_drewN ?_ _ | refine blk_drew ?_ | refine blk_alloc ?_ _)); exact BK101.out⟩, ⟨by repeat (first | (with_reducible first | exact HB.out | apply below_alloc | apply pw_below_drewN | apply below_drew1 | refine below_set ?_ GE101.out) | exact HB.out)⟩⟩
       case rest =>
        clear HC21
        try clear c1
        try clear c2
        try clear p2
        try clear c3
        try clear c4
        try clear c4b0
        try clear c4b1
        try clear c6
        try clear c6b0
        try clear c6b1
        try clear c8
        try clear c8b0
        try clear c8b1
        try clear c10
        try clear c10b0
        try clear c10b1
        try clear c13
        try clear c15
        try clear c15b0
        try clear c15b1
        try clear c17
        try clear c17b0
        try clear c17b1
        try clear c20
        try clear c23
        try clear c26
        try clear hcz11_0
        try clear hcz11_1
        try clear hcz11_2
        try clear hcz11_3
        try clear hcz11_4
        try clear hcz11_5
        try clear hcz11_6
        try clear hcz12_0
        try clear hcz12_1
        try clear hcz12_2
        try clear hcz12_3
        try clear hcz12_4
        try clear hcz12_5
        try clear hcz12_6
        try clear hcz16_0
        try clear hcz16_1
        try clear hcz16_2
        try clear hcz16_3
        try clear hcz16_4
        try clear hcz16_5
        try clear hcz16_6
        try clear hcz18_0
        try clear hcz18_1
        try clear hcz18_2
        try clear hcz18_3
        try clear hcz18_4
        try clear hcz18_5
        try clear hcz18_6
        try clear hcz19_0
        try clear hcz19_1
        try clear hcz19_2
        try clear hcz19_3
        try clear hcz19_4
        try clear hcz19_5
        try clear hcz19_6
        try clear hcz24_0
        try clear hcz24_1
        try clear hcz24_2
        try clear hcz24_3
        try clear hcz24_4
        try clear hcz24_5
        try clear hcz24_6
        try clear hcz27_0
        try clear hcz27_1
        try clear hcz27_2
        try clear hcz27_3
        try clear hcz27_4
        try clear hcz27_5
        try clear hcz27_6
        try clear hcz29_0
        try clear hcz29_1
        try clear hcz29_2
        try clear hcz29_3
        try clear hcz29_4
        try clear hcz29_5
        try clear hcz29_6
        try clear hcz5_0
        try clear hcz5_1
        try clear hcz5_2
        try clear hcz5_3
        try clear hcz5_4
        try clear hcz5_5
        try clear hcz5_6
        try clear hcz7_0
        try clear hcz7_1
        try clear hcz7_2
        try clear hcz7_3
        try clear hcz7_4
        try clear hcz7_5
        try clear hcz7_6
        try clear hcz9_0
        try clear hcz9_1
        try clear hcz9_2
        try clear hcz9_3
        try clear hcz9_4
        try clear hcz9_5
        try clear hcz9_6
        try clear hfz11_0
        try clear hfz11_1
        try clear hfz11_2
        try clear hfz11_3
        try clear hfz11_4
        try clear hfz11_5
        try clear hfz11_6
        try clear hfz12_0
        try clear hfz12_1
        try clear hfz12_2
        try clear hfz12_3
        try clear hfz12_4
        try clear hfz12_5
        try clear hfz12_6
        try clear hfz16_0
        try clear hfz16_1
        try clear hfz16_2
        try clear hfz16_3
        try clear hfz16_4
        try clear hfz16_5
        try clear hfz16_6
        try clear hfz18_0
        try clear hfz18_1
        try clear hfz18_2
        try clear hfz18_3
        try clear hfz18_4
        try clear hfz18_5
        try clear hfz18_6
        try clear hfz19_0
        try clear hfz19_1
        try clear hfz19_2
        try clear hfz19_3
        try clear hfz19_4
        try clear hfz19_5
        try clear hfz19_6
        try clear hfz24_0
        try clear hfz24_1
        try clear hfz24_2
        try clear hfz24_3
        try clear hfz24_4
        try clear hfz24_5
        try clear hfz24_6
        try clear hfz27_0
        try clear hfz27_1
        try clear hfz27_2
        try clear hfz27_3
        try clear hfz27_4
        try clear hfz27_5
        try clear hfz27_6
        try clear hfz29_0
        try clear hfz29_1
        try clear hfz29_2
        try clear hfz29_3
        try clear hfz29_4
        try clear hfz29_5
        try clear hfz29_6
        try clear hfz5_0
        try clear hfz5_1
        try clear hfz5_2
        try clear hfz5_3
        try clear hfz5_4
        try clear hfz5_5
        try clear hfz5_6
        try clear hfz7_0
        try clear hfz7_1
        try clear hfz7_2
        try clear hfz7_3
        try clear hfz7_4
        try clear hfz7_5
        try clear hfz7_6
        try clear hfz9_0
        try clear hfz9_1
        try clear hfz9_2
        try clear hfz9_3
        try clear hfz9_4
        try clear hfz9_5
        try clear hfz9_6
        try clear p2
        obtain ⟨kq, x54_20, rfl, HA, HJ20, BK101, HB⟩ := hcut
        cases kq with
        | zero => exact absurd HA.out (by simp [tabularyref10_May.j2])
        | succ kj20 =>
         have H := HA.out
         clear HA
         simp only [tabularyref10_May.j2] at H
         by_cases c30 : x54_20 = true
         ·subst c30
          have H1 : (some 82) = some r := by rw [if_pos rfl] at H; exact H
          clear H
          have H := H1
          clear H1
          obtain rfl := Option.some.inj H
          go_wp2
          go_ret
          exact ⟨by first | rfl | (simp [errW_none, errW_some] <;> rfl) | (simp [*, errW_none, errW_some] <;> rfl), by repeat (first | (with_reducible first | exact HB.out | apply below_alloc | apply pw_below_drewN | apply below_drew1 | refine below_set ?_ GE101.out) | exact HB.out)⟩
         ·replace c30 := Bool.eq_false_iff.mpr c30
          subst c30
          have H1 : (if a0_2 < 0 then (some 1) else (if a0_2 > 4095 then (some 1) else (if a0_3 < 0 then (some 1) else (if a0_3 > 8589934591 then (some 1) else (if a0_4 < 0 then (some 1) else (if a0_4 > 1099511627776 then (some 1) else (some 0))))))) = some r := by rw [if_neg (show ¬ (false = true) by decide)] at H; exact H
          clear H
          have H := H1
          clear H1
          by_cases c31 : a0_2 < 0
          ·rw [if_pos c31] at H
           have c31b0 : decide (a0_2 < 0) = true := decide_eq_true c31
           clear c31
           obtain rfl := Option.some.inj H
           have hcz32_0 : wc.cell? ⟨gb101, 0, none⟩ = some (.string a0_0) := (blk_cell BK101.out 0).trans rfl
           have hcz32_1 : wc.cell? ⟨gb101, 1, none⟩ = some (.string a0_1) := (blk_cell BK101.out 1).trans rfl
           have hcz32_2 : wc.cell? ⟨gb101, 2, none⟩ = some (.int .i64 a0_2) := (blk_cell BK101.out 2).trans rfl
           have hcz32_3 : wc.cell? ⟨gb101, 3, none⟩ = some (.int .i64 a0_3) := (blk_cell BK101.out 3).trans rfl
           have hcz32_4 : wc.cell? ⟨gb101, 4, none⟩ = some (.int .i64 a0_4) := (blk_cell BK101.out 4).trans rfl
           have hcz32_5 : wc.cell? ⟨gb101, 5, none⟩ = some (.int .u8 a0_5) := (blk_cell BK101.out 5).trans rfl
           have hcz32_6 : wc.cell? ⟨gb101, 6, none⟩ = some (.string a0_6) := (blk_cell BK101.out 6).trans rfl
           have hfz32_0 := blk_frozen BK101.out 0
           have hfz32_1 := blk_frozen BK101.out 1
           have hfz32_2 := blk_frozen BK101.out 2
           have hfz32_3 := blk_frozen BK101.out 3
           have hfz32_4 := blk_frozen BK101.out 4
           have hfz32_5 := blk_frozen BK101.out 5
           have hfz32_6 := blk_frozen BK101.out 6
           go_wp2
           go_ret
           exact ⟨by first | rfl | (simp [errW_none, errW_some] <;> rfl) | (simp [*, errW_none, errW_some] <;> rfl), by repeat (first | (with_reducible first | exact HB.out | apply below_alloc | apply pw_below_drewN | apply below_drew1 | refine below_set ?_ GE101.out) | exact HB.out)⟩
          ·rw [if_neg c31] at H
           have c31b0 : decide (a0_2 < 0) = false := decide_eq_false c31
           clear c31
           by_cases c33 : a0_2 > 4095
           ·rw [if_pos c33] at H
            have c33b0 : decide (4095 < a0_2) = true := decide_eq_true c33
            clear c33
            obtain rfl := Option.some.inj H
            have hcz34_0 : wc.cell? ⟨gb101, 0, none⟩ = some (.string a0_0) := (blk_cell BK101.out 0).trans rfl
            have hcz34_1 : wc.cell? ⟨gb101, 1, none⟩ = some (.string a0_1) := (blk_cell BK101.out 1).trans rfl
            have hcz34_2 : wc.cell? ⟨gb101, 2, none⟩ = some (.int .i64 a0_2) := (blk_cell BK101.out 2).trans rfl
            have hcz34_3 : wc.cell? ⟨gb101, 3, none⟩ = some (.int .i64 a0_3) := (blk_cell BK101.out 3).trans rfl
            have hcz34_4 : wc.cell? ⟨gb101, 4, none⟩ = some (.int .i64 a0_4) := (blk_cell BK101.out 4).trans rfl
            have hcz34_5 : wc.cell? ⟨gb101, 5, none⟩ = some (.int .u8 a0_5) := (blk_cell BK101.out 5).trans rfl
            have hcz34_6 : wc.cell? ⟨gb101, 6, none⟩ = some (.string a0_6) := (blk_cell BK101.out 6).trans rfl
            have hfz34_0 := blk_frozen BK101.out 0
            have hfz34_1 := blk_frozen BK101.out 1
            have hfz34_2 := blk_frozen BK101.out 2
            have hfz34_3 := blk_frozen BK101.out 3
            have hfz34_4 := blk_frozen BK101.out 4
            have hfz34_5 := blk_frozen BK101.out 5
            have hfz34_6 := blk_frozen BK101.out 6
            go_wp2
            go_ret
            exact ⟨by first | rfl | (simp [errW_none, errW_some] <;> rfl) | (simp [*, errW_none, errW_some] <;> rfl), by repeat (first | (with_reducible first | exact HB.out | apply below_alloc | apply pw_below_drewN | apply below_drew1 | refine below_set ?_ GE101.out) | exact HB.out)⟩
           ·rw [if_neg c33] at H
            have c33b0 : decide (4095 < a0_2) = false := decide_eq_false c33
            clear c33
            by_cases c35 : a0_3 < 0
            ·rw [if_pos c35] at H
             have c35b0 : decide (a0_3 < 0) = true := decide_eq_true c35
             clear c35
             obtain rfl := Option.some.inj H
             have hcz36_0 : wc.cell? ⟨gb101, 0, none⟩ = some (.string a0_0) := (blk_cell BK101.out 0).trans rfl
             have hcz36_1 : wc.cell? ⟨gb101, 1, none⟩ = some (.string a0_1) := (blk_cell BK101.out 1).trans rfl
             have hcz36_2 : wc.cell? ⟨gb101, 2, none⟩ = some (.int .i64 a0_2) := (blk_cell BK101.out 2).trans rfl
             have hcz36_3 : wc.cell? ⟨gb101, 3, none⟩ = some (.int .i64 a0_3) := (blk_cell BK101.out 3).trans rfl
             have hcz36_4 : wc.cell? ⟨gb101, 4, none⟩ = some (.int .i64 a0_4) := (blk_cell BK101.out 4).trans rfl
             have hcz36_5 : wc.cell? ⟨gb101, 5, none⟩ = some (.int .u8 a0_5) := (blk_cell BK101.out 5).trans rfl
             have hcz36_6 : wc.cell? ⟨gb101, 6, none⟩ = some (.string a0_6) := (blk_cell BK101.out 6).trans rfl
             have hfz36_0 := blk_frozen BK101.out 0
             have hfz36_1 := blk_frozen BK101.out 1
             have hfz36_2 := blk_frozen BK101.out 2
             have hfz36_3 := blk_frozen BK101.out 3
             have hfz36_4 := blk_frozen BK101.out 4
             have hfz36_5 := blk_frozen BK101.out 5
             have hfz36_6 := blk_frozen BK101.out 6
             go_wp2
             go_ret
             exact ⟨by first | rfl | (simp [errW_none, errW_some] <;> rfl) | (simp [*, errW_none, errW_some] <;> rfl), by repeat (first | (with_reducible first | exact HB.out | apply below_alloc | apply pw_below_drewN | apply below_drew1 | refine below_set ?_ GE101.out) | exact HB.out)⟩
            ·rw [if_neg c35] at H
             have c35b0 : decide (a0_3 < 0) = false := decide_eq_false c35
             clear c35
             by_cases c37 : a0_3 > 8589934591
             ·rw [if_pos c37] at H
              have c37b0 : decide (8589934591 < a0_3) = true := decide_eq_true c37
              clear c37
              obtain rfl := Option.some.inj H
              have hcz38_0 : wc.cell? ⟨gb101, 0, none⟩ = some (.string a0_0) := (blk_cell BK101.out 0).trans rfl
              have hcz38_1 : wc.cell? ⟨gb101, 1, none⟩ = some (.string a0_1) := (blk_cell BK101.out 1).trans rfl
              have hcz38_2 : wc.cell? ⟨gb101, 2, none⟩ = some (.int .i64 a0_2) := (blk_cell BK101.out 2).trans rfl
              have hcz38_3 : wc.cell? ⟨gb101, 3, none⟩ = some (.int .i64 a0_3) := (blk_cell BK101.out 3).trans rfl
              have hcz38_4 : wc.cell? ⟨gb101, 4, none⟩ = some (.int .i64 a0_4) := (blk_cell BK101.out 4).trans rfl
              have hcz38_5 : wc.cell? ⟨gb101, 5, none⟩ = some (.int .u8 a0_5) := (blk_cell BK101.out 5).trans rfl
              have hcz38_6 : wc.cell? ⟨gb101, 6, none⟩ = some (.string a0_6) := (blk_cell BK101.out 6).trans rfl
              have hfz38_0 := blk_frozen BK101.out 0
              have hfz38_1 := blk_frozen BK101.out 1
              have hfz38_2 := blk_frozen BK101.out 2
              have hfz38_3 := blk_frozen BK101.out 3
              have hfz38_4 := blk_frozen BK101.out 4
              have hfz38_5 := blk_frozen BK101.out 5
              have hfz38_6 := blk_frozen BK101.out 6
              go_wp2
              go_ret
              exact ⟨by first | rfl | (simp [errW_none, errW_some] <;> rfl) | (simp [*, errW_none, errW_some] <;> rfl), by repeat (first | (with_reducible first | exact HB.out | apply below_alloc | apply pw_below_drewN | apply below_drew1 | refine below_set ?_ GE101.out) | exact HB.out)⟩
             ·rw [if_neg c37] at H
              have c37b0 : decide (8589934591 < a0_3) = false := decide_eq_false c37
              clear c37
              by_cases c39 : a0_4 < 0
              ·rw [if_pos c39] at H
               have c39b0 : decide (a0_4 < 0) = true := decide_eq_true c39
               clear c39
               obtain rfl := Option.some.inj H
               have hcz40_0 : wc.cell? ⟨gb101, 0, none⟩ = some (.string a0_0) := (blk_cell BK101.out 0).trans rfl
               have hcz40_1 : wc.cell? ⟨gb101, 1, none⟩ = some (.string a0_1) := (blk_cell BK101.out 1).trans rfl
               have hcz40_2 : wc.cell? ⟨gb101, 2, none⟩ = some (.int .i64 a0_2) := (blk_cell BK101.out 2).trans rfl
               have hcz40_3 : wc.cell? ⟨gb101, 3, none⟩ = some (.int .i64 a0_3) := (blk_cell BK101.out 3).trans rfl
               have hcz40_4 : wc.cell? ⟨gb101, 4, none⟩ = some (.int .i64 a0_4) := (blk_cell BK101.out 4).trans rfl
               have hcz40_5 : wc.cell? ⟨gb101, 5, none⟩ = some (.int .u8 a0_5) := (blk_cell BK101.out 5).trans rfl
               have hcz40_6 : wc.cell? ⟨gb101, 6, none⟩ = some (.string a0_6) := (blk_cell BK101.out 6).trans rfl
               have hfz40_0 := blk_frozen BK101.out 0
               have hfz40_1 := blk_frozen BK101.out 1
               have hfz40_2 := blk_frozen BK101.out 2
               have hfz40_3 := blk_frozen BK101.out 3
               have hfz40_4 := blk_frozen BK101.out 4
               have hfz40_5 := blk_frozen BK101.out 5
               have hfz40_6 := blk_frozen BK101.out 6
               go_wp2
               go_ret
               exact ⟨by first | rfl | (simp [errW_none, errW_some] <;> rfl) | (simp [*, errW_none, errW_some] <;> rfl), by repeat (first | (with_reducible first | exact HB.out | apply below_alloc | apply pw_below_drewN | apply below_drew1 | refine below_set ?_ GE101.out) | exact HB.out)⟩
              ·rw [if_neg c39] at H
               have c39b0 : decide (a0_4 < 0) = false := decide_eq_false c39
               clear c39
               by_cases c41 : a0_4 > 1099511627776
               ·rw [if_pos c41] at H
                have c41b0 : decide (1099511627776 < a0_4) = true := decide_eq_true c41
                clear c41
                obtain rfl := Option.some.inj H
                have hcz42_0 : wc.cell? ⟨gb101, 0, none⟩ = some (.string a0_0) := (blk_cell BK101.out 0).trans rfl
                have hcz42_1 : wc.cell? ⟨gb101, 1, none⟩ = some (.string a0_1) := (blk_cell BK101.out 1).trans rfl
                have hcz42_2 : wc.cell? ⟨gb101, 2, none⟩ = some (.int .i64 a0_2) := (blk_cell BK101.out 2).trans rfl
                have hcz42_3 : wc.cell? ⟨gb101, 3, none⟩ = some (.int .i64 a0_3) := (blk_cell BK101.out 3).trans rfl
                have hcz42_4 : wc.cell? ⟨gb101, 4, none⟩ = some (.int .i64 a0_4) := (blk_cell BK101.out 4).trans rfl
                have hcz42_5 : wc.cell? ⟨gb101, 5, none⟩ = some (.int .u8 a0_5) := (blk_cell BK101.out 5).trans rfl
                have hcz42_6 : wc.cell? ⟨gb101, 6, none⟩ = some (.string a0_6) := (blk_cell BK101.out 6).trans rfl
                have hfz42_0 := blk_frozen BK101.out 0
                have hfz42_1 := blk_frozen BK101.out 1
                have hfz42_2 := blk_frozen BK101.out 2
                have hfz42_3 := blk_frozen BK101.out 3
                have hfz42_4 := blk_frozen BK101.out 4
                have hfz42_5 := blk_frozen BK101.out 5
                have hfz42_6 := blk_frozen BK101.out 6
                go_wp2
                go_ret
                exact ⟨by first | rfl | (simp [errW_none, errW_some] <;> rfl) | (simp [*, errW_none, errW_some] <;> rfl), by repeat (first | (with_reducible first | exact HB.out | apply below_alloc | apply pw_below_drewN | apply below_drew1 | refine below_set ?_ GE101.out) | exact HB.out)⟩
               ·rw [if_neg c41] at H
                have c41b0 : decide (1099511627776 < a0_4) = false := decide_eq_false c41
                clear c41
                obtain rfl := Option.some.inj H
                have hcz43_0 : wc.cell? ⟨gb101, 0, none⟩ = some (.string a0_0) := (blk_cell BK101.out 0).trans rfl
                have hcz43_1 : wc.cell? ⟨gb101, 1, none⟩ = some (.string a0_1) := (blk_cell BK101.out 1).trans rfl
                have hcz43_2 : wc.cell? ⟨gb101, 2, none⟩ = some (.int .i64 a0_2) := (blk_cell BK101.out 2).trans rfl
                have hcz43_3 : wc.cell? ⟨gb101, 3, none⟩ = some (.int .i64 a0_3) := (blk_cell BK101.out 3).trans rfl
                have hcz43_4 : wc.cell? ⟨gb101, 4, none⟩ = some (.int .i64 a0_4) := (blk_cell BK101.out 4).trans rfl
                have hcz43_5 : wc.cell? ⟨gb101, 5, none⟩ = some (.int .u8 a0_5) := (blk_cell BK101.out 5).trans rfl
                have hcz43_6 : wc.cell? ⟨gb101, 6, none⟩ = some (.string a0_6) := (blk_cell BK101.out 6).trans rfl
                have hfz43_0 := blk_frozen BK101.out 0
                have hfz43_1 := blk_frozen BK101.out 1
                have hfz43_2 := blk_frozen BK101.out 2
                have hfz43_3 := blk_frozen BK101.out 3
                have hfz43_4 := blk_frozen BK101.out 4
                have hfz43_5 := blk_frozen BK101.out 5
                have hfz43_6 := blk_frozen BK101.out 6
                go_wp2
                go_ret
                exact ⟨by first | rfl | (simp [errW_none, errW_some] <;> rfl) | (simp [*, errW_none, errW_some] <;> rfl), by repeat (first | (with_reducible first | exact HB.out | apply below_alloc | apply pw_below_drewN | apply below_drew1 | refine below_set ?_ GE101.out) | exact HB.out)⟩

end Go.Proofs.Ytdmpbfhbjklajaa.PPut
end
