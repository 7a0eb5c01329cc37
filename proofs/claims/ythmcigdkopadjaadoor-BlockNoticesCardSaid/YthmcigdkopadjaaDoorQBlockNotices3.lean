/- Texts of this claim, laid together by wip/tools/squash.py: PBlockNoticesx, Block6, WalkBlockNotices, Opn. -/
import Derived.Test.YthmcigdkopadjaaDoorQBlockNotices2
import Derived.Lib.Bytes
import Derived.Test.YthmcigdkopadjaaDoorWMore
import Derived.Test.YthmcigdkopadjaaDoorWArr
import Derived.ChangeArms
import Derived.DataElems
import Derived.DataReads
import Derived.OpenShut
import Derived.SizedLaws

-- Written by wip/tools/myprint.py, a program of this session over the print tool: not a printed text of the kit's
section
namespace Go.Proofs.YthmcigdkopadjaaDoor.PBlockNotices
open Go.RowKit Go.Proofs.YthmcigdkopadjaaDoorW.PrintWords Go.Proofs.YthmcigdkopadjaaDoorW.PrintLast Go.Proofs.YthmcigdkopadjaaDoorW.PrintMore
attribute [local go_sem] max2_int min2_int max_two min_two max_three min_three max_four min_four   -- for this text's walks alone
set_option linter.unusedVariables false
set_option linter.unusedSimpArgs false

end Go.Proofs.YthmcigdkopadjaaDoor.PBlockNotices
end

/- A block's bytes, in plain words: there and back; bytes that are changed within 32 bits are not read. -/
section
namespace Go.Proofs.YthmcigdkopadjaaDoor.Block6
open Go.Proofs.YthmcigdkopadjaaDoor Go.RowKit Go.Proofs.YthmcigdkopadjaaDoorW.PrintWords Go.Proofs.YthmcigdkopadjaaDoorW.PrintLast Go.Proofs.YthmcigdkopadjaaDoorW.PrintMore Go.Proofs.YthmcigdkopadjaaDoor.Byt Go.Proofs.YthmcigdkopadjaaDoor.Lay6 Go.Proofs.YthmcigdkopadjaaDoor.Pack6 Go.Proofs.YthmcigdkopadjaaDoor.Parse6
set_option linter.unusedVariables false
set_option linter.unusedSimpArgs false
theorem beN_be (n : Nat) : ∀ x : Int, 0 ≤ x → x < 256 ^ n → beN (be x n) = x := by
  induction n with
  | zero => intro x h0 h1; have : (256 : Int) ^ 0 = 1 := rfl; show (0 : Int) = x; omega
  | succ n ih =>
    intro x h0 h1
    rw [Int.pow_succ] at h1
    show beN (be (x / 256) n ++ [x % 256]) = x
    rw [beN_next, ih (x / 256) (by omega) (by omega)]
    omega
theorem seal_take {l : List Int} (h : AreB l) {n : Nat} (hn : l.length = n) : (sealI l).take n = l := by
  subst hn
  unfold sealI
  rw [CrcPure.ints_take]
  unfold Crc6.sealN
  rw [List.take_left' (by simp [nats]), ints_nats h]
theorem mid (a b c : List Int) {o n : Nat} (ha : a.length = o) (hb : b.length = n) : ((a ++ (b ++ c)).drop o).take n = b := by
  subst ha hb
  rw [List.drop_left, List.take_left]
theorem bn_mid (a c : List Int) (x : Int) {o : Nat} (ha : a.length = o) : bn (a ++ (x :: c)) o = x := by
  subst ha
  rw [bn_getD, List.getD_eq_getElem?_getD, List.getElem?_append_right (Nat.le_refl _), Nat.sub_self]
  rfl
structure Okay (key stripe shard : Int) (data : List Int) : Prop where
  key : 0 ≤ key ∧ key < 18446744073709551616
  stripe : 0 ≤ stripe ∧ stripe < 4294967296
  shard : 0 ≤ shard ∧ shard < 256
  data : AreB data
theorem pack_ok {key stripe shard : Int} {data : List Int} (h : Okay key stripe shard data) : ParseC.packF key stripe shard data = if 96 < data.length then some ([], 2) else some (sealI (bodyP key stripe shard data), 0) := by
  show Pack6.packF key stripe shard data = _
  unfold Pack6.packF
  rw [if_pos ⟨h.key, h.stripe, h.shard, h.data⟩]
/-- THERE AND BACK. -/
theorem parse_pack {key stripe shard : Int} {data : List Int} (h : Okay key stripe shard data) (hl : data.length ≤ 96) : ParseC.parseF (sealI (bodyP key stripe shard data)) = some (key, stripe, shard, data, 0) := by
  have hB := bodyP_bytes key stripe shard h.data
  have hL := bodyP_len key stripe shard hl
  obtain ⟨B, hBe⟩ : ∃ B, B = bodyP key stripe shard data := ⟨_, rfl⟩
  rw [← hBe] at hB hL ⊢
  have hX := seal_bytes hB
  have hXl := seal_len B
  have hXt := seal_take hB hL
  have hsh := h.shard
  have hlen : ((data.length : Nat) : Int) % 256 = data.length := by omega
  have hb8 := be_len key 8
  have hb4 := be_len stripe 4
  have e1 : B = MARK ++ (be key 8 ++ (be stripe 4 ++ [shard, (data.length : Int)] ++ List.replicate 10 0 ++ data ++ List.replicate (96 - data.length) 0)) := by
    rw [hBe]; unfold bodyP headP MARK
    rw [Int.emod_eq_of_lt hsh.1 hsh.2, hlen]
    simp only [List.append_assoc]
  have e2 : B = (MARK ++ be key 8) ++ (be stripe 4 ++ ([shard, (data.length : Int)] ++ List.replicate 10 0 ++ data ++ List.replicate (96 - data.length) 0)) := by rw [e1]; simp only [List.append_assoc]
  have e3 : B = (MARK ++ be key 8 ++ be stripe 4) ++ (shard :: ((data.length : Int) :: (List.replicate 10 0 ++ data ++ List.replicate (96 - data.length) 0))) := by rw [e1]; simp only [List.append_assoc, List.cons_append, List.nil_append]
  have e4 : B = (MARK ++ be key 8 ++ be stripe 4 ++ [shard]) ++ ((data.length : Int) :: (List.replicate 10 0 ++ data ++ List.replicate (96 - data.length) 0)) := by rw [e1]; simp only [List.append_assoc, List.cons_append, List.nil_append]
  have e5 : B = (MARK ++ be key 8 ++ be stripe 4 ++ [shard, (data.length : Int)]) ++ (List.replicate 10 0 ++ (data ++ List.replicate (96 - data.length) 0)) := by rw [e1]; simp only [List.append_assoc, List.cons_append, List.nil_append]
  have e6 : B = (MARK ++ be key 8 ++ be stripe 4 ++ [shard, (data.length : Int)] ++ List.replicate 10 0) ++ (data ++ List.replicate (96 - data.length) 0) := by rw [e1]; simp only [List.append_assoc, List.cons_append, List.nil_append]
  have hM : MARK.length = 4 := rfl
  have q16 : bn (sealI B) 16 = shard := by
    rw [← bn_take (sealI B) 124 16 (by decide), hXt, e3]
    exact bn_mid _ _ _ (by simp only [List.length_append, hM, hb8, hb4])
  have q17 : bn (sealI B) 17 = (data.length : Int) := by
    rw [← bn_take (sealI B) 124 17 (by decide), hXt, e4]
    exact bn_mid _ _ _ (by simp only [List.length_append, hM, hb8, hb4, List.length_cons, List.length_nil])
  have qm : (sealI B).take 4 = MARK := by
    have : (sealI B).take 4 = ((sealI B).take 124).take 4 := by rw [List.take_take]; rfl
    rw [this, hXt, e1]
    exact List.take_left' rfl
  have q8 : (B.drop 4).take 8 = be key 8 := by rw [e1]; exact mid _ _ _ hM hb8
  have q4 : (B.drop 12).take 4 = be stripe 4 := by rw [e2]; exact mid _ _ _ (by simp only [List.length_append, hM, hb8]) hb4
  have q10 : (B.drop 18).take 10 = List.replicate 10 0 := by rw [e5]; exact mid _ _ _ (by simp only [List.length_append, hM, hb8, hb4, List.length_cons, List.length_nil]) List.length_replicate
  have q28 : B.drop 28 = data ++ List.replicate (96 - data.length) 0 := by rw [e6]; exact List.drop_left' (by simp only [List.length_append, hM, hb8, hb4, List.length_cons, List.length_nil, List.length_replicate])
  show Parse6.parseF _ = _
  unfold Parse6.parseF
  rw [if_pos hX, if_pos (by omega), if_pos qm, hXt, if_pos (rfl : sealI B = sealI B), if_pos, q16, q17, q8, q4, q28, beN_be 8 key h.key.1 h.key.2, beN_be 4 stripe h.stripe.1 h.stripe.2, Int.toNat_natCast, List.take_left]
  unfold fineS
  rw [hXt, q17, q10, q28, Int.toNat_natCast, List.drop_left]
  exact ⟨by omega, fun x hx => List.eq_of_mem_replicate hx, fun x hx => List.eq_of_mem_replicate hx⟩
/-- Unlike blocks have unlike bytes. -/
theorem pack_inj {k1 s1 d1 : Int} {l1 : List Int} {k2 s2 d2 : Int} {l2 : List Int} (h1 : Okay k1 s1 d1 l1) (h2 : Okay k2 s2 d2 l2) (n1 : l1.length ≤ 96) (n2 : l2.length ≤ 96) (h : sealI (bodyP k1 s1 d1 l1) = sealI (bodyP k2 s2 d2 l2)) : k1 = k2 ∧ s1 = s2 ∧ d1 = d2 ∧ l1 = l2 := by
  have e1 := parse_pack h1 n1
  rw [h, parse_pack h2 n2] at e1
  simp only [Option.some.injEq, Prod.mk.injEq, and_true] at e1
  exact ⟨e1.1.symm, e1.2.1.symm, e1.2.2.1.symm, e1.2.2.2.symm⟩
/-- What is not sealed is not read. -/
theorem parse_unsealed {X : List Int} (hA : AreB X) (hl : X.length = 128) (hS : ¬ X = sealI (X.take 124)) : ∃ e : Int, (e = 60 ∨ e = 61) ∧ ParseC.parseF X = some (0, 0, 0, [], e) := by
  by_cases hM : X.take 4 = MARK
  · refine ⟨61, .inr rfl, ?_⟩
    show Parse6.parseF _ = _
    unfold Parse6.parseF
    rw [if_pos hA, if_pos hl, if_pos hM, if_neg hS]
  · refine ⟨60, .inl rfl, ?_⟩
    show Parse6.parseF _ = _
    unfold Parse6.parseF
    rw [if_pos hA, if_pos hl, if_neg hM]
theorem toNat_byte (x : Int) (h : 0 ≤ x ∧ x ≤ 255) : ((UInt8.ofNat x.toNat).toNat : Int) = x := by
  rw [UInt8.toNat_ofNat']; omega
theorem str_inj (a b : List Int) (ha : AreB a) (hb : AreB b) : ((strOfNums a).toList = (strOfNums b).toList) ↔ a = b := by
  constructor
  · intro h
    rw [Lib.strOfNums_toList, Lib.strOfNums_toList] at h
    have h2 := congrArg (List.map (fun b : UInt8 => (b.toNat : Int))) h
    unfold Lib.bytesOf at h2
    rw [List.map_map, List.map_map] at h2
    have key : ∀ l : List Int, AreB l → l.map ((fun b : UInt8 => (b.toNat : Int)) ∘ (fun n : Int => UInt8.ofNat n.toNat)) = l := by
      intro l hl
      conv => rhs; rw [← List.map_id l]
      exact List.map_congr_left fun x hx => toNat_byte x (hl x hx)
    rw [key a ha, key b hb] at h2
    exact h2
  · rintro rfl; rfl
theorem str_beq (a b : List Int) (ha : AreB a) (hb : AreB b) : ((strOfNums a).toList == (strOfNums b).toList) = decide (a = b) := by
  rw [Bool.eq_iff_iff, beq_iff_eq, decide_eq_true_eq]
  exact str_inj a b ha hb
theorem areB_wf {l : List Int} (h : ∀ x ∈ l, (Lit.int .u8 x).wf = true) : AreB l := by
  intro x hx
  have h := h x hx
  simp only [Lit.wf, Bool.and_eq_true, decide_eq_true_eq] at h
  have hmin : IntKind.u8.min = 0 := rfl
  have hmax : IntKind.u8.max = 255 := rfl
  omega
theorem okay_wf {key stripe shard : Int} {data : List Int} (h1 : (Lit.int .u64 key).wf = true) (h2 : (Lit.int .u32 stripe).wf = true) (h3 : (Lit.int .u8 shard).wf = true) (h4 : ∀ x ∈ data, (Lit.int .u8 x).wf = true) : Okay key stripe shard data := by
  simp only [Lit.wf, Bool.and_eq_true, decide_eq_true_eq] at h1 h2 h3
  have a1 : IntKind.u64.min = 0 := rfl
  have a2 : IntKind.u64.max = 18446744073709551615 := rfl
  have a3 : IntKind.u32.min = 0 := rfl
  have a4 : IntKind.u32.max = 4294967295 := rfl
  have a5 : IntKind.u8.min = 0 := rfl
  have a6 : IntKind.u8.max = 255 := rfl
  exact ⟨by omega, by omega, by omega, areB_wf h4⟩
end Go.Proofs.YthmcigdkopadjaaDoor.Block6
end

/- BlockNotices: a block's bytes that are changed anywhere within 32 bits are not read. -/
section
namespace Go.Proofs.YthmcigdkopadjaaDoor.WalkBlockNotices
open Go.Proofs.YthmcigdkopadjaaDoor Go.RowKit Go.Proofs.YthmcigdkopadjaaDoorW.PrintWords Go.Proofs.YthmcigdkopadjaaDoorW.PrintLast Go.Proofs.YthmcigdkopadjaaDoorW.PrintMore Go.Proofs.YthmcigdkopadjaaDoor.Pack6 Go.Proofs.YthmcigdkopadjaaDoor.Block6 Go.Proofs.YthmcigdkopadjaaDoor.PBlockNotices Go.Proofs.YthmcigdkopadjaaDoor.CrcPure Go.Proofs.YthmcigdkopadjaaDoor.Crc6
set_option linter.unusedVariables false
set_option linter.unusedSimpArgs false
theorem wk : tabularylaw06_wakes.f = some true := rfl
theorem shl8 : ∀ r : Fin 8, shl .u8 1 ((r.val : Nat) : Int) = ((2 ^ r.val : Nat) : Int) := by decide

theorem ints_set (m : List Nat) (i c : Nat) : (ints m).set i (c : Int) = ints (m.set i c) := by
  unfold ints; rw [List.map_set]; rfl

theorem bit_more (b i : Nat) : b % 2 ^ (i + 1) = (b % 2 ^ i) ^^^ (if b / 2 ^ i % 2 = 1 then 2 ^ i else 0) := by
  apply Nat.eq_of_testBit_eq
  intro j
  rw [Nat.testBit_xor, Nat.testBit_mod_two_pow, Nat.testBit_mod_two_pow]
  have hbit : b.testBit i = decide (b / 2 ^ i % 2 = 1) := by rw [Nat.testBit_eq_decide_div_mod_eq]
  by_cases h : b / 2 ^ i % 2 = 1
  · rw [if_pos h, Nat.testBit_two_pow]
    by_cases hj : i = j
    · subst hj; rw [hbit]; simp [h]
    · by_cases hlt : j < i
      · simp [hj, hlt, show j < i + 1 by omega]
      · simp [hj, hlt, show ¬ j < i + 1 by omega]
  · rw [if_neg h, Nat.zero_testBit]
    by_cases hj : i = j
    · subst hj; rw [hbit]; simp [h]
    · by_cases hlt : j < i
      · simp [hlt, show j < i + 1 by omega]
      · simp [hlt, show ¬ j < i + 1 by omega]

theorem xor_mul (a b p : Nat) : (a ^^^ b) * 2 ^ p = (a * 2 ^ p) ^^^ (b * 2 ^ p) := by
  rw [← Nat.shiftLeft_eq, ← Nat.shiftLeft_eq, ← Nat.shiftLeft_eq, Nat.shiftLeft_xor_distrib]

theorem small_set {y : List Nat} (h : Small y) (j v : Nat) (hv : v < 256) : Small (y.set j v) := by
  intro c hc
  rcases List.mem_or_eq_of_mem_set hc with h2 | h2
  · exact h c h2
  · omega

theorem step_ints (b p i : Nat) (hi : i < 32) (hpi : p + 32 ≤ 8 * 100000) :
    wrap64 ((i : Int) + 1) = ((i + 1 : Nat) : Int) ∧ wrap64 ((p : Int) + (i : Int)) = ((p + i : Nat) : Int) ∧ Int.tdiv ((p + i : Nat) : Int) 8 = (((p + i) / 8 : Nat) : Int)
    ∧ Int.tmod ((p + i : Nat) : Int) 8 = (((p + i) % 8 : Nat) : Int) ∧ wrap64 (((p + i) / 8 : Nat) : Int) = (((p + i) / 8 : Nat) : Int) ∧ shr .u32 (b : Int) (i : Int) = ((b / 2 ^ i : Nat) : Int) := by
  refine ⟨?_, ?_, rfl, rfl, ?_, ?_⟩
  · rw [w64 ⟨by omega, by omega⟩]; omega
  · rw [w64 ⟨by omega, by omega⟩]; omega
  · exact w64 ⟨by omega, by omega⟩
  · unfold shr
    rw [Int.toNat_natCast, show min i IntKind.u32.bits = i from Nat.min_eq_left (by show i ≤ 32; omega)]
    norm_cast

theorem notices_l0 (m : List Nat) (hm : Small m) (hn : m.length = 124) (key stripe shard : Int) (data : List Int) (b p : Nat) (hb : b < 4294967296) (hb0 : b ≠ 0) (hp : p + 32 ≤ 8 * (sealN m).length) (d : Nat) :
    ∀ (k i : Nat) (y : List Nat), i + d = 32 → d + 10 < k → Small y → y.length = (sealN m).length → CrcMath.leNat y = CrcMath.leNat (sealN m) ^^^ (b % 2 ^ i * 2 ^ p) →
      tabularylaw06_BlockNotices.l0 k (b : Int) (ints y) (p : Int) (i : Int) key stripe shard data = some true := by
  have hl := sealN_len m
  induction d with
  | zero =>
    intro k i y hi hk hy hly he
    obtain ⟨k, rfl⟩ : ∃ m, k = m + 1 := ⟨k - 1, by omega⟩
    have hi : i = 32 := by omega
    subst hi
    have he2 : CrcMath.leNat y = CrcMath.leNat (sealN m) ^^^ (b * 2 ^ p) := by rw [he, Nat.mod_eq_of_lt hb]
    have hne := CrcMath.notice (sealN m) y b p hly.symm hb hb0 (by omega) he2
    rw [show CrcMath.takes (sealN m) 4294967295 = CrcMath.shs 32 4294967295 from CrcMath.takes_sealed m hm] at hne
    simp only [tabularylaw06_BlockNotices.l0]
    have hyl : y.length = 128 := by omega
    have hns : ¬ ints y = sealI ((ints y).take 124) := by
      intro e
      apply hne
      have e2 := congrArg nats e
      unfold sealI at e2
      rw [nats_ints, nats_ints, ints_take, nats_ints] at e2
      have h2 := CrcMath.takes_sealed (y.take 124) (fun c hc => hy c (List.mem_of_mem_take hc))
      unfold sealN at e2
      rw [← e2] at h2
      exact h2
    obtain ⟨e, he, hp⟩ := parse_unsealed (ints_bytes hy) (by rw [ints_len]; exact hyl) hns
    rw [if_neg (by omega), show block_Parse.f (ints y) = _ from hp]
    simp only [Option.bind_some]
    have hs : tabularyref06_Same.f 0 0 0 ([] : List Int) 0 0 0 ([] : List Int) = some true := by
      unfold tabularyref06_Same.f
      rw [if_pos rfl, if_pos rfl, if_pos rfl, beq_self_eq_true]
    have hi : block_Is.f (ints y) key stripe shard = some false := by
      unfold block_Is.f
      rw [show block_Parse.f (ints y) = _ from hp]
      simp only [Option.bind_some]
      rw [if_neg (by rcases he with rfl | rfl <;> decide)]
    rw [hs, hi, wk]
    simp only [Option.bind_some]
    rcases he with rfl | rfl
    · rfl
    · rfl
  | succ d ih =>
    intro k i y hi hk hy hly he
    obtain ⟨k, rfl⟩ : ∃ m, k = m + 1 := ⟨k - 1, by omega⟩
    have hi32 : i < 32 := by clear he; omega
    have hpl : p + 32 ≤ 8 * 100000 := by clear he; omega
    obtain ⟨e2, e3, e4, e5, e6, es⟩ := step_ints b p i hi32 hpl
    have hj : (p + i) / 8 < y.length := by clear he e2 e3 e4 e5 e6 es; omega
    have hle : ((p + i) / 8 : Nat) < (y.length : Int) := by clear he e2 e3 e4 e5 e6 es; omega
    have hq0 : (0 : Int) ≤ (((p + i) / 8 : Nat) : Int) := Int.natCast_nonneg _
    have hq1 : (0 : Int) ≤ (((p + i) % 8 : Nat) : Int) := Int.natCast_nonneg _
    have hi0 : ((i : Nat) : Int) < 32 := by clear he e2 e3 e4 e5 e6 es; omega
    have hd10 : d + 10 < k := by clear he e2 e3 e4 e5 e6 es; omega
    have hid : i + 1 + d = 32 := by clear he e2 e3 e4 e5 e6 es; omega
    have hlt : b / 2 ^ i < 4294967296 := Nat.lt_of_le_of_lt (Nat.div_le_self _ _) hb
    simp only [tabularylaw06_BlockNotices.l0]
    rw [if_pos hi0, if_pos (Int.natCast_nonneg i), es, and1 _ hlt, e3, e4, e5, e6, e2, ints_len]
    by_cases hbit : b / 2 ^ i % 2 = 1
    · have e7 : shl .u8 1 (((p + i) % 8 : Nat) : Int) = ((2 ^ ((p + i) % 8) : Nat) : Int) := shl8 ⟨(p + i) % 8, Nat.mod_lt _ (by decide)⟩
      have h8 : 2 ^ ((p + i) % 8) < 256 := by
        have : 2 ^ ((p + i) % 8) ≤ 2 ^ 7 := Nat.pow_le_pow_right (by decide) (Nat.le_of_lt_succ (Nat.mod_lt _ (by decide)))
        exact Nat.lt_of_le_of_lt this (by decide)
      have er : rd (ints y) (((p + i) / 8 : Nat) : Int) = ((y[(p + i) / 8] : Nat) : Int) := by
        rw [rd_ints, List.getD_eq_getElem?_getD, List.getElem?_eq_getElem hj]; rfl
      have hyj := hy _ (List.getElem_mem hj)
      have hx8 : y[(p + i) / 8] ^^^ 2 ^ ((p + i) % 8) < 256 := Nat.xor_lt_two_pow (n := 8) hyj h8
      rw [if_pos (show ((b / 2 ^ i % 2 : Nat) : Int) = 1 from by rw [hbit]; rfl), if_pos hq0, if_pos hle, if_pos hq1, e7, er, xor8 _ _ hyj h8, Int.toNat_natCast, ints_set]
      refine ih k (i + 1) _ hid hd10 (small_set hy _ _ hx8) (by rw [List.length_set]; exact hly) ?_
      rw [CrcMath.leNat_set y _ _ hj, he, bit_more b i, if_pos hbit, xor_mul, Nat.xor_assoc]
      congr 2
      rw [← Nat.pow_add, ← Nat.pow_add]
      congr 1
      omega
    · rw [if_neg (show ¬ ((b / 2 ^ i % 2 : Nat) : Int) = 1 from fun h => hbit (by exact_mod_cast h))]
      refine ih k (i + 1) y hid hd10 hy hly ?_
      rw [he, bit_more b i, if_neg hbit, Nat.xor_zero]

theorem tmod_in (a m : Int) (h : 0 < m) : -m < Int.tmod a m ∧ Int.tmod a m < m := by
  refine ⟨?_, Int.tmod_lt_of_pos a h⟩
  have := Int.tmod_lt_of_pos (-a) h
  rw [Int.neg_tmod] at this
  omega

theorem notices_true {key stripe shard : Int} {data : List Int} (h : Okay key stripe shard data) (a by_ : Int) (hb : 0 ≤ by_ ∧ by_ ≤ 4294967295) : tabularylaw06_BlockNotices.f 200 key stripe shard data a by_ = some true := by
  obtain ⟨b, rfl⟩ := Int.eq_ofNat_of_zero_le hb.1
  unfold tabularylaw06_BlockNotices.f
  rw [show block_Pack.f key stripe shard data = _ from pack_ok h]
  by_cases n1 : 96 < data.length
  · rw [if_pos n1]
    simp only [Option.bind_some]
    rw [if_neg (by decide)]
    simp only [tabularylaw06_BlockNotices.j0]
    rw [if_pos trivial, wk]
    rfl
  · rw [if_neg n1]
    simp only [Option.bind_some]
    rw [if_pos trivial]
    simp only [tabularylaw06_BlockNotices.j0]
    by_cases hb0 : (b : Int) = 0
    · rw [if_pos (by rw [hb0]; rfl), wk]
      rfl
    · rw [if_neg (by simp; omega)]
      have hBb := bodyP_bytes key stripe shard h.data
      have hBl := bodyP_len key stripe shard (data := data) (by omega)
      have hsl := seal_len (bodyP key stripe shard data)
      rw [if_pos (by omega)]
      have e1 : (993 : Int) = ((993 : Nat) : Int) := rfl
      have t1 := tmod_in a 993 (by decide)
      have e4 : wrap64 (Int.tmod a 993 + 993) = Int.tmod a 993 + 993 := w64 ⟨by omega, by omega⟩
      rw [e4]
      have t2 := tmod_in (Int.tmod a 993 + 993) 993 (by decide)
      have t3 := Int.tmod_nonneg 993 (a := Int.tmod a 993 + 993) (by omega)
      obtain ⟨p, hp⟩ := Int.eq_ofNat_of_zero_le t3
      rw [hp] at t2 ⊢
      have hm : (nats (bodyP key stripe shard data)).length = 124 := by simp only [nats, List.length_map]; exact hBl
      refine notices_l0 (nats (bodyP key stripe shard data)) (nats_small hBb) hm key stripe shard data b p (by omega) (by omega) (by rw [sealN_len, hm]; omega) 32 _ 0 (sealN (nats (bodyP key stripe shard data))) (by omega) (by omega) (sealN_small (nats_small hBb)) rfl ?_
      rw [Nat.pow_zero, Nat.mod_one, Nat.zero_mul, Nat.xor_zero]
theorem walk (k1 s1 d1 : Int) (A1 : Option Addr) (c1 : Nat) (l1 : List Int) (a by_ : Int) (W : World)
    (o1 : Okay k1 s1 d1 l1) (h1 : Kd.C (Kd.int .u8) W A1 l1.length l1) (hc1 : l1.length ≤ c1) (hb : 0 ≤ by_ ∧ by_ ≤ 4294967295) :
    Calls Tryd.prog 6 #[.agg #[.int .u64 k1, .int .u32 s1, .int .u8 d1, .slice A1 l1.length c1], .int .i64 a, .int .u32 by_] W fun e w' => e = .returned (.bool true) ∧ Below W.heap.size W w' :=
  tabularylaw06_BlockNotices.calls 200 k1 s1 d1 A1 c1 l1 a by_ true W h1 hc1 (notices_true o1 a by_ hb)
end Go.Proofs.YthmcigdkopadjaaDoor.WalkBlockNotices
end

/- What came in, laid open, with how much it is: whole numbers, bools, texts, rows, arrays, in whatever nesting. -/
section
namespace Go.Proofs.YthmcigdkopadjaaDoor.Opn
open Go Go.RowKit Go.Proofs.YthmcigdkopadjaaDoorW.PrintWords Go.Proofs.YthmcigdkopadjaaDoorW.PrintLast Go.Proofs.YthmcigdkopadjaaDoorW.PrintMore
set_option linter.unusedVariables false

/-- Each reading at the type t that is no more than there may be gives a value of which K and W hold. -/
def Opn (P : Program) {α : Type} (K : World → α → List Value → Prop) (t : TypeId) (W : α → Prop) : Prop :=
  ∀ (H : Type) (enc : TypeId × Value → H) (w : World) (sp : Nat → Bool) (held : Bool) (fuel : Nat) (cs : List Value) (x : DataW H × List MemPlace),
    DataW.trod enc P w 0 sp held fuel t cs = some x → (x.1.weights P t).all (· ≤ reachBytes) = true → ∃ a, K w a cs ∧ W a

theorem Opn.weak {P : Program} {α : Type} {K : World → α → List Value → Prop} {t : TypeId} {W W' : α → Prop} (h : Opn P K t W) (hw : ∀ a, W a → W' a) : Opn P K t W' := fun H enc w sp held fuel cs x h1 h2 => by
  obtain ⟨a, ha, hb⟩ := h H enc w sp held fuel cs x h1 h2
  exact ⟨a, ha, hw a hb⟩
theorem of_int {P : Program} {t : TypeId} {k : IntKind} (ht : P.underlying t = some (.int k)) : Opn P (Kd.int k).K t (fun n => (Lit.int k n).wf = true) := by
  intro H enc w sp held fuel cs x h _
  obtain ⟨n, rfl, _, hw⟩ := DataW.trod_int ht h
  exact ⟨n, rfl, hw⟩
theorem of_bool {P : Program} {t : TypeId} (ht : P.underlying t = some .bool) : Opn P Kd.bool.K t (fun _ => True) := by
  intro H enc w sp held fuel cs x h _
  cases fuel with
  | zero => simp [DataW.trod] at h
  | succ n =>
    unfold DataW.trod at h
    rw [ht] at h
    split at h <;> first | (exact ⟨_, rfl, trivial⟩) | simp_all
theorem of_string {P : Program} {t : TypeId} (ht : P.underlying t = some .string) : Opn P Kd.string.K t (fun s => s.size ≤ 140737488351232) := by
  intro H enc w sp held fuel cs x h hw
  obtain ⟨s, rfl, rfl, _⟩ := DataW.trod_string ht h
  refine ⟨s, rfl, ?_⟩
  simp only [DataW.weights, List.all_cons, List.all_nil, Bool.and_true, decide_eq_true_eq] at hw
  simpa [reachBytes] using hw

theorem cells_at {w : World} {a : Addr} {n : Nat} {cs : List Value} (h : w.cells? 0 a n = some cs) : cs.length = n ∧ ∀ i u, cs[i]? = some u → w.cell? (a.add i) = some u := by
  obtain ⟨_, hl, hc⟩ := World.cells?_some h
  refine ⟨hl, fun i u hu => ?_⟩
  have hi : i < n := by rw [← hl]; exact (List.getElem?_eq_some_iff.1 hu).1
  rw [hc i hi, hu]
/-- One value for each place. -/
theorem choose_row {α : Type} {p : Nat → α → Prop} (n : Nat) (h : ∀ i, i < n → ∃ x, p i x) : ∃ xs : List α, xs.length = n ∧ ∀ i x, xs[i]? = some x → p i x := by
  induction n with
  | zero => exact ⟨[], rfl, fun i x hx => by simp at hx⟩
  | succ n ih =>
    obtain ⟨xs, hl, hp⟩ := ih (fun i hi => h i (by omega))
    obtain ⟨x, hx⟩ := h n (by omega)
    refine ⟨xs ++ [x], by simp [hl], fun i y hy => ?_⟩
    by_cases hi : i < xs.length
    · rw [List.getElem?_append_left hi] at hy
      exact hp i y hy
    · rw [List.getElem?_append_right (by omega)] at hy
      have : i = n := by
        have := (List.getElem?_eq_some_iff.1 hy).1
        simp at this; omega
      subst this
      rw [hl, Nat.sub_self] at hy
      simp at hy
      rw [← hy]; exact hx
theorem weights_all {H : Type} {P : Program} {e : TypeId} : ∀ {ds : List (DataW H)} {d : DataW H}, d ∈ ds → ∀ n ∈ d.weights P e, n ∈ DataW.weightsAll P e ds
  | d0 :: ds, d, hd, n, hn => by
    simp only [DataW.weightsAll, List.mem_append]
    rcases List.mem_cons.1 hd with rfl | hd
    · exact .inl hn
    · exact .inr (weights_all hd n hn)

theorem of_slice {P : Program} {α : Type} {d : Kd α} {t e : TypeId} {W : α → Prop} (ht : P.underlying t = some (.slice e)) (hc : P.cellsOf e = d.sz) {B : Nat} (hB : P.bytesOf e = B) (he : Opn P d.K e W) :
    Opn P (Kd.slice e d).K t (fun l => l.length * B ≤ 140737488351232 ∧ l.length ≤ maxLen ∧ ∀ x ∈ l, W x) := by
  intro H enc w sp held fuel cs x h hw
  rcases DataW.trod_slice ht h with ⟨rfl, _⟩ | ⟨a, len, cap, elems, rest, n, _, rfl, hx, _, hlc, hcm, hlen, hel, _⟩
  · exact ⟨[], ⟨none, 0, rfl, Nat.le_refl _, rfl, Nat.zero_le _, fun h => absurd h (by simp)⟩, by simp, by simp [maxLen], fun x hx => by simp at hx⟩
  · subst hx
    have hall := List.all_eq_true.1 hw
    simp only [DataW.weights, ht] at hall
    have h0 : (elems.length + rest.length) * B ≤ 140737488351232 := by
      have := hall ((elems.length + rest.length) * P.bytesOf e) (by simp)
      rw [hB] at this
      have h2 := of_decide_eq_true this
      simpa [reachBytes] using h2
    have hx : ∀ i, i < len → ∃ y, (∃ c, c.length = d.sz ∧ d.K w y c ∧ ∀ j u, c[j]? = some u → w.cell? (a.add (i * d.sz + j)) = some u) ∧ W y := by
      intro i hi
      have hE := hel i hi
      rw [List.getElem?_eq_getElem (by omega)] at hE
      obtain ⟨c, hcc, hy⟩ := Option.bind_eq_some_iff.mp hE
      have hwt : ((elems[i]'(by omega)).1.weights P e).all (· ≤ reachBytes) = true := List.all_eq_true.2 fun n hn => hall n (by
        refine List.mem_cons_of_mem _ (List.mem_append_left _ (weights_all (d := (elems[i]'(by omega)).1) ?_ n hn))
        exact List.mem_map_of_mem (List.getElem_mem _))
      obtain ⟨y, hy, hw⟩ := he H enc w sp held n c _ hy hwt
      obtain ⟨hl, hcell⟩ := cells_at hcc
      refine ⟨y, ⟨c, by rw [hl, hc], hy, fun j u hu => ?_⟩, hw⟩
      have := hcell j u hu
      rw [Addr.add_add, hc] at this
      exact this
    obtain ⟨xs, hl, hp⟩ := choose_row len hx
    have hmx : maxLen ≤ 9223372036854775807 := by decide
    refine ⟨xs, ⟨some a, cap, by rw [hl], by omega, rfl, by omega, fun _ => ⟨a, rfl, fun j p hj => (hp j p hj).1⟩⟩, ?_, by omega, fun x hx => ?_⟩
    · have : len * B ≤ (elems.length + rest.length) * B := Nat.mul_le_mul_right _ (by omega)
      rw [hl]; omega
    · obtain ⟨i, hi, rfl⟩ := List.mem_iff_getElem.mp hx
      exact (hp i _ (List.getElem?_eq_getElem hi)).2

/-- An array's cells are one behind the other. -/
theorem of_ints_array {P : Program} {n : Nat} {t e : TypeId} {k : IntKind} (ht : P.underlying t = some (.array n e)) (he : P.underlying e = some (.int k)) (hc : P.cellsOf e = 1) (hn : P.cellsOf t = n) :
    Opn P (fun _ (l : List Int) cs => l.length = n ∧ cs = l.map (Value.int k)) t (fun l => ∀ m ∈ l, (Lit.int k m).wf = true) := by
  intro H enc w sp held fuel cs x h _
  obtain ⟨xs, m, _, _, hl, hxl, hel⟩ := DataW.trod_array ht h
  have hx : ∀ i, i < n → ∃ y, cs[i]? = some (.int k y) ∧ (Lit.int k y).wf = true := by
    intro i hi
    have hE := hel i hi
    rw [List.getElem?_eq_getElem (by omega), hc, Nat.mul_one] at hE
    obtain ⟨y, hy, _, hw⟩ := DataW.trod_int he hE
    refine ⟨y, ?_, hw⟩
    have hlt : i < cs.length := by omega
    have h0 := congrArg (fun z => z[0]?) hy
    simp only [List.getElem?_take, List.getElem?_drop, Nat.add_zero, List.getElem?_cons_zero] at h0
    simpa using h0
  obtain ⟨l, hll, hp⟩ := choose_row n hx
  refine ⟨l, ⟨hll, ?_⟩, fun m hm => ?_⟩
  · apply List.ext_getElem?
    intro i
    rw [List.getElem?_map]
    cases hi : l[i]? with
    | none =>
      have : l.length ≤ i := List.getElem?_eq_none_iff.mp hi
      rw [List.getElem?_eq_none (by omega)]; rfl
    | some y => rw [(hp i y hi).1]; rfl
  · obtain ⟨i, hi, rfl⟩ := List.mem_iff_getElem.mp hm
    exact (hp i _ (List.getElem?_eq_getElem hi)).2

/-- A state's fields, each read where it lies. -/
theorem fields {P : Program} {H : Type} {enc : TypeId × Value → H} {w : World} {sp : Nat → Bool} {held : Bool} {fuel : Nat} {t : TypeId} {fs : Array Field} {cs : List Value} {x : DataW H × List MemPlace} (ht : P.underlying t = some (.struct fs))
    (h : DataW.trod enc P w 0 sp held fuel t cs = some x) (hw : (x.1.weights P t).all (· ≤ reachBytes) = true) :
    cs.length = P.cellsOf t ∧ ∀ (i : Nat) (f : Field) {α : Type} (K : World → α → List Value → Prop) (W : α → Prop), fs[i]? = some f → Opn P K f.type W → ∃ a, K w a ((cs.drop f.offset).take (P.cellsOf f.type)) ∧ W a := by
  obtain ⟨xs, n, _, rfl, hl, hxl, hf⟩ := DataW.trod_struct ht h
  refine ⟨hl, fun i f α K W hi ho => ?_⟩
  have hif : i < fs.size := (Array.getElem?_eq_some_iff.1 hi).1
  have hq := hf i f hi
  rw [List.getElem?_eq_getElem (by omega)] at hq
  refine ho H enc w sp held n _ _ hq ?_
  have hall := List.all_eq_true.1 hw
  simp only [DataW.weights, ht] at hall
  refine List.all_eq_true.2 fun m hm => hall m ?_
  refine DataW.weights_mem_each (j := i) (t := f.type) (d := (xs[i]'(by omega)).1) ?_ ?_ m hm
  · simp [hi]
  · simp [List.getElem?_eq_getElem (show i < xs.length by omega)]
theorem split_at (cs : List Value) (o s : Nat) : (cs.drop o).take s ++ cs.drop (o + s) = cs.drop o := by
  have := List.take_append_drop s (cs.drop o)
  rwa [List.drop_drop] at this
theorem split_end (cs : List Value) (o s : Nat) (h : cs.length = o + s) : (cs.drop o).take s = cs.drop o := List.take_of_length_le (by rw [List.length_drop]; omega)
/-- A row's data, each no more than there may be. -/
theorem sized_at {H : Type} {P : Program} {ts : List TypeId} {ds : List (DataW H)} (h : (DataW.weightsEach P ts ds).all (· ≤ reachBytes) = true) (j : Nat) {t : TypeId} {d : DataW H} (ht : ts[j]? = some t) (hd : ds[j]? = some d) : (d.weights P t).all (· ≤ reachBytes) = true :=
  List.all_eq_true.2 fun n hn => List.all_eq_true.1 h n (DataW.weights_mem_each ht hd n hn)
end Go.Proofs.YthmcigdkopadjaaDoor.Opn
end
