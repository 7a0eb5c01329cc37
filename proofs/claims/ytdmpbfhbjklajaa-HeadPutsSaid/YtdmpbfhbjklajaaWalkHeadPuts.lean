/- HeadPuts walked: every head is put as the document says, and its path is. -/
import Derived.Test.YtdmpbfhbjklajaaPHeadPutsx
import Derived.Test.YtdmpbfhbjklajaaHeadPure
namespace Go.Proofs.Ytdmpbfhbjklajaa.WalkHeadPuts
open Go.Proofs.Ytdmpbfhbjklajaa Go.RowKit Go.Proofs.YtdmpbfhbjklajaaW.PrintWords Go.Proofs.YtdmpbfhbjklajaaW.PrintLast Go.Proofs.YtdmpbfhbjklajaaW.PrintMore Go.Proofs.Ytdmpbfhbjklajaa.PHeadPuts Go.Proofs.Ytdmpbfhbjklajaa.Byt Go.Proofs.Ytdmpbfhbjklajaa.OctPure Go.Proofs.Ytdmpbfhbjklajaa.Img Go.Proofs.Ytdmpbfhbjklajaa.Head Go.Proofs.Ytdmpbfhbjklajaa.HeadPut
set_option linter.unusedVariables false
set_option linter.unusedSimpArgs false
theorem same_go (d : Nat) : ∀ (k : Nat) (a b : List Int) (i : Int), d < k → 0 ≤ i → a.length = b.length → a.length ≤ 140737488355328 → (a.length : Int) - i = d →
    tabularylaw10_same.l0 k a b i = some (decide (a.drop i.toNat = b.drop i.toNat)) := by
  induction d with
  | zero =>
    intro k a b i hk h0 hl hm hd
    obtain ⟨k, rfl⟩ : ∃ m, k = m + 1 := ⟨k - 1, by omega⟩
    simp only [tabularylaw10_same.l0]
    rw [if_neg (by omega), List.drop_eq_nil_of_le (by omega), List.drop_eq_nil_of_le (by omega)]
    simp
  | succ d ih =>
    intro k a b i hk h0 hl hm hd
    obtain ⟨k, rfl⟩ : ∃ m, k = m + 1 := ⟨k - 1, by omega⟩
    simp only [tabularylaw10_same.l0]
    obtain ⟨j, rfl⟩ := Int.eq_ofNat_of_zero_le h0
    rw [if_pos (by omega), if_pos h0, if_pos (by omega)]
    have ha : rd a (j : Int) = a[j]'(by omega) := by unfold rd; simp [List.getD_eq_getElem?_getD, List.getElem?_eq_getElem (show j < a.length by omega)]
    have hb : rd b (j : Int) = b[j]'(by omega) := by unfold rd; simp [List.getD_eq_getElem?_getD, List.getElem?_eq_getElem (show j < b.length by omega)]
    rw [ha, hb, Int.toNat_natCast, List.drop_eq_getElem_cons (show j < a.length by omega), List.drop_eq_getElem_cons (show j < b.length by omega)]
    have e : (wrap64 ((j : Int) + 1)).toNat = j + 1 := by rw [w64 (by omega)]; omega
    by_cases h : a[j]'(by omega) = b[j]'(by omega)
    · rw [if_pos h, ih k a b _ (by omega) (by rw [w64 (by omega)]; omega) hl hm (by rw [w64 (by omega)]; omega), e]
      simp only [List.cons.injEq, h, true_and]
    · rw [if_neg h]; simp only [List.cons.injEq, h, false_and, decide_false]

theorem same_some (a b : List Int) (k : Nat) (hk : a.length < k) (hm : a.length ≤ 140737488355328) : tabularylaw10_same.f k a b = some (decide (a = b)) := by
  unfold tabularylaw10_same.f
  by_cases h : a.length = b.length
  · rw [if_pos (by omega), same_go a.length k a b 0 hk (by omega) h hm (by omega)]
    rfl
  · rw [if_neg (by omega)]
    congr 1
    symm
    rw [decide_eq_false_iff_not]
    intro e; exact h (by rw [e])

theorem nul_l0 (s : ByteArray) (hs : s.size ≤ 9223372036854775000) (d : Nat) : ∀ (k i : Nat), d + i = s.size → d < k → tabularyref10_nul.l0 k s (i : Int) = some (decide (0 ∈ s.data.toList.drop i)) := by
  induction d with
  | zero =>
    intro k i hi hk
    obtain ⟨k, rfl⟩ : ∃ m, k = m + 1 := ⟨k - 1, by omega⟩
    simp only [tabularyref10_nul.l0]
    rw [if_neg (by omega), List.drop_eq_nil_of_le (by rw [data_length]; omega)]
    rfl
  | succ d ih =>
    intro k i hi hk
    obtain ⟨k, rfl⟩ : ∃ m, k = m + 1 := ⟨k - 1, by omega⟩
    have hlt : i < s.size := by omega
    have hl : i < s.data.toList.length := by rw [data_length]; exact hlt
    simp only [tabularyref10_nul.l0]
    rw [if_pos (by omega), if_pos (by omega), List.drop_eq_getElem_cons hl]
    have e1 : wrap64 ((i : Int) + 1) = ((i + 1 : Nat) : Int) := by unfold wrap64; omega
    have hb : bt s (i : Int) = ((s.data.toList[i]).toNat : Int) := by
      unfold bt
      rw [dif_pos (by simpa using hlt)]
      rfl
    by_cases h0 : bt s (i : Int) = 0
    · rw [if_pos h0]
      rw [hb] at h0
      have : s.data.toList[i] = 0 := UInt8.toNat_inj.1 (by have : ((0 : UInt8).toNat : Int) = 0 := rfl; omega)
      rw [this]
      simp
    · rw [if_neg h0, e1, ih k (i + 1) (by omega) (by omega)]
      have hne : ¬ (0 = s.data.toList[i]) := fun e => h0 (by rw [hb, ← e]; rfl)
      simp only [List.mem_cons, hne, false_or]
theorem nul_some (s : ByteArray) (hs : s.size ≤ 200) (k : Nat) (hk : 300 < k) : tabularyref10_nul.f k s = some (decide (0 ∈ s.data.toList)) := nul_l0 s (by omega) s.size k 0 rfl (by omega)
theorem may_some (n p : ByteArray) (m s t y : Int) (x : ByteArray) (k : Nat) (hk : 400 < k) : tabularyref10_May.f k n p m s t y x = some (mayS n p m s t y x) := by
  have h1 : tabularyref10_May.f k n p m s t y x = tabularyref10_May.j0 k (decide (¬ (y = 48 ∨ y = 49 ∨ y = 50 ∨ y = 53 ∨ y = 120))) n p m s t y x := by
    unfold tabularyref10_May.f
    by_cases a : y = 48
    · rw [if_pos a]; simp [a]
    · rw [if_neg a]
      by_cases b : y = 49
      · rw [if_pos b]; simp [b]
      · rw [if_neg b]
        by_cases c : y = 50
        · rw [if_pos c]; simp [c]
        · rw [if_neg c]
          by_cases d : y = 53
          · rw [if_pos d]; simp [d]
          · rw [if_neg d]
            by_cases e : y = 120
            · simp [e]
            · rw [show (y != 120) = true by simpa using e]
              simp [a, b, c, d, e]
  rw [h1]
  obtain ⟨k, rfl⟩ : ∃ j, k = j + 1 := ⟨k - 1, by omega⟩
  obtain ⟨k, rfl⟩ : ∃ j, k = j + 1 := ⟨k - 1, by omega⟩
  obtain ⟨k, rfl⟩ : ∃ j, k = j + 1 := ⟨k - 1, by omega⟩
  have hj2 : ∀ b, tabularyref10_May.j2 (k + 1) b n p m s t y x = some (if b = true then 82 else if m < 0 ∨ 4095 < m ∨ s < 0 ∨ 8589934591 < s ∨ t < 0 ∨ 1099511627776 < t then 1 else 0) := by
    intro b
    simp only [tabularyref10_May.j2]
    cases b
    · simp only [Bool.false_eq_true, if_false]
      (repeat' split) <;> first | rfl | (exfalso; omega)
    · rfl
  simp only [tabularyref10_May.j0]
  unfold mayS
  by_cases a : y = 48 ∨ y = 49 ∨ y = 50 ∨ y = 53 ∨ y = 120
  · rw [if_neg (by simp [a]), if_pos a]
    have hj1 : ∀ b, (b = true ∨ (n.size ≤ 100 ∧ x.size ≤ 100 ∧ p.size ≤ 155)) → tabularyref10_May.j1 (k + 1 + 1) b n p m s t y x = some (if b = true then 2 else if 0 ≤ nulAt n p x then 82 else if m < 0 ∨ 4095 < m ∨ s < 0 ∨ 8589934591 < s ∨ t < 0 ∨ 1099511627776 < t then 1 else 0) := by
      intro b hb
      simp only [tabularyref10_May.j1]
      cases b
      · simp only [Bool.false_eq_true, if_false]
        obtain ⟨hn, hx, hp⟩ := hb.resolve_left (by simp)
        rw [nul_some n (by omega) (k + 1) (by omega), nul_some x (by omega) (k + 1) (by omega), nul_some p (by omega) (k + 1) (by omega)]
        simp only [Option.bind_some, hj2]
        have hiff := HeadPure.nul_iff n p x
        by_cases h0 : 0 ∈ n.data.toList
        · simp [h0, hiff]
        · by_cases h2 : 0 ∈ x.data.toList
          · simp [h0, h2, hiff]
          · by_cases h3 : 0 ∈ p.data.toList
            · simp [h0, h2, h3, hiff]
            · simp [h0, h2, h3, hiff]
      · rfl
    by_cases c1 : (n.size : Int) > 100
    · rw [if_pos c1, hj1 true (.inl rfl), if_pos rfl, if_pos (.inl c1)]
    · rw [if_neg c1]
      by_cases c2 : (x.size : Int) > 100
      · rw [if_pos c2, hj1 true (.inl rfl), if_pos rfl, if_pos (.inr (.inl c2))]
      · rw [if_neg c2]
        by_cases c3 : (p.size : Int) > 155
        · rw [decide_eq_true c3, hj1 true (.inl rfl), if_pos rfl, if_pos (.inr (.inr c3))]
        · rw [decide_eq_false c3, hj1 false (.inr (by omega)), if_neg (by simp), if_neg (show ¬ (100 < (n.size : Int) ∨ 100 < (x.size : Int) ∨ 155 < (p.size : Int)) by omega)]
  · rw [if_pos (by simpa using a), if_neg a]
theorem rput_some (n p : ByteArray) (m s t y : Int) (x : ByteArray) (hy : 0 ≤ y ∧ y ≤ 255) (k : Nat) (hk : 400 < k) :
    tabularyref10_Put.f k n p m s t y x = some (if mayS n p m s t y x = 0 then (layS n p m s t y x, 0) else ([], mayS n p m s t y x)) := by
  unfold tabularyref10_Put.f
  rw [may_some n p m s t y x k hk]
  simp only [Option.bind_some]
  by_cases h : mayS n p m s t y x = 0
  · rw [if_pos h, if_pos h]
    show (RefLay.rlayF n p m s t y x).bind _ = _
    rw [HeadPure.rlay_eq n p m s t y x hy h]
    rfl
  · rw [if_neg h, if_neg h]
theorem hput_some (n p : ByteArray) (m s t y : Int) (x : ByteArray) (hF : Fit m s t y) :
    head_Put.f n p m s t y x = some (if mayS n p m s t y x = 0 then (layS n p m s t y x, 0) else ([], mayS n p m s t y x)) := by
  show putF n p m s t y x = _
  unfold putF
  rw [if_pos hF]
  by_cases h : mayS n p m s t y x = 0
  · rw [if_pos h, if_pos h]
  · rw [if_neg h, if_neg h]
theorem full_some (n p : ByteArray) (m s t y : Int) (x : ByteArray) (hn : n.size ≤ 140737488351232) (hp : p.size ≤ 140737488351232) : ∃ r, head_Full.f n p m s t y x = some r ∧ tabularyref10_Full.f n p m s t y x = some r := by
  unfold head_Full.f tabularyref10_Full.f
  by_cases h : p.toList = ([] : List UInt8)
  · rw [if_pos h]
    exact ⟨_, rfl, rfl⟩
  · have hs : (p ++ (⟨#[47]⟩ : ByteArray)).size = p.size + 1 := by rw [ByteArray.size_append]; rfl
    rw [if_neg h, if_pos (by omega), if_pos (by rw [hs]; omega)]
    exact ⟨_, rfl, rfl⟩
theorem wf64 {a : Int} (h : (Lit.int .i64 a).wf = true) : -9223372036854775808 ≤ a ∧ a ≤ 9223372036854775807 := by
  simp only [Lit.wf, Bool.and_eq_true, decide_eq_true_eq] at h
  have hmin : IntKind.i64.min = -9223372036854775808 := rfl
  have hmax : IntKind.i64.max = 9223372036854775807 := rfl
  omega
theorem wf8 {a : Int} (h : (Lit.int .u8 a).wf = true) : 0 ≤ a ∧ a ≤ 255 := by
  simp only [Lit.wf, Bool.and_eq_true, decide_eq_true_eq] at h
  have hmin : IntKind.u8.min = 0 := rfl
  have hmax : IntKind.u8.max = 255 := rfl
  omega
theorem pure (K : Nat) (hK : 900 < K) (n p : ByteArray) (m s t y : Int) (x : ByteArray) (hF : Fit m s t y) (hn : n.size ≤ 140737488351232) (hp : p.size ≤ 140737488351232) : tabularylaw10_HeadPuts.f K n p m s t y x = some true := by
  unfold tabularylaw10_HeadPuts.f
  obtain ⟨r, h1, h2⟩ := full_some n p m s t y x hn hp
  rw [hput_some n p m s t y x hF, rput_some n p m s t y x hF.1 K (by omega), h1, h2]
  simp only [Option.bind_some]
  have h512 := (seal_ok (body_ok n p m s t y x hF.1)).1
  have hL : (layS n p m s t y x).length = 512 := h512
  clear h512
  generalize layS n p m s t y x = L at hL ⊢
  by_cases h : mayS n p m s t y x = 0
  · rw [if_pos h, same_some _ _ K (by rw [hL]; omega) (by rw [hL]; omega)]
    simp
  · rw [if_neg h, same_some _ _ K (by simp only [List.length_nil]; omega) (by simp)]
    simp
theorem walk (n p : ByteArray) (m s t y : Int) (k : ByteArray) (W : World) (hn : n.size ≤ 140737488351232) (hp : p.size ≤ 140737488351232) (hk : k.size ≤ 140737488351232)
    (hm : (Lit.int .i64 m).wf = true) (hs : (Lit.int .i64 s).wf = true) (ht : (Lit.int .i64 t).wf = true) (hy : (Lit.int .u8 y).wf = true) :
    Calls Try.prog 4 #[.agg #[.string n, .string p, .int .i64 m, .int .i64 s, .int .i64 t, .int .u8 y, .string k]] W fun e w' => e = .returned (.bool true) ∧ Below W.heap.size W w' :=
  tabularylaw10_HeadPuts.calls 1000 n p m s t y k true W (pure 1000 (by decide) n p m s t y k ⟨wf8 hy, wf64 hm, wf64 hs, wf64 ht⟩ hn hp)
end Go.Proofs.Ytdmpbfhbjklajaa.WalkHeadPuts
