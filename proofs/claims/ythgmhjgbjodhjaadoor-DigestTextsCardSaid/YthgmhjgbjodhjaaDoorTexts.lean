/- DigestTexts walked: a digest's text is 64 small hexadecimal letters, and two texts are the same exactly when the digests are. -/
import Derived.Test.YthgmhjgbjodhjaaDoorSha8
namespace Go.Proofs.YthgmhjgbjodhjaaDoor.Texts
open Go.Proofs.YthgmhjgbjodhjaaDoor Go.RowKit Go.Proofs.YthgmhjgbjodhjaaDoorW.PrintWords Go.Proofs.YthgmhjgbjodhjaaDoorW.PrintLast Go.Proofs.YthgmhjgbjodhjaaDoorW.PrintMore Go.Proofs.YthgmhjgbjodhjaaDoor.Sha Go.Proofs.YthgmhjgbjodhjaaDoor.Sha2 Go.Proofs.YthgmhjgbjodhjaaDoor.Sha3 Go.Proofs.YthgmhjgbjodhjaaDoor.Own Go.Proofs.YthgmhjgbjodhjaaDoor.Sha4 Go.Proofs.YthgmhjgbjodhjaaDoor.Sha5 Go.Proofs.YthgmhjgbjodhjaaDoor.Sha6 Go.Proofs.YthgmhjgbjodhjaaDoor.Sha7 Go.Proofs.YthgmhjgbjodhjaaDoor.ShaPure Go.Proofs.YthgmhjgbjodhjaaDoor.Sha8
set_option linter.unusedVariables false
set_option linter.unusedSimpArgs false
def Hex (x : Int) : Prop := (48 ≤ x ∧ x ≤ 57) ∨ (97 ≤ x ∧ x ≤ 102)
theorem dig_hex (x : Int) (h0 : 0 ≤ x) (h1 : x < 16) : Hex (rd DIG x) := by
  obtain ⟨j, rfl⟩ := Int.eq_ofNat_of_zero_le h0
  have hj : j < 16 := by omega
  have hall : ∀ j : Nat, j < 16 → ((48 ≤ rd DIG (j : Int) ∧ rd DIG (j : Int) ≤ 57) ∨ (97 ≤ rd DIG (j : Int) ∧ rd DIG (j : Int) ≤ 102)) := by decide
  exact hall j hj
theorem dig_inj (x y : Int) (h0 : 0 ≤ x) (h1 : x < 16) (g0 : 0 ≤ y) (g1 : y < 16) (h : rd DIG x = rd DIG y) : x = y := by
  obtain ⟨i, rfl⟩ := Int.eq_ofNat_of_zero_le h0
  obtain ⟨j, rfl⟩ := Int.eq_ofNat_of_zero_le g0
  have hall : ∀ i : Nat, i < 16 → ∀ j : Nat, j < 16 → rd DIG (i : Int) = rd DIG (j : Int) → i = j := by decide
  rw [hall i (by omega) j (by omega) h]
theorem texts_hex (d : List Int) (hB : Bytes d) : ∀ k, ∀ x ∈ texts d k, Hex x
  | 0 => fun x hx => by cases hx
  | k + 1 => fun x hx => by
    obtain ⟨b0, b1⟩ := hB k
    have ha := bits8_range15 _ b0 b1
    rw [texts, List.mem_append] at hx
    rcases hx with hx | hx
    · exact texts_hex d hB k x hx
    · simp only [List.mem_cons, List.not_mem_nil, or_false] at hx
      rcases hx with rfl | rfl
      · exact dig_hex _ (by omega) (by omega)
      · exact dig_hex _ ha.1 ha.2
theorem bits15 (x : Int) (h0 : 0 ≤ x) (h1 : x ≤ 255) : Go.bits .and .u8 x 15 = x % 16 := by
  have h := bits_mask .u8 8 (by decide) wraps_u8 4 (by decide) x h0 (by omega)
  have h2 : ((2 : Int) ^ 4 - 1) = 15 := by decide
  rw [h2] at h
  rw [h]
  simp
theorem texts_inj (d e : List Int) (hd : Bytes d) (he : Bytes e) : ∀ k, texts d k = texts e k → ∀ j, j < k → bn d j = bn e j
  | 0 => fun _ j hj => by omega
  | k + 1 => fun h j hj => by
    obtain ⟨b0, b1⟩ := hd k
    obtain ⟨c0, c1⟩ := he k
    rw [texts, texts] at h
    obtain ⟨h1, h2⟩ := List.append_inj h (by rw [texts_len, texts_len])
    by_cases hjk : j = k
    · subst hjk
      simp only [List.cons.injEq, and_true] at h2
      have e1 := dig_inj _ _ (by omega) (by omega) (by omega) (by omega) h2.1
      have ha := bits8_range15 _ b0 b1
      have hb := bits8_range15 _ c0 c1
      have e2 := dig_inj _ _ ha.1 ha.2 hb.1 hb.2 h2.2
      rw [bits15 _ b0 b1, bits15 _ c0 c1] at e2
      omega
    · exact texts_inj d e hd he k h1 j (by omega)
theorem digest_inj (d e : List Int) (hd : Bytes d) (he : Bytes e) (h1 : d.length = 32) (h2 : e.length = 32) (h : texts d 32 = texts e 32) : d = e := by
  apply List.ext_getElem (by omega)
  intro i hi hj
  have hb := texts_inj d e hd he 32 h i (by omega)
  rw [bn_getD, bn_getD] at hb
  simpa [List.getD_eq_getElem?_getD, List.getElem?_eq_getElem hi, List.getElem?_eq_getElem hj] using hb
theorem str_inj : ∀ (a b : List Int), (∀ x ∈ a, Hex x) → (∀ x ∈ b, Hex x) → (a.map fun n => UInt8.ofNat n.toNat) = (b.map fun n => UInt8.ofNat n.toNat) → a = b
  | [], [], _, _, _ => rfl
  | [], _ :: _, _, _, h => by cases h
  | _ :: _, [], _, _, h => by cases h
  | x :: a, y :: b, ha, hb, h => by
    simp only [List.map_cons, List.cons.injEq] at h
    have hx := ha x (List.mem_cons_self ..)
    have hy := hb y (List.mem_cons_self ..)
    unfold Hex at hx hy
    have h2 := congrArg UInt8.toNat h.1
    simp only [UInt8.toNat_ofNat'] at h2
    have : x = y := by omega
    rw [this, str_inj a b (fun z hz => ha z (List.mem_cons_of_mem _ hz)) (fun z hz => hb z (List.mem_cons_of_mem _ hz)) h.2]
theorem strOf_inj (a b : List Int) (ha : ∀ x ∈ a, Hex x) (hb : ∀ x ∈ b, Hex x) (h : strOfNums a = strOfNums b) : a = b :=
  str_inj a b ha hb (by rw [← strOfNums_data, ← strOfNums_data, h])
theorem run_text (T : ByteArray) (l : List Int) (hT : T = strOfNums l) (hl : ∀ x ∈ l, Hex x) (k : Nat) (hk : k < l.length) : ∃ x, Hex x ∧ ∀ w : World, (Instr.index 9 (.string T) (.int .i64 (k : Int))).run Tryd.prog w = .ok (.int .u8 x) w := by
  have hx := hl l[k] (List.getElem_mem hk)
  refine ⟨l[k], hx, fun w => ?_⟩
  have hb : T[k]? = some (UInt8.ofNat (l[k]).toNat) := by
    have h : T.data.toList[k]? = some (UInt8.ofNat (l[k]).toNat) := by rw [hT, strOfNums_data, List.getElem?_map, List.getElem?_eq_getElem hk]; rfl
    have hs : k < T.size := by rw [hT, strOfNums_size]; exact hk
    rw [getElem?_pos T k hs]
    rw [Array.getElem?_toList, Array.getElem?_eq_getElem hs] at h
    exact h
  have hv : (((UInt8.ofNat (l[k]).toNat).toNat : Nat) : Int) = l[k] := by
    unfold Hex at hx
    rw [UInt8.toNat_ofNat']
    omega
  simp [Instr.index, asIntOf, Sem.run_bind, run_underlying Tryd.underlying9 w, hb, hv]
  unfold Hex at hx
  omega
end Go.Proofs.YthgmhjgbjodhjaaDoor.Texts
