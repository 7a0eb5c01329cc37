/- StripeFits: the plain law, the manifest that came in, and the walk joined. -/
import Derived.Test.YtkajheogddcbpaaStFitsGood
import Derived.Test.YtkajheogddcbpaaOpens
namespace Go.Proofs.Ytkajheogddcbpaa.StFits
open Go.Proofs.Ytkajheogddcbpaa.PStripeFits Go.RowKit Go.Proofs.YtkajheogddcbpaaW.PrintWords Go.Proofs.YtkajheogddcbpaaW.PrintLast Go.Proofs.YtkajheogddcbpaaW.PrintMore Go.Proofs.Ytkajheogddcbpaa.Opens
set_option linter.unusedVariables false
set_option linter.unusedSimpArgs false

theorem w64 {a : Int} (h : -9223372036854775808 ≤ a ∧ a ≤ 9223372036854775807) : wrap64 a = a := by
  unfold wrap64; omega

theorem many_step (kk size n i : Int) (hk : 2 ≤ kk ∧ kk ≤ 8) (hs : 0 ≤ size ∧ size ≤ 131072) (hn : n = (size + kk * 96 - 1) / (kk * 96)) (hi : 0 ≤ i ∧ i ≤ n) :
    (wrap64 ((wrap64 (i * 96)) * kk) < size ↔ i < n) ∧ wrap64 (i + 1) = i + 1 := by
  have hc : kk = 2 ∨ kk = 3 ∨ kk = 4 ∨ kk = 5 ∨ kk = 6 ∨ kk = 7 ∨ kk = 8 := by omega
  rcases hc with rfl | rfl | rfl | rfl | rfl | rfl | rfl <;>
  · have hn2 : n ≤ 700 := by omega
    have t1 : wrap64 (i * 96) = i * 96 := w64 ⟨by omega, by omega⟩
    have t3 : wrap64 (i + 1) = i + 1 := w64 ⟨by omega, by omega⟩
    rw [t1, t3, w64 ⟨by omega, by omega⟩]
    exact ⟨by omega, rfl⟩

theorem many_l0 (kk size n : Int) (hk : 2 ≤ kk ∧ kk ≤ 8) (hs : 0 ≤ size ∧ size ≤ 131072) (hn : n = (size + kk * 96 - 1) / (kk * 96)) (d : Nat) :
    ∀ (K : Nat) (i : Int), i + (d : Int) = n → 0 ≤ i → d < K → tabularyref24_many.l0 K kk size i = some n := by
  induction d with
  | zero =>
    intro K i hi h0 hK
    obtain ⟨K, rfl⟩ : ∃ m, K = m + 1 := ⟨K - 1, by omega⟩
    have h := many_step kk size n i hk hs hn ⟨h0, by omega⟩
    simp only [tabularyref24_many.l0]
    rw [if_neg (by rw [h.1]; omega)]
    rw [show i = n by omega]
  | succ d ih =>
    intro K i hi h0 hK
    obtain ⟨K, rfl⟩ : ∃ m, K = m + 1 := ⟨K - 1, by omega⟩
    have h := many_step kk size n i hk hs hn ⟨h0, by omega⟩
    simp only [tabularyref24_many.l0]
    rw [if_pos (by rw [h.1]; omega), h.2]
    exact ih K (i + 1) (by omega) (by omega) (by omega)

theorem many_bounds (kk size : Int) (hk : 2 ≤ kk ∧ kk ≤ 8) (hs : 0 ≤ size ∧ size ≤ 131072) :
    0 ≤ (size + kk * 96 - 1) / (kk * 96) ∧ (size + kk * 96 - 1) / (kk * 96) ≤ 700 := by
  have hc : kk = 2 ∨ kk = 3 ∨ kk = 4 ∨ kk = 5 ∨ kk = 6 ∨ kk = 7 ∨ kk = 8 := by omega
  rcases hc with rfl | rfl | rfl | rfl | rfl | rfl | rfl <;> omega

theorem many_f (kk size : Int) (hk : 2 ≤ kk ∧ kk ≤ 8) (hs : 0 ≤ size ∧ size ≤ 131072) (K : Nat) (hK : 1000 < K) :
    tabularyref24_many.f K kk size = some ((size + kk * 96 - 1) / (kk * 96)) := by
  have hb := many_bounds kk size hk hs
  obtain ⟨d, hd⟩ := Int.eq_ofNat_of_zero_le hb.1
  exact many_l0 kk size _ hk hs rfl d K 0 (by omega) (by omega) (by omega)

theorem stripes_f (a b kk size : Int) (hk : 2 ≤ kk ∧ kk ≤ 8) (hs : 0 ≤ size ∧ size ≤ 131072) :
    stripe_plan_stripes.f a b kk size = some ((size + kk * 96 - 1) / (kk * 96)) := by
  have hw : wrap64 (kk * 96) = kk * 96 := w64 ⟨by omega, by omega⟩
  have hb := many_bounds kk size hk hs
  unfold stripe_plan_stripes.f stripe_plan_wide.f
  simp only [Option.bind_some]
  have e1 : wrap64 (size + kk * 96) = size + kk * 96 := w64 ⟨by omega, by omega⟩
  have e2 : wrap64 (size + kk * 96 - 1) = size + kk * 96 - 1 := w64 ⟨by omega, by omega⟩
  rw [hw, e1, e2, if_neg (by omega), Int.tdiv_eq_ediv_of_nonneg (by omega), w64 ⟨by omega, by omega⟩]

theorem of_ok (a0 : Int) (h1 : ¬ a0 < 1) (h7 : ¬ a0 > 7) : stripe_of.f a0 = some (a0, 2 * a0 + 1, a0 + 1, 0) := by
  unfold stripe_of.f
  have e1 : wrap64 (2 * a0) = 2 * a0 := w64 ⟨by omega, by omega⟩
  have e2 : wrap64 (2 * a0 + 1) = 2 * a0 + 1 := w64 ⟨by omega, by omega⟩
  have e3 : wrap64 (a0 + 1) = a0 + 1 := w64 ⟨by omega, by omega⟩
  rw [if_neg h1, if_neg h7, e1, e2, e3]

theorem rc_ok (a0 : Int) (h1 : ¬ a0 < 1) (h7 : ¬ a0 > 7) : tabularyref24_Counts.f a0 = some (2 * a0 + 1, a0 + 1, 0) := by
  unfold tabularyref24_Counts.f
  have e1 : wrap64 (2 * a0) = 2 * a0 := w64 ⟨by omega, by omega⟩
  have e2 : wrap64 (2 * a0 + 1) = 2 * a0 + 1 := w64 ⟨by omega, by omega⟩
  have e3 : wrap64 (a0 + 1) = a0 + 1 := w64 ⟨by omega, by omega⟩
  rw [if_neg h1, if_neg h7, e1, e2, e3]

theorem of_bad (a0 : Int) (h : a0 < 1 ∨ a0 > 7) : stripe_of.f a0 = some (0, 0, 0, 1) := by
  unfold stripe_of.f
  by_cases h1 : a0 < 1
  · rw [if_pos h1]
  · rw [if_neg h1, if_pos (by omega)]

theorem rc_bad (a0 : Int) (h : a0 < 1 ∨ a0 > 7) : tabularyref24_Counts.f a0 = some (0, 0, 1) := by
  unfold tabularyref24_Counts.f
  by_cases h1 : a0 < 1
  · rw [if_pos h1]
  · rw [if_neg h1, if_pos (by omega)]

theorem counts (a0 : Int) : ∃ x y z, stripe_Counts.f a0 = some (x, y, z) ∧ tabularyref24_Counts.f a0 = some (x, y, z) := by
  by_cases h : a0 < 1 ∨ a0 > 7
  · refine ⟨0, 0, 1, ?_, rc_bad a0 h⟩
    unfold stripe_Counts.f
    rw [of_bad a0 h]; rfl
  · refine ⟨_, _, _, ?_, rc_ok a0 (by omega) (by omega)⟩
    unfold stripe_Counts.f
    rw [of_ok a0 (by omega) (by omega)]; rfl

theorem stripes (a0 a1 : Int) (K : Nat) (hK : 1000 < K) : ∃ s t, stripe_Stripes.f a0 a1 = some (s, t) ∧ tabularyref24_Stripes.f K a0 a1 = some (s, t) := by
  unfold stripe_Stripes.f tabularyref24_Stripes.f
  by_cases h : a0 < 1 ∨ a0 > 7
  · rw [of_bad a0 h, rc_bad a0 h]
    exact ⟨0, 1, rfl, rfl⟩
  · rw [of_ok a0 (by omega) (by omega), rc_ok a0 (by omega) (by omega), Option.bind_some, Option.bind_some]
    rw [if_pos rfl, if_pos rfl]
    by_cases h1 : a1 < 0
    · rw [if_pos h1, if_pos h1]; exact ⟨_, _, rfl, rfl⟩
    · by_cases h2 : a1 > 131072
      · rw [if_neg h1, if_neg h1, if_pos h2, if_pos h2]; exact ⟨_, _, rfl, rfl⟩
      · rw [if_neg h1, if_neg h1, if_neg h2, if_neg h2]
        have g1 := stripes_f a0 (2 * a0 + 1) (a0 + 1) a1 ⟨by omega, by omega⟩ ⟨by omega, by omega⟩
        have g2 := many_f (a0 + 1) a1 ⟨by omega, by omega⟩ ⟨by omega, by omega⟩ K hK
        refine ⟨(a1 + (a0 + 1) * 96 - 1) / ((a0 + 1) * 96), 0, ?_, ?_⟩
        · show (stripe_plan_stripes.f a0 (2 * a0 + 1) (a0 + 1) a1).bind _ = _
          rw [g1]; rfl
        · show (tabularyref24_many.f K (a0 + 1) a1).bind _ = _
          rw [g2]; rfl

theorem fits (a0 m0 m1 b0 b1 b2 b3 b4 b5 b6 b7 b8 b9 b10 b11 b12 b13 b14 b15 b16 b17 b18 b19 b20 b21 b22 b23 b24 b25 b26 b27 b28 b29 b30 b31 : Int) (l : List S25) (h0 : 0 ≤ m0 ∧ m0 ≤ 4294967295) (K : Nat) (hK : 1000 < K) :
    ∃ u, stripe_Fits.f a0 m0 m1 b0 b1 b2 b3 b4 b5 b6 b7 b8 b9 b10 b11 b12 b13 b14 b15 b16 b17 b18 b19 b20 b21 b22 b23 b24 b25 b26 b27 b28 b29 b30 b31 l = some u ∧ tabularyref24_Fits.f K a0 m0 m1 b0 b1 b2 b3 b4 b5 b6 b7 b8 b9 b10 b11 b12 b13 b14 b15 b16 b17 b18 b19 b20 b21 b22 b23 b24 b25 b26 b27 b28 b29 b30 b31 l = some u := by
  unfold stripe_Fits.f tabularyref24_Fits.f
  have e0 : wrap64 m0 = m0 := w64 ⟨by omega, by omega⟩
  rw [e0]
  by_cases h : a0 < 1 ∨ a0 > 7
  · rw [of_bad a0 h, rc_bad a0 h]
    exact ⟨1, rfl, rfl⟩
  · rw [of_ok a0 (by omega) (by omega), rc_ok a0 (by omega) (by omega), Option.bind_some, Option.bind_some]
    rw [if_pos rfl, if_pos rfl]
    by_cases h2 : m0 > 131072
    · rw [if_pos h2, if_pos h2]; exact ⟨_, rfl, rfl⟩
    · rw [if_neg h2, if_neg h2]
      have g1 := stripes_f a0 (2 * a0 + 1) (a0 + 1) m0 ⟨by omega, by omega⟩ ⟨by omega, by omega⟩
      have g2 := many_f (a0 + 1) m0 ⟨by omega, by omega⟩ ⟨by omega, by omega⟩ K hK
      have g3 : (stripe_plan_stripes.f a0 (2 * a0 + 1) (a0 + 1) m0) = tabularyref24_many.f K (a0 + 1) m0 := by rw [g1, g2]
      rw [show (stripe_plan_stripes.f (a0, 2 * a0 + 1, a0 + 1, (0 : Int)).1 (a0, 2 * a0 + 1, a0 + 1, (0 : Int)).2.1 (a0, 2 * a0 + 1, a0 + 1, (0 : Int)).2.2.1 m0) = some ((m0 + (a0 + 1) * 96 - 1) / ((a0 + 1) * 96)) from g1,
        show (tabularyref24_many.f K (2 * a0 + 1, a0 + 1, (0 : Int)).2.1 m0) = some ((m0 + (a0 + 1) * 96 - 1) / ((a0 + 1) * 96)) from g2, Option.bind_some]
      by_cases c1 : wrap64 m1 = (m0 + (a0 + 1) * 96 - 1) / ((a0 + 1) * 96)
      · first | rw [if_pos c1, if_pos c1] | rw [if_pos c1]
        by_cases c2 : (l.length : Int) = 2 * a0 + 1
        · exact ⟨0, if_pos c2, if_pos c2⟩
        · exact ⟨242, if_neg c2, if_neg c2⟩
      · first | rw [if_neg c1, if_neg c1] | rw [if_neg c1]
        exact ⟨_, rfl, rfl⟩

set_option maxRecDepth 100000 in
theorem of_digest : Opens Try.prog k25 25 (fun _ => True) := by
  intro H enc w sp held fuel cs x h
  obtain ⟨l, hl, rfl, _⟩ := of_ints_array (e := 5) (n := 32) (k := .u8) Try.underlying25 Try.underlying5 (by kernel_rfl) (by kernel_rfl) h
  match l, hl with
  | [b0, b1, b2, b3, b4, b5, b6, b7, b8, b9, b10, b11, b12, b13, b14, b15, b16, b17, b18, b19, b20, b21, b22, b23, b24, b25, b26, b27, b28, b29, b30, b31], _ => exact ⟨⟨b0, b1, b2, b3, b4, b5, b6, b7, b8, b9, b10, b11, b12, b13, b14, b15, b16, b17, b18, b19, b20, b21, b22, b23, b24, b25, b26, b27, b28, b29, b30, b31⟩, k25_mk w _, trivial⟩

/-- The manifest that came in. -/
theorem manifest {H : Type} {enc : TypeId × Value → H} {w : World} {sp : Nat → Bool} {held : Bool} {fuel : Nat} {cs : List Value} {x : DataW H × List MemPlace} (hs : cs.length = 35)
    (h : DataW.trod enc Try.prog w 0 sp held fuel 28 cs = some x) :
    ∃ (m0 m1 : Int) (b : List Int) (A : Option Addr) (c : Nat) (l : List S25), b.length = 32 ∧ cs = .int .u32 m0 :: .int .u16 m1 :: (b.map (Value.int .u8) ++ [.slice A l.length c]) ∧ l.length ≤ c ∧ Kd.C k25 w A l.length l ∧ (Lit.int .u32 m0).wf = true := by
  obtain ⟨xs, n, _, _, hl, hxl, hf⟩ := DataW.trod_struct Try.underlying28 h
  have hxl4 : xs.length = 4 := hxl
  have q0 := hf 0 _ rfl
  have q1 := hf 1 _ rfl
  have q2 := hf 2 _ rfl
  have q3 := hf 3 _ rfl
  rw [List.getElem?_eq_getElem (by omega)] at q0 q1 q2 q3
  have c22 : Try.prog.cellsOf 22 = 1 := by kernel_rfl
  have c23 : Try.prog.cellsOf 23 = 1 := by kernel_rfl
  have c25 : Try.prog.cellsOf 25 = 32 := by kernel_rfl
  have c26 : Try.prog.cellsOf 26 = 1 := by kernel_rfl
  obtain ⟨m0, e0, _, w0⟩ := DataW.trod_int Try.underlying22 q0
  obtain ⟨m1, e1, _, _⟩ := DataW.trod_int Try.underlying23 q1
  obtain ⟨b, hb, e2, _⟩ := of_ints_array (e := 5) (n := 32) (k := .u8) Try.underlying25 Try.underlying5 (by kernel_rfl) (by kernel_rfl) q2
  obtain ⟨l, ⟨A, c, e3, hc, hr⟩, _⟩ := of_slice (d := k25) Try.underlying26 c25 of_digest H enc w sp held n _ _ q3
  have f0 : (cs.drop 0).take (Try.prog.cellsOf 22) = [.int .u32 m0] := e0
  have f1 : (cs.drop 1).take (Try.prog.cellsOf 23) = [.int .u16 m1] := e1
  have f2 : (cs.drop 2).take (Try.prog.cellsOf 25) = b.map (Value.int .u8) := e2
  have f3 : (cs.drop 34).take (Try.prog.cellsOf 26) = [.slice A l.length c] := e3
  rw [c22] at f0
  rw [c23] at f1
  rw [c25] at f2
  rw [c26] at f3
  refine ⟨m0, m1, b, A, c, l, hb, ?_, hc, hr, w0⟩
  have t0 : cs = cs.take 1 ++ (cs.drop 1).take 1 ++ (cs.drop 2).take 32 ++ (cs.drop 34).take 1 := by
    have d3 : (cs.drop 34).take 1 = cs.drop 34 := List.take_of_length_le (by rw [List.length_drop]; omega)
    rw [d3]
    have d2 : (cs.drop 2).take 32 ++ cs.drop 34 = cs.drop 2 := by
      have := List.take_append_drop 32 (cs.drop 2)
      rwa [List.drop_drop] at this
    have d1 : (cs.drop 1).take 1 ++ cs.drop 2 = cs.drop 1 := by
      have := List.take_append_drop 1 (cs.drop 1)
      rwa [List.drop_drop] at this
    rw [List.append_assoc, List.append_assoc, d2, d1, List.take_append_drop]
  have e0' : cs.take 1 = [.int .u32 m0] := f0
  rw [t0, e0', f1, f2, f3]
  rfl

set_option maxRecDepth 100000 in
theorem walk (a0 a1 m0 m1 : Int) (b : List Int) (hb : b.length = 32) (A : Option Addr) (c : Nat) (l : List S25) (W : World) (hr : Kd.C k25 W A l.length l) (hc : l.length ≤ c) (h0 : 0 ≤ m0 ∧ m0 ≤ 4294967295)
    (CS : Array Value) (hCS : CS.toList = .int .u32 m0 :: .int .u16 m1 :: (b.map (Value.int .u8) ++ [.slice A l.length c])) :
    Calls Try.prog 3 #[.int .i64 a0, .int .i64 a1, .agg CS] W fun e w' => e = .returned (.bool true) ∧ Below W.heap.size W w' := by
  match b, hb with
  | [b0, b1, b2, b3, b4, b5, b6, b7, b8, b9, b10, b11, b12, b13, b14, b15, b16, b17, b18, b19, b20, b21, b22, b23, b24, b25, b26, b27, b28, b29, b30, b31], _ =>
    have e : CS = #[.int .u32 m0, .int .u16 m1, .int .u8 b0, .int .u8 b1, .int .u8 b2, .int .u8 b3, .int .u8 b4, .int .u8 b5, .int .u8 b6, .int .u8 b7, .int .u8 b8, .int .u8 b9, .int .u8 b10, .int .u8 b11, .int .u8 b12, .int .u8 b13, .int .u8 b14, .int .u8 b15, .int .u8 b16, .int .u8 b17, .int .u8 b18, .int .u8 b19, .int .u8 b20, .int .u8 b21, .int .u8 b22, .int .u8 b23, .int .u8 b24, .int .u8 b25, .int .u8 b26, .int .u8 b27, .int .u8 b28, .int .u8 b29, .int .u8 b30, .int .u8 b31, .slice A l.length c] := Array.ext' hCS
    obtain ⟨K, hK⟩ : ∃ K : Nat, 1000 < K := ⟨1001, by decide⟩
    obtain ⟨x, y, z, g1, g2⟩ := counts a0
    obtain ⟨s, t, g3, g4⟩ := stripes a0 a1 K hK
    obtain ⟨u, g5, g6⟩ := fits a0 m0 m1 b0 b1 b2 b3 b4 b5 b6 b7 b8 b9 b10 b11 b12 b13 b14 b15 b16 b17 b18 b19 b20 b21 b22 b23 b24 b25 b26 b27 b28 b29 b30 b31 l h0 K hK
    refine (good K a0 a1 CS (by rw [e]; rfl) A c l W hr hc x y z x y z s t s t u u g1 g2 g3 g4 rfl rfl rfl rfl rfl
      (fun w1 h1 => by rw [e]; exact stripe_Fits.calls a0 m0 m1 b0 b1 b2 b3 b4 b5 b6 b7 b8 b9 b10 b11 b12 b13 b14 b15 b16 b17 b18 b19 b20 b21 b22 b23 b24 b25 b26 b27 b28 b29 b30 b31 A c l u w1 h1 hc g5) (fun w1 h1 => by rw [e]; exact tabularyref24_Fits.calls K a0 m0 m1 b0 b1 b2 b3 b4 b5 b6 b7 b8 b9 b10 b11 b12 b13 b14 b15 b16 b17 b18 b19 b20 b21 b22 b23 b24 b25 b26 b27 b28 b29 b30 b31 A c l u w1 h1 hc g6)).mono ?_
    rintro e w' ⟨rfl, hb⟩
    exact ⟨by rw [beq_self_eq_true], hb⟩
end Go.Proofs.Ytkajheogddcbpaa.StFits
