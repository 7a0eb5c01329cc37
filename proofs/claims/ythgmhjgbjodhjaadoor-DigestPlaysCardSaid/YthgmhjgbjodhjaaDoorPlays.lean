/- DigestPlays walked: a hash that is written to, asked and twinned in whatever order tells the digest of all bytes so far. -/
import Derived.Test.YthgmhjgbjodhjaaDoorHsF
import Derived.Test.YthgmhjgbjodhjaaDoorOpn
import Derived.Test.YthgmhjgbjodhjaaDoorOwn3
import Derived.BigQuiet
import Derived.Deep.QuietTactic
namespace Go.Proofs.YthgmhjgbjodhjaaDoor.Plays
open Go.Proofs.YthgmhjgbjodhjaaDoor Go.RowKit Go.Proofs.YthgmhjgbjodhjaaDoorW.PrintWords Go.Proofs.YthgmhjgbjodhjaaDoorW.PrintLast Go.Proofs.YthgmhjgbjodhjaaDoorW.PrintMore Go.Proofs.YthgmhjgbjodhjaaDoor.Sha Go.Proofs.YthgmhjgbjodhjaaDoor.Sha2 Go.Proofs.YthgmhjgbjodhjaaDoor.Sha3 Go.Proofs.YthgmhjgbjodhjaaDoor.Own Go.Proofs.YthgmhjgbjodhjaaDoor.Sha4 Go.Proofs.YthgmhjgbjodhjaaDoor.Sha5 Go.Proofs.YthgmhjgbjodhjaaDoor.Sha7 Go.Proofs.YthgmhjgbjodhjaaDoor.ShaPure Go.Proofs.YthgmhjgbjodhjaaDoor.Sha8 Go.Proofs.YthgmhjgbjodhjaaDoor.Hs Go.Proofs.YthgmhjgbjodhjaaDoor.HsF Go.Proofs.YthgmhjgbjodhjaaDoor.Own3
set_option linter.unusedVariables false
set_option linter.unusedSimpArgs false
abbrev ACT := Int × List Int
def kA : Kd ACT := Kd.pair (Kd.int .i64) (Kd.slice 5 (Kd.int .u8))
def sumL (l : List ACT) : Nat → Nat
  | 0 => 0
  | k + 1 => sumL l k + (l.getD k (0, [])).2.length
theorem sumL_mono (l : List ACT) {a b : Nat} (h : a ≤ b) : sumL l a ≤ sumL l b := by
  induction b with
  | zero => rw [Nat.le_zero.1 h]; exact Nat.le_refl _
  | succ b ih =>
    rcases Nat.lt_or_eq_of_le h with h | h
    · exact Nat.le_trans (ih (by omega)) (by show sumL l b ≤ sumL l b + _; omega)
    · rw [h]; exact Nat.le_refl _
/-- What stands in a place. -/
theorem act_at {w : World} {A : Option Addr} {n : Nat} {l : List ACT} (h : Kd.C kA w A n l) (i : Nat) (hi : i < n) : ∃ (ad : Addr) (d : Int) (b : List Int) (B : Option Addr) (c : Nat),
    A = some ad ∧ l.getD i (0, []) = (d, b) ∧ w.cell? (ad.add (i * 2)) = some (.int .i64 d) ∧ w.cell? ⟨(ad.add (i * 2)).block, (ad.add (i * 2)).off + 1, none⟩ = some (.slice B b.length c) ∧ b.length ≤ c ∧ RC w B b ∧ b.length ≤ 9223372036854775807 := by
  obtain ⟨ad, c, e, _, hK, hc0⟩ := Kd.C_get h (0, []) (i : Int) (Int.natCast_nonneg _) (by omega)
  rw [Int.toNat_natCast] at hK hc0
  obtain ⟨c0, c1, hcc, h0, B, cb, h1, h2, h3⟩ := hK
  have h0' : c0 = [.int .i64 (l.getD i (0, [])).1] := h0
  subst h0' h1 hcc
  have hs : kA.sz = 2 := rfl
  rw [hs] at hc0
  have q0 := hc0 0 _ rfl
  have q1 := hc0 1 _ rfl
  rw [Nat.add_zero] at q0
  exact ⟨ad, (l.getD i (0, [])).1, (l.getD i (0, [])).2, B, cb, e, rfl, q0, by rw [← add_field _ _ 1 (by omega)]; exact q1, h2, RC.of_C h3, h3.2.1⟩
def bytesL (l : List ACT) : Prop := ∀ x ∈ l, ∀ y ∈ x.2, 0 ≤ y ∧ y ≤ 255
theorem bytesL_at {l : List ACT} (h : bytesL l) (i : Nat) {d : Int} {b : List Int} (e : l.getD i (0, []) = (d, b)) : Bytes b := by
  by_cases hi : i < l.length
  · have hm : l[i] ∈ l := List.getElem_mem hi
    have := h _ hm
    rw [List.getD_eq_getElem?_getD, List.getElem?_eq_getElem hi] at e
    have e' : l[i] = (d, b) := e
    rw [e'] at this
    exact bytes_of_mem this
  · rw [List.getD_eq_getElem?_getD, List.getElem?_eq_none (by omega)] at e
    have e' : (((0 : Int), ([] : List Int)) : ACT) = (d, b) := e
    injection e' with _ e2
    rw [← e2]
    exact bytes_nil
def lensL (l : List ACT) : Prop := ∀ x ∈ l, x.2.length ≤ 140737488351232
theorem lens_at {l : List ACT} (h : lensL l) (i : Nat) : (l.getD i (0, [])).2.length ≤ 140737488351232 := by
  by_cases hi : i < l.length
  · rw [List.getD_eq_getElem?_getD, List.getElem?_eq_getElem hi]
    exact h _ (List.getElem_mem hi)
  · rw [List.getD_eq_getElem?_getD, List.getElem?_eq_none (by omega)]
    exact Nat.zero_le _
theorem sum_le {l : List ACT} (h : lensL l) : ∀ i, sumL l i ≤ i * 140737488351232
  | 0 => Nat.zero_le _
  | i + 1 => by
    have := sum_le h i
    have := lens_at h i
    show sumL l i + _ ≤ _
    omega
theorem own_append4 {ops : Array Oper} {rs : List Oper} {o : Oper} {a : Act} {w0 w : World} {Q : Exit → Act → World → Prop} (hgd : o.guard = none) (s x : Operand)
    (ho : o.op = .call { callee := .builtin .append, args := #[s, x], argTypes := #[22, 22] }) (base : Nat) (v : Value) (l m : List Int) (n : Nat) (hn : n = m.length) (A : Option Addr) (c : Nat) (hs : a.eval s = v) (hx : a.eval x = .slice A n c)
    (HO : OWN w base v l) (HR : RC w A m) (HB : Below base w0 w) (hbase : base ≤ w.heap.size) (hl : l.length + m.length ≤ 100000000)
    (h : ∀ v1 w1, OWN w1 base v1 (l ++ m) → Below base w0 w1 → w.grownBy w1 v.ownBlock → (v1.ownBlock = v.ownBlock ∨ ∃ b, v1.ownBlock = some b ∧ w.heap.size ≤ b) → wpList Tryd.prog ops Q rs (a.put o.dst v1) w1) : wpList Tryd.prog ops Q (o :: rs) a w := by
  subst hn
  refine Kd.R_append_rows (Kd.int .u8) (w0 := w0) base hgd s x 22 5 (.int .u8 0) 1 ho Tryd.underlying22 info5 rfl (by decide) (by omega) v l m A m.length c (fun _ => True) (fun _ => False) hs hx HO (HR.to_C (by omega)) (fun _ _ h => h) (fun _ h => h.elim) (fun _ _ => trivial) HB hbase (by omega) ?_
  intro v1 w1 h1 h2 h3 h4
  exact h v1 w1 h1 h2 h3 h4
theorem OWN.lt {w : World} {base : Nat} {v : Value} {l : List Int} (h : OWN w base v l) : ∀ k, v.ownBlock = some k → base ≤ k ∧ k < w.heap.size := fun k hk => ⟨Kd.R_base h k hk, Kd.R_lt h k hk⟩
theorem OWN.step {w w' : World} {base : Nat} {v : Value} {l : List Int} (h : OWN w base v l) (hm : ∀ k, v.ownBlock = some k → w'.heap[k]? = w.heap[k]?) : OWN w' base v l := by
  obtain ⟨h0, inner, ho, hr⟩ := (h : Kd.R (Kd.int .u8) 5 w base (fun _ => True) v l)
  exact ⟨h0, inner, own_move ho hm, hr.imp_ (fun _ _ hp => hp)⟩
/-- What every round begins with. -/
structure ST (W w : World) (g : Nat) (v : Value) (a : List Int) : Prop where
  bel : Below W.heap.size W w
  own : OWN w W.heap.size v a
  hx : HX w g a (fun k => some k ≠ v.ownBlock)
  bytes : Bytes a
  low : W.heap.size ≤ g
theorem ST.below {W w w' : World} {g : Nat} {v : Value} {a : List Int} (h : ST W w g v a) (hb : Below w.heap.size w w') : ST W w' g v a :=
  ⟨h.bel.trans (hb.mono h.bel.size), h.own.below hb, h.hx.step (fun k _ hk => hb.block k hk), h.bytes, h.low⟩
/-- Another digest has been made and written to. -/
theorem ST.wrote {W w w3 w4 : World} {g g' : Nat} {v : Value} {a : List Int} (h : ST W w g v a) (hb : Below w.heap.size w w3) (hg : w.heap.size ≤ g') (hw : Wrote g' w3 w4) : ST W w4 g v a := by
  have h3 := h.below hb
  have two : ∀ k, k < w.heap.size → w4.heap[k]? = w.heap[k]? := fun k hk => (hw.block k (Nat.lt_of_lt_of_le hk hb.size) (by omega)).trans (hb.block k hk)
  exact ⟨⟨hw.os.trans h3.bel.os, hw.tape.trans h3.bel.tape, hw.output.trans h3.bel.output, Nat.le_trans h3.bel.size hw.size, fun k hk => (two k (Nat.lt_of_lt_of_le hk h.bel.size)).trans (h.bel.block k hk)⟩,
    OWN.step h.own (fun k hk => two k (OWN.lt h.own k hk).2), h.hx.step (fun k _ hk => two k hk), h.bytes, h.low⟩
theorem len_two (g : Nat) (a b : List Int) (W : World) (hh : HS W g (a ++ b)) :
    Calls Tryd.prog 17 #[.pointer (some ⟨g, 0, none⟩)] W fun e w' => e = .returned (.int .i64 ((a.length : Int) + (b.length : Int))) ∧ W = w' := by
  have := len_on g (a ++ b) (a.length + b.length) (by rw [List.length_append]) W hh
  refine this.mono ?_
  rintro e w' ⟨rfl, hw⟩
  exact ⟨by rw [Int.natCast_add], hw⟩
theorem run_neq32 (w : World) (xs ys : List Int) (hx : xs.length = 32) (hy : ys.length = 32) : (binOp .neq T32 (.agg (nums .u8 xs).toArray) (.agg (nums .u8 ys).toArray)).run Tryd.prog w = .ok (.bool (xs != ys)) w := by
  rw [run_neq_struct, run_equalIn_nums8 w 9998 T32 5 32 Tryd.underlying23 Tryd.underlying5 sizeB xs ys hx hy]
  rfl
theorem part_any {w : World} {g n k : Nat} (h : PART w g n 0 0) (hk : k < n) (y : Int) : PART (w.setCell ⟨g, k, none⟩ (.int .u8 y)) g n 0 0 := fun j hj => by
  by_cases e : j = k
  · subst e
    obtain ⟨z, h1, _⟩ := h j hj
    exact ⟨y, World.cell?_setCell_same _ _ _ h1, fun h => absurd h (Nat.not_lt_zero _)⟩
  · obtain ⟨z, h1, h2⟩ := h j hj
    exact ⟨z, (World.cell?_setCell_other _ _ _ _ (by intro e'; injection e' with _ e' _; exact e e'.symm)).trans h1, h2⟩
theorem grown_refl (w : World) (row : Option Nat) : w.grownBy w row := ⟨rfl, rfl, rfl, Nat.le_refl _, fun _ _ _ => rfl⟩
theorem grown_set {a b : World} {g : Nat} (h : a.grownBy b (some g)) (j : Nat) (u : Value) : a.grownBy (b.setCell ⟨g, j, none⟩ u) (some g) :=
  ⟨h.os, h.tape, h.output, by have := h.size; simp [World.setCell]; omega, fun k hk hne => (Below.heap_setCell b ⟨g, j, none⟩ u k (fun e => hne (by rw [e]))).trans (h.block k hk hne)⟩
/-- A copy: its bytes, and that its cells may be written. -/
theorem mine_of {w : World} {base : Nat} {v : Value} {l : List Int} {n : Nat} (h : OWN w base v l) (hn : n = l.length) : ∃ A c, v = .slice A n c ∧ n ≤ c ∧ RC w A l ∧ (∀ x, A = some x → base ≤ x.block ∧ x.block < w.heap.size) ∧ (0 < n → ∃ g cap, A = some ⟨g, 0, none⟩ ∧ base ≤ g ∧ ROOM w g cap ∧ PART w g n 0 0) := by
  subst hn
  obtain ⟨A, c, rfl, hc, hr, ha⟩ := h.form
  refine ⟨A, c, rfl, hc, hr, ha, fun h0 => ?_⟩
  obtain ⟨g, cap, e, h1, h2, h3, h4⟩ := part_of_row h h0
  injection e with e1 e2 e3
  exact ⟨g, cap, e1, h1, h3, h4⟩
theorem row_from {A : Option Addr} {n c : Nat} {row : Option Nat} {w8 : World} {base : Nat} (hr : row = (Value.slice A n c).ownBlock) (hm : 0 < n → ∃ g cap, A = some ⟨g, 0, none⟩ ∧ base ≤ g ∧ ROOM w8 g cap ∧ PART w8 g n 0 0) (hs : base ≤ w8.heap.size) (hA : ∀ x, A = some x → base ≤ x.block ∧ x.block < w8.heap.size) : ∀ k, row = some k → base ≤ k ∧ k < w8.heap.size := fun k hk => by
  rw [hr] at hk
  rcases A with _ | x
  · cases hk
  · have e : x.block = k := by simpa [Value.ownBlock] using hk
    exact e ▸ hA x rfl
/-- Behind a round that wrote, and one that appended. -/
theorem ST.append {W w w3 wL w5 : World} {g : Nat} {v v1 : Value} {a b : List Int} (h : ST W w g v a) (hb : Bytes b) (hg3 : w.heap.size ≤ w3.heap.size)
    (hx : HX wL g (a ++ b) (fun k => k = g ∨ w.heap.size ≤ k)) (ho1 : OWN w5 W.heap.size v1 (a ++ b)) (hbl : Below W.heap.size W w5) (hgr : wL.grownBy w5 v.ownBlock) (hat : v1.ownBlock = v.ownBlock ∨ ∃ b, v1.ownBlock = some b ∧ wL.heap.size ≤ b) : ST W w5 g v1 (a ++ b) := by
  have hne : ∀ k, (k = g ∨ w.heap.size ≤ k) → some k ≠ v.ownBlock := by
    rintro k (rfl | hk) e
    · exact h.hx.g e
    · have := (OWN.lt h.own k e.symm).2
      omega
  refine ⟨hbl, ho1, ?_, bytes_append h.bytes hb, h.low⟩
  refine HX.mono ((hx.bound).step (fun k hk hlt => hgr.block k hlt (hne k hk.1))) (fun k hk e => ?_)
  rcases hat with hat | ⟨b', hb', hle⟩
  · rw [hat] at e
    exact hne k hk.1 e
  · rw [hb'] at e
    injection e with e
    have := hk.2
    omega
theorem ST.twin {W w w' : World} {g g' : Nat} {v : Value} {a : List Int} (h : ST W w g v a) (hg : w.heap.size ≤ g') (hx : HX w' g' a (fun k => w.heap.size ≤ k)) (hb : Below w.heap.size w w') : ST W w' g' v a :=
  ⟨(h.below hb).bel, (h.below hb).own, hx.mono (fun k hk e => by have := (OWN.lt h.own k e.symm).2; omega), h.bytes, by have := h.bel.size; omega⟩
set_option maxRecDepth 100000 in
set_option maxHeartbeats 8000000 in
theorem walk (A : Option Addr) (c : Nat) (l : List ACT) (m : Nat) (W : World) (hm : m = l.length) (hC : Kd.C kA W A m l) (hc : m ≤ c) (hml : m ≤ 140737488351232) (hK : KB W) (hB : bytesL l) (hL : lensL l) :
    Calls Tryd.prog 6 #[.slice A m c] W fun e w' => e = .returned (.bool true) ∧ Below W.heap.size W w' := by
  have HC := Lib.hid hC
  have HK := Lib.hid hK
  have HM := Lib.hid hm
  have HB := Lib.hid hB
  have HL := Lib.hid hL
  have HG0 := Lib.hid hK.1
  clear hC hK hm hB hL
  go_enter Tryd.func6, Tryd.ntmps6
  go_wp2
  go_loopw [4, 3] (fun v4 v3 w => ∃ (i : Nat), i ≤ m ∧ i ≤ 201 ∧ v4 = .int .i64 i ∧ v3 = .int .i64 (sumL l i) ∧ W = w) (fun v4 _ _ => 201 - (intOf v4).toNat)
  case atStart => exact ⟨0, by omega, by omega, rfl, rfl, by first | rfl | trivial⟩
  case round =>
    obtain ⟨i, hi, hi2, rfl, rfl, rfl⟩ := hrel
    have hsl := sum_le HL.out i
    by_cases hlt : i < m ∧ i ≤ 200
    · obtain ⟨h1, h2⟩ := hlt
      obtain ⟨ad, d, b, B, cb, rfl, hd, hx0, hx1, hbc, hrb, hbl⟩ := act_at HC.out i h1
      have hll := lens_at HL.out i
      have HS := Lib.hid (show sumL l (i + 1) = sumL l i + b.length by show sumL l i + _ = _; rw [hd])
      rw [hd] at hll
      have hll2 : b.length ≤ 140737488351232 := hll
      have HD := Lib.hid hd
      clear hd hx0 hrb hll
      go_wp2
      go_roundw
      case rel => exact ⟨i + 1, by omega, by omega, by go_num, by rw [HS.out]; go_num, by first | rfl | trivial⟩
      case measure => simp [intOf]; omega
    · by_cases hbig : 200 < m ∨ 65536 < sumL l i
      · rcases hbig with hbig | hbig
        · have h3 : (m : Int) > 200 := by omega
          by_cases h4 : i < m
          all_goals
            go_wp2_with (go_at_call 9; ((with_reducible refine (wakes_any _ HK.out).mono ?_); rintro e w7 ⟨rfl, hb7⟩; have HB7 := Lib.hid hb7; clear hb7))
            go_ret
            exact ⟨rfl, HB7.out⟩
        · by_cases h200 : 200 < m
          · have h3 : (m : Int) > 200 := by omega
            by_cases h4 : i < m
            all_goals
              go_wp2_with (go_at_call 9; ((with_reducible refine (wakes_any _ HK.out).mono ?_); rintro e w7 ⟨rfl, hb7⟩; have HB7 := Lib.hid hb7; clear hb7))
              go_ret
              exact ⟨rfl, HB7.out⟩
          · have h3 : ¬ (m : Int) > 200 := by omega
            have h4 : ¬ i < m := by omega
            have h5 : (sumL l i : Int) > 65536 := by omega
            go_wp2_with (go_at_call 9; ((with_reducible refine (wakes_any _ HK.out).mono ?_); rintro e w7 ⟨rfl, hb7⟩; have HB7 := Lib.hid hb7; clear hb7))
            go_ret
            exact ⟨rfl, HB7.out⟩
      · have h3 : ¬ (m : Int) > 200 := by omega
        have h4 : ¬ i < m := by omega
        have h5 : ¬ (sumL l i : Int) > 65536 := by omega
        have him : i = m := by omega
        have HSM := Lib.hid (show sumL l m ≤ 65536 by rw [← him]; omega)
        clear hbig him
        go_wp2_with (go_at_call 14; (with_reducible refine (new_x _).mono ?_); rintro e w1 ⟨rfl, hh1, hb1⟩; have HST0 := Lib.hid (show ST W w1 W.heap.size (.slice none 0 0) [] from ⟨hb1, OWN.none _ _, hh1.mono (fun k _ => by simp [Value.ownBlock]), bytes_nil, Nat.le_refl _⟩); clear hh1 hb1)
        clear h5 hsl
        go_loopw [8, 5, 6, 7] (fun v8 v5 v6 v7 w => ∃ (q g : Nat) (a : List Int) (k : Nat), q ≤ m ∧ v8 = .int .i64 q ∧ v5 = .pointer (some ⟨g, 0, none⟩) ∧ v7 = .int .i64 k ∧ k ≤ q ∧ a.length ≤ sumL l q ∧ ST W w g v6 a) (fun v8 _ _ _ _ => m - (intOf v8).toNat)
        case atStart => exact ⟨0, _, [], 0, by omega, rfl, rfl, rfl, by omega, by simp, HST0.out⟩
        case round =>
          obtain ⟨q, g, a, k, hq, rfl, rfl, rfl, hkq, hal, hst⟩ := hrel
          clear HST0
          obtain ⟨A6, c6, e6, hc6, hr6, _⟩ := hst.own.form
          subst e6
          have HST := Lib.hid hst
          have HR6 := Lib.hid hr6
          have HAL := Lib.hid hal
          have HKW := Lib.hid (HK.out.below hst.bel)
          have HGP := Lib.hid (show 0 < g from Nat.lt_of_lt_of_le HG0.out hst.low)
          have hal2 : a.length ≤ 65536 := Nat.le_trans hal (Nat.le_trans (sumL_mono l hq) HSM.out)
          obtain ⟨D, hD⟩ : ∃ D, D = ofS a := ⟨_, rfl⟩
          have HDR := Lib.hid (show D = sums (eaten IV (a ++ pad (a.length % 64) a.length)) 32 by rw [hD, ofS_eq])
          have HDL := Lib.hid (show D.length = 32 by rw [hD]; exact ofS_len _)
          have HDD := Lib.hid hD
          have hqn : ∀ w, (binOp .neq T32 (.agg (nums .u8 D).toArray) (.agg (nums .u8 D).toArray)).run Tryd.prog w = .ok (.bool false) w := fun w => by rw [run_neq32 w D D HDL.out HDL.out]; simp
          have hqe : ∀ w, (binOp .eql T32 (.agg (nums .u8 D).toArray) (.agg (nums .u8 D).toArray)).run Tryd.prog w = .ok (.bool true) w := fun w => by rw [run_eql32 w D D HDL.out HDL.out, beq_self_eq_true]
          clear hst hr6 hal hD
          by_cases hlt : q < m
          · obtain ⟨ad, d, b, B, cb, rfl, hd, hx0, hx1, hbc, hrb, hbl⟩ := act_at HC.out q hlt
            have HBB := Lib.hid (bytesL_at HB.out q hd)
            have HSN := Lib.hid (show sumL l (q + 1) = sumL l q + b.length by show sumL l q + _ = _; rw [hd])
            have hbl2 : b.length ≤ 65536 := by
              have h1 := sumL_mono l (show q + 1 ≤ m from hlt)
              have h2 := HSN.out
              have h3 := HSM.out
              omega
            have hqb : decide ((q : Int) < (m : Int)) = true := decide_eq_true (by omega)
            have HX0 := Lib.hid hx0
            have HX1 := Lib.hid hx1
            have HRB := Lib.hid hrb
            have hy0 := (HST.out.bel.cell (block_lt_of_cell HX0.out)).trans HX0.out
            have hy1 := (HST.out.bel.cell (p := ⟨(ad.add (q * 2)).block, (ad.add (q * 2)).off + 1, none⟩) (block_lt_of_cell HX1.out)).trans HX1.out
            clear hd hx0 hx1 hrb hbl
            by_cases d0 : d = 0
            · subst d0
              go_wp2_with (first
                | ((with_reducible refine gate_dst (N := 52) rfl ?_); refine own_lit (w0 := wr) wr.heap.size rfl (N := 52) rfl [] ?hrun (Below.refl _ _) (Nat.le_refl _) (by decide) ?_; (case hrun => first | (go_simp; done) | (go_simp; rfl)); intro v52 w1 ho1 hb1 hg1; have HO1 := Lib.hid ho1; have HB1 := Lib.hid hb1; have hz1 := (((HST.out.below hb1).bel).cell (block_lt_of_cell HX1.out)).trans HX1.out; clear ho1 hb1 hg1 hy0 hy1)
                | ((with_reducible refine gate_builtin (b := .append) (xs := #[.tmp 52, .tmp 57]) rfl ?_); at_builtin; go_loud (refine own_append4 (w0 := wr) rfl (.tmp 52) (.tmp 57) rfl wr.heap.size v52 [] b b.length rfl B cb rfl rfl HO1.out (HRB.out.below (HST.out.below HB1.out).bel) HB1.out HB1.out.size (by simp; omega) ?_; intro v9 w2 ho2 hb2 hg2 _; obtain ⟨A9, c9, rfl, hc9, hr9, ha9, hm9⟩ := mine_of (show OWN w2 wr.heap.size v9 b from ho2) rfl; have HB2 := Lib.hid hb2; have HR9 := Lib.hid hr9; have HA9 := Lib.hid ha9; have HM9 := Lib.hid hm9; have HOF9 := Lib.hid (show b ≠ [] → Off g A9 from (by intro _ x e; have h1 := (ha9 x e).1; have h2 := HST.out.hx.lt; omega)); clear ho2 hb2 hg2 hr9 ha9 hm9 hz1))
                | (go_at_call 15; go_loud ((with_reducible refine (write_x g a b (a ++ b) b.length rfl rfl A9 c9 _ HST.out.bytes HBB.out (by omega) (by omega) HGP.out (HKW.out.below HB2.out) (HST.out.below HB2.out).hx.hs HR9.out HOF9.out hc9).mono ?_); rintro e w3 ⟨rfl, hx3, hw3⟩; have HX3 := Lib.hid hx3; have HW3 := Lib.hid hw3; clear hx3 hw3)))
              obtain ⟨row, hrow⟩ : ∃ row, row = (Value.slice A9 b.length c9).ownBlock := ⟨_, rfl⟩
              have HROW := Lib.hid hrow
              have HRR := Lib.hid (row_from HROW.out HM9.out HB2.out.size HA9.out)
              clear hrow
              go_loopw [10] (fun v10 w => ∃ j : Nat, j ≤ b.length ∧ v10 = .int .i64 j ∧ w3.grownBy w row ∧ (0 < b.length → ∃ g cap, A9 = some ⟨g, 0, none⟩ ∧ row = some g ∧ ROOM w g cap ∧ PART w g b.length 0 0)) (fun v10 _ => b.length - (intOf v10).toNat)
              case atStart => exact ⟨0, by omega, rfl, grown_refl _ _, fun h0 => by
                obtain ⟨g9, cap, e1, e2, e3, e4⟩ := HM9.out h0
                have h9 : w3.heap[g9]? = w2.heap[g9]? := HW3.out.block g9 e3.lt (by have := HST.out.hx.lt; omega)
                exact ⟨g9, cap, e1, by rw [HROW.out, e1]; rfl, e3.of h9, e4.of h9⟩⟩
              case round =>
                obtain ⟨j, hj, rfl, hgr, hm⟩ := hrel
                have HGR := Lib.hid hgr
                have HMJ := Lib.hid hm
                clear hgr hm
                by_cases hlt2 : j < b.length
                · obtain ⟨g9, cap, e1, e2, e3, e4⟩ := HMJ.out (by omega)
                  obtain ⟨y, hy, _⟩ := e4 j hlt2
                  have hf := e3.frozen j
                  have HE2 := Lib.hid e2
                  have HE3 := Lib.hid e3
                  have HE4 := Lib.hid e4
                  subst e1
                  clear e2 e3 e4
                  go_wp2
                  go_roundw
                  case rel => exact ⟨j + 1, hlt2, by go_num, by rw [HE2.out]; exact grown_set (by have := HGR.out; rw [HE2.out] at this; exact this) _ _, fun _ => ⟨g9, cap, rfl, HE2.out, HE3.out.set _ _ _, part_any HE4.out hlt2 _⟩⟩
                  case measure => simp [intOf]; omega
                · have hown2 := (HST.out.below HB2.out).own
                  have HS3 := Lib.hid (show Below W.heap.size W w3 from ⟨HW3.out.os.trans (HST.out.below HB2.out).bel.os, HW3.out.tape.trans (HST.out.below HB2.out).bel.tape, HW3.out.output.trans (HST.out.below HB2.out).bel.output, Nat.le_trans (HST.out.below HB2.out).bel.size HW3.out.size, fun k hk => (HW3.out.block k (Nat.lt_of_lt_of_le hk (HST.out.below HB2.out).bel.size) (by have := HST.out.low; omega)).trans ((HST.out.below HB2.out).bel.block k hk)⟩)
                  have HSL := Lib.hid (HS3.out.grown HGR.out HS3.out.size (fun k hk => by have := (HRR.out k hk).1; have := HST.out.bel.size; omega))
                  have HOL := Lib.hid (OWN.step (w' := wr) (OWN.step (w' := w3) hown2 (fun k hk => HW3.out.block k (OWN.lt hown2 k hk).2 (fun e => HST.out.hx.g (by rw [← e]; exact hk.symm)))) (fun k hk => HGR.out.block k (Nat.lt_of_lt_of_le (OWN.lt hown2 k hk).2 HW3.out.size) (fun e => by have h1 := (HRR.out k e.symm).1; have h2 := (OWN.lt HST.out.own k hk).2; omega)))
                  have HXL := Lib.hid ((HX3.out.step (w' := wr) (fun k hk hlt => HGR.out.block k hlt (fun e => by have h1 := HRR.out k e.symm; have h2 := HST.out.hx.lt; omega))).mono (fun k hk => hk.imp id (fun h => Nat.le_trans HB2.out.size h)))
                  have hz2 := (HSL.out.cell (p := ⟨(ad.add (q * 2)).block, (ad.add (q * 2)).off + 1, none⟩) (block_lt_of_cell HX1.out)).trans HX1.out
                  clear hown2
                  go_wp2_with ((with_reducible refine gate_builtin (b := .append) (xs := #[.tmp 76, .tmp 81]) rfl ?_); at_builtin; go_loud (refine own_append4 (w0 := W) rfl (.tmp 76) (.tmp 81) rfl W.heap.size _ a b b.length rfl B cb rfl rfl HOL.out (HRB.out.below HSL.out) HSL.out HSL.out.size (by omega) ?_; intro v6 w5 ho5 hb5 hg5 hat5; have HO5 := Lib.hid ho5; have HB5 := Lib.hid hb5; have HG5 := Lib.hid hg5; have HAT5 := Lib.hid hat5; clear ho5 hb5 hg5 hat5))
                  have HF := Lib.hid (HST.out.append HBB.out (Nat.le_refl _) HXL.out HO5.out HB5.out HG5.out HAT5.out)
                  go_roundw
                  case rel => exact ⟨q + 1, g, a ++ b, k, by omega, by go_num, rfl, rfl, by omega, by rw [HSN.out, List.length_append]; have := HAL.out; omega, HF.out⟩
                  case measure => simp [intOf]; omega
            · by_cases d1 : d = 1
              · subst d1
                by_cases hk20 : k + 1 ≤ 20
                · have hki : (k : Int) + 1 ≤ 20 := by omega
                  go_wp2_with (first
                    | (go_at_call 16; go_loud ((with_reducible refine (sum_on g a D _ HDD.out HST.out.bytes (by omega) HKW.out HST.out.hx.hs).mono ?_); rintro e w3 ⟨rfl, hb3⟩; have HB3 := Lib.hid hb3; clear hb3))
                    | (go_at_call 11; go_loud ((with_reducible refine (rof_gen A6 c6 a D _ HDR.out (HR6.out.below HB3.out) hc6 (by omega) HST.out.bytes).mono ?_); rintro e w4 ⟨rfl, hb4⟩; have HB4 := Lib.hid (HB3.out.trans (hb4.mono HB3.out.size)); clear hb4)))
                  go_roundw
                  case rel => exact ⟨q + 1, g, a, k + 1, by omega, by go_num, rfl, by go_num, by omega, by have := HAL.out; have := HSN.out; omega, HST.out.below HB4.out⟩
                  case measure => simp [intOf]; omega
                · have hki : ¬ (k : Int) + 1 ≤ 20 := by omega
                  go_wp2
                  go_roundw
                  case rel => exact ⟨q + 1, g, a, k + 1, by omega, by go_num, rfl, by go_num, by omega, by have := HAL.out; have := HSN.out; omega, HST.out⟩
                  case measure => simp [intOf]; omega
              · by_cases d2 : d = 2
                · subst d2
                  go_wp2_with (go_at_call 17; go_loud ((with_reducible refine (len_on g a a.length rfl _ HST.out.hx.hs).mono ?_); rintro e w3 ⟨rfl, rfl⟩))
                  go_roundw
                  case rel => exact ⟨q + 1, g, a, k, by omega, by go_num, rfl, rfl, by omega, by have := HAL.out; have := HSN.out; omega, HST.out⟩
                  case measure => simp [intOf]; omega
                · by_cases d3 : d = 3
                  · subst d3
                    go_wp2_with (go_at_call 18; go_loud ((with_reducible refine (twin_x g a _ HST.out.hx.hs).mono ?_); rintro e w3 ⟨g', rfl, hg', hx3, hb3⟩; have HF := Lib.hid (HST.out.twin hg' hx3 hb3); clear hg' hx3 hb3))
                    go_roundw
                    case rel => exact ⟨q + 1, g', a, k, by omega, by go_num, rfl, rfl, by omega, by have := HAL.out; have := HSN.out; omega, HF.out⟩
                    case measure => simp [intOf]; omega
                  · by_cases d4 : d = 4
                    · subst d4
                      go_wp2_with (first
                        | (go_at_call 18; go_loud ((with_reducible refine (twin_x g a _ HST.out.hx.hs).mono ?_); rintro e w3 ⟨g2, rfl, hg2, hx3, hb3⟩; have HG2 := Lib.hid hg2; have HX3 := Lib.hid hx3; have HB3 := Lib.hid hb3; have hz3 := ((HST.out.below hb3).bel.cell (p := ⟨(ad.add (q * 2)).block, (ad.add (q * 2)).off + 1, none⟩) (block_lt_of_cell HX1.out)).trans HX1.out; clear hg2 hx3 hb3 hy0 hy1))
                        | (go_at_call 15; go_loud ((with_reducible refine (write_x g2 a b (a ++ b) b.length rfl rfl B cb _ HST.out.bytes HBB.out (by omega) (by omega) (by have := HG2.out; have := HST.out.hx.lt; omega) (HKW.out.below HB3.out) HX3.out.hs (HRB.out.below (HST.out.below HB3.out).bel) (HRB.out.off (by have := HG2.out; have := HST.out.bel.size; omega)) hbc).mono ?_); rintro e w4 ⟨rfl, hx4, hw4⟩; have HX4 := Lib.hid hx4; have HF := Lib.hid (HST.out.wrote HB3.out HG2.out hw4); clear hx4 hw4 hz3)))
                      have HZ4 := Lib.hid ((HF.out.bel.cell (p := ⟨(ad.add (q * 2)).block, (ad.add (q * 2)).off + 1, none⟩) (block_lt_of_cell HX1.out)).trans HX1.out)
                      have HH4 := Lib.hid (show HS w4.drew g2 (a ++ b) from HX4.out.hs.below (below_drew1 (Below.refl _ w4)))
                      have hqI : (q : Int) < (m : Int) := by omega
                      have hw64 : wrap64 ((a.length : Int) + (b.length : Int)) = (a.length : Int) + (b.length : Int) := by unfold wrap64; omega
                      have hwi : IntKind.i64.wrap ((a.length : Int) + (b.length : Int)) = (a.length : Int) + (b.length : Int) := by rw [i64_w]; exact hw64
                      have hnn : (((a.length : Int) + (b.length : Int)) != ((a.length : Int) + (b.length : Int))) = false := by simp
                      refine start_ (n := 12) (S := fun w' => w'.cell? ⟨(ad.add (q * 2)).block, (ad.add (q * 2)).off + 1, none⟩ = some (.slice B b.length cb)) (ds := []) #[false, false, false, false, false, false, false, false, false, false, false, false] (by kernel_rfl) rfl rfl (HZ4.out) (fun hHeld => ?_)
                      refine pure_ (i := 0) (N := some 118) (v := ?_) (a' := ?_) #[true, false, false, false, false, false, false, false, false, false, false, false] rfl rfl (by kernel_rfl) (fun _ _ _ h => h) (Or.inl ⟨by rfl, ?_⟩) ?_ ?_
                      rotate_left
                      · intro w'
                        go_simp
                        (first | (with_reducible rfl) | ((try simp only [*]); (with_reducible rfl)))
                      rotate_left
                      · simp only [Act.put, List.setIfInBounds_toArray, List.set_cons_zero, List.set_cons_succ, i64_w, i32_w]
                        rfl
                      refine pure_ (i := 2) (N := some 120) (v := ?_) (a' := ?_) #[true, false, true, false, false, false, false, false, false, false, false, false] rfl rfl (by kernel_rfl) (fun _ _ _ h => h) (Or.inl ⟨by rfl, ?_⟩) ?_ ?_
                      rotate_left
                      · intro w'
                        go_simp
                        (first | (with_reducible rfl) | ((try simp only [*]); (with_reducible rfl)))
                      rotate_left
                      · simp only [Act.put, List.setIfInBounds_toArray, List.set_cons_zero, List.set_cons_succ, i64_w, i32_w]
                        rfl
                      refine pure_ (i := 3) (N := some 121) (v := ?_) (a' := ?_) #[true, false, true, true, false, false, false, false, false, false, false, false] rfl rfl (by kernel_rfl) (fun _ _ _ h => h) (Or.inl ⟨by rfl, ?_⟩) ?_ ?_
                      rotate_left
                      · intro w'
                        go_simp
                        (first | (with_reducible rfl) | ((try simp only [*]); (with_reducible rfl)))
                      rotate_left
                      · simp only [Act.put, List.setIfInBounds_toArray, List.set_cons_zero, List.set_cons_succ, i64_w, i32_w]
                        rfl
                      refine pure_ (i := 4) (N := some 122) (v := ?_) (a' := ?_) #[true, false, true, true, true, false, false, false, false, false, false, false] rfl rfl (by kernel_rfl) (fun _ _ _ h => h) (Or.inl ⟨by rfl, ?_⟩) ?_ ?_
                      rotate_left
                      · intro w'
                        go_simp
                        (first | (with_reducible rfl) | ((try simp only [*]); (with_reducible rfl)))
                      rotate_left
                      · simp only [Act.put, List.setIfInBounds_toArray, List.set_cons_zero, List.set_cons_succ, i64_w, i32_w]
                        rfl
                      refine pure_ (i := 5) (N := some 123) (v := ?_) (a' := ?_) #[true, false, true, true, true, true, false, false, false, false, false, false] rfl rfl (by kernel_rfl) (fun _ _ _ h => h) (Or.inl ⟨by rfl, ?_⟩) ?_ ?_
                      rotate_left
                      · intro w'
                        go_simp
                        (first | (with_reducible rfl) | ((try simp only [*]); (with_reducible rfl)))
                      rotate_left
                      · simp only [Act.put, List.setIfInBounds_toArray, List.set_cons_zero, List.set_cons_succ, i64_w, i32_w]
                        rfl
                      refine pure_ (i := 6) (N := some 124) (v := ?_) (a' := ?_) #[true, false, true, true, true, true, true, false, false, false, false, false] rfl rfl (by kernel_rfl) (fun _ _ _ h => h) (Or.inl ⟨by rfl, ?_⟩) ?_ ?_
                      rotate_left
                      · intro w'
                        go_simp
                        (first | (with_reducible rfl) | ((try simp only [*]); (with_reducible rfl)))
                      rotate_left
                      · simp only [Act.put, List.setIfInBounds_toArray, List.set_cons_zero, List.set_cons_succ, i64_w, i32_w]
                        rfl
                      refine pure_ (i := 7) (N := some 125) (v := ?_) (a' := ?_) #[true, false, true, true, true, true, true, true, false, false, false, false] rfl rfl (by kernel_rfl) (fun _ _ _ h => h) (Or.inl ⟨by rfl, ?_⟩) ?_ ?_
                      rotate_left
                      · intro w'
                        go_simp
                        (first | (with_reducible rfl) | ((try simp only [*]); (with_reducible rfl)))
                      rotate_left
                      · simp only [Act.put, List.setIfInBounds_toArray, List.set_cons_zero, List.set_cons_succ, i64_w, i32_w]
                        rfl
                      refine take_ (i := 8) (N := some 126) (v := ?_) (a' := ?_) #[true, false, true, true, true, true, true, true, true, false, false, false] rfl rfl (by kernel_rfl) (fun _ _ _ h => h) (Or.inl ⟨by rfl, ?_⟩) hHeld ?_ ?_
                      rotate_left
                      · intro w' s0
                        go_simp
                        (first | (with_reducible rfl) | ((try simp only [*]); (with_reducible rfl)))
                      rotate_left
                      · simp only [Act.put, List.setIfInBounds_toArray, List.set_cons_zero, List.set_cons_succ, i64_w, i32_w]
                        rfl
                      refine pure_ (i := 9) (N := some 127) (v := ?_) (a' := ?_) #[true, false, true, true, true, true, true, true, true, true, false, false] rfl rfl (by kernel_rfl) (fun _ _ _ h => h) (Or.inl ⟨by rfl, ?_⟩) ?_ ?_
                      rotate_left
                      · intro w'
                        go_simp
                        (first | (with_reducible rfl) | ((try simp only [*]); (with_reducible rfl)))
                      rotate_left
                      · simp only [Act.put, List.setIfInBounds_toArray, List.set_cons_zero, List.set_cons_succ, i64_w, i32_w]
                        rfl
                      refine pure_ (i := 10) (N := some 128) (v := ?_) (a' := ?_) #[true, false, true, true, true, true, true, true, true, true, true, false] rfl rfl (by kernel_rfl) (fun _ _ _ h => h) (Or.inl ⟨by rfl, ?_⟩) ?_ ?_
                      rotate_left
                      · intro w'
                        go_simp
                        (first | (with_reducible rfl) | ((try simp only [*]); (with_reducible rfl)))
                      rotate_left
                      · simp only [Act.put, List.setIfInBounds_toArray, List.set_cons_zero, List.set_cons_succ, i64_w, i32_w]
                        rfl
                      refine one_ (i := 1) (N := some 119) #[true, true, true, true, true, true, true, true, true, true, true, false] rfl rfl (by kernel_rfl) (by decide) (fun K hK => ?_)
                      refine goes_ Tryd.func17 (by kernel_rfl) rfl #[.pointer (some ⟨g2, 0, none⟩)] (by rfl) rfl rfl (by simp only [List.map_toArray, List.map_cons, List.map_nil]; rfl) ?_
                      with_reducible refine (len_two g2 a b _ HH4.out).mono ?_
                      rintro e wq ⟨rfl, rfl⟩
                      refine ⟨_, rfl, ?_⟩
                      refine hK.out _ _ (HZ4.out) (fun hHeld => ?_)
                      clear hK K
                      refine norm_ (a' := ?_) ?_ ?_
                      rotate_left
                      · show Act.put _ (some 119) _ = _
                        simp only [Act.put, List.setIfInBounds_toArray, List.set_cons_zero, List.set_cons_succ, i64_w, i32_w]
                        rfl
                      refine pure_ (i := 11) (N := some 129) (v := ?_) (a' := ?_) #[true, true, true, true, true, true, true, true, true, true, true, true] rfl rfl (by kernel_rfl) (fun _ _ _ h => h) (Or.inl ⟨by rfl, ?_⟩) ?_ ?_
                      rotate_left
                      · intro w'
                        go_simp
                        (first | (with_reducible rfl) | ((try simp only [*]); (with_reducible rfl)))
                      rotate_left
                      · simp only [Act.put, List.setIfInBounds_toArray, List.set_cons_zero, List.set_cons_succ, i64_w, i32_w]
                        rfl
                      refine done_ (by kernel_rfl) ?_
                      go_wp2
                      go_roundw
                      case rel => exact ⟨q + 1, g, a, k, by omega, by go_num, rfl, rfl, by omega, by have := HAL.out; have := HSN.out; omega, HF.out.below (below_drew1 (Below.refl _ _))⟩
                      case measure => simp [intOf]; omega
                    · have n0 : (d == 0) = false := by simpa using d0
                      have n1 : (d == 1) = false := by simpa using d1
                      have n2 : (d == 2) = false := by simpa using d2
                      have n3 : (d == 3) = false := by simpa using d3
                      have n4 : (d == 4) = false := by simpa using d4
                      go_wp2
                      go_roundw
                      case rel => exact ⟨q + 1, g, a, k, by omega, by go_num, rfl, rfl, by omega, by have := HAL.out; have := HSN.out; omega, HST.out⟩
                      case measure => simp [intOf]; omega
          · go_wp2_with (first
              | (go_at_call 17; go_loud ((with_reducible refine (len_on g a a.length rfl _ HST.out.hx.hs).mono ?_); rintro e w3 ⟨rfl, rfl⟩))
              | (go_at_call 16; go_loud ((with_reducible refine (sum_on g a D _ HDD.out HST.out.bytes (by omega) HKW.out HST.out.hx.hs).mono ?_); rintro e w3 ⟨rfl, hb3⟩; have HB3 := Lib.hid hb3; clear hb3))
              | (go_at_call 11; go_loud ((with_reducible refine (rof_gen A6 c6 a D _ HDR.out (HR6.out.below HB3.out) hc6 (by omega) HST.out.bytes).mono ?_); rintro e w4 ⟨rfl, hb4⟩; have HB4 := Lib.hid (HB3.out.trans (hb4.mono HB3.out.size)); clear hb4))
              | (go_at_call 9; ((with_reducible refine (wakes_any _ (HKW.out.below HB4.out)).mono ?_); rintro e w7 ⟨rfl, hb7⟩; have HB7 := Lib.hid ((HST.out.below (HB4.out.trans (hb7.mono HB4.out.size))).bel); clear hb7)))
            go_ret
            exact ⟨rfl, HB7.out⟩
end Go.Proofs.YthgmhjgbjodhjaaDoor.Plays
