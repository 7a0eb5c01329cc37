/- A block taken into a digest's state: the Go program's method, with the state behind a pointer, and what stays as it was. -/
import Derived.Test.YthgmhjgbjodhjaaDoorSha
namespace Go.Proofs.YthgmhjgbjodhjaaDoor.Sha2
open Go.Proofs.YthgmhjgbjodhjaaDoor Go.RowKit Go.Proofs.YthgmhjgbjodhjaaDoorW.PrintWords Go.Proofs.YthgmhjgbjodhjaaDoorW.PrintLast Go.Proofs.YthgmhjgbjodhjaaDoorW.PrintMore Go.Proofs.YthgmhjgbjodhjaaDoor.Sha
set_option linter.unusedVariables false

/-- The first cells of a block, read as a whole. -/
theorem run_load_front {P : Program} (w : World) (g : Nat) (t ty : TypeId) (cs rest : List Value) (fr : Nat × Nat) (d : TypeDesc) (hg : w.heap[g]? = some (.cells (cs ++ rest).toArray t fr))
    (hu : P.underlying ty = some d) (hd : (match d with | .struct _ | .array _ _ => true | _ => false) = true) (hi : (P.info? ty).map (·.size) = some cs.length) :
    (loadVar ty ⟨g, 0, none⟩).run P w = .ok (.agg cs.toArray) w := by
  have hl : (loadCells ⟨g, 0, none⟩ cs.length).run P w = .ok cs.toArray w :=
    run_loadCells_list (P := P) w ⟨g, 0, none⟩ cs (fun j v hv => by
      have hadd : (⟨g, 0, none⟩ : Addr).add j = ⟨g, j, none⟩ := by unfold Addr.add; split <;> simp_all
      rw [hadd, cell_of_row w g j _ t fr hg, List.getElem?_toArray, List.getElem?_append_left (List.getElem?_eq_some_iff.mp hv).1]
      exact hv)
  cases hq : P.info? ty with
  | none => simp [hq] at hi
  | some i =>
    have hs : i.size = cs.length := by simpa [hq] using hi
    have hagg : (isAgg ty).run P w = .ok true w := by
      unfold isAgg
      rw [Sem.run_bind, run_underlying hu w]
      cases d <;> simp_all
    simp [loadVar, Sem.run_bind, hagg, sizeOf, typeInfo, hq, hs, hl]

theorem wpList_load_front {P : Program} {ops : Array Oper} {rs : List Oper} {o : Oper} {a : Act} {w : World} {Q : Exit → Act → World → Prop} (hgd : o.guard = none) (ty : TypeId) (x : Operand) (ho : o.op = .load ty x)
    (g : Nat) (hx : a.eval x = .pointer (some ⟨g, 0, none⟩)) (t : TypeId) (cs rest : List Value) (fr : Nat × Nat) (d : TypeDesc) (hg : w.heap[g]? = some (.cells (cs ++ rest).toArray t fr))
    (hu : P.underlying ty = some d) (hd : (match d with | .struct _ | .array _ _ => true | _ => false) = true) (hi : (P.info? ty).map (·.size) = some cs.length)
    (h : wpList P ops Q rs (a.put o.dst (.agg cs.toArray)) w) : wpList P ops Q (o :: rs) a w :=
  wpList_plain hgd fun K hK => by
    unfold Oper.wp execOp
    simp only [ho, hx, Instr.loadAt, Instr.sureAddr, Sem.run_bind, Sem.run_pure, Result.andThen_ok, run_load_front w g t ty cs rest fr d hg hu hd hi]
    exact hK _ _ h

/-- An array's element, read by a place that is not known. -/
theorem run_index_nums {P : Program} (t e : TypeId) (n : Nat) (l : List Int) (i : Nat) (w : World) (ht : P.underlying t = some (.array n e)) (he : P.underlying e = some (.int .u32)) (hs : (P.info? e).map (·.size) = some 1) (hl : l.length = n) (hi : i < n) :
    (Instr.index t (.agg (nums .u32 l).toArray) (.int .i64 (i : Int))).run P w = .ok (.int .u32 (bn l i)) w := by
  cases hq : P.info? e with
  | none => simp [hq] at hs
  | some f =>
    have hf : f.size = 1 := by simpa [hq] using hs
    have hagg : (isAgg e).run P w = .ok false w := by
      unfold isAgg
      rw [Sem.run_bind, run_underlying he w]
      rfl
    have hc : (nums .u32 l)[i]? = some (.int .u32 (bn l i)) := by
      unfold bn rd
      simp only [nums, List.getElem?_map]
      rw [List.getElem?_eq_getElem (by omega), Int.toNat_natCast, List.getD_eq_getElem?_getD, List.getElem?_eq_getElem (by omega)]
      rfl
    simp [Instr.index, asIntOf, Sem.run_bind, run_underlying ht w, hagg, part, sizeOf, typeInfo, hq, hf, hc, hi]

/-- The numbers of the rounds. -/
def KL : List Int := [1116352408, 1899447441, 3049323471, 3921009573, 961987163, 1508970993, 2453635748, 2870763221, 3624381080, 310598401, 607225278, 1426881987, 1925078388, 2162078206, 2614888103, 3248222580, 3835390401, 4022224774, 264347078, 604807628, 770255983, 1249150122, 1555081692, 1996064986, 2554220882, 2821834349, 2952996808, 3210313671, 3336571891, 3584528711, 113926993, 338241895, 666307205, 773529912, 1294757372, 1396182291, 1695183700, 1986661051, 2177026350, 2456956037, 2730485921, 2820302411, 3259730800, 3345764771, 3516065817, 3600352804, 4094571909, 275423344, 430227734, 506948616, 659060556, 883997877, 958139571, 1322822218, 1537002063, 1747873779, 1955562222, 2024104815, 2227730452, 2361852424, 2428436474, 2756734187, 3204031479, 3329325298]

/-- The program's table of the rounds' numbers lies as it was laid. -/
def KB (w : World) : Prop := 0 < w.heap.size ∧ ∀ j : Nat, j < 64 → w.cell? ⟨0, j, none⟩ = some (.int .u32 (bn KL j))

theorem KB.below {w w' : World} (h : KB w) (hb : Below w.heap.size w w') : KB w' :=
  ⟨Nat.lt_of_lt_of_le h.1 hb.size, fun j hj => (hb.cell (p := ⟨0, j, none⟩) h.1).trans (h.2 j hj)⟩

/-- Of what was there only the block g has turned. -/
structure Wrote (g : Nat) (w w' : World) : Prop where
  os : w'.os = w.os
  tape : w'.tape = w.tape
  output : w'.output = w.output
  size : w.heap.size ≤ w'.heap.size
  block : ∀ k, k < w.heap.size → k ≠ g → w'.heap[k]? = w.heap[k]?

theorem Wrote.refl (g : Nat) (w : World) : Wrote g w w := ⟨rfl, rfl, rfl, Nat.le_refl _, fun _ _ _ => rfl⟩
theorem Wrote.of_below {g : Nat} {w w' : World} (h : Below w.heap.size w w') : Wrote g w w' := ⟨h.os, h.tape, h.output, h.size, fun k hk _ => h.block k hk⟩
theorem Wrote.trans {g : Nat} {a b c : World} (h : Wrote g a b) (k : Wrote g b c) : Wrote g a c :=
  ⟨k.os.trans h.os, k.tape.trans h.tape, k.output.trans h.output, Nat.le_trans h.size k.size, fun i hi hn => (k.block i (Nat.lt_of_lt_of_le hi h.size) hn).trans (h.block i hi hn)⟩
theorem Wrote.drew {g : Nat} {a b : World} (h : Wrote g a b) : Wrote g a b.drew := ⟨h.os, h.tape, h.output, h.size, h.block⟩
theorem Wrote.below {g : Nat} {B : Nat} {a b : World} (h : Wrote g a b) (hB : B ≤ g) (hs : B ≤ a.heap.size) : Below B a b := ⟨h.os, h.tape, h.output, h.size, fun k hk => h.block k (by omega) (by omega)⟩
theorem KB.wrote {w w' : World} {g : Nat} (h : KB w) (hb : Wrote g w w') (hg : 0 < g) : KB w' :=
  ⟨Nat.lt_of_lt_of_le h.1 hb.size, fun j hj => (World.cell?_of_block (w := w) (hb.block 0 h.1 (by omega))).trans (h.2 j hj)⟩

/-- Three turns of a number together. -/
def three (x : Int) (a b c : Nat) : Int := Go.bits .xor .u32 (Go.bits .xor .u32 (rot x a) (rot x b)) (rot x c)

set_option maxRecDepth 100000 in
theorem three_high (x : Int) (W : World) : Calls Tryd.prog 26 #[.int .u32 x, .int .i64 6, .int .i64 11, .int .i64 25] W fun e w' => e = .returned (.int .u32 (three x 6 11 25)) ∧ w' = W := by
  go_enter Tryd.func26, Tryd.ntmps26
  go_wp2_with (first
    | (go_at_call 27; (with_reducible refine (rotate_any _ (-6) 26 6 _ (by decide) (by decide) (by decide) (by decide)).mono ?_); rintro e w' ⟨rfl, rfl⟩)
    | (go_at_call 27; (with_reducible refine (rotate_any _ (-11) 21 11 _ (by decide) (by decide) (by decide) (by decide)).mono ?_); rintro e w' ⟨rfl, rfl⟩)
    | (go_at_call 27; (with_reducible refine (rotate_any _ (-25) 7 25 _ (by decide) (by decide) (by decide) (by decide)).mono ?_); rintro e w' ⟨rfl, rfl⟩))
  go_ret
  exact ⟨rfl, rfl⟩
set_option maxRecDepth 100000 in
theorem three_low (x : Int) (W : World) : Calls Tryd.prog 26 #[.int .u32 x, .int .i64 2, .int .i64 13, .int .i64 22] W fun e w' => e = .returned (.int .u32 (three x 2 13 22)) ∧ w' = W := by
  go_enter Tryd.func26, Tryd.ntmps26
  go_wp2_with (first
    | (go_at_call 27; (with_reducible refine (rotate_any _ (-2) 30 2 _ (by decide) (by decide) (by decide) (by decide)).mono ?_); rintro e w' ⟨rfl, rfl⟩)
    | (go_at_call 27; (with_reducible refine (rotate_any _ (-13) 19 13 _ (by decide) (by decide) (by decide) (by decide)).mono ?_); rintro e w' ⟨rfl, rfl⟩)
    | (go_at_call 27; (with_reducible refine (rotate_any _ (-22) 10 22 _ (by decide) (by decide) (by decide) (by decide)).mono ?_); rintro e w' ⟨rfl, rfl⟩))
  go_ret
  exact ⟨rfl, rfl⟩

/-- What the two sums of a round are. -/
def uu (s : List Int) (k x : Int) : Int := bn s 7 + three (bn s 4) 6 11 25 + Go.bits .xor .u32 (Go.bits .and .u32 (bn s 4) (bn s 5)) (Go.bits .and .u32 (Go.bits .xor .u32 IntKind.u32.max (bn s 4)) (bn s 6)) + k + x
def vv (s : List Int) : Int := three (bn s 0) 2 13 22 + Go.bits .xor .u32 (Go.bits .xor .u32 (Go.bits .and .u32 (bn s 0) (bn s 1)) (Go.bits .and .u32 (bn s 0) (bn s 2))) (Go.bits .and .u32 (bn s 1) (bn s 2))
def rnd (s : List Int) (k x : Int) : List Int := [(uu s k x + vv s) % 4294967296, bn s 0, bn s 1, bn s 2, (bn s 3 + uu s k x) % 4294967296, bn s 4, bn s 5, bn s 6]
/-- The state behind t rounds. -/
def rnds (st ws : List Int) : Nat → List Int
  | 0 => st
  | t + 1 => rnd (rnds st ws t) (bn KL t) (bn ws t)
/-- The sums put to the state, below i. -/
def adds (st s : List Int) : Nat → List Int
  | 0 => st
  | i + 1 => (adds st s i).set i ((bn (adds st s i) i + bn s i) % 4294967296)
def taken (st ws : List Int) : List Int := adds st (rnds st ws 64) 8

theorem rnds_len {st : List Int} (ws : List Int) (h : st.length = 8) (t : Nat) : (rnds st ws t).length = 8 := by
  cases t with
  | zero => exact h
  | succ t => rfl
theorem adds_len {st : List Int} (s : List Int) (h : st.length = 8) (t : Nat) : (adds st s t).length = 8 := by
  induction t with
  | zero => exact h
  | succ t ih => show ((adds st s t).set _ _).length = 8; simp [ih]

abbrev TH : Nat := 47
abbrev T8 : Nat := 43
/-- A digest that is being made lies at block g: its state, what is left, how many. -/
def HB (w : World) (g : Nat) (st : List Int) (v : Value) (n : Int) : Prop := w.heap[g]? = some (.cells (nums .u32 st ++ [v, .int .i64 n]).toArray TH (0, 0))
theorem info8 : (Tryd.prog.info? T8).map (·.size) = some 8 := by kernel_rfl
theorem infoE : (Tryd.prog.info? 42).map (·.size) = some 1 := by kernel_rfl
theorem hb_cell {w : World} {g : Nat} {l : List Int} {v : Value} {n : Int} (h : HB w g l v n) (j : Nat) (hj : j < l.length) : w.cell? ⟨g, j, none⟩ = some (.int .u32 (bn l j)) := by
  rw [blk_cell h, List.getElem?_toArray, List.getElem?_append_left (by simpa [nums] using hj)]
  unfold bn rd
  simp only [nums, List.getElem?_map]
  rw [List.getElem?_eq_getElem hj, Int.toNat_natCast, List.getD_eq_getElem?_getD, List.getElem?_eq_getElem hj]
  rfl
theorem hb_set {w : World} {g : Nat} {l : List Int} {v : Value} {n : Int} (h : HB w g l v n) (j : Nat) (hj : j < l.length) (x : Int) : HB (w.setCell ⟨g, j, none⟩ (.int .u32 x)) g (l.set j x) v n := by
  refine (blk_set h j _).trans ?_
  congr 2
  simp only [List.setIfInBounds_toArray]
  rw [List.set_append_left _ _ (by simpa [nums] using hj)]
  simp [nums, List.map_set]
theorem wrote_setCell {g : Nat} {a b : World} (h : Wrote g a b) (i : Nat) (u : Value) : Wrote g a (b.setCell ⟨g, i, none⟩ u) :=
  h.trans ⟨rfl, rfl, rfl, by simp [World.setCell], fun k hk hn => heap_setCell_other _ _ _ _ hn⟩
def Z8 : Array Value := (nums .u32 (List.replicate 8 0)).toArray

set_option maxHeartbeats 4000000 in
set_option maxRecDepth 100000 in
theorem take_gen (g : Nat) (st ws : List Int) (v : Value) (n : Int) (R1 R2 : List Int) (W : World) (hst : st.length = 8) (hws : ws.length = 64) (hR1 : R1 = rnds st ws 64) (hR2 : R2 = adds st R1 8) (hg : 0 < g) (hK : KB W) (hh : HB W g st v n) :
    Calls Tryd.prog 20 #[.pointer (some ⟨g, 0, none⟩), .agg (nums .u32 ws).toArray] W fun e w' => e = .returned (.tuple #[]) ∧ HB w' g R2 v n ∧ Wrote g W w' := by
  have hz : ∀ w, (zeroValue T8).run Tryd.prog w = .ok (.agg Z8) w := fun _ => by kernel_rfl
  have H1 := Lib.hid hR1
  have H2 := Lib.hid hR2
  have HK := Lib.hid hK
  have HH := Lib.hid hh
  have HST := Lib.hid hst
  have HWS := Lib.hid hws
  have HI8 := Lib.hid (show (Tryd.prog.info? T8).map (·.size) = some (nums .u32 st).length by rw [show (nums .u32 st).length = 8 by simp [nums, hst]]; exact info8)
  have HI64 := Lib.hid (size64 hws)
  have hgl := blk_lt hh
  clear hR1 hR2 hK hh hst hws
  go_enter Tryd.func20, Tryd.ntmps20
  go_wp2_with (first
    | ((with_reducible refine gate_dst (N := 15) rfl ?_); refine wpList_load_front rfl T8 (.tmp 14) rfl g rfl TH (nums .u32 st) [v, .int .i64 n] (0, 0) _ (blk_alloc HH.out _) Tryd.underlying43 rfl HI8.out ?_)
    | (refine wpList_store_row rfl T8 (.tmp 5) (.tmp 15) rfl (W.heap.size + 1) (nums .u32 st).toArray rfl rfl T8 Z8 (heap_alloc2_new _ _ _) (by simpa using HI8.out) (by simp [nums, HST.out]; rfl) (nums_one _) ?_)
    | ((with_reducible refine gate_dst (N := 16) rfl ?_); refine wpList_load_row rfl T64 (.tmp 3) rfl W.heap.size rfl T64 _ (0, 0) _ ((setRow_other _ _ _ _ (by omega)).trans (heap_alloc2_old _ _ _)) Tryd.underlying49 rfl HI64.out ?_))
  go_loopw [17] (fun v17 wr => ∃ (t : Nat) (s : List Int), t ≤ 64 ∧ v17 = .int .i64 t ∧ s.length = 8 ∧ Aside0 (s = rnds st ws t) ∧ wr.heap[W.heap.size + 1]? = some (.cells (nums .u32 s).toArray T8 (0, 0)) ∧ Below W.heap.size W wr) (fun v17 _ => 64 - (intOf v17).toNat)
  case atStart =>
    refine ⟨0, st, by omega, rfl, HST.out, ⟨rfl⟩, setRow_heap _ _ _ _ _ _ (heap_alloc2_new _ _ _), below_setRow (((Below.refl _ _).alloc (Nat.le_refl _) _).alloc (by simp) _) (by omega) _⟩
  case round =>
    obtain ⟨t, s, ht, rfl, hs, HA, hm, hb⟩ := hrel
    have HM := Lib.hid hm
    have HBB := Lib.hid hb
    have HS := Lib.hid hs
    by_cases hlt : t < 64
    · have y0 := row_cell hm 0 (by omega)
      have y1 := row_cell hm 1 (by omega)
      have y2 := row_cell hm 2 (by omega)
      have y3 := row_cell hm 3 (by omega)
      have y4 := row_cell hm 4 (by omega)
      have y5 := row_cell hm 5 (by omega)
      have y6 := row_cell hm 6 (by omega)
      have y7 := row_cell hm 7 (by omega)
      have yk := (HK.out.below hb).2 t hlt
      have hix : ∀ w : World, (Instr.index T64 (.agg (nums .u32 ws).toArray) (.int .i64 (t : Int))).run Tryd.prog w = .ok (.int .u32 (bn ws t)) w := fun w => run_index_nums (P := Tryd.prog) T64 42 64 ws t w Tryd.underlying49 Tryd.underlying42 infoE HWS.out hlt
      have ht64 : (t : Int) < 64 := by omega
      clear hm hb hs
      have wu : ∀ x : Int, IntKind.u32.wrap x = x % 4294967296 := fun x => IntKind.wrap_u32 x
      go_wp2
      refine wp_region_still_lit (by kernel_rfl) (by kernel_rfl) ?_
      repeat still_step
      still_call (three_high _ _)
      repeat still_step
      refine wpStill_nil ?_
      have z0 : wr.drew.cell? ⟨W.heap.size + 1, 0, none⟩ = some (.int .u32 (bn s 0)) := y0
      have z1 : wr.drew.cell? ⟨W.heap.size + 1, 1, none⟩ = some (.int .u32 (bn s 1)) := y1
      have z2 : wr.drew.cell? ⟨W.heap.size + 1, 2, none⟩ = some (.int .u32 (bn s 2)) := y2
      have z3 : wr.drew.cell? ⟨W.heap.size + 1, 3, none⟩ = some (.int .u32 (bn s 3)) := y3
      have z4 : wr.drew.cell? ⟨W.heap.size + 1, 4, none⟩ = some (.int .u32 (bn s 4)) := y4
      have z5 : wr.drew.cell? ⟨W.heap.size + 1, 5, none⟩ = some (.int .u32 (bn s 5)) := y5
      have z6 : wr.drew.cell? ⟨W.heap.size + 1, 6, none⟩ = some (.int .u32 (bn s 6)) := y6
      have HQ := Lib.hid (show wr.drew.heap[W.heap.size + 1]? = some (.cells (nums .u32 s).toArray T8 (0, 0)) from HM.out)
      have HQB := Lib.hid (below_drew1 HBB.out)
      clear y0 y1 y2 y3 y4 y5 y6 y7 yk HM HBB
      clear wu
      go_wp2_with fail
      generalize wr.drew = wq at z0 z1 z2 z3 z4 z5 z6 HQ HQB ⊢
      have wu : ∀ x : Int, IntKind.u32.wrap x = x % 4294967296 := fun x => IntKind.wrap_u32 x
      refine wp_region_still_lit (by kernel_rfl) (by kernel_rfl) ?_
      repeat still_step
      still_call (three_low _ _)
      repeat still_step
      refine wpStill_nil ?_
      clear wu
      have HSZ := Lib.hid (show (nums .u32 s).toArray.size = (nums .u32 (rnd s (bn KL t) (bn ws t))).toArray.size by rw [nums_size, nums_size, HS.out]; rfl)
      go_wp2_with (refine wpList_store_row rfl T8 (.tmp 5) (.tmp 88) rfl (W.heap.size + 1) (nums .u32 (rnd s (bn KL t) (bn ws t))).toArray rfl rfl T8 _ HQ.out info8 HSZ.out (nums_one _) ?_)
      go_roundw
      case rel =>
        exact ⟨t + 1, rnd s (bn KL t) (bn ws t), by omega, by go_num, rfl, ⟨by rw [HA.out]; rfl⟩, setRow_heap _ _ _ _ _ _ HQ.out, below_setRow (below_drew1 HQB.out) (by omega) _⟩
      case measure => simp [intOf]; omega
    · have HT := Lib.hid (show t = 64 by omega)
      have hA := HA.out
      rw [show t = 64 from HT.out, ← H1.out] at hA
      subst hA
      have HW := Lib.hid (Wrote.of_below (g := g) hb)
      have HHB := Lib.hid (show HB wr g st v n from (hb.block g hgl).trans HH.out)
      have HI := Lib.hid (show (Tryd.prog.info? T8).map (·.size) = some (nums .u32 s).toArray.size by rw [nums_size, hs]; exact info8)
      clear hm hb hs HA HBB HH
      go_wp2_with ((with_reducible refine gate_dst (N := 90) rfl ?_); refine wpList_load_row rfl T8 (.tmp 5) rfl (W.heap.size + 1) rfl T8 _ (0, 0) _ HM.out Tryd.underlying43 rfl HI.out ?_)
      obtain ⟨wo, rfl⟩ : ∃ wo : World, wo = wr := ⟨_, rfl⟩
      go_loopw [91] (fun v91 wq => ∃ i : Nat, i ≤ 8 ∧ v91 = .int .i64 i ∧ HB wq g (adds st s i) v n ∧ Wrote g W wq) (fun v91 _ => 8 - (intOf v91).toNat)
      case atStart => exact ⟨0, by omega, rfl, HHB.out, HW.out⟩
      case round =>
        obtain ⟨i, hi, rfl, hhb, hw⟩ := hrel
        have HHQ := Lib.hid hhb
        have HWQ := Lib.hid hw
        by_cases hlt2 : i < 8
        · have hal : (adds st s i).length = 8 := adds_len s HST.out i
          have hc := hb_cell hhb i (by omega)
          have hf := blk_frozen hhb i
          have hix : ∀ w : World, (Instr.index T8 (.agg (nums .u32 s).toArray) (.int .i64 (i : Int))).run Tryd.prog w = .ok (.int .u32 (bn s i)) w := fun w => run_index_nums (P := Tryd.prog) T8 42 8 s i w Tryd.underlying43 Tryd.underlying42 infoE HS.out hlt2
          have hi8 : (i : Int) < 8 := by omega
          have HSet := Lib.hid (fun x => hb_set hhb i (by omega) x)
          clear hhb hw hal
          go_wp2
          have wu : ∀ x : Int, IntKind.u32.wrap x = x % 4294967296 := fun x => IntKind.wrap_u32 x
          go_still_tail 11, (by kernel_rfl)
          change wpList _ _ _ _ _ wr.drew
          clear wu
          go_wp2
          go_roundw
          case rel => exact ⟨i + 1, by omega, by go_num, HSet.out _, (wrote_setCell HWQ.out _ _).drew⟩
          case measure => simp [intOf]; omega
        · have HI8 := Lib.hid (show i = 8 by omega)
          go_wp2
          go_end0
          rw [show i = 8 from HI8.out, ← H2.out] at hhb
          exact ⟨rfl, hhb, hw⟩

theorem take_any (g : Nat) (st ws : List Int) (v : Value) (n : Int) (W : World) (hst : st.length = 8) (hws : ws.length = 64) (hg : 0 < g) (hK : KB W) (hh : HB W g st v n) :
    Calls Tryd.prog 20 #[.pointer (some ⟨g, 0, none⟩), .agg (nums .u32 ws).toArray] W fun e w' => e = .returned (.tuple #[]) ∧ HB w' g (taken st ws) v n ∧ Wrote g W w' :=
  take_gen g st ws v n _ _ W hst hws rfl rfl hg hK hh
end Go.Proofs.YthgmhjgbjodhjaaDoor.Sha2
