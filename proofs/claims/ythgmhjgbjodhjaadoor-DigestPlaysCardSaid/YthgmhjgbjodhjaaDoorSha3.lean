/- A digest that is being made: made new, written to; what it holds, and what stays as it was. -/
import Derived.Test.YthgmhjgbjodhjaaDoorSha2
import Derived.Test.YthgmhjgbjodhjaaDoorClone
import Derived.Deep.AppendSrc
namespace Go.Proofs.YthgmhjgbjodhjaaDoor.Sha3
open Go.Proofs.YthgmhjgbjodhjaaDoor Go.RowKit Go.Proofs.YthgmhjgbjodhjaaDoorW.PrintWords Go.Proofs.YthgmhjgbjodhjaaDoorW.PrintLast Go.Proofs.YthgmhjgbjodhjaaDoorW.PrintMore Go.Proofs.YthgmhjgbjodhjaaDoor.Sha Go.Proofs.YthgmhjgbjodhjaaDoor.Sha2
set_option linter.unusedVariables false

/-- Bytes that are read at an address. -/
def RC (w : World) (A : Option Addr) (l : List Int) : Prop := l ≠ [] → ∃ a, A = some a ∧ a.block < w.heap.size ∧ ∀ j : Nat, j < l.length → w.cell? (a.add j) = some (.int .u8 (bn l j))
/-- They lie in another block than g. -/
def Off (g : Nat) (A : Option Addr) : Prop := ∀ a, A = some a → a.block ≠ g

theorem add_block (a : Addr) (j : Nat) : (a.add j).block = a.block := by
  unfold Addr.add; split <;> rfl

theorem RC.of_C {w : World} {A : Option Addr} {l : List Int} (h : Kd.C (Kd.int .u8) w A l.length l) : RC w A l := by
  intro hl
  have h0 : 0 < l.length := List.length_pos_iff.mpr hl
  obtain ⟨a, rfl, hc⟩ := byte_at h 0 h0
  refine ⟨a, rfl, ?_, fun j hj => ?_⟩
  · have := block_lt_of_cell hc
    rwa [add_block] at this
  · obtain ⟨b, e, hx⟩ := byte_at h j hj
    cases e
    exact hx
theorem RC.to_C {w : World} {A : Option Addr} {l : List Int} (h : RC w A l) (hl : l.length ≤ 9223372036854775807) : Kd.C (Kd.int .u8) w A l.length l := by
  refine Kd.C_of_reads (d := (0 : Int)) (h1 := fun _ => rfl) ?_
  refine ⟨rfl, hl, fun hn => ?_⟩
  obtain ⟨a, e, _, hc⟩ := h (by intro e; subst e; simp at hn)
  refine ⟨a, e, fun j hj => ?_⟩
  rw [hc j hj]
  simp [bn, rd]
theorem RC.wrote {g : Nat} {w w' : World} {A : Option Addr} {l : List Int} (h : RC w A l) (hg : Off g A) (hw : Wrote g w w') : RC w' A l := by
  intro hl
  obtain ⟨a, rfl, hs, hc⟩ := h hl
  refine ⟨a, rfl, Nat.lt_of_lt_of_le hs hw.size, fun j hj => ?_⟩
  rw [World.cell?_of_block (w := w) (by rw [add_block]; exact hw.block _ hs (hg a rfl))]
  exact hc j hj
theorem RC.wrote' {g : Nat} {w w' : World} {A : Option Addr} {l : List Int} (h : RC w A l) (hg : l ≠ [] → Off g A) (hw : Wrote g w w') : RC w' A l := fun hl => (h.wrote (hg hl) hw) hl
theorem RC.off {g : Nat} {w : World} {A : Option Addr} {l : List Int} (h : RC w A l) (hg : w.heap.size ≤ g) : l ≠ [] → Off g A := by
  intro hl a ha
  obtain ⟨b, e, hb, _⟩ := h hl
  rw [ha] at e
  cases e
  omega
theorem RC.below {w w' : World} {A : Option Addr} {l : List Int} (h : RC w A l) (hw : Below w.heap.size w w') : RC w' A l := by
  intro hl
  obtain ⟨a, rfl, hs, hc⟩ := h hl
  refine ⟨a, rfl, Nat.lt_of_lt_of_le hs hw.size, fun j hj => ?_⟩
  rw [World.cell?_of_block (w := w) (by rw [add_block]; exact hw.block _ hs)]
  exact hc j hj
theorem RC.nil (w : World) (A : Option Addr) : RC w A [] := fun h => absurd rfl h
theorem bn_drop (l : List Int) (k j : Nat) : bn (l.drop k) j = bn l (k + j) := by
  unfold bn rd
  rw [Int.toNat_natCast, Int.toNat_natCast, List.getD_eq_getElem?_getD, List.getD_eq_getElem?_getD, List.getElem?_drop]
theorem bn_take (l : List Int) (k j : Nat) (h : j < k) : bn (l.take k) j = bn l j := by
  unfold bn rd
  rw [Int.toNat_natCast, List.getD_eq_getElem?_getD, List.getD_eq_getElem?_getD, List.getElem?_take, if_pos h]
theorem RC.drop {w : World} {a : Addr} {l : List Int} (h : RC w (some a) l) (k : Nat) : RC w (some (a.add k)) (l.drop k) := by
  intro hl
  have hlt : k < l.length := by
    rcases Nat.lt_or_ge k l.length with h | h
    · exact h
    · exact absurd (List.drop_eq_nil_of_le h) hl
  obtain ⟨b, e, hs, hc⟩ := h (by intro e; subst e; simp at hlt)
  cases e
  refine ⟨_, rfl, by rw [add_block]; exact hs, fun j hj => ?_⟩
  rw [Addr.add_add, bn_drop]
  exact hc (k + j) (by rw [List.length_drop] at hj; omega)
theorem RC.take {w : World} {A : Option Addr} {l : List Int} (h : RC w A l) (k : Nat) : RC w A (l.take k) := by
  intro hl
  obtain ⟨a, rfl, hs, hc⟩ := h (by intro e; subst e; simp at hl)
  refine ⟨a, rfl, hs, fun j hj => ?_⟩
  rw [List.length_take] at hj
  rw [bn_take l k j (by omega)]
  exact hc j (by omega)

/-- A new block that begins with bytes. -/
theorem RC.row {w : World} {g : Nat} {l : List Int} {rest : Array Value} {t : TypeId} {fr : Nat × Nat} (h : w.heap[g]? = some (.cells ((nums .u8 l).toArray ++ rest) t fr)) : RC w (some ⟨g, 0, none⟩) l := by
  intro _
  refine ⟨_, rfl, (Array.getElem?_eq_some_iff.1 h).1, fun j hj => ?_⟩
  have hadd : (⟨g, 0, none⟩ : Addr).add j = ⟨g, j, none⟩ := by unfold Addr.add; split <;> simp_all
  rw [hadd, cell_of_row w g j _ t fr h, Array.getElem?_append_left (by simpa [nums] using hj), List.getElem?_toArray]
  simp only [nums, List.getElem?_map]
  rw [List.getElem?_eq_getElem hj]
  simp [bn, rd, List.getD_eq_getElem?_getD, List.getElem?_eq_getElem hj]

theorem cells_of_RC {w : World} {a : Addr} {l : List Int} (h : RC w (some a) l) : ∀ j v, (nums .u8 l)[j]? = some v → w.cell? (a.add j) = some v := by
  intro j v hv
  have hj : j < l.length := by simpa [nums] using (List.getElem?_eq_some_iff.mp hv).1
  obtain ⟨b, e, _, hc⟩ := h (by intro e; subst e; simp at hj)
  cases e
  rw [hc j hj, ← hv]
  simp [nums, bn, rd, List.getD_eq_getElem?_getD, List.getElem?_eq_getElem hj]

abbrev TB : Nat := 22
theorem info5 : (Tryd.prog.info? 5).map (fun i => (i.zero, i.size, i.bytes)) = some (some (.int .u8 0), 1, 1) := by kernel_rfl

/-- Bytes put behind a slice that is full: in new memory, or there is nothing to put. -/
theorem run_append_full (w : World) (ty : TypeId) (A : Option Addr) (B : Option Addr) (c : Nat) (rest l : List Int) (hA : RC w A rest) (hB : RC w B l) (hl : rest.length + l.length ≤ 100000000) :
    ∃ A' c' w', (Builtin.append_ #[TB, TB] ty #[.slice A rest.length rest.length, .slice B l.length c]).run Tryd.prog w = .ok (.slice A' (rest.length + l.length) c') w' ∧ RC w' A' (rest ++ l) ∧ rest.length + l.length ≤ c' ∧ Below w.heap.size w w' ∧ (A' = A ∨ A' = some ⟨w.heap.size, 0, none⟩) := by
  obtain ⟨i, hi, hz, hsz, hby⟩ := info_parts info5
  have ht : Tryd.prog.underlying TB = some (.slice 5) := Tryd.underlying22
  by_cases h0 : l = []
  · subst h0
    refine ⟨A, rest.length, w, ?_, by rw [List.append_nil]; exact hA, by simp, Below.refl _ _, .inl rfl⟩
    cases A <;> cases B <;> simp [Builtin.append_, run_underlying ht, sizeOf, typeInfo, hi, Builtin.lenOf, Builtin.firstCells, loadCells, loadCellsFrom, storeCells]
  · obtain ⟨b, rfl, _, _⟩ := hB h0
    have hpos : 0 < l.length := List.length_pos_iff.mpr h0
    have hcB := cells_of_RC hB
    have hnl : (nums .u8 l).length = l.length := by simp [nums]
    have hnr : (nums .u8 rest).length = rest.length := by simp [nums]
    have hone : ∀ u ∈ nums .u8 l, u.oneCell' = true := by
      intro u hu
      simp only [nums, List.mem_map] at hu
      obtain ⟨n, _, rfl⟩ := hu
      rfl
    have hs : Src Tryd.prog i.size TB (.slice (some b) l.length c) l.length (nums .u8 l) w := Src.ofSlice w ht b l.length c (nums .u8 l) (by rw [hsz, hnl]; omega) hcB hone
    have hold : (Builtin.firstCells i.size rest.length (.slice A rest.length rest.length)).run Tryd.prog w.drew = .ok (nums .u8 rest).toArray w.drew := by
      by_cases hr : rest = []
      · subst hr
        cases A with
        | none => exact run_firstCells_none w.drew i.size 0 0 0
        | some a => exact run_firstCells_some w.drew i.size 0 a 0 0 [] (by simp) (fun j v hv => by simp at hv)
      · obtain ⟨a, rfl, _, _⟩ := hA hr
        exact run_firstCells_some w.drew i.size rest.length a rest.length rest.length (nums .u8 rest) (by rw [hsz, hnr]; omega) (by simpa using cells_of_RC hA)
    have hr := run_append_grow_src (P := Tryd.prog) w TB TB ty 5 i (.int .u8 0) ht hi hz A rest.length rest.length (nums .u8 rest) hold (.slice (some b) l.length c) l.length (nums .u8 l) hs (by omega) (by omega) (growslice_fits (by omega) (by rw [hby]; omega))
    refine ⟨_, _, _, hr, ?_, grownCap_ge _ _ _ _, (Below.refl _ _).drew.alloc (Nat.le_refl _) _, .inr rfl⟩
    refine RC.row (g := w.heap.size) (t := 5) (fr := (0, 0)) (rest := Builtin.zeroCells (Value.int IntKind.u8 0).cells (grownCap w (rest.length + l.length) rest.length 5 - (rest.length + l.length))) ?_
    have hb := heap_alloc_new w.drew (.cells ((nums .u8 rest ++ nums .u8 l).toArray ++ Builtin.zeroCells (Value.int IntKind.u8 0).cells (grownCap w (rest.length + l.length) rest.length 5 - (rest.length + l.length))) 5)
    rw [show nums .u8 (rest ++ l) = nums .u8 rest ++ nums .u8 l by simp [nums]]
    exact hb

theorem wpList_append_full {ops : Array Oper} {rs : List Oper} {o : Oper} {a : Act} {w : World} {Q : Exit → Act → World → Prop} (hgd : o.guard = none) (s x : Operand)
    (ho : o.op = .call { callee := .builtin .append, args := #[s, x], argTypes := #[TB, TB] }) (A B : Option Addr) (c : Nat) (rest l : List Int) (hs : a.eval s = .slice A rest.length rest.length) (hx : a.eval x = .slice B l.length c) (hA : RC w A rest) (hB : RC w B l) (hl : rest.length + l.length ≤ 100000000)
    (h : ∀ A' c' w', RC w' A' (rest ++ l) → rest.length + l.length ≤ c' → Below w.heap.size w w' → (A' = A ∨ A' = some ⟨w.heap.size, 0, none⟩) → wpList Tryd.prog ops Q rs (a.put o.dst (.slice A' (rest.length + l.length) c')) w') : wpList Tryd.prog ops Q (o :: rs) a w :=
  wpList_plain hgd fun _ hK => by
    obtain ⟨A', c', w', hr, h1, h2, h3, h4⟩ := run_append_full w o.type A B c rest l hA hB hl
    unfold Oper.wp execOp
    simp only [ho, resolve, invoke, builtin, Sem.run_bind, Sem.run_pure, Result.andThen_ok, List.map_toArray, List.map_cons, List.map_nil, hs, hx, hr]
    exact hK _ _ (h A' c' w' h1 h2 h3 h4)

theorem clone_rc (A : Option Addr) (c : Nat) (l : List Int) (w : World) (h : RC w A l) (hc : l.length ≤ c) (hl : l.length ≤ 100000000) :
    Calls Tryd.prog 22 #[.slice A l.length c] w fun e w' => ∃ A' c', e = .returned (.slice A' l.length c') ∧ l.length ≤ c' ∧ RC w' A' l ∧ (∀ a, A' = some a → w.heap.size ≤ a.block ∧ a.block < w'.heap.size) ∧ Below w.heap.size w w' := by
  refine (Clone.clone_calls A c l l w (h.to_C (by omega)) hc (by unfold Clone.cloneF; rw [if_pos (by omega)])).mono ?_
  rintro e w' ⟨v, rfl, ho, hb⟩
  obtain ⟨A', c', rfl⟩ := Kd.R_slice ho
  have hr := Kd.R_reads' ho
  exact ⟨A', c', rfl, hr.2.1, RC.of_C hr.2.2, fun a e => ⟨Kd.R_base ho a.block (by rw [e]; rfl), Kd.R_lt ho a.block (by rw [e]; rfl)⟩, hb⟩

/-- The state behind j blocks of what there is. -/
def eats (st all : List Int) : Nat → List Int
  | 0 => st
  | j + 1 => taken (eats st all j) (wds ((all.drop (64 * j)).take 64) 64)
def eaten (st all : List Int) : List Int := eats st all (all.length / 64)
def left (all : List Int) : List Int := all.drop (64 * (all.length / 64))

theorem taken_len {st : List Int} (ws : List Int) (h : st.length = 8) : (taken st ws).length = 8 := adds_len _ h 8
theorem eats_len {st : List Int} (all : List Int) (h : st.length = 8) (j : Nat) : (eats st all j).length = 8 := by
  cases j with
  | zero => exact h
  | succ j => exact taken_len _ (eats_len all h j)
theorem left_len (all : List Int) : (left all).length < 64 := by
  unfold left; rw [List.length_drop]; omega
theorem bytes_drop {l : List Int} (h : Bytes l) (k : Nat) : Bytes (l.drop k) := fun j => by rw [bn_drop]; exact h _
theorem bytes_take {l : List Int} (h : Bytes l) (k : Nat) : Bytes (l.take k) := fun j => by
  by_cases hj : j < k
  · rw [bn_take l k j hj]; exact h j
  · unfold bn rd
    rw [Int.toNat_natCast, List.getD_eq_getElem?_getD, List.getElem?_take, if_neg hj]
    simp
theorem bytes_append {a b : List Int} (ha : Bytes a) (hb : Bytes b) : Bytes (a ++ b) := fun j => by
  by_cases hj : j < a.length
  · have : bn (a ++ b) j = bn a j := by
      unfold bn rd
      rw [Int.toNat_natCast, List.getD_eq_getElem?_getD, List.getElem?_append_left hj, List.getD_eq_getElem?_getD]
    rw [this]; exact ha j
  · have : bn (a ++ b) j = bn b (j - a.length) := by
      unfold bn rd
      rw [Int.toNat_natCast, Int.toNat_natCast, List.getD_eq_getElem?_getD, List.getElem?_append_right (by omega), List.getD_eq_getElem?_getD]
    rw [this]; exact hb _

def slen : Value → Nat
  | .slice _ m _ => m
  | _ => 0

/-- A digest that is being made: at g, its state, what is left, how many bytes so far. -/
def H (w : World) (g : Nat) (st rest : List Int) (n : Nat) : Prop := ∃ A c, HB w g st (.slice A rest.length c) (n : Int) ∧ rest.length ≤ c ∧ RC w A rest ∧ Off g A

theorem hb_rest {w : World} {g : Nat} {l : List Int} {v : Value} {n : Int} (h : HB w g l v n) (hl : l.length = 8) : w.cell? ⟨g, 8, none⟩ = some v := by
  rw [blk_cell h, List.getElem?_toArray, List.getElem?_append_right (by simp [nums]; omega)]
  simp [nums, hl]
theorem hb_n {w : World} {g : Nat} {l : List Int} {v : Value} {n : Int} (h : HB w g l v n) (hl : l.length = 8) : w.cell? ⟨g, 9, none⟩ = some (.int .i64 n) := by
  rw [blk_cell h, List.getElem?_toArray, List.getElem?_append_right (by simp [nums]; omega)]
  simp [nums, hl]
theorem hb_set_rest {w : World} {g : Nat} {l : List Int} {v : Value} {n : Int} (h : HB w g l v n) (hl : l.length = 8) (u : Value) : HB (w.setCell ⟨g, 8, none⟩ u) g l u n := by
  refine (blk_set h 8 _).trans ?_
  congr 2
  simp only [List.setIfInBounds_toArray]
  rw [List.set_append_right _ _ (by simp [nums]; omega)]
  simp [nums, hl]
theorem hb_set_n {w : World} {g : Nat} {l : List Int} {v : Value} {n : Int} (h : HB w g l v n) (hl : l.length = 8) (m : Int) : HB (w.setCell ⟨g, 9, none⟩ (.int .i64 m)) g l v m := by
  refine (blk_set h 9 _).trans ?_
  congr 2
  simp only [List.setIfInBounds_toArray]
  rw [List.set_append_right _ _ (by simp [nums]; omega)]
  simp [nums, hl]

set_option maxHeartbeats 4000000 in
set_option maxRecDepth 100000 in
theorem write_any (g : Nat) (st rest l : List Int) (n : Nat) (B : Option Addr) (cb : Nat) (W : World) (hst : st.length = 8) (hr : Bytes rest) (hl : Bytes l) (hrl : rest.length ≤ 1000) (hll : l.length ≤ 10000000) (hn : n ≤ 1000000000000)
    (hg : 0 < g) (hK : KB W) (hh : H W g st rest n) (hB : RC W B l) (hOB : l ≠ [] → Off g B) (hcb : l.length ≤ cb) :
    Calls Tryd.prog 15 #[.pointer (some ⟨g, 0, none⟩), .slice B l.length cb] W fun e w' => e = .returned (.tuple #[]) ∧ H w' g (eaten st (rest ++ l)) (left (rest ++ l)) (n + l.length) ∧ Wrote g W w' := by
  obtain ⟨A, c, hh, hrc, hA, hOA⟩ := hh
  have HST := Lib.hid hst
  have HR := Lib.hid hr
  have HL := Lib.hid hl
  have HK := Lib.hid hK
  have HH := Lib.hid hh
  have HA := Lib.hid hA
  have HOA := Lib.hid hOA
  have HBB := Lib.hid hB
  have HOB := Lib.hid hOB
  have xn := hb_n hh hst
  have xr := hb_rest hh hst
  have xf := blk_frozen hh 9
  have hgl := blk_lt hh
  clear hst hr hl hK hh hA hOA hB hOB
  go_enter Tryd.func15, Tryd.ntmps15
  go_wp2
  have hw1 : Wrote g W (W.setCell ⟨g, 9, none⟩ (.int .i64 ((n : Int) + (l.length : Int)))) := wrote_setCell (Wrote.refl g W) 9 _
  have h1 := hb_set_n HH.out HST.out ((n : Int) + (l.length : Int))
  generalize W.setCell ⟨g, 9, none⟩ (.int .i64 ((n : Int) + (l.length : Int))) = W1 at hw1 h1 ⊢
  have yr := hb_rest h1 HST.out
  have H1 := Lib.hid h1
  have HA1 := Lib.hid (HA.out.wrote HOA.out hw1)
  have HB1 := Lib.hid (HBB.out.wrote' HOB.out hw1)
  have HW1 := Lib.hid hw1
  clear xn xr xf hw1 h1
  go_still_tail 16, (by kernel_rfl)
  change wpList _ _ _ _ _ W1.drew
  have HA2 := Lib.hid (HA1.out.below (below_drew1 (Below.refl _ _)))
  have HB2 := Lib.hid (HB1.out.below (below_drew1 (Below.refl _ _)))
  have HW2 := Lib.hid (HW1.out.drew)
  have H2 := Lib.hid (show HB W1.drew g st _ _ from H1.out)
  clear HA1 HB1 HW1 H1 yr
  generalize W1.drew = W2 at HA2 HB2 HW2 H2 ⊢
  go_wp2_with ((with_reducible refine gate_builtin (b := .append) (xs := #[.tmp 30, .tmp 31]) rfl ?_); refine wpList_append_full rfl (.tmp 30) (.tmp 31) rfl A B cb rest l rfl rfl HA2.out HB2.out (by omega) ?_; intro A' c' w2 hrc2 hc2 hb2 ho2; have HC2 := Lib.hid hrc2; have HBe := Lib.hid hb2; have HO2 := Lib.hid ho2; clear hrc2 hb2 ho2)
  obtain ⟨all, hall⟩ : ∃ all : List Int, all = rest ++ l := ⟨_, rfl⟩
  obtain ⟨N, hN⟩ : ∃ N : Nat, N = rest.length + l.length := ⟨_, rfl⟩
  have hNl : all.length = N := by rw [hall, hN, List.length_append]
  have HNL := Lib.hid hNl
  have HN := Lib.hid hN
  have hN1 : N ≤ 10001000 := by omega
  have HOff : Off g A' := by
    rcases HO2.out with e | e
    · rw [e]; exact HOA.out
    · rw [e]; intro a ha; cases ha; have := HW2.out.size; show W2.heap.size ≠ g; omega
  have hh2 : HB w2 g st (.slice A rest.length c) ((n : Int) + (l.length : Int)) := (HBe.out.block g (Nat.lt_of_lt_of_le hgl HW2.out.size)).trans H2.out
  have H3 := Lib.hid hh2
  have HW3 := Lib.hid (HW2.out.trans (Wrote.of_below (g := g) HBe.out))
  have hrc3 := HC2.out
  have hbys := bytes_append HR.out HL.out
  rw [← hall] at hrc3 hbys
  have HC3 := Lib.hid hrc3
  have HBY := Lib.hid hbys
  have HALL := Lib.hid hall
  have HOFF := Lib.hid HOff
  have ES : Aside0 (eaten st all = eats st all (N / 64) ∧ left all = all.drop (64 * (N / 64))) := ⟨by unfold eaten left; rw [hNl]; exact ⟨rfl, rfl⟩⟩
  clear hh2 hrc3 hbys HOff HC2 H2 HW2 HBe HA2 HB2 HO2 hall hNl
  rw [← hN] at hc2 ⊢
  clear hN
  go_loopw [4] (fun v4 wr => ∃ (j : Nat) (Aj : Option Addr) (m cj : Nat), m + 64 * j = N ∧ m ≤ cj ∧ v4 = .slice Aj m cj ∧ RC wr Aj (all.drop (64 * j)) ∧ Off g Aj ∧ HB wr g (eats st all j) (.slice A rest.length c) ((n : Int) + (l.length : Int)) ∧ Wrote g W wr) (fun v4 _ => slen v4)
  case atStart => exact ⟨0, A', N, c', by omega, hc2, rfl, HC3.out, HOFF.out, H3.out, HW3.out⟩
  case round =>
    obtain ⟨j, Aj, m, cj, hm, hmc, rfl, hrc, hoff, hhb, hw⟩ := hrel
    have HM := Lib.hid hm
    have HRC := Lib.hid hrc
    have HOJ := Lib.hid hoff
    have HHB := Lib.hid hhb
    have HWJ := Lib.hid hw
    have hdl : (all.drop (64 * j)).length = m := by rw [List.length_drop, HNL.out]; omega
    by_cases hlt : 64 ≤ m
    · obtain ⟨ad, hAj, _, _⟩ := hrc (by intro e; rw [e] at hdl; simp at hdl; omega)
      subst hAj
      have htl : ((all.drop (64 * j)).take 64).length = 64 := by rw [List.length_take, hdl]; omega
      have HT := Lib.hid htl
      have HCT := Lib.hid ((hrc.take 64).to_C (by rw [htl]; decide))
      have HBT := Lib.hid (bytes_take (bytes_drop HBY.out (64 * j)) 64)
      have HEL := Lib.hid (eats_len all HST.out j)
      have hm64 : ¬ m < 64 := by omega
      have hcj : 64 ≤ cj := by omega
      clear hm hrc hoff hhb hw hdl htl
      by_cases hc64 : cj = 64
      · subst hc64
        have HM64 := Lib.hid (show m = 64 by omega)
        clear hcj
        go_wp2_with (first
          | (go_at_call 21; (with_reducible refine (words_any _ _ ((all.drop (64 * j)).take 64) _ HT.out HCT.out (by rw [HT.out]; omega) HBT.out).mono ?_); rintro e w4 ⟨rfl, hb4⟩; have HBL := Lib.hid hb4; clear hb4; have HHB4 := Lib.hid (show HB w4 g _ _ _ from (HBL.out.block g (Nat.lt_of_lt_of_le hgl HWJ.out.size)).trans HHB.out); have HWJ4 := Lib.hid (HWJ.out.trans (Wrote.of_below (g := g) HBL.out)); have HRC4 := Lib.hid (HRC.out.below HBL.out))
          | (go_at_call 20; (with_reducible refine (take_any g _ _ _ _ _ HEL.out (wds_len _ 64) hg (HK.out.wrote HWJ4.out hg) HHB4.out).mono ?_); rintro e w5 ⟨rfl, hh5, hw5⟩; have HHB5 := Lib.hid hh5; have HW5 := Lib.hid (HWJ4.out.trans hw5); have HRC5 := Lib.hid (HRC4.out.wrote HOJ.out hw5); clear hh5 hw5))
        go_roundw
        case rel =>
          refine ⟨j + 1, some ad, 0, 0, by have := HM.out; have := HM64.out; omega, by omega, rfl, ?_, HOJ.out, HHB5.out, HW5.out⟩
          have e : all.drop (64 * (j + 1)) = [] := List.drop_eq_nil_of_le (by have := HM.out; have := HNL.out; have := HM64.out; omega)
          rw [e]; exact RC.nil _ _
        case measure => simp [slen]; omega
      · go_wp2_with (first
          | (go_at_call 21; (with_reducible refine (words_any _ _ ((all.drop (64 * j)).take 64) _ HT.out HCT.out (by rw [HT.out]; omega) HBT.out).mono ?_); rintro e w4 ⟨rfl, hb4⟩; have HBL := Lib.hid hb4; clear hb4; have HHB4 := Lib.hid (show HB w4 g _ _ _ from (HBL.out.block g (Nat.lt_of_lt_of_le hgl HWJ.out.size)).trans HHB.out); have HWJ4 := Lib.hid (HWJ.out.trans (Wrote.of_below (g := g) HBL.out)); have HRC4 := Lib.hid (HRC.out.below HBL.out))
          | (go_at_call 20; (with_reducible refine (take_any g _ _ _ _ _ HEL.out (wds_len _ 64) hg (HK.out.wrote HWJ4.out hg) HHB4.out).mono ?_); rintro e w5 ⟨rfl, hh5, hw5⟩; have HHB5 := Lib.hid hh5; have HW5 := Lib.hid (HWJ4.out.trans hw5); have HRC5 := Lib.hid (HRC4.out.wrote HOJ.out hw5); clear hh5 hw5))
        go_roundw
        case rel =>
          refine ⟨j + 1, some (ad.add 64), m - 64, cj - 64, by have := HM.out; omega, by omega, rfl, ?_, ?_, HHB5.out, HW5.out⟩
          · have := HRC5.out.drop 64
            rw [List.drop_drop] at this
            exact this
          · intro a ha; cases ha; rw [add_block]; exact HOJ.out ad rfl
        case measure => simp [slen]; omega
    · have hm2 : ¬ 64 ≤ (m : Int) := by omega
      have hcl := clone_rc Aj cj (all.drop (64 * j)) wr hrc (by omega) (by omega)
      rw [hdl] at hcl
      have HCL := Lib.hid hcl
      have HDL := Lib.hid hdl
      clear hm hrc hoff hhb hw hdl hcl
      go_wp2_with (go_at_call 22; (with_reducible refine HCL.out.mono ?_); rintro e w7 ⟨A7, c7, rfl, hc7, hr7, hg7, hb7⟩; have HHB7 := Lib.hid (show HB w7 g _ _ _ from (hb7.block g (Nat.lt_of_lt_of_le hgl HWJ.out.size)).trans HHB.out); have HRC7 := Lib.hid hr7; have HW7 := Lib.hid (HWJ.out.trans (Wrote.of_below (g := g) hb7)); have HG7 := Lib.hid hg7; have x8 := hb_rest HHB7.out (eats_len all HST.out j); have f8 := blk_frozen HHB7.out 8; clear hr7 hg7 hb7)
      go_end0
      have hj : j = N / 64 := by have := HM.out; omega
      have hes := ES.out
      rw [← hj] at hes
      rw [← HALL.out, hes.1, hes.2]
      refine ⟨rfl, ⟨A7, c7, ?_, ?_, ?_, ?_⟩, ?_⟩
      · rw [HDL.out]; exact hb_set_rest HHB7.out (eats_len all HST.out j) _
      · rw [HDL.out]; exact hc7
      · exact HRC7.out.wrote (g := g) (fun a ha => by have := HG7.out a ha; have := HWJ.out.size; omega) (wrote_setCell (Wrote.refl g _) 8 _)
      · intro a ha; have := HG7.out a ha; have := HWJ.out.size; omega
      · exact wrote_setCell HW7.out 8 _
end Go.Proofs.YthgmhjgbjodhjaaDoor.Sha3
