/- Rows of bytes in memory of their own, written over and gone on with: what stays as it was. -/
import Derived.Test.YthgmhjgbjodhjaaDoorProg
import Derived.Test.YthgmhjgbjodhjaaDoorWMore
import Derived.WalkKit
import Derived.KernelRfl
import Derived.Lib.Hide
import Derived.Deep.Onto
namespace Go.Proofs.YthgmhjgbjodhjaaDoor.Own3
open Go Go.RowKit Go.Proofs.YthgmhjgbjodhjaaDoorW.PrintWords Go.Proofs.YthgmhjgbjodhjaaDoorW.PrintLast Go.Proofs.YthgmhjgbjodhjaaDoorW.PrintMore
set_option linter.unusedVariables false
set_option linter.unusedSimpArgs false
/-- A row's block: its room; nothing of it is frozen. -/
def ROOM (w : World) (g cap : Nat) : Prop := ∃ cur : Array Value, w.heap[g]? = some (.cells cur 5 (0, 0)) ∧ cur.size = cap ∧ cap ≤ maxLen
theorem ROOM.lt {w : World} {g cap : Nat} (h : ROOM w g cap) : g < w.heap.size := by
  obtain ⟨cur, h1, _⟩ := h
  exact blk_lt h1
theorem ROOM.max {w : World} {g cap : Nat} (h : ROOM w g cap) : cap ≤ maxLen := by
  obtain ⟨cur, _, _, h3⟩ := h
  exact h3
theorem ROOM.isSome {w : World} {g cap : Nat} (h : ROOM w g cap) (j : Nat) (hj : j < cap) : (w.cell? ⟨g, j, none⟩).isSome = true := by
  obtain ⟨cur, h1, h2, _⟩ := h
  rw [blk_cell h1, Array.getElem?_eq_getElem (by omega)]
  rfl
theorem ROOM.frozen {w : World} {g cap : Nat} (h : ROOM w g cap) (j : Nat) : w.frozen? ⟨g, j, none⟩ = false := by
  obtain ⟨cur, h1, _⟩ := h
  exact blk_frozen h1 j
theorem ROOM.of {w w' : World} {g cap : Nat} (h : ROOM w g cap) (e : w'.heap[g]? = w.heap[g]?) : ROOM w' g cap := by
  obtain ⟨cur, h1, h2⟩ := h
  exact ⟨cur, e.trans h1, h2⟩
theorem ROOM.set {w : World} {g cap : Nat} (h : ROOM w g cap) (g' j : Nat) (u : Value) : ROOM (w.setCell ⟨g', j, none⟩ u) g cap := by
  by_cases e : g = g'
  · subst e
    obtain ⟨cur, h1, h2, h3⟩ := h
    exact ⟨_, blk_set h1 j u, by rw [Array.size_setIfInBounds]; exact h2, h3⟩
  · exact h.of (Below.heap_setCell w _ _ _ e)
/-- The first n cells are bytes; the first k of them are x. -/
def PART (w : World) (g n k : Nat) (x : Int) : Prop := ∀ j, j < n → ∃ y, w.cell? ⟨g, j, none⟩ = some (.int .u8 y) ∧ (j < k → y = x)
theorem PART.zero {w : World} {g n : Nat} {x : Int} {k : Nat} (h : PART w g n k x) (x' : Int) : PART w g n 0 x' := fun j hj => by
  obtain ⟨y, h1, _⟩ := h j hj
  exact ⟨y, h1, fun h => absurd h (Nat.not_lt_zero _)⟩
theorem PART.full {w : World} {g n : Nat} {x : Int} (h : PART w g n n x) (j : Nat) (hj : j < n) : w.cell? ⟨g, j, none⟩ = some (.int .u8 x) := by
  obtain ⟨y, h1, h2⟩ := h j hj
  rw [h1, h2 hj]
theorem PART.step {w : World} {g n k : Nat} {x : Int} (h : PART w g n k x) (hk : k < n) : PART (w.setCell ⟨g, k, none⟩ (.int .u8 x)) g n (k + 1) x := fun j hj => by
  by_cases e : j = k
  · subst e
    obtain ⟨y, h1, _⟩ := h j hj
    exact ⟨x, World.cell?_setCell_same _ _ _ h1, fun _ => rfl⟩
  · obtain ⟨y, h1, h2⟩ := h j hj
    exact ⟨y, (World.cell?_setCell_other _ _ _ _ (by intro e'; injection e' with _ e' _; exact e e'.symm)).trans h1, fun h => h2 (by omega)⟩
theorem PART.far {w : World} {g n k : Nat} {x : Int} (h : PART w g n k x) {g' j' : Nat} (hg : g ≠ g') (u : Value) : PART (w.setCell ⟨g', j', none⟩ u) g n k x := fun j hj => by
  obtain ⟨y, h1, h2⟩ := h j hj
  exact ⟨y, (World.cell?_setCell_other _ _ _ _ (by intro e'; injection e' with e' _ _; exact hg e'.symm)).trans h1, h2⟩
theorem PART.of {w w' : World} {g n k : Nat} {x : Int} (h : PART w g n k x) (e : w'.heap[g]? = w.heap[g]?) : PART w' g n k x := fun j hj => by
  obtain ⟨y, h1, h2⟩ := h j hj
  exact ⟨y, (World.cell?_of_block (a := ⟨g, j, none⟩) e).trans h1, h2⟩
theorem PART.of_cells {w w' : World} {g n k : Nat} {x : Int} (h : PART w g n k x) (e : ∀ j, j < n → w'.cell? ⟨g, j, none⟩ = w.cell? ⟨g, j, none⟩) : PART w' g n k x := fun j hj => by
  obtain ⟨y, h1, h2⟩ := h j hj
  exact ⟨y, (e j hj).trans h1, h2⟩
/-- Out of an owned row. -/
theorem part_of_row {w : World} {base : Nat} {v : Value} {l : List Int} (h : Kd.R (Kd.int .u8) 5 w base (fun _ => True) v l) (hl : 0 < l.length) :
    ∃ g cap, v = .slice (some ⟨g, 0, none⟩) l.length cap ∧ base ≤ g ∧ l.length ≤ cap ∧ ROOM w g cap ∧ PART w g l.length 0 0 := by
  obtain ⟨A, c, e, hlc, hr⟩ := Kd.R_reads h
  obtain ⟨inner, ho⟩ := Kd.R_own h
  rcases ho.2 with ⟨_, h0⟩ | ⟨g, cap, cur, e2, hb, hg, h3, h4, h5, _⟩
  · omega
  · rw [e2] at e
    simp only [Value.slice.injEq] at e
    obtain ⟨rfl, _, rfl⟩ := e
    have h5' : cur.size = cap := by rw [h5]; exact Nat.mul_one _
    refine ⟨g, cap, e2, hb, h3, ⟨cur, hg, h5', h4⟩, fun j hj => ?_⟩
    obtain ⟨ad, c, e3, hc1, hc2, hc3⟩ := Kd.C_get hr 0 (j : Int) (Int.natCast_nonneg _) (by omega)
    cases e3
    have hc2' : c = [.int .u8 (l.getD j 0)] := hc2
    have := hc3 0 (.int .u8 (l.getD j 0)) (by rw [hc2']; rfl)
    refine ⟨l.getD j 0, ?_, fun h => absurd h (Nat.not_lt_zero _)⟩
    have hz : (Kd.int IntKind.u8).sz = 1 := rfl
    rw [hz, Int.toNat_natCast, Nat.mul_one, Nat.add_zero, Addr.add_lit, Nat.zero_add] at this
    exact this
/-- Three rows and the row of their slices. -/
structure ALL (w : World) (h n : Nat) (g cap : Nat → Nat) : Prop where
  row : ∃ cs : Array Value, w.heap[h]? = some (.cells cs 22 (0, 0)) ∧ ∀ r, r < 3 → cs[r]? = some (.slice (some ⟨g r, 0, none⟩) n (cap r))
  room : ∀ r, r < 3 → ROOM w (g r) (cap r)
  len : ∀ r, r < 3 → n ≤ cap r
  ne : ∀ r s, r < 3 → s < 3 → g r = g s → r = s
theorem ALL.at {w : World} {h n : Nat} {g cap : Nat → Nat} (H : ALL w h n g cap) (r : Nat) (hr : r < 3) : w.cell? ⟨h, r, none⟩ = some (.slice (some ⟨g r, 0, none⟩) n (cap r)) := by
  obtain ⟨cs, h1, h2⟩ := H.row
  rw [blk_cell h1]
  exact h2 r hr
theorem ALL.lt {w : World} {h n : Nat} {g cap : Nat → Nat} (H : ALL w h n g cap) : h < w.heap.size := by
  obtain ⟨cs, h1, _⟩ := H.row
  exact blk_lt h1
theorem ALL.far {w : World} {h n : Nat} {g cap : Nat → Nat} (H : ALL w h n g cap) (r : Nat) (hr : r < 3) : h ≠ g r := by
  obtain ⟨cs, h1, _⟩ := H.row
  obtain ⟨cur, h2, _⟩ := H.room r hr
  exact blk_ne h1 h2 (by decide)
theorem ALL.set {w : World} {h n : Nat} {g cap : Nat → Nat} (H : ALL w h n g cap) (r : Nat) (hr : r < 3) (j : Nat) (u : Value) : ALL (w.setCell ⟨g r, j, none⟩ u) h n g cap := by
  refine ⟨?_, fun s hs => (H.room s hs).set _ _ _, H.len, H.ne⟩
  obtain ⟨cs, h1, h2⟩ := H.row
  exact ⟨cs, (Below.heap_setCell w ⟨g r, j, none⟩ u h (H.far r hr)).trans h1, h2⟩
theorem ALL.of {w w' : World} {h n : Nat} {g cap : Nat → Nat} (H : ALL w h n g cap) (e : ∀ k, k < w.heap.size → w'.heap[k]? = w.heap[k]?) : ALL w' h n g cap := by
  refine ⟨?_, fun s hs => (H.room s hs).of (e _ (H.room s hs).lt), H.len, H.ne⟩
  obtain ⟨cs, h1, h2⟩ := H.row
  exact ⟨cs, (e h (blk_lt h1)).trans h1, h2⟩
/-- The rows below i hold their number, of row i the first k. -/
def FILL (w : World) (n : Nat) (g : Nat → Nat) (U : Nat → Int) (i k : Nat) : Prop := ∀ r, r < 3 → PART w (g r) n (if r < i then n else if r = i then k else 0) (U r)
theorem FILL.next {w : World} {n : Nat} {g : Nat → Nat} {U : Nat → Int} {i : Nat} (h : FILL w n g U i n) : FILL w n g U (i + 1) 0 := fun r hr => by
  have h1 := h r hr
  by_cases e1 : r < i
  · rw [if_pos e1] at h1
    rw [if_pos (by omega)]
    exact h1
  · rw [if_neg e1] at h1
    by_cases e2 : r = i
    · rw [if_pos e2] at h1
      rw [if_pos (by omega)]
      exact h1
    · rw [if_neg e2] at h1
      rw [if_neg (by omega)]
      have : (if r = i + 1 then 0 else 0) = 0 := by split <;> rfl
      rw [this]
      exact h1
theorem FILL.step {w : World} {h n : Nat} {g cap : Nat → Nat} (H : ALL w h n g cap) {U : Nat → Int} {i k : Nat} (hf : FILL w n g U i k) (hi : i < 3) (hk : k < n) : FILL (w.setCell ⟨g i, k, none⟩ (.int .u8 (U i))) n g U i (k + 1) := fun r hr => by
  have h1 := hf r hr
  by_cases e2 : r = i
  · subst e2
    rw [if_neg (Nat.lt_irrefl _), if_pos rfl] at h1 ⊢
    exact h1.step hk
  · have hne : g r ≠ g i := fun e => e2 (H.ne r i hr hi e)
    by_cases e1 : r < i
    · rw [if_pos e1] at h1 ⊢
      exact h1.far hne _
    · rw [if_neg e1, if_neg e2] at h1 ⊢
      exact h1.far hne _
theorem FILL.of {w w' : World} {n : Nat} {g : Nat → Nat} {U : Nat → Int} {i k : Nat} (hf : FILL w n g U i k) (hl : ∀ r, r < 3 → g r < w.heap.size) (e : ∀ k, k < w.heap.size → w'.heap[k]? = w.heap[k]?) : FILL w' n g U i k := fun r hr => (hf r hr).of (e _ (hl r hr))
theorem FILL.start {w : World} {n : Nat} {g : Nat → Nat} {U : Nat → Int} (h : ∀ r, r < 3 → PART w (g r) n 0 0) : FILL w n g U 0 0 := fun r hr => by
  rw [if_neg (Nat.not_lt_zero _)]
  have : (if r = 0 then 0 else 0) = 0 := by split <;> rfl
  rw [this]
  exact (h r hr).zero _
theorem FILL.cell {w : World} {n : Nat} {g : Nat → Nat} {U : Nat → Int} {i k : Nat} (hf : FILL w n g U i k) (r : Nat) (hr : r < 3) (j : Nat) (hj : j < n) : ∃ y, w.cell? ⟨g r, j, none⟩ = some (.int .u8 y) := by
  obtain ⟨y, h, _⟩ := hf r hr j hj
  exact ⟨y, h⟩
theorem FILL.done {w : World} {n : Nat} {g : Nat → Nat} {U : Nat → Int} (hf : FILL w n g U 3 0) (r : Nat) (hr : r < 3) (j : Nat) (hj : j < n) : w.cell? ⟨g r, j, none⟩ = some (.int .u8 (U r)) := by
  have h1 := hf r hr
  rw [if_pos hr] at h1
  exact h1.full j hj
/-! ### gone on with -/
abbrev byt (x : Int) : Value := .int .u8 x
/-- A row that is gone on with, as it came. -/
theorem came {w : World} {g n cap : Nat} {x : Int} (hr : ROOM w g cap) (hl : n ≤ cap) (hc : ∀ j, j < n → w.cell? ⟨g, j, none⟩ = some (byt x)) : Came w 1 (some ⟨g, 0, none⟩) g 0 n cap (List.replicate n (byt x)) := by
  refine ⟨hl, fun _ => rfl, fun _ => hr.lt, by simp, fun j u hu => ?_, fun j hj => ⟨?_, ?_⟩⟩
  · have hj : j < n := by have := (List.getElem?_eq_some_iff.1 hu).1; simpa using this
    rw [List.getElem?_replicate, if_pos hj] at hu
    rw [Nat.zero_add, hc j hj]
    exact hu
  · rw [Nat.zero_add, Nat.mul_one]
    rw [Nat.mul_one] at hj
    exact hr.isSome _ (by omega)
  · exact hr.frozen _
/-- What 20 appends leave. -/
structure GONE (W w : World) (g n cap m : Nat) (x y : Int) (v : Value) : Prop where
  val : ∃ b c, v = .slice (some ⟨b, 0, none⟩) (n + m) c ∧ n + m ≤ c ∧ (b = g ∨ W.heap.size ≤ b) ∧ (∃ cur, w.heap[b]? = some (.cells cur 5 (0, 0))) ∧ ∀ j, j < n + m → w.cell? ⟨b, j, none⟩ = some (byt (if j < n then x else y))
  block : ∀ k, k < W.heap.size → k ≠ g → w.heap[k]? = W.heap[k]?
  old : ∀ j, j < n → w.cell? ⟨g, j, none⟩ = W.cell? ⟨g, j, none⟩
theorem gone {W w : World} {g n cap m : Nat} {x y : Int} {v : Value} (hr : ROOM W g cap) (hl : n ≤ cap) (hm : 0 < m) (hc : ∀ j, j < n → W.cell? ⟨g, j, none⟩ = some (byt x))
    (h : Onto W 5 1 (some ⟨g, 0, none⟩) g 0 n cap (List.replicate n (byt x)) w v m (List.replicate m (byt y))) : GONE W w g n cap m x y v := by
  have hcm := came hr hl hc
  have hblk : ∀ k, k < W.heap.size → k ≠ g → w.heap[k]? = W.heap[k]? := fun k hk hne => h.kept.block hk (fun p hp e => by
    obtain ⟨j, _, _, rfl⟩ := hp
    exact hne e.symm)
  have hold : ∀ j, j < n → w.cell? ⟨g, j, none⟩ = W.cell? ⟨g, j, none⟩ := fun j hj => h.old hr.lt (fun j' _ _ ⟨_, e⟩ => by omega)
  refine ⟨?_, hblk, hold⟩
  have hat : ∀ j, j < n + m → (List.replicate n (byt x) ++ List.replicate m (byt y))[j]? = some (byt (if j < n then x else y)) := fun j hj => by
    by_cases e : j < n
    · rw [if_pos e, List.getElem?_append_left (by simpa using e), List.getElem?_replicate, if_pos e]
    · rw [if_neg e, List.getElem?_append_right (by simpa using e), List.getElem?_replicate, if_pos (by simp; omega)]
  obtain ⟨g', o', cap', hv, h1, h2, h3⟩ := h.value hcm hr.max (.inr hm)
  rcases h.val with ⟨hle, hv2⟩ | ⟨hgt, hown⟩
  · rw [hv2] at hv
    simp only [Value.slice.injEq, Option.some.injEq, Addr.mk.injEq] at hv
    obtain ⟨⟨rfl, rfl, _⟩, _, rfl⟩ := hv
    refine ⟨g, cap, hv2, h1, .inl rfl, ?_, fun j hj => ?_⟩
    · obtain ⟨cur, q1, q2, q3⟩ := hr
      have hw := h.kept.2.2 g (blk_lt q1)
      rw [q1] at hw
      rcases e : w.heap[g]? with _ | (⟨c', t', f'⟩ | _ | _ | _)
      · rw [e] at hw; cases hw
      · rw [e] at hw
        obtain ⟨rfl, rfl, _⟩ := hw
        exact ⟨c', rfl⟩
      all_goals (rw [e] at hw; cases hw)
    · have := h3 j (by omega)
      rw [Nat.zero_add] at this
      rw [this]
      exact hat j hj
  · rcases hown.2 with ⟨_, h0⟩ | ⟨b, c, cur, e2, hb, hg, q3, q4, q5, _⟩
    · omega
    · rw [e2] at hv
      simp only [Value.slice.injEq, Option.some.injEq, Addr.mk.injEq] at hv
      obtain ⟨⟨rfl, rfl, _⟩, _, rfl⟩ := hv
      refine ⟨b, c, e2, h1, .inr hb, ⟨cur, hg⟩, fun j hj => ?_⟩
      have := h3 j (by omega)
      rw [Nat.zero_add] at this
      rw [this]
      exact hat j hj

/-- A row of its own, out of its cells. -/
theorem owns_room {w : World} {B g n cap : Nat} {x : Int} (hr : ROOM w g cap) (hB : B ≤ g) (hl : n ≤ cap) (hc : ∀ j, j < n → w.cell? ⟨g, j, none⟩ = some (byt x)) : w.ownsRow B 5 1 (.slice (some ⟨g, 0, none⟩) n cap) n (List.replicate n (byt x)) := by
  obtain ⟨cur, h1, h2, h3⟩ := hr
  refine ⟨by simp, .inr ⟨g, cap, cur, rfl, hB, h1, hl, h3, by omega, ?_⟩⟩
  refine List.ext_getElem? fun j => ?_
  rw [Nat.mul_one, List.getElem?_take, List.getElem?_replicate]
  by_cases e : j < n
  · rw [if_pos e, if_pos e]
    have := hc j e
    rw [blk_cell h1] at this
    simpa using this
  · rw [if_neg e, if_neg e]
/-- One byte more: told both ways, with what else has turned. -/
theorem wpList_append_both {P : Program} (w : World) {ops : Array Oper} {rest : List Oper} {o : Oper} {a : Act} {Q : Exit → Act → World → Prop} (hgd : o.guard = none) (s x : Operand) (t : TypeId)
    (ho : o.op = .call { callee := .builtin .append, args := #[s, x], argTypes := #[t, t] })
    {W : World} {e : TypeId} {size : Nat} {ao : Option Addr} {b off len cap : Nat} {olds : List Value} (hc : Came W size ao b off len cap olds)
    (i : TypeInfo) (z : Value) (bytes : Nat) (ht : P.underlying t = some (.slice e)) (hi : P.info? e = some i) (hz : i.zero = some z) (hsize : i.size = size) (hby : i.bytes = bytes) (hzs : z.cells.size = size) (hsz : 0 < size)
    {v : Value} {m : Nat} {ks : List Value} (hs : a.eval s = v) (h : Onto W e size ao b off len cap olds w v m ks) (B : Nat) (hown : w.ownsRow B e size v (len + m) (olds ++ ks)) (hB : B ≤ w.heap.size)
    (ad : Addr) (c : Nat) (news : List Value) (hx : a.eval x = .slice (some ad) 1 c) (hl : news.length = 1 * size) (hnews : ∀ j u, news[j]? = some u → w.cell? (ad.add j) = some u) (h1 : ∀ u ∈ news, u.oneCell' = true)
    (h63 : len + m + 1 ≤ maxLen) (hbytes : (len + m + 1) * bytes ≤ 140737488355328)
    (hK : ∀ v' w', Onto W e size ao b off len cap olds w' v' (m + 1) (ks ++ news) → w'.ownsRow B e size v' (len + (m + 1)) (olds ++ (ks ++ news)) → w.grownBy w' v.ownBlock → wpList P ops Q rest (a.put o.dst v') w') : wpList P ops Q (o :: rest) a w := by
  refine wpList_plain hgd fun K hK' => ?_
  obtain ⟨v', w', hrun, r⟩ := run_append_onto (P := P) hc t o.type i z bytes ht hi hz hsize hby hzs hsz h ad c news hl hnews h1 h63 hbytes
  obtain ⟨v2, w2, hrun2, r2, r3, _⟩ := run_append_own (P := P) w B t o.type e i z size bytes ht hi hz hsize hby hzs hsz v (len + m) (olds ++ ks) hown ad 1 c news hl hnews h1 h63 hbytes hB
  rw [hrun] at hrun2
  injection hrun2 with e1 e2
  subst e1 e2
  unfold Oper.wp
  simp [execOp, ho, resolve, invoke, builtin, hs, hx, hrun, Result.andThen]
  exact hK' _ _ (hK v' w' r (by rw [← List.append_assoc]; exact r2) r3)
/-- The row of the slices, and the rooms of the rows from i on. -/
structure ALL3 (w : World) (h n : Nat) (g cap : Nat → Nat) (i : Nat) : Prop where
  row : ∃ cs : Array Value, w.heap[h]? = some (.cells cs 22 (0, 0)) ∧ ∀ r, r < 3 → cs[r]? = some (.slice (some ⟨g r, 0, none⟩) n (cap r))
  room : ∀ r, i ≤ r → r < 3 → ROOM w (g r) (cap r)
  lt : ∀ r, r < 3 → g r < w.heap.size
  far : ∀ r, r < 3 → h ≠ g r
  len : ∀ r, r < 3 → n ≤ cap r
  ne : ∀ r s, r < 3 → s < 3 → g r = g s → r = s
theorem ALL.three {w : World} {h n : Nat} {g cap : Nat → Nat} (H : ALL w h n g cap) : ALL3 w h n g cap 0 :=
  ⟨H.row, fun r _ hr => H.room r hr, fun r hr => (H.room r hr).lt, H.far, H.len, H.ne⟩
theorem ALL3.at {w : World} {h n i : Nat} {g cap : Nat → Nat} (H : ALL3 w h n g cap i) (r : Nat) (hr : r < 3) : w.cell? ⟨h, r, none⟩ = some (.slice (some ⟨g r, 0, none⟩) n (cap r)) := by
  obtain ⟨cs, h1, h2⟩ := H.row
  rw [blk_cell h1]
  exact h2 r hr
/-- The rows gone on with: i of them. -/
def LROW (w : World) (n m : Nat) (g : Nat → Nat) (U V : Nat → Int) (b c : Nat → Nat) (i : Nat) : Prop := ∀ r, r < i → n + m ≤ c r ∧ (∀ s, i ≤ s → s < 3 → b r ≠ g s) ∧ (∃ cur, w.heap[b r]? = some (.cells cur 5 (0, 0))) ∧ ∀ j, j < n + m → w.cell? ⟨b r, j, none⟩ = some (byt (if j < n then U r else V r))
def sls (n m : Nat) (b c : Nat → Nat) (i : Nat) : List Value := (List.range i).map fun r => Value.slice (some ⟨b r, 0, none⟩) (n + m) (c r)
def LONG (w : World) (B n m : Nat) (g : Nat → Nat) (U V : Nat → Int) (v : Value) (i : Nat) : Prop := ∃ (b c : Nat → Nat), w.ownsRow B 22 1 v i (sls n m b c i) ∧ LROW w n m g U V b c i
theorem LONG.start (w : World) (B n m : Nat) (g : Nat → Nat) (U V : Nat → Int) : LONG w B n m g U V (.slice none 0 0) 0 :=
  ⟨fun _ => 0, fun _ => 0, World.ownsRow_nil w _ _ _, fun r hr => absurd hr (Nat.not_lt_zero _)⟩
theorem GONE.owns {W w : World} {B g n cap m i : Nat} {x y : Int} {u v : Value} {xs : List Value} (G : GONE W w g n cap m x y u) (ho : W.ownsRow B 22 1 v i xs) (hg : g < B) : w.ownsRow B 22 1 v i xs :=
  own_move ho (fun k hk => G.block k (own_lt ho k hk) (by have := own_base ho k hk; omega))
theorem not_own {w : World} {B i b : Nat} {v : Value} {xs : List Value} {cur : Array Value} (ho : w.ownsRow B 22 1 v i xs) (hb : w.heap[b]? = some (.cells cur 5 (0, 0))) : some b ≠ v.ownBlock := fun e => by
  obtain ⟨cells, hc⟩ := own_typed ho b e.symm
  exact blk_ne hb hc (by decide) rfl
/-- A round: row i has been gone on with, and its slice is appended. -/
theorem LONG.step {W w w1 : World} {B h n m i : Nat} {g cap b c : Nat → Nat} {U V : Nat → Int} {v x v1 : Value} (hi : i < 3) (H : ALL3 W h n g cap i) (hF : FILL W n g U 3 0) (hO : W.ownsRow B 22 1 v i (sls n m b c i)) (hL : LROW W n m g U V b c i) (hB : B ≤ W.heap.size) (hh : h < B) (hg : ∀ r, r < 3 → g r < B)
    (G : GONE W w (g i) n (cap i) m (U i) (V i) x) (hsz : W.heap.size ≤ w.heap.size) (hgr : (w.alloc (.cells #[x] 22)).grownBy w1 v.ownBlock) (ho1 : w1.ownsRow B 22 1 v1 (i + 1) (sls n m b c i ++ [x])) :
    B ≤ w1.heap.size ∧ ALL3 w1 h n g cap (i + 1) ∧ FILL w1 n g U 3 0 ∧ LONG w1 B n m g U V v1 (i + 1) := by
  have hO2 := G.owns hO (hg i hi)
  have hs1 : w.heap.size ≤ w1.heap.size := by have := hgr.size; simp at this; omega
  have keep : ∀ k, k < w.heap.size → some k ≠ v.ownBlock → w1.heap[k]? = w.heap[k]? := fun k hk hne => (hgr.block k (by simp; omega) hne).trans (Below.heap_alloc w _ k hk)
  have under : ∀ k, k < B → w1.heap[k]? = w.heap[k]? := fun k hk => keep k (by omega) (fun e => by have := own_base hO k e.symm; omega)
  have two : ∀ k, k < B → k ≠ g i → w1.heap[k]? = W.heap[k]? := fun k hk hne => (under k hk).trans (G.block k (by omega) hne)
  refine ⟨by omega, ?_, ?_, ?_⟩
  · refine ⟨?_, fun r hr hr3 => (H.room r (by omega) hr3).of (two _ (hg r hr3) (fun e => by have := H.ne r i hr3 hi e; omega)), fun r hr => by have := H.lt r hr; omega, H.far, H.len, H.ne⟩
    obtain ⟨cs, h1, h2⟩ := H.row
    exact ⟨cs, (two h hh (H.far i hi)).trans h1, h2⟩
  · intro r hr
    by_cases e : r = i
    · subst e
      exact ((hF r hr).of_cells (w' := w) (fun j hj => G.old j hj)).of (under _ (hg r hr))
    · exact (hF r hr).of (two _ (hg r hr) (fun e' => e (H.ne r i hr hi e')))
  · obtain ⟨bi, ci, rfl, q1, q2, ⟨cur, q3⟩, q4⟩ := G.val
    refine ⟨fun r => if r = i then bi else b r, fun r => if r = i then ci else c r, ?_, ?_⟩
    · have e : sls n m (fun r => if r = i then bi else b r) (fun r => if r = i then ci else c r) (i + 1) = sls n m b c i ++ [.slice (some ⟨bi, 0, none⟩) (n + m) ci] := by
        unfold sls
        rw [List.range_succ, List.map_append, List.map_singleton]
        simp only [if_pos]
        congr 1
        refine List.map_congr_left fun r hr => ?_
        have hlt := List.mem_range.1 hr
        simp only [if_neg (show ¬ r = i by omega)]
      rw [e]
      exact ho1
    · intro r hr
      by_cases e : r = i
      · subst e
        simp only [if_pos]
        have hne := not_own hO2 q3
        have hk := keep bi (blk_lt q3) hne
        refine ⟨q1, fun s hs hs3 e' => ?_, ⟨cur, hk.trans q3⟩, fun j hj => (World.cell?_of_block (a := ⟨bi, j, none⟩) hk).trans (q4 j hj)⟩
        rcases q2 with q2 | q2
        · have := H.ne r s hi hs3 (q2.symm.trans e')
          omega
        · have := H.lt s hs3
          omega
      · simp only [if_neg e]
        obtain ⟨p1, p2, ⟨cur', p3⟩, p4⟩ := hL r (by omega)
        have hw := G.block (b r) (blk_lt p3) (p2 i (Nat.le_refl _) hi)
        have p3' := hw.trans p3
        have hk := keep (b r) (blk_lt p3') (not_own hO2 p3')
        exact ⟨p1, fun s hs hs3 => p2 s (by omega) hs3, ⟨cur', hk.trans p3'⟩, fun j hj => (World.cell?_of_block (a := ⟨b r, j, none⟩) (hk.trans hw)).trans (p4 j hj)⟩
/-- At the end: the row of the three. -/
theorem LONG.out {w : World} {B n m : Nat} {g : Nat → Nat} {U V : Nat → Int} {v : Value} (h : LONG w B n m g U V v 3) : ∃ (p cp : Nat) (b c : Nat → Nat), v = .slice (some ⟨p, 0, none⟩) 3 cp ∧ (∀ r, r < 3 → w.cell? ⟨p, r, none⟩ = some (.slice (some ⟨b r, 0, none⟩) (n + m) (c r))) ∧ ∀ r, r < 3 → n + m ≤ c r ∧ ∀ j, j < n + m → w.cell? ⟨b r, j, none⟩ = some (byt (if j < n then U r else V r)) := by
  obtain ⟨b, c, ho, hr⟩ := h
  have hl := ho.1
  rcases ho.2 with ⟨_, h0⟩ | ⟨p, cp, cur, rfl, _⟩
  · omega
  · refine ⟨p, cp, b, c, rfl, fun r h3 => ?_, fun r h3 => ⟨(hr r h3).1, (hr r h3).2.2.2⟩⟩
    have := ho.cells (g := p) rfl r (.slice (some ⟨b r, 0, none⟩) (n + m) (c r)) (by unfold sls; rw [List.getElem?_map, List.getElem?_range h3]; rfl)
    rw [Addr.add_lit, Nat.zero_add] at this
    exact this
end Go.Proofs.YthgmhjgbjodhjaaDoor.Own3
