/- Texts of this claim, laid together by wip/tools/squash.py: Own4, WalkHeadOwn. -/
import Derived.Test.YtdmpbfhbjklajaaQB10
import Derived.Test.YtdmpbfhbjklajaaProg
import Derived.Test.YtdmpbfhbjklajaaWMore
import Derived.WalkKit
import Derived.KernelRfl
import Derived.Lib.Hide
import Derived.Deep.Onto

/- Heads' bytes in memory of their own, written over and gone on with: what stays as it was. -/
section
namespace Go.Proofs.Ytdmpbfhbjklajaa.Own4
open Go Go.RowKit Go.Proofs.YtdmpbfhbjklajaaW.PrintWords Go.Proofs.YtdmpbfhbjklajaaW.PrintLast Go.Proofs.YtdmpbfhbjklajaaW.PrintMore Go.Proofs.Ytdmpbfhbjklajaa.Img
set_option linter.unusedVariables false
set_option linter.unusedSimpArgs false
/-- A row's block: its room; nothing of it is frozen. -/
def ROOM (w : World) (g cap : Nat) : Prop := ∃ cur : Array Value, w.heap[g]? = some (.cells cur TI (0, 0)) ∧ cur.size = cap ∧ cap ≤ maxLen
theorem ROOM.lt {w : World} {g cap : Nat} (h : ROOM w g cap) : g < w.heap.size := by
  obtain ⟨cur, h1, _⟩ := h
  exact blk_lt h1
theorem ROOM.max {w : World} {g cap : Nat} (h : ROOM w g cap) : cap ≤ maxLen := by
  obtain ⟨cur, _, _, h3⟩ := h
  exact h3
theorem ROOM.isSome {w : World} {g cap : Nat} (h : ROOM w g cap) (j : Nat) (hj : j < cap) : (w.cell? ⟨g, j, none⟩).isSome = true := by
  obtain ⟨cur, h1, h2, _⟩ := h
  rw [blk_cell h1, Array.getElem?_eq_getElem (by omega)]
  rfl
theorem ROOM.frozen {w : World} {g cap : Nat} (h : ROOM w g cap) (j : Nat) : w.frozen? ⟨g, j, none⟩ = false := by
  obtain ⟨cur, h1, _⟩ := h
  exact blk_frozen h1 j
theorem ROOM.of {w w' : World} {g cap : Nat} (h : ROOM w g cap) (e : w'.heap[g]? = w.heap[g]?) : ROOM w' g cap := by
  obtain ⟨cur, h1, h2⟩ := h
  exact ⟨cur, e.trans h1, h2⟩
theorem ROOM.set {w : World} {g cap : Nat} (h : ROOM w g cap) (g' j : Nat) (u : Value) : ROOM (w.setCell ⟨g', j, none⟩ u) g cap := by
  by_cases e : g = g'
  · subst e
    obtain ⟨cur, h1, h2, h3⟩ := h
    exact ⟨_, blk_set h1 j u, by rw [Array.size_setIfInBounds]; exact h2, h3⟩
  · exact h.of (Below.heap_setCell w _ _ _ e)
/-- The first n cells are bytes; the first k of them are x. -/
def PART (w : World) (g n k : Nat) (x : Int) : Prop := ∀ j, j < n → ∃ y, w.cell? ⟨g, j, none⟩ = some (.int .u8 y) ∧ (j < k → y = x)
theorem PART.zero {w : World} {g n : Nat} {x : Int} {k : Nat} (h : PART w g n k x) (x' : Int) : PART w g n 0 x' := fun j hj => by
  obtain ⟨y, h1, _⟩ := h j hj
  exact ⟨y, h1, fun h => absurd h (Nat.not_lt_zero _)⟩
theorem PART.full {w : World} {g n : Nat} {x : Int} (h : PART w g n n x) (j : Nat) (hj : j < n) : w.cell? ⟨g, j, none⟩ = some (.int .u8 x) := by
  obtain ⟨y, h1, h2⟩ := h j hj
  rw [h1, h2 hj]
theorem PART.step {w : World} {g n k : Nat} {x : Int} (h : PART w g n k x) (hk : k < n) : PART (w.setCell ⟨g, k, none⟩ (.int .u8 x)) g n (k + 1) x := fun j hj => by
  by_cases e : j = k
  · subst e
    obtain ⟨y, h1, _⟩ := h j hj
    exact ⟨x, World.cell?_setCell_same _ _ _ h1, fun _ => rfl⟩
  · obtain ⟨y, h1, h2⟩ := h j hj
    exact ⟨y, (World.cell?_setCell_other _ _ _ _ (by intro e'; injection e' with _ e' _; exact e e'.symm)).trans h1, fun h => h2 (by omega)⟩
theorem PART.far {w : World} {g n k : Nat} {x : Int} (h : PART w g n k x) {g' j' : Nat} (hg : g ≠ g') (u : Value) : PART (w.setCell ⟨g', j', none⟩ u) g n k x := fun j hj => by
  obtain ⟨y, h1, h2⟩ := h j hj
  exact ⟨y, (World.cell?_setCell_other _ _ _ _ (by intro e'; injection e' with e' _ _; exact hg e'.symm)).trans h1, h2⟩
theorem PART.of {w w' : World} {g n k : Nat} {x : Int} (h : PART w g n k x) (e : w'.heap[g]? = w.heap[g]?) : PART w' g n k x := fun j hj => by
  obtain ⟨y, h1, h2⟩ := h j hj
  exact ⟨y, (World.cell?_of_block (a := ⟨g, j, none⟩) e).trans h1, h2⟩
theorem PART.of_cells {w w' : World} {g n k : Nat} {x : Int} (h : PART w g n k x) (e : ∀ j, j < n → w'.cell? ⟨g, j, none⟩ = w.cell? ⟨g, j, none⟩) : PART w' g n k x := fun j hj => by
  obtain ⟨y, h1, h2⟩ := h j hj
  exact ⟨y, (e j hj).trans h1, h2⟩
/-- Out of a head's bytes. -/
theorem room_im {w : World} {g : Nat} {l : List Int} (h : IM w g l) (hl : l.length = 512) : ROOM w g 512 := ⟨_, h, by simp [nums, hl], by decide⟩
theorem part_im {w : World} {g : Nat} {l : List Int} (h : IM w g l) (hl : l.length = 512) : PART w g 512 0 0 := fun j hj => ⟨_, h.cell j (by omega), fun h => absurd h (Nat.not_lt_zero _)⟩
/-- Three rows and the row of their slices. -/
structure ALL (w : World) (h n : Nat) (g cap : Nat → Nat) : Prop where
  row : ∃ cs : Array Value, w.heap[h]? = some (.cells cs 22 (0, 0)) ∧ ∀ r, r < 3 → cs[r]? = some (.slice (some ⟨g r, 0, none⟩) n (cap r))
  room : ∀ r, r < 3 → ROOM w (g r) (cap r)
  len : ∀ r, r < 3 → n ≤ cap r
  ne : ∀ r s, r < 3 → s < 3 → g r = g s → r = s
theorem ALL.at {w : World} {h n : Nat} {g cap : Nat → Nat} (H : ALL w h n g cap) (r : Nat) (hr : r < 3) : w.cell? ⟨h, r, none⟩ = some (.slice (some ⟨g r, 0, none⟩) n (cap r)) := by
  obtain ⟨cs, h1, h2⟩ := H.row
  rw [blk_cell h1]
  exact h2 r hr
theorem ALL.lt {w : World} {h n : Nat} {g cap : Nat → Nat} (H : ALL w h n g cap) : h < w.heap.size := by
  obtain ⟨cs, h1, _⟩ := H.row
  exact blk_lt h1
theorem ALL.far {w : World} {h n : Nat} {g cap : Nat → Nat} (H : ALL w h n g cap) (r : Nat) (hr : r < 3) : h ≠ g r := by
  obtain ⟨cs, h1, _⟩ := H.row
  obtain ⟨cur, h2, _⟩ := H.room r hr
  exact blk_ne h1 h2 (by decide)
theorem ALL.set {w : World} {h n : Nat} {g cap : Nat → Nat} (H : ALL w h n g cap) (r : Nat) (hr : r < 3) (j : Nat) (u : Value) : ALL (w.setCell ⟨g r, j, none⟩ u) h n g cap := by
  refine ⟨?_, fun s hs => (H.room s hs).set _ _ _, H.len, H.ne⟩
  obtain ⟨cs, h1, h2⟩ := H.row
  exact ⟨cs, (Below.heap_setCell w ⟨g r, j, none⟩ u h (H.far r hr)).trans h1, h2⟩
theorem ALL.of {w w' : World} {h n : Nat} {g cap : Nat → Nat} (H : ALL w h n g cap) (e : ∀ k, k < w.heap.size → w'.heap[k]? = w.heap[k]?) : ALL w' h n g cap := by
  refine ⟨?_, fun s hs => (H.room s hs).of (e _ (H.room s hs).lt), H.len, H.ne⟩
  obtain ⟨cs, h1, h2⟩ := H.row
  exact ⟨cs, (e h (blk_lt h1)).trans h1, h2⟩
/-- The rows below i hold their number, of row i the first k. -/
def FILL (w : World) (n : Nat) (g : Nat → Nat) (U : Nat → Int) (i k : Nat) : Prop := ∀ r, r < 3 → PART w (g r) n (if r < i then n else if r = i then k else 0) (U r)
theorem FILL.next {w : World} {n : Nat} {g : Nat → Nat} {U : Nat → Int} {i : Nat} (h : FILL w n g U i n) : FILL w n g U (i + 1) 0 := fun r hr => by
  have h1 := h r hr
  by_cases e1 : r < i
  · rw [if_pos e1] at h1
    rw [if_pos (by omega)]
    exact h1
  · rw [if_neg e1] at h1
    by_cases e2 : r = i
    · rw [if_pos e2] at h1
      rw [if_pos (by omega)]
      exact h1
    · rw [if_neg e2] at h1
      rw [if_neg (by omega)]
      have : (if r = i + 1 then 0 else 0) = 0 := by split <;> rfl
      rw [this]
      exact h1
theorem FILL.step {w : World} {h n : Nat} {g cap : Nat → Nat} (H : ALL w h n g cap) {U : Nat → Int} {i k : Nat} (hf : FILL w n g U i k) (hi : i < 3) (hk : k < n) : FILL (w.setCell ⟨g i, k, none⟩ (.int .u8 (U i))) n g U i (k + 1) := fun r hr => by
  have h1 := hf r hr
  by_cases e2 : r = i
  · subst e2
    rw [if_neg (Nat.lt_irrefl _), if_pos rfl] at h1 ⊢
    exact h1.step hk
  · have hne : g r ≠ g i := fun e => e2 (H.ne r i hr hi e)
    by_cases e1 : r < i
    · rw [if_pos e1] at h1 ⊢
      exact h1.far hne _
    · rw [if_neg e1, if_neg e2] at h1 ⊢
      exact h1.far hne _
theorem FILL.of {w w' : World} {n : Nat} {g : Nat → Nat} {U : Nat → Int} {i k : Nat} (hf : FILL w n g U i k) (hl : ∀ r, r < 3 → g r < w.heap.size) (e : ∀ k, k < w.heap.size → w'.heap[k]? = w.heap[k]?) : FILL w' n g U i k := fun r hr => (hf r hr).of (e _ (hl r hr))
theorem FILL.start {w : World} {n : Nat} {g : Nat → Nat} {U : Nat → Int} (h : ∀ r, r < 3 → PART w (g r) n 0 0) : FILL w n g U 0 0 := fun r hr => by
  rw [if_neg (Nat.not_lt_zero _)]
  have : (if r = 0 then 0 else 0) = 0 := by split <;> rfl
  rw [this]
  exact (h r hr).zero _
theorem FILL.cell {w : World} {n : Nat} {g : Nat → Nat} {U : Nat → Int} {i k : Nat} (hf : FILL w n g U i k) (r : Nat) (hr : r < 3) (j : Nat) (hj : j < n) : ∃ y, w.cell? ⟨g r, j, none⟩ = some (.int .u8 y) := by
  obtain ⟨y, h, _⟩ := hf r hr j hj
  exact ⟨y, h⟩
theorem FILL.done {w : World} {n : Nat} {g : Nat → Nat} {U : Nat → Int} (hf : FILL w n g U 3 0) (r : Nat) (hr : r < 3) (j : Nat) (hj : j < n) : w.cell? ⟨g r, j, none⟩ = some (.int .u8 (U r)) := by
  have h1 := hf r hr
  rw [if_pos hr] at h1
  exact h1.full j hj
/-! ### gone on with -/
abbrev byt (x : Int) : Value := .int .u8 x
/-- A row that is gone on with, as it came. -/
theorem came {w : World} {g n cap : Nat} {x : Int} (hr : ROOM w g cap) (hl : n ≤ cap) (hc : ∀ j, j < n → w.cell? ⟨g, j, none⟩ = some (byt x)) : Came w 1 (some ⟨g, 0, none⟩) g 0 n cap (List.replicate n (byt x)) := by
  refine ⟨hl, fun _ => rfl, fun _ => hr.lt, by simp, fun j u hu => ?_, fun j hj => ⟨?_, ?_⟩⟩
  · have hj : j < n := by have := (List.getElem?_eq_some_iff.1 hu).1; simpa using this
    rw [List.getElem?_replicate, if_pos hj] at hu
    rw [Nat.zero_add, hc j hj]
    exact hu
  · rw [Nat.zero_add, Nat.mul_one]
    rw [Nat.mul_one] at hj
    exact hr.isSome _ (by omega)
  · exact hr.frozen _
/-- What 20 appends leave. -/
structure GONE (W w : World) (g n cap m : Nat) (x y : Int) (v : Value) : Prop where
  val : ∃ b c, v = .slice (some ⟨b, 0, none⟩) (n + m) c ∧ n + m ≤ c ∧ (b = g ∨ W.heap.size ≤ b) ∧ (∃ cur T, T ≠ 22 ∧ w.heap[b]? = some (.cells cur T (0, 0))) ∧ ∀ j, j < n + m → w.cell? ⟨b, j, none⟩ = some (byt (if j < n then x else y))
  block : ∀ k, k < W.heap.size → k ≠ g → w.heap[k]? = W.heap[k]?
  old : ∀ j, j < n → w.cell? ⟨g, j, none⟩ = W.cell? ⟨g, j, none⟩
theorem gone {W w : World} {g n cap m : Nat} {x y : Int} {v : Value} (hr : ROOM W g cap) (hl : n ≤ cap) (hm : 0 < m) (hc : ∀ j, j < n → W.cell? ⟨g, j, none⟩ = some (byt x))
    (h : Onto W 5 1 (some ⟨g, 0, none⟩) g 0 n cap (List.replicate n (byt x)) w v m (List.replicate m (byt y))) : GONE W w g n cap m x y v := by
  have hcm := came hr hl hc
  have hblk : ∀ k, k < W.heap.size → k ≠ g → w.heap[k]? = W.heap[k]? := fun k hk hne => h.kept.block hk (fun p hp e => by
    obtain ⟨j, _, _, rfl⟩ := hp
    exact hne e.symm)
  have hold : ∀ j, j < n → w.cell? ⟨g, j, none⟩ = W.cell? ⟨g, j, none⟩ := fun j hj => h.old hr.lt (fun j' _ _ ⟨_, e⟩ => by omega)
  refine ⟨?_, hblk, hold⟩
  have hat : ∀ j, j < n + m → (List.replicate n (byt x) ++ List.replicate m (byt y))[j]? = some (byt (if j < n then x else y)) := fun j hj => by
    by_cases e : j < n
    · rw [if_pos e, List.getElem?_append_left (by simpa using e), List.getElem?_replicate, if_pos e]
    · rw [if_neg e, List.getElem?_append_right (by simpa using e), List.getElem?_replicate, if_pos (by simp; omega)]
  obtain ⟨g', o', cap', hv, h1, h2, h3⟩ := h.value hcm hr.max (.inr hm)
  rcases h.val with ⟨hle, hv2⟩ | ⟨hgt, hown⟩
  · rw [hv2] at hv
    simp only [Value.slice.injEq, Option.some.injEq, Addr.mk.injEq] at hv
    obtain ⟨⟨rfl, rfl, _⟩, _, rfl⟩ := hv
    refine ⟨g, cap, hv2, h1, .inl rfl, ?_, fun j hj => ?_⟩
    · obtain ⟨cur, q1, q2, q3⟩ := hr
      have hw := h.kept.2.2 g (blk_lt q1)
      rw [q1] at hw
      rcases e : w.heap[g]? with _ | (⟨c', t', f'⟩ | _ | _ | _)
      · rw [e] at hw; cases hw
      · rw [e] at hw
        obtain ⟨rfl, rfl, _⟩ := hw
        exact ⟨c', _, by decide, rfl⟩
      all_goals (rw [e] at hw; cases hw)
    · have := h3 j (by omega)
      rw [Nat.zero_add] at this
      rw [this]
      exact hat j hj
  · rcases hown.2 with ⟨_, h0⟩ | ⟨b, c, cur, e2, hb, hg, q3, q4, q5, _⟩
    · omega
    · rw [e2] at hv
      simp only [Value.slice.injEq, Option.some.injEq, Addr.mk.injEq] at hv
      obtain ⟨⟨rfl, rfl, _⟩, _, rfl⟩ := hv
      refine ⟨b, c, e2, h1, .inr hb, ⟨cur, 5, by decide, hg⟩, fun j hj => ?_⟩
      have := h3 j (by omega)
      rw [Nat.zero_add] at this
      rw [this]
      exact hat j hj

/-- One byte more, behind a row that is full or one of its own: what else has turned. -/
theorem wpList_append_two {P : Program} (w : World) {ops : Array Oper} {rest : List Oper} {o : Oper} {a : Act} {Q : Exit → Act → World → Prop} (hgd : o.guard = none) (s x : Operand) (t : TypeId)
    (ho : o.op = .call { callee := .builtin .append, args := #[s, x], argTypes := #[t, t] })
    {W : World} {e : TypeId} {size : Nat} {ao : Option Addr} {b off len cap : Nat} {olds : List Value} (hc : Came W size ao b off len cap olds) (hcl : cap = len) (hl0 : 0 < len) (hmx : cap ≤ maxLen)
    (i : TypeInfo) (z : Value) (bytes : Nat) (ht : P.underlying t = some (.slice e)) (hi : P.info? e = some i) (hz : i.zero = some z) (hsize : i.size = size) (hby : i.bytes = bytes) (hzs : z.cells.size = size) (hsz : 0 < size)
    {v : Value} {m : Nat} {ks : List Value} (hs : a.eval s = v) (h : Onto W e size ao b off len cap olds w v m ks) (B : Nat) (hown : (m = 0 ∧ v.ownBlock = some b) ∨ w.ownsRow B e size v (len + m) (olds ++ ks)) (hB : B ≤ w.heap.size) (hBb : B ≤ b)
    (ad : Addr) (c : Nat) (news : List Value) (hx : a.eval x = .slice (some ad) 1 c) (hl : news.length = 1 * size) (hnews : ∀ j u, news[j]? = some u → w.cell? (ad.add j) = some u) (h1 : ∀ u ∈ news, u.oneCell' = true)
    (h63 : len + m + 1 ≤ maxLen) (hbytes : (len + m + 1) * bytes ≤ 140737488355328)
    (hK : ∀ v' w', Onto W e size ao b off len cap olds w' v' (m + 1) (ks ++ news) → w'.ownsRow B e size v' (len + (m + 1)) (olds ++ (ks ++ news)) → (∃ row, w.grownBy w' row ∧ ∀ k, row = some k → B ≤ k) → wpList P ops Q rest (a.put o.dst v') w') : wpList P ops Q (o :: rest) a w := by
  refine wpList_plain hgd fun K hK' => ?_
  obtain ⟨v', w', hrun, r⟩ := run_append_onto (P := P) hc t o.type i z bytes ht hi hz hsize hby hzs hsz h ad c news hl hnews h1 h63 hbytes
  have both : w'.ownsRow B e size v' (len + (m + 1)) (olds ++ (ks ++ news)) ∧ ∃ row, w.grownBy w' row ∧ ∀ k, row = some k → B ≤ k := by
    rcases hown with ⟨hm, hv⟩ | hown
    · obtain ⟨g', o', cap', e1, _, _, hcells⟩ := h.value hc hmx (.inl (by omega))
      have hcap' : cap' < len + m + 1 := by
        rcases h.val with ⟨hle, hv2⟩ | ⟨hgt, _⟩
        · rw [hv2] at e1
          injection e1 with _ _ e1
          omega
        · omega
      have hol := hc.oldsLen
      have hkl := h.ksLen
      obtain ⟨v2, w2, hrun2, r2, r3⟩ := run_append_arg_grows (P := P) w t o.type e i z size bytes ht hi hz hsize hby hzs hsz ⟨g', o', none⟩ (len + m) cap' (olds ++ ks) (by rw [List.length_append, hol, hkl, Nat.add_mul]) (fun j u hu => by
        rw [Addr.add_lit]
        have hj := (List.getElem?_eq_some_iff.1 hu).1
        rw [hcells j (by rw [List.length_append, hol, hkl, ← Nat.add_mul] at hj; exact hj)]
        exact hu) ad 1 c news hl hnews hcap' h63 hbytes
      rw [e1] at hrun
      rw [hrun] at hrun2
      injection hrun2 with e1 e2
      subst e1 e2
      refine ⟨?_, none, r3, fun k hk => by cases hk⟩
      rw [← List.append_assoc]
      exact r2.mono hB
    · obtain ⟨v2, w2, hrun2, r2, r3, _⟩ := run_append_own (P := P) w B t o.type e i z size bytes ht hi hz hsize hby hzs hsz v (len + m) (olds ++ ks) hown ad 1 c news hl hnews h1 h63 hbytes hB
      rw [hrun] at hrun2
      injection hrun2 with e1 e2
      subst e1 e2
      refine ⟨by rw [← List.append_assoc]; exact r2, _, r3, fun k hk => own_base hown k hk⟩
  unfold Oper.wp
  simp [execOp, ho, resolve, invoke, builtin, hs, hx, hrun, Result.andThen]
  exact hK' _ _ (hK v' w' r both.1 both.2)
/-- The row of the slices, and the rooms of the rows from i on. -/
structure ALL3 (w : World) (h n : Nat) (g cap : Nat → Nat) (i : Nat) : Prop where
  row : ∃ cs : Array Value, w.heap[h]? = some (.cells cs 22 (0, 0)) ∧ ∀ r, r < 3 → cs[r]? = some (.slice (some ⟨g r, 0, none⟩) n (cap r))
  room : ∀ r, i ≤ r → r < 3 → ROOM w (g r) (cap r)
  lt : ∀ r, r < 3 → g r < w.heap.size
  far : ∀ r, r < 3 → h ≠ g r
  len : ∀ r, r < 3 → n ≤ cap r
  ne : ∀ r s, r < 3 → s < 3 → g r = g s → r = s
theorem ALL.three {w : World} {h n : Nat} {g cap : Nat → Nat} (H : ALL w h n g cap) : ALL3 w h n g cap 0 :=
  ⟨H.row, fun r _ hr => H.room r hr, fun r hr => (H.room r hr).lt, H.far, H.len, H.ne⟩
theorem ALL3.at {w : World} {h n i : Nat} {g cap : Nat → Nat} (H : ALL3 w h n g cap i) (r : Nat) (hr : r < 3) : w.cell? ⟨h, r, none⟩ = some (.slice (some ⟨g r, 0, none⟩) n (cap r)) := by
  obtain ⟨cs, h1, h2⟩ := H.row
  rw [blk_cell h1]
  exact h2 r hr
/-- The rows gone on with: i of them. -/
def LROW (w : World) (n m : Nat) (g : Nat → Nat) (U V : Nat → Int) (b c : Nat → Nat) (i : Nat) : Prop := ∀ r, r < i → n + m ≤ c r ∧ (∀ s, i ≤ s → s < 3 → b r ≠ g s) ∧ (∃ cur T, T ≠ 22 ∧ w.heap[b r]? = some (.cells cur T (0, 0))) ∧ ∀ j, j < n + m → w.cell? ⟨b r, j, none⟩ = some (byt (if j < n then U r else V r))
def sls (n m : Nat) (b c : Nat → Nat) (i : Nat) : List Value := (List.range i).map fun r => Value.slice (some ⟨b r, 0, none⟩) (n + m) (c r)
def LONG (w : World) (B n m : Nat) (g : Nat → Nat) (U V : Nat → Int) (v : Value) (i : Nat) : Prop := ∃ (b c : Nat → Nat), w.ownsRow B 22 1 v i (sls n m b c i) ∧ LROW w n m g U V b c i
theorem LONG.start (w : World) (B n m : Nat) (g : Nat → Nat) (U V : Nat → Int) : LONG w B n m g U V (.slice none 0 0) 0 :=
  ⟨fun _ => 0, fun _ => 0, World.ownsRow_nil w _ _ _, fun r hr => absurd hr (Nat.not_lt_zero _)⟩
theorem GONE.owns {W w : World} {B g n cap m i : Nat} {x y : Int} {u v : Value} {xs : List Value} (G : GONE W w g n cap m x y u) (ho : W.ownsRow B 22 1 v i xs) (hg : g < B) : w.ownsRow B 22 1 v i xs :=
  own_move ho (fun k hk => G.block k (own_lt ho k hk) (by have := own_base ho k hk; omega))
theorem not_own {w : World} {B i b : Nat} {v : Value} {xs : List Value} {cur : Array Value} {T : TypeId} (hT : T ≠ 22) (ho : w.ownsRow B 22 1 v i xs) (hb : w.heap[b]? = some (.cells cur T (0, 0))) : some b ≠ v.ownBlock := fun e => by
  obtain ⟨cells, hc⟩ := own_typed ho b e.symm
  exact blk_ne hb hc hT rfl
/-- A round: row i has been gone on with, and its slice is appended. -/
theorem LONG.step {W w w1 : World} {B h n m i : Nat} {g cap b c : Nat → Nat} {U V : Nat → Int} {v x v1 : Value} (hi : i < 3) (H : ALL3 W h n g cap i) (hF : FILL W n g U 3 0) (hO : W.ownsRow B 22 1 v i (sls n m b c i)) (hL : LROW W n m g U V b c i) (hB : B ≤ W.heap.size) (hh : h < B) (hg : ∀ r, r < 3 → g r < B)
    (G : GONE W w (g i) n (cap i) m (U i) (V i) x) (hsz : W.heap.size ≤ w.heap.size) (hgr : (w.alloc (.cells #[x] 22)).grownBy w1 v.ownBlock) (ho1 : w1.ownsRow B 22 1 v1 (i + 1) (sls n m b c i ++ [x])) :
    B ≤ w1.heap.size ∧ ALL3 w1 h n g cap (i + 1) ∧ FILL w1 n g U 3 0 ∧ LONG w1 B n m g U V v1 (i + 1) ∧ ∀ k, k < B → k ≠ g i → w1.heap[k]? = W.heap[k]? := by
  have hO2 := G.owns hO (hg i hi)
  have hs1 : w.heap.size ≤ w1.heap.size := by have := hgr.size; simp at this; omega
  have keep : ∀ k, k < w.heap.size → some k ≠ v.ownBlock → w1.heap[k]? = w.heap[k]? := fun k hk hne => (hgr.block k (by simp; omega) hne).trans (Below.heap_alloc w _ k hk)
  have under : ∀ k, k < B → w1.heap[k]? = w.heap[k]? := fun k hk => keep k (by omega) (fun e => by have := own_base hO k e.symm; omega)
  have two : ∀ k, k < B → k ≠ g i → w1.heap[k]? = W.heap[k]? := fun k hk hne => (under k hk).trans (G.block k (by omega) hne)
  refine ⟨by omega, ?_, ?_, ?_, two⟩
  · refine ⟨?_, fun r hr hr3 => (H.room r (by omega) hr3).of (two _ (hg r hr3) (fun e => by have := H.ne r i hr3 hi e; omega)), fun r hr => by have := H.lt r hr; omega, H.far, H.len, H.ne⟩
    obtain ⟨cs, h1, h2⟩ := H.row
    exact ⟨cs, (two h hh (H.far i hi)).trans h1, h2⟩
  · intro r hr
    by_cases e : r = i
    · subst e
      exact ((hF r hr).of_cells (w' := w) (fun j hj => G.old j hj)).of (under _ (hg r hr))
    · exact (hF r hr).of (two _ (hg r hr) (fun e' => e (H.ne r i hr hi e')))
  · obtain ⟨bi, ci, rfl, q1, q2, ⟨cur, T, hT, q3⟩, q4⟩ := G.val
    refine ⟨fun r => if r = i then bi else b r, fun r => if r = i then ci else c r, ?_, ?_⟩
    · have e : sls n m (fun r => if r = i then bi else b r) (fun r => if r = i then ci else c r) (i + 1) = sls n m b c i ++ [.slice (some ⟨bi, 0, none⟩) (n + m) ci] := by
        unfold sls
        rw [List.range_succ, List.map_append, List.map_singleton]
        simp only [if_pos]
        congr 1
        refine List.map_congr_left fun r hr => ?_
        have hlt := List.mem_range.1 hr
        simp only [if_neg (show ¬ r = i by omega)]
      rw [e]
      exact ho1
    · intro r hr
      by_cases e : r = i
      · subst e
        simp only [if_pos]
        have hne := not_own hT hO2 q3
        have hk := keep bi (blk_lt q3) hne
        refine ⟨q1, fun s hs hs3 e' => ?_, ⟨cur, T, hT, hk.trans q3⟩, fun j hj => (World.cell?_of_block (a := ⟨bi, j, none⟩) hk).trans (q4 j hj)⟩
        rcases q2 with q2 | q2
        · have := H.ne r s hi hs3 (q2.symm.trans e')
          omega
        · have := H.lt s hs3
          omega
      · simp only [if_neg e]
        obtain ⟨p1, p2, ⟨cur', T', hT', p3⟩, p4⟩ := hL r (by omega)
        have hw := G.block (b r) (blk_lt p3) (p2 i (Nat.le_refl _) hi)
        have p3' := hw.trans p3
        have hk := keep (b r) (blk_lt p3') (not_own hT' hO2 p3')
        exact ⟨p1, fun s hs hs3 => p2 s (by omega) hs3, ⟨cur', T', hT', hk.trans p3'⟩, fun j hj => (World.cell?_of_block (a := ⟨b r, j, none⟩) (hk.trans hw)).trans (p4 j hj)⟩
/-- At the end: the row of the three. -/
theorem LONG.out {w : World} {B n m : Nat} {g : Nat → Nat} {U V : Nat → Int} {v : Value} (h : LONG w B n m g U V v 3) : ∃ (p cp : Nat) (b c : Nat → Nat), v = .slice (some ⟨p, 0, none⟩) 3 cp ∧ (∀ r, r < 3 → w.cell? ⟨p, r, none⟩ = some (.slice (some ⟨b r, 0, none⟩) (n + m) (c r))) ∧ ∀ r, r < 3 → n + m ≤ c r ∧ ∀ j, j < n + m → w.cell? ⟨b r, j, none⟩ = some (byt (if j < n then U r else V r)) := by
  obtain ⟨b, c, ho, hr⟩ := h
  have hl := ho.1
  rcases ho.2 with ⟨_, h0⟩ | ⟨p, cp, cur, rfl, _⟩
  · omega
  · refine ⟨p, cp, b, c, rfl, fun r h3 => ?_, fun r h3 => ⟨(hr r h3).1, (hr r h3).2.2.2⟩⟩
    have := ho.cells (g := p) rfl r (.slice (some ⟨b r, 0, none⟩) (n + m) (c r)) (by unfold sls; rw [List.getElem?_map, List.getElem?_range h3]; rfl)
    rw [Addr.add_lit, Nat.zero_add] at this
    exact this
/-- Blocks that stay as they were. -/
def KEEP (w0 w : World) (ks : List Nat) : Prop := ∀ k, k ∈ ks → w.heap[k]? = w0.heap[k]?
theorem KEEP.set {w0 w : World} {ks : List Nat} (h : KEEP w0 w ks) {g : Nat} (hg : g ∉ ks) (j : Nat) (u : Value) : KEEP w0 (w.setCell ⟨g, j, none⟩ u) ks := fun k hk =>
  (Below.heap_setCell w ⟨g, j, none⟩ u k (fun e => hg (by have e2 : k = g := e; rw [← e2]; exact hk))).trans (h k hk)
theorem KEEP.step {w0 w w1 : World} {ks : List Nat} (h : KEEP w0 w ks) {B g : Nat} (hB : ∀ k, k ∈ ks → k < B) (hg : g ∉ ks) (hw : ∀ k, k < B → k ≠ g → w1.heap[k]? = w.heap[k]?) : KEEP w0 w1 ks := fun k hk =>
  (hw k (hB k hk) (fun e => hg (e ▸ hk))).trans (h k hk)
end Go.Proofs.Ytdmpbfhbjklajaa.Own4
end

/- HeadOwn walked: what Put and Seal answer is new memory, its spare room too. -/
section
namespace Go.Proofs.Ytdmpbfhbjklajaa.WalkHeadOwn
open Go.Proofs.Ytdmpbfhbjklajaa Go.RowKit Go.Proofs.YtdmpbfhbjklajaaW.PrintWords Go.Proofs.YtdmpbfhbjklajaaW.PrintLast Go.Proofs.YtdmpbfhbjklajaaW.PrintMore Go.Proofs.Ytdmpbfhbjklajaa.Byt Go.Proofs.Ytdmpbfhbjklajaa.OctPure Go.Proofs.Ytdmpbfhbjklajaa.Img Go.Proofs.Ytdmpbfhbjklajaa.Head Go.Proofs.Ytdmpbfhbjklajaa.HeadPut Go.Proofs.Ytdmpbfhbjklajaa.HeadSums Go.Proofs.Ytdmpbfhbjklajaa.HGetC Go.Proofs.Ytdmpbfhbjklajaa.HeadLaw Go.Proofs.Ytdmpbfhbjklajaa.HPutIm Go.Proofs.Ytdmpbfhbjklajaa.HAwake Go.Proofs.Ytdmpbfhbjklajaa.HSealIm Go.Proofs.Ytdmpbfhbjklajaa.Own4
set_option linter.unusedVariables false
set_option linter.unusedSimpArgs false
attribute [local go_sem high] PHeadBack.eqA24
def U (c : Int) (r : Nat) : Int := (c + r) % 256
def V (c : Int) (r : Nat) : Int := (c + r + 9) % 256
def fn3 (a b c : Nat) (r : Nat) : Nat := if r = 0 then a else if r = 1 then b else c
theorem info5 : (Try.prog.info? 5).map (fun i => (i.zero, i.size, i.bytes)) = some (some (.int .u8 0), 1, 1) := by kernel_rfl
theorem info22 : (Try.prog.info? 22).map (fun i => (i.zero, i.size, i.bytes)) = some (some (.slice none 0 0), 1, 24) := by kernel_rfl
theorem all_three {w : World} {n ga gb gc ca cb cc : Nat} {g cap : Nat → Nat} (hg : g = fn3 ga gb gc) (hcap : cap = fn3 ca cb cc) (ra : ROOM w ga ca) (rb : ROOM w gb cb) (rc : ROOM w gc cc) (la : n ≤ ca) (lb : n ≤ cb) (lc : n ≤ cc) (hab : ga < gb) (hbc : gb < gc) :
    ALL (w.alloc (.cells #[.slice (some ⟨ga, 0, none⟩) n ca, .slice (some ⟨gb, 0, none⟩) n cb, .slice (some ⟨gc, 0, none⟩) n cc] 22)) w.heap.size n g cap := by
  subst hg hcap
  have sp : ∀ r, r < 3 → r = 0 ∨ r = 1 ∨ r = 2 := fun r hr => by omega
  refine ⟨⟨_, heap_alloc_new w _, fun r hr => ?_⟩, fun r hr => ?_, fun r hr => ?_, fun r s hr hs e => ?_⟩
  · rcases sp r hr with rfl | rfl | rfl <;> rfl
  · rcases sp r hr with rfl | rfl | rfl
    · exact ra.of (Below.heap_alloc w _ _ ra.lt)
    · exact rb.of (Below.heap_alloc w _ _ rb.lt)
    · exact rc.of (Below.heap_alloc w _ _ rc.lt)
  · rcases sp r hr with rfl | rfl | rfl
    · exact la
    · exact lb
    · exact lc
  · rcases sp r hr with rfl | rfl | rfl <;> rcases sp s hs with rfl | rfl | rfl <;> first | rfl | (simp [fn3] at e; omega)
theorem fill_three {w : World} {o : Obj} {n ga gb gc : Nat} {g : Nat → Nat} {U : Nat → Int} (hg : g = fn3 ga gb gc) (pa : PART w ga n 0 0) (pb : PART w gb n 0 0) (pc : PART w gc n 0 0) (la : ga < w.heap.size) (lb : gb < w.heap.size) (lc : gc < w.heap.size) : FILL (w.alloc o) n g U 0 0 := by
  subst hg
  refine FILL.start fun r hr => ?_
  have sp : r = 0 ∨ r = 1 ∨ r = 2 := by omega
  rcases sp with rfl | rfl | rfl
  · exact pa.of (Below.heap_alloc w _ _ la)
  · exact pb.of (Below.heap_alloc w _ _ lb)
  · exact pc.of (Below.heap_alloc w _ _ lc)
theorem three_from {B ga gb gc : Nat} {g : Nat → Nat} (hg : g = fn3 ga gb gc) (a : B ≤ ga) (b : B ≤ gb) (c : B ≤ gc) : ∀ r, r < 3 → B ≤ g r := fun r hr => by
  subst hg
  have sp : r = 0 ∨ r = 1 ∨ r = 2 := by omega
  rcases sp with rfl | rfl | rfl
  · exact a
  · exact b
  · exact c

theorem not_three {a b c : Nat} {g : Nat → Nat} {ks : List Nat} (hg : g = fn3 a b c) (h : a ∉ ks ∧ b ∉ ks ∧ c ∉ ks) : ∀ r, r < 3 → g r ∉ ks := fun r hr => by
  subst hg
  have sp : r = 0 ∨ r = 1 ∨ r = 2 := by omega
  rcases sp with rfl | rfl | rfl
  · exact h.1
  · exact h.2.1
  · exact h.2.2
def REP (c : Int) (i : Nat) : List Value := List.replicate 512 (byt (U c i))
def OWNED (w : World) (B g : Nat) (v : Value) (j : Nat) (olds : List Value) (y : Int) : Prop := (j = 0 ∧ v.ownBlock = some g) ∨ w.ownsRow B 5 1 v (512 + j) (olds ++ List.replicate j (byt y))
theorem OWNED.alloc {w : World} {B g : Nat} {v : Value} {j : Nat} {olds : List Value} {y : Int} (h : OWNED w B g v j olds y) (o : Obj) : (j = 0 ∧ v.ownBlock = some g) ∨ (w.alloc o).ownsRow B 5 1 v (512 + j) (olds ++ List.replicate j (byt y)) := h.imp id fun h => h.alloc o
theorem OWNED.of {w : World} {B g : Nat} {v : Value} {j : Nat} {olds : List Value} {y : Int} (h : w.ownsRow B 5 1 v (512 + (j + 1)) (olds ++ (List.replicate j (byt y) ++ [byt y]))) : OWNED w B g v (j + 1) olds y := .inr (by rw [List.replicate_succ']; exact h)
theorem sz (w : World) (o : Obj) : (w.alloc o).heap.size = w.heap.size + 1 := by simp
set_option maxRecDepth 100000 in
set_option maxHeartbeats 4000000 in
theorem bad (n p : ByteArray) (m s t y : Int) (x : ByteArray) (c E : Int) (W : World) (hF : Fit m s t y) (hE : E = mayS n p m s t y x) (h0 : E ≠ 0) :
    Calls Try.prog 9 #[.agg #[.string n, .string p, .int .i64 m, .int .i64 s, .int .i64 t, .int .u8 y, .string x], .int .u8 c] W fun e w' => e = .returned (.bool true) ∧ Below W.heap.size W w' := by
  have HF := Lib.hid hF
  have HE := Lib.hid hE
  have H0 := Lib.hid h0
  have hne : (E == 0) = false := by simpa using h0
  have hne2 : (E != 0) = true := by simpa using h0
  have tk0 : True := trivial
  clear hF hE h0
  go_enter Try.func9, Try.ntmps9
  go_wp2_with (first
    | (go_at_call 27; ((with_reducible refine (awake_at _).mono ?_); rintro e w1 ⟨rfl, hb1⟩; have HW1 := Lib.hid (below_then ((Below.refl W.heap.size W).alloc (Nat.le_refl _) _) (by simp) hb1); have HX1 := Lib.hid (blk_below (blk_new W (.cells #[.string n, .string p, .int .i64 m, .int .i64 s, .int .i64 t, .int .u8 y, .string x] TH)) hb1); clear hb1))
    | ((with_reducible refine gate_dst (N := 31) rfl ?_); refine wpList_load_row rfl TH (.tmp 2) rfl W.heap.size rfl TH _ (0, 0) _ HX1.out Try.underlying24 rfl (by kernel_rfl) ?_)
    | ((with_reducible refine gate_dst (N := 36) rfl ?_); refine wpList_load_row rfl TH (.tmp 2) rfl W.heap.size rfl TH _ (0, 0) _ HX2.out Try.underlying24 rfl (by kernel_rfl) ?_)
    | (go_at_call 21; have _tk := tk0; ((with_reducible refine (put_no n p m s t y x E _ HF.out HE.out H0.out).mono ?_); rintro e w2 ⟨rfl, hb2⟩; have HW2 := Lib.hid (HW1.out.trans (hb2.mono HW1.out.size)); have HX2 := Lib.hid (blk_below HX1.out hb2); have tk1 : True := trivial; clear hb2 tk0 _tk))
    | (go_at_call 21; have _tk := tk1; ((with_reducible refine (put_no n p m s t y x E _ HF.out HE.out H0.out).mono ?_); rintro e w3 ⟨rfl, hb3⟩; have HW3 := Lib.hid (HW2.out.trans (hb3.mono HW2.out.size)); clear hb3 tk1 _tk)))
  go_ret
  exact ⟨rfl, HW3.out⟩
set_option maxRecDepth 100000 in
set_option maxHeartbeats 4000000 in
theorem good (n p : ByteArray) (m s t y : Int) (x : ByteArray) (c : Int) (L : List Int) (W : World) (hF : Fit m s t y) (hE : mayS n p m s t y x = 0) (hc : 0 ≤ c ∧ c ≤ 255) (hL : L = layS n p m s t y x) :
    Calls Try.prog 9 #[.agg #[.string n, .string p, .int .i64 m, .int .i64 s, .int .i64 t, .int .u8 y, .string x], .int .u8 c] W fun e w' => e = .returned (.bool true) ∧ Below W.heap.size W w' := by
  have hl := lay_list n p m s t y x hF.1 hE
  rw [← hL] at hl
  have hgl := get_lay n p m s t y x hF.1 hE
  rw [← hL] at hgl
  have HGL := Lib.hid hgl
  have HF := Lib.hid hF
  have HE := Lib.hid hE
  have HL := Lib.hid hL
  have HLL := Lib.hid hl.2.1
  have HSL := Lib.hid hl.1.symm
  have HAB := Lib.hid (show AreB L from mem_of_bytes hl.2.2.1)
  have hcu : c ≤ 255 := hc.2
  have hcl : 0 ≤ c := hc.1
  have tk0 : True := trivial
  clear hF hE hL hl hgl hc
  go_enter Try.func9, Try.ntmps9
  go_wp2_with (first
    | (go_at_call 27; ((with_reducible refine (awake_at _).mono ?_); rintro e w1 ⟨rfl, hb1⟩; have HW1 := Lib.hid (below_then ((Below.refl W.heap.size W).alloc (Nat.le_refl _) _) (by simp) hb1); have HX1 := Lib.hid (blk_below (blk_new W (.cells #[.string n, .string p, .int .i64 m, .int .i64 s, .int .i64 t, .int .u8 y, .string x] TH)) hb1); clear hb1))
    | ((with_reducible refine gate_dst (N := 31) rfl ?_); refine wpList_load_row rfl TH (.tmp 2) rfl W.heap.size rfl TH _ (0, 0) _ HX1.out Try.underlying24 rfl (by kernel_rfl) ?_)
    | ((with_reducible refine gate_dst (N := 36) rfl ?_); refine wpList_load_row rfl TH (.tmp 2) rfl W.heap.size rfl TH _ (0, 0) _ HX2.out Try.underlying24 rfl (by kernel_rfl) ?_)
    | (go_at_call 21; have _tk := tk0; go_loud ((with_reducible refine (put_im n p m s t y x L _ HF.out HE.out HL.out).mono ?_); rintro e w2 ⟨ga, rfl, hga, ia, hb⟩; have HGA := Lib.hid (Nat.lt_of_lt_of_le (blk_lt HX1.out) hga); have HA2 := Lib.hid ia; have HW2 := Lib.hid (HW1.out.trans (hb.mono HW1.out.size)); have HX2 := Lib.hid (blk_below HX1.out hb); have tk1 : True := trivial; clear hb ia hga tk0 _tk))
    | (go_at_call 21; have _tk := tk1; go_loud ((with_reducible refine (put_im n p m s t y x L _ HF.out HE.out HL.out).mono ?_); rintro e w3 ⟨gb, rfl, hgb, ib, hb⟩; have HAB3 := Lib.hid (Nat.lt_of_lt_of_le HA2.out.lt hgb); have HA3 := Lib.hid (HA2.out.below hb); have HB3 := Lib.hid ib; have HW3 := Lib.hid (HW2.out.trans (hb.mono HW2.out.size)); have HX3 := Lib.hid (blk_below HX2.out hb); have tk2 : True := trivial; clear hb ib hgb tk1 _tk))
    | (go_at_call 14; have _tk := tk2; go_loud ((with_reducible refine (seal_im (some ⟨ga, 0, none⟩) 512 L L _ (im_C HA3.out HLL.out) (by rw [HLL.out]; decide) HLL.out HAB.out HSL.out).mono ?_); rintro e w4 ⟨gs, rfl, hgs, is, hb⟩; have HBS := Lib.hid (Nat.lt_of_lt_of_le HB3.out.lt hgs); have HA4 := Lib.hid (HA3.out.below hb); have HB4 := Lib.hid (HB3.out.below hb); have HS4 := Lib.hid is; have HW4 := Lib.hid (HW3.out.trans (hb.mono HW3.out.size)); have HX4 := Lib.hid (blk_below HX3.out hb); have tk3 : True := trivial; clear hb is hgs tk2 _tk))
    | (go_at_call 14; have _tk := tk3; go_loud ((with_reducible refine (seal_im (some ⟨ga, 0, none⟩) 512 L L _ (im_C HA4.out HLL.out) (by rw [HLL.out]; decide) HLL.out HAB.out HSL.out).mono ?_); rintro e w5 ⟨gt, rfl, hgt, it, hb⟩; have HST := Lib.hid (Nat.lt_of_lt_of_le HS4.out.lt hgt); have HA5 := Lib.hid (HA4.out.below hb); have HB5 := Lib.hid (HB4.out.below hb); have HS5 := Lib.hid (HS4.out.below hb); have HT5 := Lib.hid it; have HW5 := Lib.hid (HW4.out.trans (hb.mono HW4.out.size)); have HX5 := Lib.hid (blk_below HX4.out hb); have tk4 : True := trivial; clear hb it hgt tk3 _tk))
    | (go_at_call 25; have _tk := tk4; go_loud ((with_reducible refine (get_im ga L n p m s t y x 0 _ HA5.out HLL.out HGL.out).mono ?_); rintro e w6 ⟨rfl, hb⟩; have hq := (Below.refl w6.heap.size w6).alloc (Nat.le_refl _) (.cells #[.string n, .string p, .int .i64 m, .int .i64 s, .int .i64 t, .int .u8 y, .string x] TH); have HTX := Lib.hid (Nat.lt_of_lt_of_le HT5.out.lt hb.size); have HA7 := Lib.hid ((HA5.out.below hb).below hq); have HB7 := Lib.hid ((HB5.out.below hb).below hq); have HS7 := Lib.hid ((HS5.out.below hb).below hq); have HT7 := Lib.hid ((HT5.out.below hb).below hq); have HW7 := Lib.hid ((HW5.out.trans (hb.mono HW5.out.size)).alloc (HW5.out.trans (hb.mono HW5.out.size)).size (.cells #[.string n, .string p, .int .i64 m, .int .i64 s, .int .i64 t, .int .u8 y, .string x] TH)); have HX7 := Lib.hid (blk_alloc (blk_below HX5.out hb) (.cells #[.string n, .string p, .int .i64 m, .int .i64 s, .int .i64 t, .int .u8 y, .string x] TH)); have HY7 := Lib.hid (blk_new w6 (.cells #[.string n, .string p, .int .i64 m, .int .i64 s, .int .i64 t, .int .u8 y, .string x] TH)); have tk5 : True := trivial; clear hb hq tk4 _tk)))
  obtain ⟨h, hh⟩ : ∃ h, h = w6.heap.size + 1 := ⟨_, rfl⟩
  obtain ⟨g, hg⟩ : ∃ g, g = fn3 ga gs gt := ⟨_, rfl⟩
  obtain ⟨cap, hcap⟩ : ∃ cap, cap = fn3 512 512 512 := ⟨_, rfl⟩
  have HALL := Lib.hid (show ALL ((w6.alloc (.cells #[.string n, .string p, .int .i64 m, .int .i64 s, .int .i64 t, .int .u8 y, .string x] TH)).alloc (.cells #[.slice (some ⟨ga, 0, none⟩) 512 512, .slice (some ⟨gs, 0, none⟩) 512 512, .slice (some ⟨gt, 0, none⟩) 512 512] 22)) (w6.heap.size + 1) 512 g cap from by
    have := all_three (w := w6.alloc (.cells #[.string n, .string p, .int .i64 m, .int .i64 s, .int .i64 t, .int .u8 y, .string x] TH)) hg hcap (room_im HA7.out HLL.out) (room_im HS7.out HLL.out) (room_im HT7.out HLL.out) (Nat.le_refl _) (Nat.le_refl _) (Nat.le_refl _) (Nat.lt_trans HAB3.out HBS.out) HST.out
    rw [sz] at this
    exact this)
  have HFILL := Lib.hid (show FILL ((w6.alloc (.cells #[.string n, .string p, .int .i64 m, .int .i64 s, .int .i64 t, .int .u8 y, .string x] TH)).alloc (.cells #[.slice (some ⟨ga, 0, none⟩) 512 512, .slice (some ⟨gs, 0, none⟩) 512 512, .slice (some ⟨gt, 0, none⟩) 512 512] 22)) 512 g (U c) 0 0 from fill_three hg (part_im HA7.out HLL.out) (part_im HS7.out HLL.out) (part_im HT7.out HLL.out) HA7.out.lt HS7.out.lt HT7.out.lt)
  have HG := Lib.hid (show ∀ r, r < 3 → W.heap.size ≤ g r from three_from hg (Nat.le_of_lt HGA.out) (by have := HGA.out; have := HAB3.out; have := HBS.out; omega) (by have := HGA.out; have := HAB3.out; have := HBS.out; have := HST.out; omega))
  have HNG := Lib.hid (show ∀ r, r < 3 → g r ∉ [gb, w6.heap.size, W.heap.size] from not_three hg (by have h1 := HGA.out; have h2 := HAB3.out; have h3 := HBS.out; have h4 := HST.out; have h5 := HTX.out; simp; omega))
  have HKP := Lib.hid (show KEEP ((w6.alloc (.cells #[.string n, .string p, .int .i64 m, .int .i64 s, .int .i64 t, .int .u8 y, .string x] TH)).alloc (.cells #[.slice (some ⟨ga, 0, none⟩) 512 512, .slice (some ⟨gs, 0, none⟩) 512 512, .slice (some ⟨gt, 0, none⟩) 512 512] 22)) ((w6.alloc (.cells #[.string n, .string p, .int .i64 m, .int .i64 s, .int .i64 t, .int .u8 y, .string x] TH)).alloc (.cells #[.slice (some ⟨ga, 0, none⟩) 512 512, .slice (some ⟨gs, 0, none⟩) 512 512, .slice (some ⟨gt, 0, none⟩) 512 512] 22)) [gb, w6.heap.size, W.heap.size] from fun _ _ => rfl)
  have HB8 := Lib.hid (blk_alloc HB7.out (.cells #[.slice (some ⟨ga, 0, none⟩) 512 512, .slice (some ⟨gs, 0, none⟩) 512 512, .slice (some ⟨gt, 0, none⟩) 512 512] 22))
  have HX8 := Lib.hid (blk_alloc HX7.out (.cells #[.slice (some ⟨ga, 0, none⟩) 512 512, .slice (some ⟨gs, 0, none⟩) 512 512, .slice (some ⟨gt, 0, none⟩) 512 512] 22))
  have HY8 := Lib.hid (blk_alloc HY7.out (.cells #[.slice (some ⟨ga, 0, none⟩) 512 512, .slice (some ⟨gs, 0, none⟩) 512 512, .slice (some ⟨gt, 0, none⟩) 512 512] 22))
  have HW8 := Lib.hid (HW7.out.alloc HW7.out.size (.cells #[.slice (some ⟨ga, 0, none⟩) 512 512, .slice (some ⟨gs, 0, none⟩) 512 512, .slice (some ⟨gt, 0, none⟩) 512 512] 22))
  have HKS := Lib.hid (show ∀ k, k ∈ [gb, w6.heap.size, W.heap.size] → k < w6.heap.size + 1 from fun k hk => by
    have h1 := HGA.out; have h2 := HAB3.out; have h3 := HBS.out; have h4 := HST.out; have h5 := HTX.out
    simp at hk
    omega)
  have HCP := Lib.hid (show ∀ r, cap r = 512 from fun r => by rw [hcap]; unfold fn3; split <;> (try split) <;> rfl)
  clear hh hg hcap HA2 HA3 HA4 HA5 HA7 HB3 HB4 HB5 HB7 HS4 HS5 HS7 HT5 HT7 HX1 HX2 HX3 HX4 HX5 HX7 HY7 HW1 HW2 HW3 HW4 HW5 HW7 HGA HAB3 HBS HST HTX
  obtain ⟨w0, hw0⟩ : ∃ w0, w0 = (w6.alloc (.cells #[.string n, .string p, .int .i64 m, .int .i64 s, .int .i64 t, .int .u8 y, .string x] TH)).alloc (.cells #[.slice (some ⟨ga, 0, none⟩) 512 512, .slice (some ⟨gs, 0, none⟩) 512 512, .slice (some ⟨gt, 0, none⟩) 512 512] 22) := ⟨_, rfl⟩
  have HKP := Lib.hid (show KEEP w0 ((w6.alloc (.cells #[.string n, .string p, .int .i64 m, .int .i64 s, .int .i64 t, .int .u8 y, .string x] TH)).alloc (.cells #[.slice (some ⟨ga, 0, none⟩) 512 512, .slice (some ⟨gs, 0, none⟩) 512 512, .slice (some ⟨gt, 0, none⟩) 512 512] 22)) [gb, w6.heap.size, W.heap.size] from fun _ _ => by rw [hw0])
  have HB0 := Lib.hid (show IM w0 gb L by rw [hw0]; exact HB8.out)
  have HX0 := Lib.hid (show w0.heap[W.heap.size]? = some (.cells #[.string n, .string p, .int .i64 m, .int .i64 s, .int .i64 t, .int .u8 y, .string x] TH (0, 0)) by rw [hw0]; exact HX8.out)
  have HY0 := Lib.hid (show w0.heap[w6.heap.size]? = some (.cells #[.string n, .string p, .int .i64 m, .int .i64 s, .int .i64 t, .int .u8 y, .string x] TH (0, 0)) by rw [hw0]; exact HY8.out)
  clear hw0 HB8 HX8 HY8
  go_loopw [16] (fun v16 wr => ∃ i : Nat, i ≤ 3 ∧ v16 = .int .i64 i ∧ ALL wr (w6.heap.size + 1) 512 g cap ∧ FILL wr 512 g (U c) i 0 ∧ KEEP w0 wr [gb, w6.heap.size, W.heap.size] ∧ Below W.heap.size W wr) (fun v16 _ => 3 - (intOf v16).toNat)
  case atStart => exact ⟨0, by omega, rfl, HALL.out, HFILL.out, HKP.out, HW8.out⟩
  case round =>
    obtain ⟨i, hi3, rfl, ha, hf, hk, hb⟩ := hrel
    clear HALL HFILL HW8 HKP
    have HA := Lib.hid ha
    have HF_ := Lib.hid hf
    have HK := Lib.hid hk
    have HB := Lib.hid hb
    clear ha hf hb hk
    by_cases hi : i < 3
    · go_wp2
      go_loopw [17] (fun v17 wr => ∃ k : Nat, k ≤ 512 ∧ v17 = .int .i64 k ∧ ALL wr (w6.heap.size + 1) 512 g cap ∧ FILL wr 512 g (U c) i k ∧ KEEP w0 wr [gb, w6.heap.size, W.heap.size] ∧ Below W.heap.size W wr) (fun v17 _ => 512 - (intOf v17).toNat)
      case atStart => exact ⟨0, by omega, rfl, HA.out, HF_.out, HK.out, HB.out⟩
      case round =>
        obtain ⟨k, hk, rfl, ha, hf, hkp, hb⟩ := hrel
        clear HA HF_ HB HK
        have HA := Lib.hid ha
        have HF_ := Lib.hid hf
        have HK := Lib.hid hkp
        have HB := Lib.hid hb
        have hx := ha.at i hi
        by_cases hlt : k < 512
        · obtain ⟨z, hy⟩ := hf.cell i hi k hlt
          have hz := (ha.room i hi).frozen k
          clear ha hf hb hkp
          go_wp2
          go_roundw
          case rel => exact ⟨k + 1, hlt, by go_num, HA.out.set i hi k _, FILL.step HA.out HF_.out hi hlt, HK.out.set (HNG.out i hi) _ _, HB.out.setCell (HG.out i hi) _⟩
          case measure => simp [intOf]; omega
        · have e : k = 512 := by omega
          clear ha hf hb hkp
          go_wp2
          go_roundw
          case rel => exact ⟨i + 1, by omega, by go_num, HA.out, (by rw [e] at HF_; exact HF_.out.next), HK.out, HB.out⟩
          case measure => simp [intOf]; omega
    · have e : i = 3 := by omega
      have HF3 := Lib.hid (show FILL wr 512 g (U c) 3 0 by have := HF_.out; rwa [e] at this)
      clear HF_ e
      obtain ⟨B, hB⟩ : ∃ B, B = wr.heap.size := ⟨_, rfl⟩
      have hB2 : B ≤ wr.heap.size := by omega
      have HGB := Lib.hid (show ∀ r, r < 3 → g r < B from fun r hr => by rw [hB]; exact (HA.out.room r hr).lt)
      have HHB := Lib.hid (show w6.heap.size + 1 < B by rw [hB]; exact HA.out.lt)
      have HBB := Lib.hid (show W.heap.size ≤ B by rw [hB]; exact HB.out.size)
      have HKB := Lib.hid (show ∀ k, k ∈ [gb, w6.heap.size, W.heap.size] → k < B from fun k hk => by have := HKS.out k hk; have := HHB.out; omega)
      clear hB
      go_wp2
      go_loopw [19, 18] (fun v19 v18 w => ∃ i : Nat, i ≤ 3 ∧ v19 = .int .i64 i ∧ B ≤ w.heap.size ∧ ALL3 w (w6.heap.size + 1) 512 g cap i ∧ FILL w 512 g (U c) 3 0 ∧ LONG w B 512 20 g (U c) (V c) v18 i ∧ KEEP w0 w [gb, w6.heap.size, W.heap.size] ∧ Below W.heap.size W w) (fun v19 _ _ => 3 - (intOf v19).toNat)
      case atStart => exact ⟨0, by omega, rfl, hB2, HA.out.three, HF3.out, LONG.start _ _ _ _ _ _ _, HK.out, HB.out⟩
      case round =>
        obtain ⟨i, hi3, rfl, hb2, ha, hf, hl, hkp, hb⟩ := hrel
        clear HA HF3 HB HK
        have HA := Lib.hid ha
        have HF3 := Lib.hid hf
        have HB := Lib.hid hb
        have HK := Lib.hid hkp
        have HLO := Lib.hid hl
        have HB2 := Lib.hid hb2
        clear ha hf hb hl hb2 hkp
        by_cases hi : i < 3
        · have hx := HA.out.at i hi
          have hib : decide ((i : Int) < 3) = true := decide_eq_true (by omega)
          have HCM := Lib.hid (show Came wr 1 (some ⟨g i, 0, none⟩) (g i) 0 512 (cap i) (REP c i) from came (x := U c i) (HA.out.room i (Nat.le_refl _) hi) (HA.out.len i hi) (fun j hj => HF3.out.done i hi j hj))
          have HRM := Lib.hid (HA.out.room i (Nat.le_refl _) hi).max
          go_wp2
          clear hx
          go_loopw [20, 21] (fun v20 v21 w => ∃ j : Nat, j ≤ 20 ∧ v21 = .int .i64 j ∧ Onto wr 5 1 (some ⟨g i, 0, none⟩) (g i) 0 512 (cap i) (REP c i) w v20 j (List.replicate j (byt (V c i))) ∧ OWNED w W.heap.size (g i) v20 j (REP c i) (V c i) ∧ Below W.heap.size W w) (fun _ v21 _ => 20 - (intOf v21).toNat)
          case atStart => exact ⟨0, by omega, rfl, Onto.start HCM.out, .inl ⟨rfl, rfl⟩, HB.out⟩
          case round =>
            obtain ⟨j, hj, rfl, ho, how, hbw⟩ := hrel
            have HO := Lib.hid ho
            have HOWN := Lib.hid how
            have HBW := Lib.hid hbw
            clear ho how hbw
            by_cases hlt : j < 20
            · obtain ⟨i5, hi5⟩ := info_parts info5
              have HI5 := Lib.hid hi5
              clear hi5
              go_wp2_with ((with_reducible refine gate_builtin (b := .append) (xs := #[.tmp 104, .tmp 110]) rfl ?_); at_builtin; go_loud (refine wpList_append_two _ rfl (.tmp 104) (.tmp 110) 22 rfl HCM.out (HCP.out i) (by decide) HRM.out i5 (.int .u8 0) 1 Try.underlying22 HI5.out.1 HI5.out.2.1 HI5.out.2.2.1 HI5.out.2.2.2 rfl (by decide) rfl (HO.out.alloc HCM.out (.cells #[.int .u8 ((c + (i : Int) + 9) % 256)] 5)) W.heap.size (HOWN.out.alloc _) ?b3 (HG.out i hi) ⟨wr.heap.size, 0, none⟩ 1 [byt (V c i)] rfl rfl ?c1 ?c2 ?b1 ?b2 ?_))
              case c1 =>
                intro q u hu
                have hq : q = 0 := by have := (List.getElem?_eq_some_iff.1 hu).1; simp at this; omega
                subst hq
                rw [Addr.add_lit, blk_cell (heap_alloc_new wr _)]
                exact hu
              case c2 => intro u hu; rw [List.mem_singleton.1 hu]; rfl
              case b1 => unfold maxLen; omega
              case b2 => omega
              case b3 => have := HBW.out.size; simp; omega
              intro v2 w2 ho2 how2 row hg2 hrow
              have HO2 := Lib.hid ho2
              have HOWN2 := Lib.hid (OWNED.of (g := g i) how2)
              have HBW2 := Lib.hid ((HBW.out.alloc HBW.out.size _).grown hg2 (by have := HBW.out.size; simp; omega) hrow)
              clear ho2 how2 hg2 hrow
              go_wp2
              go_roundw
              case rel => exact ⟨j + 1, hlt, by go_num, by rw [List.replicate_succ']; exact HO2.out, HOWN2.out, HBW2.out⟩
              case measure => simp [intOf]; omega
            · have e : j = 20 := by omega
              have hO20 := HO.out
              rw [e] at hO20
              have hG := gone (HA.out.room i (Nat.le_refl _) hi) (HA.out.len i hi) (by decide) (fun j hj => HF3.out.done i hi j hj) hO20
              clear e hO20
              obtain ⟨bi, ci, e18, _⟩ := hG.val
              subst e18
              obtain ⟨b, c', hO, hR⟩ := HLO.out
              have HOW := Lib.hid (hG.owns hO (HGB.out i hi))
              have HO1 := Lib.hid hO
              have HR := Lib.hid hR
              have HSZ := Lib.hid HO.out.kept.size
              have HG2 := Lib.hid hG
              obtain ⟨i6, hi6⟩ := info_parts info22
              have HI6 := Lib.hid hi6
              clear hG hO hR hi6 HO
              go_wp2_with ((with_reducible refine gate_builtin (b := .append) (xs := #[.tmp 112, .tmp 114]) rfl ?_); at_builtin; go_loud (refine wpList_append_own _ rfl (.tmp 112) (.tmp 114) 52 rfl B 22 i6 (.slice none 0 0) 1 24 Try.underlying52 HI6.out.1 HI6.out.2.1 HI6.out.2.2.1 HI6.out.2.2.2 rfl (by decide) _ i (sls 512 20 b c' i) rfl (HOW.out.alloc _) ⟨wr.heap.size, 0, none⟩ 1 1 [.slice (some ⟨bi, 0, none⟩) (512 + 20) ci] rfl rfl ?d1 ?d2 ?d3 ?d4 ?d5 ?_))
              case d1 =>
                intro q u hu
                have hq : q = 0 := by have := (List.getElem?_eq_some_iff.1 hu).1; simp at this; omega
                subst hq
                rw [Addr.add_lit, blk_cell (heap_alloc_new wr _)]
                exact hu
              case d2 => intro u hu; rw [List.mem_singleton.1 hu]; rfl
              case d3 => unfold maxLen; omega
              case d4 => omega
              case d5 => have := HSZ.out; have := HB2.out; simp; omega
              rintro v2 w2 ho2 hg2 _
              obtain ⟨q1, q2, q3, q4, q5⟩ := LONG.step hi HA.out HF3.out HO1.out HR.out HB2.out HHB.out HGB.out HG2.out HSZ.out hg2 ho2
              have Q1 := Lib.hid q1
              have Q2 := Lib.hid q2
              have Q3 := Lib.hid q3
              have Q4 := Lib.hid q4
              have Q5 := Lib.hid (HK.out.step HKB.out (HNG.out i hi) q5)
              have HBN := Lib.hid ((HBW.out.alloc HBW.out.size _).grown hg2 (by have := HBW.out.size; simp; omega) (fun k hk => by have h1 := own_base HOW.out k hk; have h2 := HBB.out; omega))
              clear q1 q2 q3 q4 q5 ho2 hg2
              go_wp2
              go_roundw
              case rel => exact ⟨i + 1, hi, by go_num, Q1.out, Q2.out, Q3.out, Q4.out, Q5.out, HBN.out⟩
              case measure => simp [intOf]; omega
        · have e : i = 3 := by omega
          have hl3 := HLO.out
          rw [e] at hl3
          obtain ⟨pp, cp, b, c', e16, hp, hbs⟩ := hl3.out
          subst e16
          have HP := Lib.hid hp
          have HBS := Lib.hid hbs
          have hib : decide ((i : Int) < 3) = false := decide_eq_false (by omega)
          have HBI := Lib.hid (show IM wr gb L from (HK.out gb (by simp)).trans HB0.out)
          have HXI := Lib.hid ((HK.out W.heap.size (by simp)).trans HX0.out)
          have HYI := Lib.hid ((HK.out w6.heap.size (by simp)).trans HY0.out)
          clear e hl3 hp hbs HLO
          go_wp2
          go_loop [22] (fun v22 => ∃ q : Nat, q ≤ 3 ∧ v22 = .int .i64 q) (fun v22 => 3 - (intOf v22).toNat)
          case atStart => exact ⟨0, by omega, rfl⟩
          case round =>
            obtain ⟨q, hq3, rfl⟩ := hrel
            by_cases hq : q < 3
            · have hqb : decide ((q : Int) < 3) = true := decide_eq_true (by omega)
              have hx := HA.out.at q hq
              have hy := HP.out q hq
              go_wp2
              go_loop [24] (fun v24 => ∃ k : Nat, k ≤ 512 ∧ v24 = .int .i64 k) (fun v24 => 512 - (intOf v24).toNat)
              case atStart => exact ⟨0, by omega, rfl⟩
              case round =>
                obtain ⟨k, hk, rfl⟩ := hrel
                by_cases hk1 : k < 512
                · have hc1 : wr.cell? ⟨g q, k, none⟩ = some (.int .u8 ((c + (q : Int)) % 256)) := HF3.out.done q hq k hk1
                  go_wp2
                  go_round
                  case rel => exact ⟨k + 1, by omega, by go_num⟩
                  case measure => simp [intOf]; omega
                · have hkb : decide ((k : Int) < 512) = false := decide_eq_false (by omega)
                  go_wp2
                  go_loop [25] (fun v25 => ∃ k : Nat, 512 ≤ k ∧ k ≤ 532 ∧ v25 = .int .i64 k) (fun v25 => 532 - (intOf v25).toNat)
                  case atStart => exact ⟨512, by omega, by omega, rfl⟩
                  case round =>
                    obtain ⟨k2, hk2, hk3, rfl⟩ := hrel
                    by_cases hk4 : k2 < 532
                    · have hc2 : wr.cell? ⟨b q, k2, none⟩ = some (.int .u8 ((c + (q : Int) + 9) % 256)) := by
                        have := (HBS.out q hq).2 k2 (by omega)
                        rwa [if_neg (by omega)] at this
                      have hcc := (HBS.out q hq).1
                      go_wp2
                      go_round
                      case rel => exact ⟨k2 + 1, by omega, by omega, by go_num⟩
                      case measure => simp [intOf]; omega
                    · go_wp2
                      go_round
                      case rel => exact ⟨q + 1, by omega, by go_num⟩
                      case measure => simp [intOf]; omega
            · go_wp2_with (first
                | (go_at_call 25; go_loud ((with_reducible refine (get_im gb L n p m s t y x 0 _ HBI.out HLL.out HGL.out).mono ?_); rintro e w9 ⟨rfl, hb⟩; have HW9 := Lib.hid (HB.out.trans (hb.mono HB.out.size)); have HW9q := Lib.hid (HW9.out.alloc HW9.out.size (.cells #[.string n, .string p, .int .i64 m, .int .i64 s, .int .i64 t, .int .u8 y, .string x] TH)); have HX9 := Lib.hid (blk_alloc (blk_below HXI.out hb) (.cells #[.string n, .string p, .int .i64 m, .int .i64 s, .int .i64 t, .int .u8 y, .string x] TH)); have HY9 := Lib.hid (blk_alloc (blk_below HYI.out hb) (.cells #[.string n, .string p, .int .i64 m, .int .i64 s, .int .i64 t, .int .u8 y, .string x] TH)); have HZ9 := Lib.hid (blk_new w9 (.cells #[.string n, .string p, .int .i64 m, .int .i64 s, .int .i64 t, .int .u8 y, .string x] TH)); clear hb))
                | ((with_reducible refine gate_dst (N := 174) rfl ?_); refine gate_guard (by rfl) ?_; dsimp only; refine wpList_load_row rfl TH (.tmp 13) rfl w6.heap.size rfl TH _ (0, 0) _ HY9.out Try.underlying24 rfl (by kernel_rfl) ?_)
                | ((with_reducible refine gate_dst (N := 175) rfl ?_); refine gate_guard (by rfl) ?_; dsimp only; refine wpList_load_row rfl TH (.tmp 2) rfl W.heap.size rfl TH _ (0, 0) _ HX9.out Try.underlying24 rfl (by kernel_rfl) ?_)
                | ((with_reducible refine gate_dst (N := 179) rfl ?_); refine gate_guard (by rfl) ?_; dsimp only; refine wpList_load_row rfl TH (.tmp 26) rfl w9.heap.size rfl TH _ (0, 0) _ HZ9.out Try.underlying24 rfl (by kernel_rfl) ?_)
                | ((with_reducible refine gate_dst (N := 180) rfl ?_); refine gate_guard (by rfl) ?_; dsimp only; refine wpList_load_row rfl TH (.tmp 2) rfl W.heap.size rfl TH _ (0, 0) _ HX9.out Try.underlying24 rfl (by kernel_rfl) ?_))
              go_ret
              exact ⟨rfl, HW9q.out⟩
theorem walk (n p : ByteArray) (m s t y : Int) (x : ByteArray) (c : Int) (W : World) (hF : Fit m s t y) (hc : 0 ≤ c ∧ c ≤ 255) :
    Calls Try.prog 9 #[.agg #[.string n, .string p, .int .i64 m, .int .i64 s, .int .i64 t, .int .u8 y, .string x], .int .u8 c] W fun e w' => e = .returned (.bool true) ∧ Below W.heap.size W w' := by
  by_cases h : mayS n p m s t y x = 0
  · exact good n p m s t y x c _ W hF h hc rfl
  · exact bad n p m s t y x c _ W hF rfl h
end Go.Proofs.Ytdmpbfhbjklajaa.WalkHeadOwn
end
