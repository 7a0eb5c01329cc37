/- Texts of this claim, laid together by wip/tools/squash.py: KnownH, KnownI, Own3, SameP, WalkHeadSealed, PFullx0, PFullx1, PFullx. -/
import Derived.Test.YtdmpbfhbjklajaaQB10
import Derived.KernelRfl
import Derived.Test.YtdmpbfhbjklajaaProg
import Derived.Test.YtdmpbfhbjklajaaWMore
import Derived.WalkKit
import Derived.Lib.Hide
import Derived.Deep.Onto
import Derived.Below
import Derived.Deep.Draws
import Derived.Deep.AppendLies
import Derived.Maps.AppendAt
import Derived.OwnWalk
import Derived.Laws.BytesArg
import Derived.Laws.MakeOwn
import Derived.Laws.OwnMore
import Derived.Deep.OwnRows
import Derived.Tactics
import Derived.Lib.ConvBytes
import Derived.Laws.Slices
import Derived.RowKit3
import Derived.Deep.LoopGhost
import Derived.Deep.QuietTactic
import Derived.BigQuiet
import Derived.WideLaws
import Derived.Deep.DeepCutAuto
import Derived.Deep.CutBlock
import Derived.Deep.RegionHeld3
import Derived.Laws.Rows
import Derived.Lib.AppendStr
import Derived.ArgAppend
import Derived.Laws.IdiomCopy
import Derived.OrdersHeld
import Derived.Laws.BitsLemmas
import Derived.RowKit
import Derived.Test.YtdmpbfhbjklajaaWWords
import Derived.Test.YtdmpbfhbjklajaaWLast
import Derived.Test.YtdmpbfhbjklajaaWTab
import Derived.Test.YtdmpbfhbjklajaaWFour
import Derived.Test.YtdmpbfhbjklajaaWQPut
import Derived.Test.YtdmpbfhbjklajaaWApart
import Derived.Test.YtdmpbfhbjklajaaWArr
import Derived.Test.YtdmpbfhbjklajaaWZeros
import Derived.Test.YtdmpbfhbjklajaaWFoot
import Derived.Test.YtdmpbfhbjklajaaWKept
import Derived.Test.YtdmpbfhbjklajaaWShare
import Derived.Test.YtdmpbfhbjklajaaWN
import Derived.Test.YtdmpbfhbjklajaaWFootNe
import Derived.Test.YtdmpbfhbjklajaaWAt
import Derived.Test.YtdmpbfhbjklajaaWEqStruct
import Derived.Test.YtdmpbfhbjklajaaWRepsOne
import Derived.Test.YtdmpbfhbjklajaaWInv
import Derived.Test.YtdmpbfhbjklajaaWInvWords
import Derived.Test.YtdmpbfhbjklajaaWGuard
import Derived.Test.YtdmpbfhbjklajaaWNEv

/- HeadKnown's numbers, reckoned. -/
section
namespace Go.Proofs.Ytdmpbfhbjklajaa.KnownH
open Go.Proofs.Ytdmpbfhbjklajaa Go.RowKit Go.Proofs.YtdmpbfhbjklajaaW.PrintWords Go.Proofs.YtdmpbfhbjklajaaW.PrintLast Go.Proofs.YtdmpbfhbjklajaaW.PrintMore Go.Proofs.Ytdmpbfhbjklajaa.Byt Go.Proofs.Ytdmpbfhbjklajaa.OctPure Go.Proofs.Ytdmpbfhbjklajaa.Img Go.Proofs.Ytdmpbfhbjklajaa.Head Go.Proofs.Ytdmpbfhbjklajaa.HeadPut Go.Proofs.Ytdmpbfhbjklajaa.HeadSums Go.Proofs.Ytdmpbfhbjklajaa.HGetC Go.Proofs.Ytdmpbfhbjklajaa.HeadLaw
set_option linter.unusedVariables false
def bA : ByteArray := ⟨#[97]⟩
def bB : ByteArray := ⟨#[98]⟩
def bE : ByteArray := ⟨#[]⟩
def bN (n : Nat) : ByteArray := ⟨(List.replicate n 110).toArray⟩
def L0 : List Int := layS bA bE 420 3 0 48 bE
def L1 : List Int := L0.set 0 98
def L3 : List Int := (L1.set 0 97).set 100 32
def L6 : List Int := (L3.set 100 48).set 500 1
def ZL : List Int := List.replicate 512 0
theorem may0 : mayS bA bE 420 3 0 48 bE = 0 := by decide +kernel
theorem get1 : getF L1 = some (bE, bE, 0, 0, 0, 0, bE, 101) := by kernel_rfl
theorem get2 : getF (sealS L1) = some (bB, bE, 420, 3, 0, 48, bE, 0) := by kernel_rfl
theorem get3 : getF (sealS L3) = some (bE, bE, 0, 0, 0, 0, bE, 100) := by kernel_rfl
theorem get6 : getF (sealS L6) = some (bE, bE, 0, 0, 0, 0, bE, 100) := by kernel_rfl
theorem getZ : getF ZL = some (bE, bE, 0, 0, 0, 0, bE, 100) := by kernel_rfl
theorem sumZ : sumS ZL 512 = 256 := by decide +kernel
theorem mayX : mayS bA bE 420 3 0 51 bE = 102 := by decide +kernel
theorem mayY : mayS (bN 101) bE 420 3 0 48 bE = 2 := by decide +kernel
theorem mayZ : mayS bA bE 4096 3 0 48 bE = 1 := by decide +kernel
theorem mayW : mayS (bN 100) (bN 155) 0 0 1099511627776 50 (bN 100) = 0 := by decide +kernel
theorem mayV : mayS (bN 100) (bN 155 ++ ⟨#[120]⟩) 0 0 1099511627776 50 (bN 100) = 2 := by decide +kernel
theorem len0 : L0.length = 512 := by decide +kernel
theorem len1 : L1.length = 512 := by decide +kernel
theorem len3 : L3.length = 512 := by decide +kernel
theorem len6 : L6.length = 512 := by decide +kernel
theorem lenZ : ZL.length = 512 := by decide +kernel
theorem are1 : AreB L1 := by decide +kernel
theorem are3 : AreB L3 := by decide +kernel
theorem are6 : AreB L6 := by decide +kernel
theorem areZ : AreB ZL := by decide +kernel
end Go.Proofs.Ytdmpbfhbjklajaa.KnownH
end

/- HeadKnown's long names: "a" and then n's. -/
section
namespace Go.Proofs.Ytdmpbfhbjklajaa.KnownI
open Go.Proofs.Ytdmpbfhbjklajaa Go.RowKit Go.Proofs.Ytdmpbfhbjklajaa.Head Go.Proofs.Ytdmpbfhbjklajaa.HeadPut Go.Proofs.Ytdmpbfhbjklajaa.HeadLaw
set_option linter.unusedVariables false
def bM (k : Nat) : ByteArray := ⟨(97 :: List.replicate k 110).toArray⟩
def bL : ByteArray := ⟨(((97 : UInt8) :: List.replicate 100 110) ++ (97 :: List.replicate 53 110)).toArray⟩
def bLx : ByteArray := ⟨(((97 : UInt8) :: List.replicate 100 110) ++ (97 :: List.replicate 53 110) ++ [120]).toArray⟩
theorem bM_zero : bM 0 = ⟨#[97]⟩ := rfl
theorem bM_snoc (k : Nat) : bM k ++ ⟨#[110]⟩ = bM (k + 1) := by
  have h : (97 :: List.replicate (k + 1) (110 : UInt8)) = (97 :: List.replicate k 110) ++ [110] := by rw [List.replicate_succ', List.cons_append]
  unfold bM
  rw [h]
  exact ByteArray.ext (by simp)
theorem bM_size (k : Nat) : (bM k).size = k + 1 := by unfold bM; show (List.toArray _).size = _; simp
theorem may2 : mayS (bM 100) ⟨#[]⟩ 420 3 0 48 ⟨#[]⟩ = 2 := by decide +kernel
theorem mayW2 : mayS (bM 99) bL 0 0 1099511627776 50 (bM 99) = 0 := by decide +kernel
theorem mayV2 : mayS (bM 99) bLx 0 0 1099511627776 50 (bM 99) = 2 := by decide +kernel
theorem bL_size : bL.size = 155 := by decide +kernel
end Go.Proofs.Ytdmpbfhbjklajaa.KnownI
end

/- Rows of bytes in memory of their own, written over and gone on with: what stays as it was. -/
section
namespace Go.Proofs.Ytdmpbfhbjklajaa.Own3
open Go Go.RowKit Go.Proofs.YtdmpbfhbjklajaaW.PrintWords Go.Proofs.YtdmpbfhbjklajaaW.PrintLast Go.Proofs.YtdmpbfhbjklajaaW.PrintMore
set_option linter.unusedVariables false
set_option linter.unusedSimpArgs false
/-- A row's block: its room; nothing of it is frozen. -/
def ROOM (w : World) (g cap : Nat) : Prop := ∃ cur : Array Value, w.heap[g]? = some (.cells cur 5 (0, 0)) ∧ cur.size = cap ∧ cap ≤ maxLen
theorem ROOM.lt {w : World} {g cap : Nat} (h : ROOM w g cap) : g < w.heap.size := by
  obtain ⟨cur, h1, _⟩ := h
  exact blk_lt h1
theorem ROOM.max {w : World} {g cap : Nat} (h : ROOM w g cap) : cap ≤ maxLen := by
  obtain ⟨cur, _, _, h3⟩ := h
  exact h3
theorem ROOM.isSome {w : World} {g cap : Nat} (h : ROOM w g cap) (j : Nat) (hj : j < cap) : (w.cell? ⟨g, j, none⟩).isSome = true := by
  obtain ⟨cur, h1, h2, _⟩ := h
  rw [blk_cell h1, Array.getElem?_eq_getElem (by omega)]
  rfl
theorem ROOM.frozen {w : World} {g cap : Nat} (h : ROOM w g cap) (j : Nat) : w.frozen? ⟨g, j, none⟩ = false := by
  obtain ⟨cur, h1, _⟩ := h
  exact blk_frozen h1 j
theorem ROOM.of {w w' : World} {g cap : Nat} (h : ROOM w g cap) (e : w'.heap[g]? = w.heap[g]?) : ROOM w' g cap := by
  obtain ⟨cur, h1, h2⟩ := h
  exact ⟨cur, e.trans h1, h2⟩
theorem ROOM.set {w : World} {g cap : Nat} (h : ROOM w g cap) (g' j : Nat) (u : Value) : ROOM (w.setCell ⟨g', j, none⟩ u) g cap := by
  by_cases e : g = g'
  · subst e
    obtain ⟨cur, h1, h2, h3⟩ := h
    exact ⟨_, blk_set h1 j u, by rw [Array.size_setIfInBounds]; exact h2, h3⟩
  · exact h.of (Below.heap_setCell w _ _ _ e)
/-- The first n cells are bytes; the first k of them are x. -/
def PART (w : World) (g n k : Nat) (x : Int) : Prop := ∀ j, j < n → ∃ y, w.cell? ⟨g, j, none⟩ = some (.int .u8 y) ∧ (j < k → y = x)
theorem PART.zero {w : World} {g n : Nat} {x : Int} {k : Nat} (h : PART w g n k x) (x' : Int) : PART w g n 0 x' := fun j hj => by
  obtain ⟨y, h1, _⟩ := h j hj
  exact ⟨y, h1, fun h => absurd h (Nat.not_lt_zero _)⟩
theorem PART.full {w : World} {g n : Nat} {x : Int} (h : PART w g n n x) (j : Nat) (hj : j < n) : w.cell? ⟨g, j, none⟩ = some (.int .u8 x) := by
  obtain ⟨y, h1, h2⟩ := h j hj
  rw [h1, h2 hj]
theorem PART.step {w : World} {g n k : Nat} {x : Int} (h : PART w g n k x) (hk : k < n) : PART (w.setCell ⟨g, k, none⟩ (.int .u8 x)) g n (k + 1) x := fun j hj => by
  by_cases e : j = k
  · subst e
    obtain ⟨y, h1, _⟩ := h j hj
    exact ⟨x, World.cell?_setCell_same _ _ _ h1, fun _ => rfl⟩
  · obtain ⟨y, h1, h2⟩ := h j hj
    exact ⟨y, (World.cell?_setCell_other _ _ _ _ (by intro e'; injection e' with _ e' _; exact e e'.symm)).trans h1, fun h => h2 (by omega)⟩
theorem PART.far {w : World} {g n k : Nat} {x : Int} (h : PART w g n k x) {g' j' : Nat} (hg : g ≠ g') (u : Value) : PART (w.setCell ⟨g', j', none⟩ u) g n k x := fun j hj => by
  obtain ⟨y, h1, h2⟩ := h j hj
  exact ⟨y, (World.cell?_setCell_other _ _ _ _ (by intro e'; injection e' with e' _ _; exact hg e'.symm)).trans h1, h2⟩
theorem PART.of {w w' : World} {g n k : Nat} {x : Int} (h : PART w g n k x) (e : w'.heap[g]? = w.heap[g]?) : PART w' g n k x := fun j hj => by
  obtain ⟨y, h1, h2⟩ := h j hj
  exact ⟨y, (World.cell?_of_block (a := ⟨g, j, none⟩) e).trans h1, h2⟩
theorem PART.of_cells {w w' : World} {g n k : Nat} {x : Int} (h : PART w g n k x) (e : ∀ j, j < n → w'.cell? ⟨g, j, none⟩ = w.cell? ⟨g, j, none⟩) : PART w' g n k x := fun j hj => by
  obtain ⟨y, h1, h2⟩ := h j hj
  exact ⟨y, (e j hj).trans h1, h2⟩
/-- Out of an owned row. -/
theorem part_of_row {w : World} {base : Nat} {v : Value} {l : List Int} (h : Kd.R (Kd.int .u8) 5 w base (fun _ => True) v l) (hl : 0 < l.length) :
    ∃ g cap, v = .slice (some ⟨g, 0, none⟩) l.length cap ∧ base ≤ g ∧ l.length ≤ cap ∧ ROOM w g cap ∧ PART w g l.length 0 0 := by
  obtain ⟨A, c, e, hlc, hr⟩ := Kd.R_reads h
  obtain ⟨inner, ho⟩ := Kd.R_own h
  rcases ho.2 with ⟨_, h0⟩ | ⟨g, cap, cur, e2, hb, hg, h3, h4, h5, _⟩
  · omega
  · rw [e2] at e
    simp only [Value.slice.injEq] at e
    obtain ⟨rfl, _, rfl⟩ := e
    have h5' : cur.size = cap := by rw [h5]; exact Nat.mul_one _
    refine ⟨g, cap, e2, hb, h3, ⟨cur, hg, h5', h4⟩, fun j hj => ?_⟩
    obtain ⟨ad, c, e3, hc1, hc2, hc3⟩ := Kd.C_get hr 0 (j : Int) (Int.natCast_nonneg _) (by omega)
    cases e3
    have hc2' : c = [.int .u8 (l.getD j 0)] := hc2
    have := hc3 0 (.int .u8 (l.getD j 0)) (by rw [hc2']; rfl)
    refine ⟨l.getD j 0, ?_, fun h => absurd h (Nat.not_lt_zero _)⟩
    have hz : (Kd.int IntKind.u8).sz = 1 := rfl
    rw [hz, Int.toNat_natCast, Nat.mul_one, Nat.add_zero, Addr.add_lit, Nat.zero_add] at this
    exact this
/-- Three rows and the row of their slices. -/
structure ALL (w : World) (h n : Nat) (g cap : Nat → Nat) : Prop where
  row : ∃ cs : Array Value, w.heap[h]? = some (.cells cs 22 (0, 0)) ∧ ∀ r, r < 3 → cs[r]? = some (.slice (some ⟨g r, 0, none⟩) n (cap r))
  room : ∀ r, r < 3 → ROOM w (g r) (cap r)
  len : ∀ r, r < 3 → n ≤ cap r
  ne : ∀ r s, r < 3 → s < 3 → g r = g s → r = s
theorem ALL.at {w : World} {h n : Nat} {g cap : Nat → Nat} (H : ALL w h n g cap) (r : Nat) (hr : r < 3) : w.cell? ⟨h, r, none⟩ = some (.slice (some ⟨g r, 0, none⟩) n (cap r)) := by
  obtain ⟨cs, h1, h2⟩ := H.row
  rw [blk_cell h1]
  exact h2 r hr
theorem ALL.lt {w : World} {h n : Nat} {g cap : Nat → Nat} (H : ALL w h n g cap) : h < w.heap.size := by
  obtain ⟨cs, h1, _⟩ := H.row
  exact blk_lt h1
theorem ALL.far {w : World} {h n : Nat} {g cap : Nat → Nat} (H : ALL w h n g cap) (r : Nat) (hr : r < 3) : h ≠ g r := by
  obtain ⟨cs, h1, _⟩ := H.row
  obtain ⟨cur, h2, _⟩ := H.room r hr
  exact blk_ne h1 h2 (by decide)
theorem ALL.set {w : World} {h n : Nat} {g cap : Nat → Nat} (H : ALL w h n g cap) (r : Nat) (hr : r < 3) (j : Nat) (u : Value) : ALL (w.setCell ⟨g r, j, none⟩ u) h n g cap := by
  refine ⟨?_, fun s hs => (H.room s hs).set _ _ _, H.len, H.ne⟩
  obtain ⟨cs, h1, h2⟩ := H.row
  exact ⟨cs, (Below.heap_setCell w ⟨g r, j, none⟩ u h (H.far r hr)).trans h1, h2⟩
theorem ALL.of {w w' : World} {h n : Nat} {g cap : Nat → Nat} (H : ALL w h n g cap) (e : ∀ k, k < w.heap.size → w'.heap[k]? = w.heap[k]?) : ALL w' h n g cap := by
  refine ⟨?_, fun s hs => (H.room s hs).of (e _ (H.room s hs).lt), H.len, H.ne⟩
  obtain ⟨cs, h1, h2⟩ := H.row
  exact ⟨cs, (e h (blk_lt h1)).trans h1, h2⟩
/-- The rows below i hold their number, of row i the first k. -/
def FILL (w : World) (n : Nat) (g : Nat → Nat) (U : Nat → Int) (i k : Nat) : Prop := ∀ r, r < 3 → PART w (g r) n (if r < i then n else if r = i then k else 0) (U r)
theorem FILL.next {w : World} {n : Nat} {g : Nat → Nat} {U : Nat → Int} {i : Nat} (h : FILL w n g U i n) : FILL w n g U (i + 1) 0 := fun r hr => by
  have h1 := h r hr
  by_cases e1 : r < i
  · rw [if_pos e1] at h1
    rw [if_pos (by omega)]
    exact h1
  · rw [if_neg e1] at h1
    by_cases e2 : r = i
    · rw [if_pos e2] at h1
      rw [if_pos (by omega)]
      exact h1
    · rw [if_neg e2] at h1
      rw [if_neg (by omega)]
      have : (if r = i + 1 then 0 else 0) = 0 := by split <;> rfl
      rw [this]
      exact h1
theorem FILL.step {w : World} {h n : Nat} {g cap : Nat → Nat} (H : ALL w h n g cap) {U : Nat → Int} {i k : Nat} (hf : FILL w n g U i k) (hi : i < 3) (hk : k < n) : FILL (w.setCell ⟨g i, k, none⟩ (.int .u8 (U i))) n g U i (k + 1) := fun r hr => by
  have h1 := hf r hr
  by_cases e2 : r = i
  · subst e2
    rw [if_neg (Nat.lt_irrefl _), if_pos rfl] at h1 ⊢
    exact h1.step hk
  · have hne : g r ≠ g i := fun e => e2 (H.ne r i hr hi e)
    by_cases e1 : r < i
    · rw [if_pos e1] at h1 ⊢
      exact h1.far hne _
    · rw [if_neg e1, if_neg e2] at h1 ⊢
      exact h1.far hne _
theorem FILL.of {w w' : World} {n : Nat} {g : Nat → Nat} {U : Nat → Int} {i k : Nat} (hf : FILL w n g U i k) (hl : ∀ r, r < 3 → g r < w.heap.size) (e : ∀ k, k < w.heap.size → w'.heap[k]? = w.heap[k]?) : FILL w' n g U i k := fun r hr => (hf r hr).of (e _ (hl r hr))
theorem FILL.start {w : World} {n : Nat} {g : Nat → Nat} {U : Nat → Int} (h : ∀ r, r < 3 → PART w (g r) n 0 0) : FILL w n g U 0 0 := fun r hr => by
  rw [if_neg (Nat.not_lt_zero _)]
  have : (if r = 0 then 0 else 0) = 0 := by split <;> rfl
  rw [this]
  exact (h r hr).zero _
theorem FILL.cell {w : World} {n : Nat} {g : Nat → Nat} {U : Nat → Int} {i k : Nat} (hf : FILL w n g U i k) (r : Nat) (hr : r < 3) (j : Nat) (hj : j < n) : ∃ y, w.cell? ⟨g r, j, none⟩ = some (.int .u8 y) := by
  obtain ⟨y, h, _⟩ := hf r hr j hj
  exact ⟨y, h⟩
theorem FILL.done {w : World} {n : Nat} {g : Nat → Nat} {U : Nat → Int} (hf : FILL w n g U 3 0) (r : Nat) (hr : r < 3) (j : Nat) (hj : j < n) : w.cell? ⟨g r, j, none⟩ = some (.int .u8 (U r)) := by
  have h1 := hf r hr
  rw [if_pos hr] at h1
  exact h1.full j hj
/-! ### gone on with -/
abbrev byt (x : Int) : Value := .int .u8 x
/-- A row that is gone on with, as it came. -/
theorem came {w : World} {g n cap : Nat} {x : Int} (hr : ROOM w g cap) (hl : n ≤ cap) (hc : ∀ j, j < n → w.cell? ⟨g, j, none⟩ = some (byt x)) : Came w 1 (some ⟨g, 0, none⟩) g 0 n cap (List.replicate n (byt x)) := by
  refine ⟨hl, fun _ => rfl, fun _ => hr.lt, by simp, fun j u hu => ?_, fun j hj => ⟨?_, ?_⟩⟩
  · have hj : j < n := by have := (List.getElem?_eq_some_iff.1 hu).1; simpa using this
    rw [List.getElem?_replicate, if_pos hj] at hu
    rw [Nat.zero_add, hc j hj]
    exact hu
  · rw [Nat.zero_add, Nat.mul_one]
    rw [Nat.mul_one] at hj
    exact hr.isSome _ (by omega)
  · exact hr.frozen _
/-- What 20 appends leave. -/
structure GONE (W w : World) (g n cap m : Nat) (x y : Int) (v : Value) : Prop where
  val : ∃ b c, v = .slice (some ⟨b, 0, none⟩) (n + m) c ∧ n + m ≤ c ∧ (b = g ∨ W.heap.size ≤ b) ∧ (∃ cur, w.heap[b]? = some (.cells cur 5 (0, 0))) ∧ ∀ j, j < n + m → w.cell? ⟨b, j, none⟩ = some (byt (if j < n then x else y))
  block : ∀ k, k < W.heap.size → k ≠ g → w.heap[k]? = W.heap[k]?
  old : ∀ j, j < n → w.cell? ⟨g, j, none⟩ = W.cell? ⟨g, j, none⟩
theorem gone {W w : World} {g n cap m : Nat} {x y : Int} {v : Value} (hr : ROOM W g cap) (hl : n ≤ cap) (hm : 0 < m) (hc : ∀ j, j < n → W.cell? ⟨g, j, none⟩ = some (byt x))
    (h : Onto W 5 1 (some ⟨g, 0, none⟩) g 0 n cap (List.replicate n (byt x)) w v m (List.replicate m (byt y))) : GONE W w g n cap m x y v := by
  have hcm := came hr hl hc
  have hblk : ∀ k, k < W.heap.size → k ≠ g → w.heap[k]? = W.heap[k]? := fun k hk hne => h.kept.block hk (fun p hp e => by
    obtain ⟨j, _, _, rfl⟩ := hp
    exact hne e.symm)
  have hold : ∀ j, j < n → w.cell? ⟨g, j, none⟩ = W.cell? ⟨g, j, none⟩ := fun j hj => h.old hr.lt (fun j' _ _ ⟨_, e⟩ => by omega)
  refine ⟨?_, hblk, hold⟩
  have hat : ∀ j, j < n + m → (List.replicate n (byt x) ++ List.replicate m (byt y))[j]? = some (byt (if j < n then x else y)) := fun j hj => by
    by_cases e : j < n
    · rw [if_pos e, List.getElem?_append_left (by simpa using e), List.getElem?_replicate, if_pos e]
    · rw [if_neg e, List.getElem?_append_right (by simpa using e), List.getElem?_replicate, if_pos (by simp; omega)]
  obtain ⟨g', o', cap', hv, h1, h2, h3⟩ := h.value hcm hr.max (.inr hm)
  rcases h.val with ⟨hle, hv2⟩ | ⟨hgt, hown⟩
  · rw [hv2] at hv
    simp only [Value.slice.injEq, Option.some.injEq, Addr.mk.injEq] at hv
    obtain ⟨⟨rfl, rfl, _⟩, _, rfl⟩ := hv
    refine ⟨g, cap, hv2, h1, .inl rfl, ?_, fun j hj => ?_⟩
    · obtain ⟨cur, q1, q2, q3⟩ := hr
      have hw := h.kept.2.2 g (blk_lt q1)
      rw [q1] at hw
      rcases e : w.heap[g]? with _ | (⟨c', t', f'⟩ | _ | _ | _)
      · rw [e] at hw; cases hw
      · rw [e] at hw
        obtain ⟨rfl, rfl, _⟩ := hw
        exact ⟨c', rfl⟩
      all_goals (rw [e] at hw; cases hw)
    · have := h3 j (by omega)
      rw [Nat.zero_add] at this
      rw [this]
      exact hat j hj
  · rcases hown.2 with ⟨_, h0⟩ | ⟨b, c, cur, e2, hb, hg, q3, q4, q5, _⟩
    · omega
    · rw [e2] at hv
      simp only [Value.slice.injEq, Option.some.injEq, Addr.mk.injEq] at hv
      obtain ⟨⟨rfl, rfl, _⟩, _, rfl⟩ := hv
      refine ⟨b, c, e2, h1, .inr hb, ⟨cur, hg⟩, fun j hj => ?_⟩
      have := h3 j (by omega)
      rw [Nat.zero_add] at this
      rw [this]
      exact hat j hj

/-- A row of its own, out of its cells. -/
theorem owns_room {w : World} {B g n cap : Nat} {x : Int} (hr : ROOM w g cap) (hB : B ≤ g) (hl : n ≤ cap) (hc : ∀ j, j < n → w.cell? ⟨g, j, none⟩ = some (byt x)) : w.ownsRow B 5 1 (.slice (some ⟨g, 0, none⟩) n cap) n (List.replicate n (byt x)) := by
  obtain ⟨cur, h1, h2, h3⟩ := hr
  refine ⟨by simp, .inr ⟨g, cap, cur, rfl, hB, h1, hl, h3, by omega, ?_⟩⟩
  refine List.ext_getElem? fun j => ?_
  rw [Nat.mul_one, List.getElem?_take, List.getElem?_replicate]
  by_cases e : j < n
  · rw [if_pos e, if_pos e]
    have := hc j e
    rw [blk_cell h1] at this
    simpa using this
  · rw [if_neg e, if_neg e]
/-- One byte more: told both ways, with what else has turned. -/
theorem wpList_append_both {P : Program} (w : World) {ops : Array Oper} {rest : List Oper} {o : Oper} {a : Act} {Q : Exit → Act → World → Prop} (hgd : o.guard = none) (s x : Operand) (t : TypeId)
    (ho : o.op = .call { callee := .builtin .append, args := #[s, x], argTypes := #[t, t] })
    {W : World} {e : TypeId} {size : Nat} {ao : Option Addr} {b off len cap : Nat} {olds : List Value} (hc : Came W size ao b off len cap olds)
    (i : TypeInfo) (z : Value) (bytes : Nat) (ht : P.underlying t = some (.slice e)) (hi : P.info? e = some i) (hz : i.zero = some z) (hsize : i.size = size) (hby : i.bytes = bytes) (hzs : z.cells.size = size) (hsz : 0 < size)
    {v : Value} {m : Nat} {ks : List Value} (hs : a.eval s = v) (h : Onto W e size ao b off len cap olds w v m ks) (B : Nat) (hown : w.ownsRow B e size v (len + m) (olds ++ ks)) (hB : B ≤ w.heap.size)
    (ad : Addr) (c : Nat) (news : List Value) (hx : a.eval x = .slice (some ad) 1 c) (hl : news.length = 1 * size) (hnews : ∀ j u, news[j]? = some u → w.cell? (ad.add j) = some u) (h1 : ∀ u ∈ news, u.oneCell' = true)
    (h63 : len + m + 1 ≤ maxLen) (hbytes : (len + m + 1) * bytes ≤ 140737488355328)
    (hK : ∀ v' w', Onto W e size ao b off len cap olds w' v' (m + 1) (ks ++ news) → w'.ownsRow B e size v' (len + (m + 1)) (olds ++ (ks ++ news)) → w.grownBy w' v.ownBlock → wpList P ops Q rest (a.put o.dst v') w') : wpList P ops Q (o :: rest) a w := by
  refine wpList_plain hgd fun K hK' => ?_
  obtain ⟨v', w', hrun, r⟩ := run_append_onto (P := P) hc t o.type i z bytes ht hi hz hsize hby hzs hsz h ad c news hl hnews h1 h63 hbytes
  obtain ⟨v2, w2, hrun2, r2, r3, _⟩ := run_append_own (P := P) w B t o.type e i z size bytes ht hi hz hsize hby hzs hsz v (len + m) (olds ++ ks) hown ad 1 c news hl hnews h1 h63 hbytes hB
  rw [hrun] at hrun2
  injection hrun2 with e1 e2
  subst e1 e2
  unfold Oper.wp
  simp [execOp, ho, resolve, invoke, builtin, hs, hx, hrun, Result.andThen]
  exact hK' _ _ (hK v' w' r (by rw [← List.append_assoc]; exact r2) r3)
/-- The row of the slices, and the rooms of the rows from i on. -/
structure ALL3 (w : World) (h n : Nat) (g cap : Nat → Nat) (i : Nat) : Prop where
  row : ∃ cs : Array Value, w.heap[h]? = some (.cells cs 22 (0, 0)) ∧ ∀ r, r < 3 → cs[r]? = some (.slice (some ⟨g r, 0, none⟩) n (cap r))
  room : ∀ r, i ≤ r → r < 3 → ROOM w (g r) (cap r)
  lt : ∀ r, r < 3 → g r < w.heap.size
  far : ∀ r, r < 3 → h ≠ g r
  len : ∀ r, r < 3 → n ≤ cap r
  ne : ∀ r s, r < 3 → s < 3 → g r = g s → r = s
theorem ALL.three {w : World} {h n : Nat} {g cap : Nat → Nat} (H : ALL w h n g cap) : ALL3 w h n g cap 0 :=
  ⟨H.row, fun r _ hr => H.room r hr, fun r hr => (H.room r hr).lt, H.far, H.len, H.ne⟩
theorem ALL3.at {w : World} {h n i : Nat} {g cap : Nat → Nat} (H : ALL3 w h n g cap i) (r : Nat) (hr : r < 3) : w.cell? ⟨h, r, none⟩ = some (.slice (some ⟨g r, 0, none⟩) n (cap r)) := by
  obtain ⟨cs, h1, h2⟩ := H.row
  rw [blk_cell h1]
  exact h2 r hr
/-- The rows gone on with: i of them. -/
def LROW (w : World) (n m : Nat) (g : Nat → Nat) (U V : Nat → Int) (b c : Nat → Nat) (i : Nat) : Prop := ∀ r, r < i → n + m ≤ c r ∧ (∀ s, i ≤ s → s < 3 → b r ≠ g s) ∧ (∃ cur, w.heap[b r]? = some (.cells cur 5 (0, 0))) ∧ ∀ j, j < n + m → w.cell? ⟨b r, j, none⟩ = some (byt (if j < n then U r else V r))
def sls (n m : Nat) (b c : Nat → Nat) (i : Nat) : List Value := (List.range i).map fun r => Value.slice (some ⟨b r, 0, none⟩) (n + m) (c r)
def LONG (w : World) (B n m : Nat) (g : Nat → Nat) (U V : Nat → Int) (v : Value) (i : Nat) : Prop := ∃ (b c : Nat → Nat), w.ownsRow B 22 1 v i (sls n m b c i) ∧ LROW w n m g U V b c i
theorem LONG.start (w : World) (B n m : Nat) (g : Nat → Nat) (U V : Nat → Int) : LONG w B n m g U V (.slice none 0 0) 0 :=
  ⟨fun _ => 0, fun _ => 0, World.ownsRow_nil w _ _ _, fun r hr => absurd hr (Nat.not_lt_zero _)⟩
theorem GONE.owns {W w : World} {B g n cap m i : Nat} {x y : Int} {u v : Value} {xs : List Value} (G : GONE W w g n cap m x y u) (ho : W.ownsRow B 22 1 v i xs) (hg : g < B) : w.ownsRow B 22 1 v i xs :=
  own_move ho (fun k hk => G.block k (own_lt ho k hk) (by have := own_base ho k hk; omega))
theorem not_own {w : World} {B i b : Nat} {v : Value} {xs : List Value} {cur : Array Value} (ho : w.ownsRow B 22 1 v i xs) (hb : w.heap[b]? = some (.cells cur 5 (0, 0))) : some b ≠ v.ownBlock := fun e => by
  obtain ⟨cells, hc⟩ := own_typed ho b e.symm
  exact blk_ne hb hc (by decide) rfl
/-- A round: row i has been gone on with, and its slice is appended. -/
theorem LONG.step {W w w1 : World} {B h n m i : Nat} {g cap b c : Nat → Nat} {U V : Nat → Int} {v x v1 : Value} (hi : i < 3) (H : ALL3 W h n g cap i) (hF : FILL W n g U 3 0) (hO : W.ownsRow B 22 1 v i (sls n m b c i)) (hL : LROW W n m g U V b c i) (hB : B ≤ W.heap.size) (hh : h < B) (hg : ∀ r, r < 3 → g r < B)
    (G : GONE W w (g i) n (cap i) m (U i) (V i) x) (hsz : W.heap.size ≤ w.heap.size) (hgr : (w.alloc (.cells #[x] 22)).grownBy w1 v.ownBlock) (ho1 : w1.ownsRow B 22 1 v1 (i + 1) (sls n m b c i ++ [x])) :
    B ≤ w1.heap.size ∧ ALL3 w1 h n g cap (i + 1) ∧ FILL w1 n g U 3 0 ∧ LONG w1 B n m g U V v1 (i + 1) := by
  have hO2 := G.owns hO (hg i hi)
  have hs1 : w.heap.size ≤ w1.heap.size := by have := hgr.size; simp at this; omega
  have keep : ∀ k, k < w.heap.size → some k ≠ v.ownBlock → w1.heap[k]? = w.heap[k]? := fun k hk hne => (hgr.block k (by simp; omega) hne).trans (Below.heap_alloc w _ k hk)
  have under : ∀ k, k < B → w1.heap[k]? = w.heap[k]? := fun k hk => keep k (by omega) (fun e => by have := own_base hO k e.symm; omega)
  have two : ∀ k, k < B → k ≠ g i → w1.heap[k]? = W.heap[k]? := fun k hk hne => (under k hk).trans (G.block k (by omega) hne)
  refine ⟨by omega, ?_, ?_, ?_⟩
  · refine ⟨?_, fun r hr hr3 => (H.room r (by omega) hr3).of (two _ (hg r hr3) (fun e => by have := H.ne r i hr3 hi e; omega)), fun r hr => by have := H.lt r hr; omega, H.far, H.len, H.ne⟩
    obtain ⟨cs, h1, h2⟩ := H.row
    exact ⟨cs, (two h hh (H.far i hi)).trans h1, h2⟩
  · intro r hr
    by_cases e : r = i
    · subst e
      exact ((hF r hr).of_cells (w' := w) (fun j hj => G.old j hj)).of (under _ (hg r hr))
    · exact (hF r hr).of (two _ (hg r hr) (fun e' => e (H.ne r i hr hi e')))
  · obtain ⟨bi, ci, rfl, q1, q2, ⟨cur, q3⟩, q4⟩ := G.val
    refine ⟨fun r => if r = i then bi else b r, fun r => if r = i then ci else c r, ?_, ?_⟩
    · have e : sls n m (fun r => if r = i then bi else b r) (fun r => if r = i then ci else c r) (i + 1) = sls n m b c i ++ [.slice (some ⟨bi, 0, none⟩) (n + m) ci] := by
        unfold sls
        rw [List.range_succ, List.map_append, List.map_singleton]
        simp only [if_pos]
        congr 1
        refine List.map_congr_left fun r hr => ?_
        have hlt := List.mem_range.1 hr
        simp only [if_neg (show ¬ r = i by omega)]
      rw [e]
      exact ho1
    · intro r hr
      by_cases e : r = i
      · subst e
        simp only [if_pos]
        have hne := not_own hO2 q3
        have hk := keep bi (blk_lt q3) hne
        refine ⟨q1, fun s hs hs3 e' => ?_, ⟨cur, hk.trans q3⟩, fun j hj => (World.cell?_of_block (a := ⟨bi, j, none⟩) hk).trans (q4 j hj)⟩
        rcases q2 with q2 | q2
        · have := H.ne r s hi hs3 (q2.symm.trans e')
          omega
        · have := H.lt s hs3
          omega
      · simp only [if_neg e]
        obtain ⟨p1, p2, ⟨cur', p3⟩, p4⟩ := hL r (by omega)
        have hw := G.block (b r) (blk_lt p3) (p2 i (Nat.le_refl _) hi)
        have p3' := hw.trans p3
        have hk := keep (b r) (blk_lt p3') (not_own hO2 p3')
        exact ⟨p1, fun s hs hs3 => p2 s (by omega) hs3, ⟨cur', hk.trans p3'⟩, fun j hj => (World.cell?_of_block (a := ⟨b r, j, none⟩) (hk.trans hw)).trans (p4 j hj)⟩
/-- At the end: the row of the three. -/
theorem LONG.out {w : World} {B n m : Nat} {g : Nat → Nat} {U V : Nat → Int} {v : Value} (h : LONG w B n m g U V v 3) : ∃ (p cp : Nat) (b c : Nat → Nat), v = .slice (some ⟨p, 0, none⟩) 3 cp ∧ (∀ r, r < 3 → w.cell? ⟨p, r, none⟩ = some (.slice (some ⟨b r, 0, none⟩) (n + m) (c r))) ∧ ∀ r, r < 3 → n + m ≤ c r ∧ ∀ j, j < n + m → w.cell? ⟨b r, j, none⟩ = some (byt (if j < n then U r else V r)) := by
  obtain ⟨b, c, ho, hr⟩ := h
  have hl := ho.1
  rcases ho.2 with ⟨_, h0⟩ | ⟨p, cp, cur, rfl, _⟩
  · omega
  · refine ⟨p, cp, b, c, rfl, fun r h3 => ?_, fun r h3 => ⟨(hr r h3).1, (hr r h3).2.2.2⟩⟩
    have := ho.cells (g := p) rfl r (.slice (some ⟨b r, 0, none⟩) (n + m) (c r)) (by unfold sls; rw [List.getElem?_map, List.getElem?_range h3]; rfl)
    rw [Addr.add_lit, Nat.zero_add] at this
    exact this
end Go.Proofs.Ytdmpbfhbjklajaa.Own3
end

/- The law's own 'same', over its printed text: equal or not. -/
section
namespace Go.Proofs.Ytdmpbfhbjklajaa.SameP
open Go.Proofs.Ytdmpbfhbjklajaa Go.RowKit Go.Proofs.YtdmpbfhbjklajaaW.PrintWords Go.Proofs.YtdmpbfhbjklajaaW.PrintLast Go.Proofs.YtdmpbfhbjklajaaW.PrintMore Go.Proofs.Ytdmpbfhbjklajaa.Psame
set_option linter.unusedVariables false
set_option linter.unusedSimpArgs false
theorem w64 {a : Int} (h : -9223372036854775808 ≤ a ∧ a ≤ 9223372036854775807) : wrap64 a = a := by unfold wrap64; omega
theorem same_go (d : Nat) : ∀ (k : Nat) (a b : List Int) (i : Int), d < k → 0 ≤ i → a.length = b.length → a.length ≤ 140737488355328 → (a.length : Int) - i = d →
    tabularylaw10_same.l0 k a b i = some (decide (a.drop i.toNat = b.drop i.toNat)) := by
  induction d with
  | zero =>
    intro k a b i hk h0 hl hm hd
    obtain ⟨k, rfl⟩ : ∃ m, k = m + 1 := ⟨k - 1, by omega⟩
    simp only [tabularylaw10_same.l0]
    rw [if_neg (by omega), List.drop_eq_nil_of_le (by omega), List.drop_eq_nil_of_le (by omega)]
    simp
  | succ d ih =>
    intro k a b i hk h0 hl hm hd
    obtain ⟨k, rfl⟩ : ∃ m, k = m + 1 := ⟨k - 1, by omega⟩
    simp only [tabularylaw10_same.l0]
    obtain ⟨j, rfl⟩ := Int.eq_ofNat_of_zero_le h0
    rw [if_pos (by omega), if_pos h0, if_pos (by omega)]
    have ha : rd a (j : Int) = a[j]'(by omega) := by unfold rd; simp [List.getD_eq_getElem?_getD, List.getElem?_eq_getElem (show j < a.length by omega)]
    have hb : rd b (j : Int) = b[j]'(by omega) := by unfold rd; simp [List.getD_eq_getElem?_getD, List.getElem?_eq_getElem (show j < b.length by omega)]
    rw [ha, hb, Int.toNat_natCast, List.drop_eq_getElem_cons (show j < a.length by omega), List.drop_eq_getElem_cons (show j < b.length by omega)]
    have e : (wrap64 ((j : Int) + 1)).toNat = j + 1 := by rw [w64 (by omega)]; omega
    by_cases h : a[j]'(by omega) = b[j]'(by omega)
    · rw [if_pos h, ih k a b _ (by omega) (by rw [w64 (by omega)]; omega) hl hm (by rw [w64 (by omega)]; omega), e]
      simp only [List.cons.injEq, h, true_and]
    · rw [if_neg h]; simp only [List.cons.injEq, h, false_and, decide_false]

theorem same_some (a b : List Int) (k : Nat) (hk : a.length < k) (hm : a.length ≤ 140737488355328) : tabularylaw10_same.f k a b = some (decide (a = b)) := by
  unfold tabularylaw10_same.f
  by_cases h : a.length = b.length
  · rw [if_pos (by omega), same_go a.length k a b 0 hk (by omega) h hm (by omega)]
    rfl
  · rw [if_neg (by omega)]
    congr 1
    symm
    rw [decide_eq_false_iff_not]
    intro e; exact h (by rw [e])

end Go.Proofs.Ytdmpbfhbjklajaa.SameP
end

/- HeadSealed walked: the sum does not hang on the order of bytes; what is sealed has the same sum, is sealed, and is never refused for its sum. -/
section
namespace Go.Proofs.Ytdmpbfhbjklajaa.WalkHeadSealed
open Go.Proofs.Ytdmpbfhbjklajaa Go.RowKit Go.Proofs.YtdmpbfhbjklajaaW.PrintWords Go.Proofs.YtdmpbfhbjklajaaW.PrintLast Go.Proofs.YtdmpbfhbjklajaaW.PrintMore Go.Proofs.Ytdmpbfhbjklajaa.Byt Go.Proofs.Ytdmpbfhbjklajaa.OctPure Go.Proofs.Ytdmpbfhbjklajaa.Img Go.Proofs.Ytdmpbfhbjklajaa.Head Go.Proofs.Ytdmpbfhbjklajaa.HeadPut Go.Proofs.Ytdmpbfhbjklajaa.HeadSums Go.Proofs.Ytdmpbfhbjklajaa.HGetC Go.Proofs.Ytdmpbfhbjklajaa.HeadLaw Go.Proofs.Ytdmpbfhbjklajaa.HPutIm Go.Proofs.Ytdmpbfhbjklajaa.HAwake Go.Proofs.Ytdmpbfhbjklajaa.HSealIm Go.Proofs.Ytdmpbfhbjklajaa.Own3
set_option linter.unusedVariables false
set_option linter.unusedSimpArgs false
def slenv : Value → Nat
  | .slice _ n _ => n
  | _ => 0
theorem sum_at (A : Option Addr) (c : Nat) (y : List Int) (S : Int) (w : World) (hr : RC w A y) (hl : y.length = 512) (hc : 512 ≤ c) (hA : AreB y) (hS : S = sumS y 512) :
    Calls Try.prog 13 #[.slice A 512 c] w fun e w' => e = .returned (.tuple #[.int .i64 S, .int .i64 0]) ∧ Below w.heap.size w w' := by
  have := sum_calls A c y S 0 w (hr.to_C (by omega)) (by omega) (by unfold sumF; rw [if_pos hA, if_pos hl, hS])
  rw [hl] at this
  exact this
theorem same_at (A B : Option Addr) (n ca cb : Nat) (y : List Int) (w : World) (ha : RC w A y) (hb : RC w B y) (hl : n = y.length) (hm : n ≤ 512) (hca : n ≤ ca) (hcb : n ≤ cb) :
    Calls Try.prog 19 #[.slice A n ca, .slice B n cb] w fun e w' => e = .returned (.bool true) ∧ Below w.heap.size w w' := by
  subst hl
  have h := SameP.same_some y y (y.length + 1) (by omega) (by omega)
  have h2 : Psame.tabularylaw10_same.f (y.length + 1) y y = some true := by rw [h]; simp
  refine (Psame.tabularylaw10_same.calls (y.length + 1) A ca y B cb y true w (ha.to_C (by omega)) hca (hb.to_C (by omega)) hcb h2).mono ?_
  rintro e w' ⟨he, hw⟩
  first
  | exact ⟨he, hw⟩
  | (obtain ⟨nd, rfl⟩ := hw; exact ⟨he, pw_below_drewN (Below.refl _ _) nd⟩)
theorem own_append_big {ops : Array Oper} {rs : List Oper} {o : Oper} {a : Act} {w0 w : World} {Q : Exit → Act → World → Prop} (hgd : o.guard = none) (s x : Operand)
    (ho : o.op = .call { callee := .builtin .append, args := #[s, x], argTypes := #[22, 22] }) (base : Nat) (v : Value) (l m : List Int) (A : Option Addr) (c : Nat) (hs : a.eval s = v) (hx : a.eval x = .slice A m.length c)
    (HO : OWN w base v l) (HR : Kd.C (Kd.int .u8) w A m.length m) (HB : Below base w0 w) (hbase : base ≤ w.heap.size) (hl : l.length + m.length ≤ 140737488351744)
    (h : ∀ v1 w1, OWN w1 base v1 (l ++ m) → Below base w0 w1 → wpList Try.prog ops Q rs (a.put o.dst v1) w1) : wpList Try.prog ops Q (o :: rs) a w := by
  refine Kd.R_append_rows (Kd.int .u8) (w0 := w0) base hgd s x 22 5 (.int .u8 0) 1 ho Try.underlying22 info5 rfl (by decide) (by omega) v l m A m.length c (fun _ => True) (fun _ => False) hs hx HO HR (fun _ _ h => h) (fun _ h => h.elim) (fun _ _ => trivial) HB hbase (by omega) ?_
  intro v1 w1 h1 h2 h3 _
  exact h v1 w1 h1 h2
theorem areB_snoc {x : List Int} {v : Int} (h : AreB x) (hv : 0 ≤ v ∧ v ≤ 255) : AreB (x ++ [v]) := fun y hy => by
  rcases List.mem_append.1 hy with hy | hy
  · exact h y hy
  · rw [List.mem_singleton.1 hy]; exact hv
theorem rc_set {w : World} {g : Nat} {y : List Int} (h : RC w (some ⟨g, 0, none⟩) y) (i : Nat) (hi : i < y.length) (v : Int) : RC (w.setCell ⟨g, i, none⟩ (.int .u8 v)) (some ⟨g, 0, none⟩) (y.set i v) := fun hl => by
  obtain ⟨a, e, hlt, hc⟩ := h (by intro e; subst e; simp at hi)
  cases e
  refine ⟨_, rfl, by simpa [World.setCell] using hlt, fun j hj => ?_⟩
  have hj' : j < y.length := by simpa using hj
  have hcj := hc j hj'
  have hci := hc i hi
  rw [Addr.add_lit, Nat.zero_add] at hcj hci ⊢
  rw [bn_set]
  by_cases e : i = j
  · subst e
    rw [if_pos ⟨rfl, hi⟩]
    exact World.cell?_setCell_same _ _ _ hci
  · rw [if_neg (fun h => e h.1)]
    exact (World.cell?_setCell_other _ _ _ _ (by intro e'; injection e' with _ e' _; exact e e')).trans hcj
theorem rc_at {w : World} {g : Nat} {y : List Int} (h : RC w (some ⟨g, 0, none⟩) y) (i : Nat) (hi : i < y.length) : w.cell? ⟨g, i, none⟩ = some (.int .u8 (bn y i)) := by
  obtain ⟨a, e, _, hc⟩ := h (by intro e; subst e; simp at hi)
  cases e
  have := hc i hi
  rw [Addr.add_lit, Nat.zero_add] at this
  exact this
theorem place_b (a : Int) : ∃ r : Nat, r < 512 ∧ ∀ w : World, Calls Try.prog 28 #[.int .i64 a, .int .i64 512] w fun e w' => e = .returned (.int .i64 (r : Int)) ∧ Below w.heap.size w w' := by
  obtain ⟨r, h1, h2⟩ := place_at a
  refine ⟨r, h1, fun w => (h2 w).mono ?_⟩
  rintro e w' ⟨rfl, ⟨nd, rfl⟩⟩
  exact ⟨rfl, pw_below_drewN (Below.refl _ _) nd⟩
set_option maxRecDepth 100000 in
set_option maxHeartbeats 8000000 in
theorem walk (A0 : Option Addr) (c0 : Nat) (l0 : List Int) (a1 a2 : Int) (W : World) (hr : Kd.C (Kd.int .u8) W A0 l0.length l0) (hc : l0.length ≤ c0) (hA : AreB l0) (hm : l0.length ≤ 140737488351232) :
    Calls Try.prog 8 #[.slice A0 l0.length c0, .int .i64 a1, .int .i64 a2] W fun e w' => e = .returned (.bool true) ∧ Below W.heap.size W w' := by
  obtain ⟨r1, hr1, hpl1⟩ := place_b a1
  obtain ⟨r2, hr2, hpl2⟩ := place_b a2
  have HP1 := Lib.hid hpl1
  have HP2 := Lib.hid hpl2
  have HR := Lib.hid hr
  have HA := Lib.hid hA
  have HM := Lib.hid hm
  have hr1i : (r1 : Int) < 512 := by omega
  have hr2i : (r2 : Int) < 512 := by omega
  clear hpl1 hpl2 hr hA hm
  go_enter Try.func8, Try.ntmps8
  go_wp2_with (first
    | (go_at_call 27; go_loud ((with_reducible refine (awake_at _).mono ?_); rintro e w1 ⟨rfl, hb1⟩; have HW1 := Lib.hid hb1; clear hb1))
    | ((with_reducible refine gate_builtin (b := .append) (xs := #[.tmp 22, .tmp 23]) rfl ?_); at_builtin; go_loud (refine own_append_big (w0 := W) rfl (.tmp 22) (.tmp 23) rfl W.heap.size (.slice none 0 0) [] l0 A0 c0 rfl rfl (OWN.none _ _) (Kd.C_below HR.out HW1.out) HW1.out HW1.out.size (by have := HM.out; simp; omega) ?_; intro v2 w2 ho2 hb2; have HO2 := Lib.hid (show OWN w2 W.heap.size v2 l0 from ho2); have HB2 := Lib.hid hb2; clear ho2 hb2)))
  go_loopw [7] (fun v7 w => ∃ x : List Int, OWN w W.heap.size v7 x ∧ AreB x ∧ x.length ≤ 140737488351232 ∧ Below W.heap.size W w) (fun v7 _ => 512 - slenv v7)
  case atStart => exact ⟨l0, HO2.out, HA.out, HM.out, HB2.out⟩
  case round =>
    obtain ⟨x, hox, hxA, hxm, hb⟩ := hrel
    have HXA := Lib.hid hxA
    have HBX := Lib.hid hb
    have HOX := Lib.hid hox
    clear hxA hb HO2 HB2
    by_cases hx : x.length < 512
    · obtain ⟨A7, c7, e7, hc7, _, _⟩ := OWN.form hox
      subst e7
      clear hox
      go_wp2_with ((with_reducible refine gate_builtin (b := .append) (xs := #[.tmp 28, .tmp 32]) rfl ?_); at_builtin; go_loud (refine own_append_big (w0 := W) rfl (.tmp 28) (.tmp 32) rfl W.heap.size (.slice A7 x.length c7) x [(x.length : Int) % 256] (some ⟨wr.heap.size, 0, none⟩) 1 rfl rfl (HOX.out.alloc _) ((bytes_new wr 5 [(x.length : Int) % 256] (0, 0)).to_C (by simp)) (HBX.out.alloc HBX.out.size _) (by have := HBX.out.size; simp; omega) (by simp; omega) ?_; intro v3 w3 ho3 hb3; have HO3 := Lib.hid ho3; have HB3 := Lib.hid hb3; clear ho3 hb3))
      go_roundw
      case rel => exact ⟨x ++ [(x.length : Int) % 256], HO3.out, areB_snoc HXA.out (by omega), by rw [List.length_append]; simp; omega, HB3.out⟩
      case measure =>
        obtain ⟨A8, c8, e8, _⟩ := OWN.form HO3.out
        subst e8
        simp [slenv]
        omega
    · obtain ⟨g, cap, e7, hg, hcap, hroom, _⟩ := part_of_row hox (by omega)
      subst e7
      obtain ⟨A8, c8, e8, _, hrx, _⟩ := OWN.form hox
      injection e8 with e8 _ e9
      subst e9
      obtain ⟨y, hy⟩ : ∃ y, y = x.take 512 := ⟨_, rfl⟩
      have HYL := Lib.hid (show y.length = 512 by rw [hy, List.length_take]; omega)
      have HYA := Lib.hid (show AreB y by rw [hy]; exact fun z hz => HXA.out z (List.mem_of_mem_take hz))
      have HRY := Lib.hid (show RC wr (some ⟨g, 0, none⟩) y by rw [hy, e8]; exact hrx.take 512)
      have HG := Lib.hid hg
      have HRM := Lib.hid hroom
      have hcap5 : 512 ≤ cap := by omega
      obtain ⟨S, hS⟩ : ∃ S, S = sumS y 512 := ⟨_, rfl⟩
      obtain ⟨Z, hZ⟩ : ∃ Z, Z = sealS y := ⟨_, rfl⟩
      have hBY := bytes_of_mem HYA.out
      have hzok := seal_ok ⟨HYL.out, hBY⟩
      have HZL := Lib.hid (show Z.length = 512 by rw [hZ]; exact hzok.1)
      have HZA := Lib.hid (show AreB Z by rw [hZ]; exact mem_of_bytes hzok.2)
      have HS := Lib.hid hS
      have HZ := Lib.hid hZ
      have HS2 := Lib.hid (show S = sumS Z 512 by rw [hS, hZ, sum_seal y HYL.out hBY])
      have hzz : Z = sealS Z := by rw [hZ, seal_seal y HYL.out hBY]
      have HZZ := Lib.hid hzz
      have hparts := seal_parts y HYL.out hBY
      have HZT := Lib.hid (show Z.take 148 = y.take 148 by rw [hZ]; exact hparts.1)
      have HZD := Lib.hid (show Z.drop 156 = y.drop 156 by rw [hZ]; exact hparts.2.1)
      obtain ⟨z1, z2, z3, z4, z5, z6, z7, ze, hgz, hze⟩ := get_sealed hzz.symm HZA.out
      have HGZ := Lib.hid hgz
      have hze2 : (ze == 101) = false := by simpa using hze
      have tk0 : True := trivial
      clear hox hrx e8 hy hS hZ hBY hzok hzz hparts hgz hroom hg
      have HB := Lib.hid HBX.out
      go_wp2_with (first
        | (go_at_call 13; have _tk := tk0; go_loud ((with_reducible refine (sum_at (some ⟨g, 0, none⟩) cap y S _ HRY.out HYL.out hcap5 HYA.out HS.out).mono ?_); rintro e w3 ⟨rfl, hb⟩; have HB3 := Lib.hid hb; have HRY3 := Lib.hid (HRY.out.below hb); have tk1 : True := trivial; clear hb tk0 _tk))
        | (go_at_call 14; have _tk := tk1; go_loud ((with_reducible refine (seal_im (some ⟨g, 0, none⟩) cap y Z _ (HRY3.out.to_C (by rw [HYL.out]; decide)) (by rw [HYL.out]; exact hcap5) HYL.out HYA.out HZ.out).mono ?_); rintro e w4 ⟨gs, rfl, hgs, is, hb⟩; have HB4 := Lib.hid (HB3.out.trans (hb.mono HB3.out.size)); have HRY4 := Lib.hid (HRY3.out.below hb); have HIS := Lib.hid is; have tk2 : True := trivial; clear hb is hgs tk1 _tk))
        | (go_at_call 13; have _tk := tk2; go_loud ((with_reducible refine (sum_at (some ⟨gs, 0, none⟩) 512 Z S _ (RC.of_C (im_C HIS.out HZL.out)) HZL.out (Nat.le_refl _) HZA.out HS2.out).mono ?_); rintro e w5 ⟨rfl, hb⟩; have HB5 := Lib.hid (HB4.out.trans (hb.mono HB4.out.size)); have HRY5 := Lib.hid (HRY4.out.below hb); have HIS5 := Lib.hid (HIS.out.below hb); have tk3 : True := trivial; clear hb tk2 _tk))
        | (go_at_call 14; have _tk := tk3; go_loud ((with_reducible refine (seal_im (some ⟨gs, 0, none⟩) 512 Z Z _ (im_C HIS5.out HZL.out) (by rw [HZL.out]; decide) HZL.out HZA.out HZZ.out).mono ?_); rintro e w6 ⟨gt, rfl, hgt, it, hb⟩; have HB6 := Lib.hid (HB5.out.trans (hb.mono HB5.out.size)); have HRY6 := Lib.hid (HRY5.out.below hb); have HIS6 := Lib.hid (HIS5.out.below hb); have HIT6 := Lib.hid it; have tk4 : True := trivial; clear hb it hgt tk3 _tk))
        | (go_at_call 25; have _tk := tk4; go_loud ((with_reducible refine (get_im gs Z z1 z2 z3 z4 z5 z6 z7 ze _ HIS6.out HZL.out HGZ.out).mono ?_); rintro e w7 ⟨rfl, hb⟩; have hq := ((Below.refl w7.heap.size w7).alloc (Nat.le_refl _) (.cells #[.string z1, .string z2, .int .i64 z3, .int .i64 z4, .int .i64 z5, .int .u8 z6, .string z7] TH)); have hq2 := below_drew1 hq; have HB7 := Lib.hid (below_drew1 ((HB6.out.trans (hb.mono HB6.out.size)).alloc (HB6.out.trans (hb.mono HB6.out.size)).size (.cells #[.string z1, .string z2, .int .i64 z3, .int .i64 z4, .int .i64 z5, .int .u8 z6, .string z7] TH))); have HRY7 := Lib.hid ((HRY6.out.below hb).below hq2); have HIS7 := Lib.hid (RC.below (RC.of_C (im_C (HIS6.out.below hb) HZL.out)) hq2); have HIT7 := Lib.hid (RC.below (RC.of_C (im_C (HIT6.out.below hb) HZL.out)) hq2); have tk5 : True := trivial; clear hb hq hq2 tk4 _tk)))
      have hSS : (S != S) = false := by simp
      have hc148 : (148 : Int) ≤ (cap : Int) := by omega
      have hc156 : ¬ cap = 156 := by omega
      refine start_ (n := 37) (S := fun w' => True) (ds := []) #[false, false, false, false, false, false, false, false, false, false, false, false, false, false, false, false, false, false, false, false, false, false, false, false, false, false, false, false, false, false, false, false, false, false, false, false, false] (by kernel_rfl) rfl rfl trivial (fun hHeld => ?_)
      refine pure_ (i := 0) (N := some 72) (v := ?_) (a' := ?_) #[true, false, false, false, false, false, false, false, false, false, false, false, false, false, false, false, false, false, false, false, false, false, false, false, false, false, false, false, false, false, false, false, false, false, false, false, false] rfl rfl (by kernel_rfl) (fun _ _ _ h => h) (Or.inl ⟨by rfl, ?_⟩) ?_ ?_
      rotate_left
      · intro w'
        go_simp
        (first | (with_reducible rfl) | ((try simp only [*]); (with_reducible rfl)))
      rotate_left
      · simp only [Act.put, List.setIfInBounds_toArray, List.set_cons_zero, List.set_cons_succ, i64_w, i32_w]
        rfl
      refine pure_ (i := 1) (N := some 73) (v := ?_) (a' := ?_) #[true, true, false, false, false, false, false, false, false, false, false, false, false, false, false, false, false, false, false, false, false, false, false, false, false, false, false, false, false, false, false, false, false, false, false, false, false] rfl rfl (by kernel_rfl) (fun _ _ _ h => h) (Or.inl ⟨by rfl, ?_⟩) ?_ ?_
      rotate_left
      · intro w'
        go_simp
        (first | (with_reducible rfl) | ((try simp only [*]); (with_reducible rfl)))
      rotate_left
      · simp only [Act.put, List.setIfInBounds_toArray, List.set_cons_zero, List.set_cons_succ, i64_w, i32_w]
        rfl
      refine pure_ (i := 2) (N := some 74) (v := ?_) (a' := ?_) #[true, true, true, false, false, false, false, false, false, false, false, false, false, false, false, false, false, false, false, false, false, false, false, false, false, false, false, false, false, false, false, false, false, false, false, false, false] rfl rfl (by kernel_rfl) (fun _ _ _ h => h) (Or.inl ⟨by rfl, ?_⟩) ?_ ?_
      rotate_left
      · intro w'
        go_simp
        (first | (with_reducible rfl) | ((try simp only [*]); (with_reducible rfl)))
      rotate_left
      · simp only [Act.put, List.setIfInBounds_toArray, List.set_cons_zero, List.set_cons_succ, i64_w, i32_w]
        rfl
      refine pure_ (i := 3) (N := some 75) (v := ?_) (a' := ?_) #[true, true, true, true, false, false, false, false, false, false, false, false, false, false, false, false, false, false, false, false, false, false, false, false, false, false, false, false, false, false, false, false, false, false, false, false, false] rfl rfl (by kernel_rfl) (fun _ _ _ h => h) (Or.inl ⟨by rfl, ?_⟩) ?_ ?_
      rotate_left
      · intro w'
        go_simp
        (first | (with_reducible rfl) | ((try simp only [*]); (with_reducible rfl)))
      rotate_left
      · simp only [Act.put, List.setIfInBounds_toArray, List.set_cons_zero, List.set_cons_succ, i64_w, i32_w]
        rfl
      refine pure_ (i := 4) (N := some 76) (v := ?_) (a' := ?_) #[true, true, true, true, true, false, false, false, false, false, false, false, false, false, false, false, false, false, false, false, false, false, false, false, false, false, false, false, false, false, false, false, false, false, false, false, false] rfl rfl (by kernel_rfl) (fun _ _ _ h => h) (Or.inl ⟨by rfl, ?_⟩) ?_ ?_
      rotate_left
      · intro w'
        go_simp
        (first | (with_reducible rfl) | ((try simp only [*]); (with_reducible rfl)))
      rotate_left
      · simp only [Act.put, List.setIfInBounds_toArray, List.set_cons_zero, List.set_cons_succ, i64_w, i32_w]
        rfl
      refine pure_ (i := 5) (N := some 77) (v := ?_) (a' := ?_) #[true, true, true, true, true, true, false, false, false, false, false, false, false, false, false, false, false, false, false, false, false, false, false, false, false, false, false, false, false, false, false, false, false, false, false, false, false] rfl rfl (by kernel_rfl) (fun _ _ _ h => h) (Or.inl ⟨by rfl, ?_⟩) ?_ ?_
      rotate_left
      · intro w'
        go_simp
        (first | (with_reducible rfl) | ((try simp only [*]); (with_reducible rfl)))
      rotate_left
      · simp only [Act.put, List.setIfInBounds_toArray, List.set_cons_zero, List.set_cons_succ, i64_w, i32_w]
        rfl
      refine pure_ (i := 6) (N := some 78) (v := ?_) (a' := ?_) #[true, true, true, true, true, true, true, false, false, false, false, false, false, false, false, false, false, false, false, false, false, false, false, false, false, false, false, false, false, false, false, false, false, false, false, false, false] rfl rfl (by kernel_rfl) (fun _ _ _ h => h) (Or.inl ⟨by rfl, ?_⟩) ?_ ?_
      rotate_left
      · intro w'
        go_simp
        (first | (with_reducible rfl) | ((try simp only [*]); (with_reducible rfl)))
      rotate_left
      · simp only [Act.put, List.setIfInBounds_toArray, List.set_cons_zero, List.set_cons_succ, i64_w, i32_w]
        rfl
      refine pure_ (i := 7) (N := some 79) (v := ?_) (a' := ?_) #[true, true, true, true, true, true, true, true, false, false, false, false, false, false, false, false, false, false, false, false, false, false, false, false, false, false, false, false, false, false, false, false, false, false, false, false, false] rfl rfl (by kernel_rfl) (fun _ _ _ h => h) (Or.inl ⟨by rfl, ?_⟩) ?_ ?_
      rotate_left
      · intro w'
        go_simp
        (first | (with_reducible rfl) | ((try simp only [*]); (with_reducible rfl)))
      rotate_left
      · simp only [Act.put, List.setIfInBounds_toArray, List.set_cons_zero, List.set_cons_succ, i64_w, i32_w]
        rfl
      refine pure_ (i := 8) (N := some 80) (v := ?_) (a' := ?_) #[true, true, true, true, true, true, true, true, true, false, false, false, false, false, false, false, false, false, false, false, false, false, false, false, false, false, false, false, false, false, false, false, false, false, false, false, false] rfl rfl (by kernel_rfl) (fun _ _ _ h => h) (Or.inl ⟨by rfl, ?_⟩) ?_ ?_
      rotate_left
      · intro w'
        go_simp
        (first | (with_reducible rfl) | ((try simp only [*]); (with_reducible rfl)))
      rotate_left
      · simp only [Act.put, List.setIfInBounds_toArray, List.set_cons_zero, List.set_cons_succ, i64_w, i32_w]
        rfl
      refine pure_ (i := 9) (N := some 81) (v := ?_) (a' := ?_) #[true, true, true, true, true, true, true, true, true, true, false, false, false, false, false, false, false, false, false, false, false, false, false, false, false, false, false, false, false, false, false, false, false, false, false, false, false] rfl rfl (by kernel_rfl) (fun _ _ _ h => h) (Or.inl ⟨by rfl, ?_⟩) ?_ ?_
      rotate_left
      · intro w'
        go_simp
        (first | (with_reducible rfl) | ((try simp only [*]); (with_reducible rfl)))
      rotate_left
      · simp only [Act.put, List.setIfInBounds_toArray, List.set_cons_zero, List.set_cons_succ, i64_w, i32_w]
        rfl
      refine pure_ (i := 10) (N := some 82) (v := ?_) (a' := ?_) #[true, true, true, true, true, true, true, true, true, true, true, false, false, false, false, false, false, false, false, false, false, false, false, false, false, false, false, false, false, false, false, false, false, false, false, false, false] rfl rfl (by kernel_rfl) (fun _ _ _ h => h) (Or.inl ⟨by rfl, ?_⟩) ?_ ?_
      rotate_left
      · intro w'
        go_simp
        (first | (with_reducible rfl) | ((try simp only [*]); (with_reducible rfl)))
      rotate_left
      · simp only [Act.put, List.setIfInBounds_toArray, List.set_cons_zero, List.set_cons_succ, i64_w, i32_w]
        rfl
      refine pure_ (i := 11) (N := some 83) (v := ?_) (a' := ?_) #[true, true, true, true, true, true, true, true, true, true, true, true, false, false, false, false, false, false, false, false, false, false, false, false, false, false, false, false, false, false, false, false, false, false, false, false, false] rfl rfl (by kernel_rfl) (fun _ _ _ h => h) (Or.inl ⟨by rfl, ?_⟩) ?_ ?_
      rotate_left
      · intro w'
        go_simp
        (first | (with_reducible rfl) | ((try simp only [*]); (with_reducible rfl)))
      rotate_left
      · simp only [Act.put, List.setIfInBounds_toArray, List.set_cons_zero, List.set_cons_succ, i64_w, i32_w]
        rfl
      refine pure_ (i := 12) (N := some 84) (v := ?_) (a' := ?_) #[true, true, true, true, true, true, true, true, true, true, true, true, true, false, false, false, false, false, false, false, false, false, false, false, false, false, false, false, false, false, false, false, false, false, false, false, false] rfl rfl (by kernel_rfl) (fun _ _ _ h => h) (Or.inl ⟨by rfl, ?_⟩) ?_ ?_
      rotate_left
      · intro w'
        go_simp
        (first | (with_reducible rfl) | ((try simp only [*]); (with_reducible rfl)))
      rotate_left
      · simp only [Act.put, List.setIfInBounds_toArray, List.set_cons_zero, List.set_cons_succ, i64_w, i32_w]
        rfl
      refine pure_ (i := 13) (N := some 85) (v := ?_) (a' := ?_) #[true, true, true, true, true, true, true, true, true, true, true, true, true, true, false, false, false, false, false, false, false, false, false, false, false, false, false, false, false, false, false, false, false, false, false, false, false] rfl rfl (by kernel_rfl) (fun _ _ _ h => h) (Or.inl ⟨by rfl, ?_⟩) ?_ ?_
      rotate_left
      · intro w'
        go_simp
        (first | (with_reducible rfl) | ((try simp only [*]); (with_reducible rfl)))
      rotate_left
      · simp only [Act.put, List.setIfInBounds_toArray, List.set_cons_zero, List.set_cons_succ, i64_w, i32_w]
        rfl
      refine one_ (i := 14) (N := some 86) #[true, true, true, true, true, true, true, true, true, true, true, true, true, true, true, false, false, false, false, false, false, false, false, false, false, false, false, false, false, false, false, false, false, false, false, false, false] rfl rfl (by kernel_rfl) (by decide) (fun K hK => ?_)
      refine goes_ Try.func19 (by kernel_rfl) rfl #[.slice (some ⟨gs, 0, none⟩) 512 512, .slice (some ⟨gt, 0, none⟩) 512 512] (by rfl) rfl rfl (by simp only [List.map_toArray, List.map_cons, List.map_nil]; rfl) ?_
      with_reducible refine (same_at (some ⟨gs, 0, none⟩) (some ⟨gt, 0, none⟩) 512 512 512 Z _ HIS7.out HIT7.out HZL.out.symm (Nat.le_refl _) (Nat.le_refl _) (Nat.le_refl _)).mono ?_
      rintro e w8 ⟨rfl, hb⟩
      refine ⟨_, rfl, ?_⟩
      have HB8 := Lib.hid (HB7.out.trans (hb.mono HB7.out.size))
      have HRY8 := Lib.hid (HRY7.out.below hb)
      have HIS8 := Lib.hid (HIS7.out.below hb)
      clear hb
      refine hK.out _ _ trivial (fun hHeld => ?_)
      clear hK K
      refine norm_ (a' := ?_) ?_ ?_
      rotate_left
      · show Act.put _ (some 86) _ = _
        simp only [Act.put, List.setIfInBounds_toArray, List.set_cons_zero, List.set_cons_succ, i64_w, i32_w]
        rfl
      refine pure_ (i := 15) (N := some 87) (v := ?_) (a' := ?_) #[true, true, true, true, true, true, true, true, true, true, true, true, true, true, true, true, false, false, false, false, false, false, false, false, false, false, false, false, false, false, false, false, false, false, false, false, false] rfl rfl (by kernel_rfl) (fun _ _ _ h => h) (Or.inl ⟨by rfl, ?_⟩) ?_ ?_
      rotate_left
      · intro w'
        go_simp
        (first | (with_reducible rfl) | ((try simp only [*]); (with_reducible rfl)))
      rotate_left
      · simp only [Act.put, List.setIfInBounds_toArray, List.set_cons_zero, List.set_cons_succ, i64_w, i32_w]
        rfl
      refine pure_ (i := 16) (N := some 88) (v := ?_) (a' := ?_) #[true, true, true, true, true, true, true, true, true, true, true, true, true, true, true, true, true, false, false, false, false, false, false, false, false, false, false, false, false, false, false, false, false, false, false, false, false] rfl rfl (by kernel_rfl) (fun _ _ _ h => h) (Or.inl ⟨by rfl, ?_⟩) ?_ ?_
      rotate_left
      · intro w'
        go_simp
        (first | (with_reducible rfl) | ((try simp only [*]); (with_reducible rfl)))
      rotate_left
      · simp only [Act.put, List.setIfInBounds_toArray, List.set_cons_zero, List.set_cons_succ, i64_w, i32_w]
        rfl
      refine pure_ (i := 17) (N := some 89) (v := ?_) (a' := ?_) #[true, true, true, true, true, true, true, true, true, true, true, true, true, true, true, true, true, true, false, false, false, false, false, false, false, false, false, false, false, false, false, false, false, false, false, false, false] rfl rfl (by kernel_rfl) (fun _ _ _ h => h) (Or.inl ⟨by rfl, ?_⟩) ?_ ?_
      rotate_left
      · intro w'
        go_simp
        (first | (with_reducible rfl) | ((try simp only [*]); (with_reducible rfl)))
      rotate_left
      · simp only [Act.put, List.setIfInBounds_toArray, List.set_cons_zero, List.set_cons_succ, i64_w, i32_w]
        rfl
      refine pure_ (i := 18) (N := some 90) (v := ?_) (a' := ?_) #[true, true, true, true, true, true, true, true, true, true, true, true, true, true, true, true, true, true, true, false, false, false, false, false, false, false, false, false, false, false, false, false, false, false, false, false, false] rfl rfl (by kernel_rfl) (fun _ _ _ h => h) (Or.inl ⟨by rfl, ?_⟩) ?_ ?_
      rotate_left
      · intro w'
        go_simp
        (first | (with_reducible rfl) | ((try simp only [*]); (with_reducible rfl)))
      rotate_left
      · simp only [Act.put, List.setIfInBounds_toArray, List.set_cons_zero, List.set_cons_succ, i64_w, i32_w]
        rfl
      refine pure_ (i := 19) (N := some 91) (v := ?_) (a' := ?_) #[true, true, true, true, true, true, true, true, true, true, true, true, true, true, true, true, true, true, true, true, false, false, false, false, false, false, false, false, false, false, false, false, false, false, false, false, false] rfl rfl (by kernel_rfl) (fun _ _ _ h => h) (Or.inl ⟨by rfl, ?_⟩) ?_ ?_
      rotate_left
      · intro w'
        go_simp
        (first | (with_reducible rfl) | ((try simp only [*]); (with_reducible rfl)))
      rotate_left
      · simp only [Act.put, List.setIfInBounds_toArray, List.set_cons_zero, List.set_cons_succ, i64_w, i32_w]
        rfl
      refine pure_ (i := 20) (N := some 92) (v := ?_) (a' := ?_) #[true, true, true, true, true, true, true, true, true, true, true, true, true, true, true, true, true, true, true, true, true, false, false, false, false, false, false, false, false, false, false, false, false, false, false, false, false] rfl rfl (by kernel_rfl) (fun _ _ _ h => h) (Or.inl ⟨by rfl, ?_⟩) ?_ ?_
      rotate_left
      · intro w'
        go_simp
        (first | (with_reducible rfl) | ((try simp only [*]); (with_reducible rfl)))
      rotate_left
      · simp only [Act.put, List.setIfInBounds_toArray, List.set_cons_zero, List.set_cons_succ, i64_w, i32_w]
        rfl
      refine pure_ (i := 21) (N := some 93) (v := ?_) (a' := ?_) #[true, true, true, true, true, true, true, true, true, true, true, true, true, true, true, true, true, true, true, true, true, true, false, false, false, false, false, false, false, false, false, false, false, false, false, false, false] rfl rfl (by kernel_rfl) (fun _ _ _ h => h) (Or.inl ⟨by rfl, ?_⟩) ?_ ?_
      rotate_left
      · intro w'
        go_simp
        (first | (with_reducible rfl) | ((try simp only [*]); (with_reducible rfl)))
      rotate_left
      · simp only [Act.put, List.setIfInBounds_toArray, List.set_cons_zero, List.set_cons_succ, i64_w, i32_w]
        rfl
      refine pure_ (i := 22) (N := some 94) (v := ?_) (a' := ?_) #[true, true, true, true, true, true, true, true, true, true, true, true, true, true, true, true, true, true, true, true, true, true, true, false, false, false, false, false, false, false, false, false, false, false, false, false, false] rfl rfl (by kernel_rfl) (fun _ _ _ h => h) (Or.inl ⟨by rfl, ?_⟩) ?_ ?_
      rotate_left
      · intro w'
        go_simp
        (first | (with_reducible rfl) | ((try simp only [*]); (with_reducible rfl)))
      rotate_left
      · simp only [Act.put, List.setIfInBounds_toArray, List.set_cons_zero, List.set_cons_succ, i64_w, i32_w]
        rfl
      refine pure_ (i := 23) (N := some 95) (v := ?_) (a' := ?_) #[true, true, true, true, true, true, true, true, true, true, true, true, true, true, true, true, true, true, true, true, true, true, true, true, false, false, false, false, false, false, false, false, false, false, false, false, false] rfl rfl (by kernel_rfl) (fun _ _ _ h => h) (Or.inl ⟨by rfl, ?_⟩) ?_ ?_
      rotate_left
      · intro w'
        go_simp
        (first | (with_reducible rfl) | ((try simp only [*]); (with_reducible rfl)))
      rotate_left
      · simp only [Act.put, List.setIfInBounds_toArray, List.set_cons_zero, List.set_cons_succ, i64_w, i32_w]
        rfl
      refine pure_ (i := 24) (N := some 96) (v := ?_) (a' := ?_) #[true, true, true, true, true, true, true, true, true, true, true, true, true, true, true, true, true, true, true, true, true, true, true, true, true, false, false, false, false, false, false, false, false, false, false, false, false] rfl rfl (by kernel_rfl) (fun _ _ _ h => h) (Or.inl ⟨by rfl, ?_⟩) ?_ ?_
      rotate_left
      · intro w'
        go_simp
        (first | (with_reducible rfl) | ((try simp only [*]); (with_reducible rfl)))
      rotate_left
      · simp only [Act.put, List.setIfInBounds_toArray, List.set_cons_zero, List.set_cons_succ, i64_w, i32_w]
        rfl
      refine pure_ (i := 25) (N := some 97) (v := ?_) (a' := ?_) #[true, true, true, true, true, true, true, true, true, true, true, true, true, true, true, true, true, true, true, true, true, true, true, true, true, true, false, false, false, false, false, false, false, false, false, false, false] rfl rfl (by kernel_rfl) (fun _ _ _ h => h) (Or.inl ⟨by rfl, ?_⟩) ?_ ?_
      rotate_left
      · intro w'
        go_simp
        (first | (with_reducible rfl) | ((try simp only [*]); (with_reducible rfl)))
      rotate_left
      · simp only [Act.put, List.setIfInBounds_toArray, List.set_cons_zero, List.set_cons_succ, i64_w, i32_w]
        rfl
      refine one_ (i := 26) (N := some 98) #[true, true, true, true, true, true, true, true, true, true, true, true, true, true, true, true, true, true, true, true, true, true, true, true, true, true, true, false, false, false, false, false, false, false, false, false, false] rfl rfl (by kernel_rfl) (by decide) (fun K hK => ?_)
      refine goes_ Try.func19 (by kernel_rfl) rfl #[.slice (some ⟨gs, 0, none⟩) 148 512, .slice (some ⟨g, 0, none⟩) 148 cap] (by rfl) rfl rfl (by simp only [List.map_toArray, List.map_cons, List.map_nil]; rfl) ?_
      with_reducible refine (same_at (some ⟨gs, 0, none⟩) (some ⟨g, 0, none⟩) 148 512 cap (y.take 148) _ (by have := HIS8.out.take 148; rw [HZT.out] at this; exact this) (HRY8.out.take 148) (by rw [List.length_take, HYL.out]; decide) (by decide) (by decide) (by omega)).mono ?_
      rintro e w9 ⟨rfl, hb⟩
      refine ⟨_, rfl, ?_⟩
      have HB9 := Lib.hid (HB8.out.trans (hb.mono HB8.out.size))
      have HRY9 := Lib.hid (HRY8.out.below hb)
      have HIS9 := Lib.hid (HIS8.out.below hb)
      clear hb
      refine hK.out _ _ trivial (fun hHeld => ?_)
      clear hK K
      refine norm_ (a' := ?_) ?_ ?_
      rotate_left
      · show Act.put _ (some 98) _ = _
        simp only [Act.put, List.setIfInBounds_toArray, List.set_cons_zero, List.set_cons_succ, i64_w, i32_w]
        rfl
      refine pure_ (i := 27) (N := some 99) (v := ?_) (a' := ?_) #[true, true, true, true, true, true, true, true, true, true, true, true, true, true, true, true, true, true, true, true, true, true, true, true, true, true, true, true, false, false, false, false, false, false, false, false, false] rfl rfl (by kernel_rfl) (fun _ _ _ h => h) (Or.inl ⟨by rfl, ?_⟩) ?_ ?_
      rotate_left
      · intro w'
        go_simp
        (first | (with_reducible rfl) | ((try simp only [*]); (with_reducible rfl)))
      rotate_left
      · simp only [Act.put, List.setIfInBounds_toArray, List.set_cons_zero, List.set_cons_succ, i64_w, i32_w]
        rfl
      refine pure_ (i := 28) (N := some 100) (v := ?_) (a' := ?_) #[true, true, true, true, true, true, true, true, true, true, true, true, true, true, true, true, true, true, true, true, true, true, true, true, true, true, true, true, true, false, false, false, false, false, false, false, false] rfl rfl (by kernel_rfl) (fun _ _ _ h => h) (Or.inl ⟨by rfl, ?_⟩) ?_ ?_
      rotate_left
      · intro w'
        go_simp
        (first | (with_reducible rfl) | ((try simp only [*]); (with_reducible rfl)))
      rotate_left
      · simp only [Act.put, List.setIfInBounds_toArray, List.set_cons_zero, List.set_cons_succ, i64_w, i32_w]
        rfl
      refine pure_ (i := 29) (N := some 101) (v := ?_) (a' := ?_) #[true, true, true, true, true, true, true, true, true, true, true, true, true, true, true, true, true, true, true, true, true, true, true, true, true, true, true, true, true, true, false, false, false, false, false, false, false] rfl rfl (by kernel_rfl) (fun _ _ _ h => h) (Or.inl ⟨by rfl, ?_⟩) ?_ ?_
      rotate_left
      · intro w'
        go_simp
        (first | (with_reducible rfl) | ((try simp only [*]); (with_reducible rfl)))
      rotate_left
      · simp only [Act.put, List.setIfInBounds_toArray, List.set_cons_zero, List.set_cons_succ, i64_w, i32_w]
        rfl
      refine pure_ (i := 30) (N := some 102) (v := ?_) (a' := ?_) #[true, true, true, true, true, true, true, true, true, true, true, true, true, true, true, true, true, true, true, true, true, true, true, true, true, true, true, true, true, true, true, false, false, false, false, false, false] rfl rfl (by kernel_rfl) (fun _ _ _ h => h) (Or.inl ⟨by rfl, ?_⟩) ?_ ?_
      rotate_left
      · intro w'
        go_simp
        (first | (with_reducible rfl) | ((try simp only [*]); (with_reducible rfl)))
      rotate_left
      · simp only [Act.put, List.setIfInBounds_toArray, List.set_cons_zero, List.set_cons_succ, i64_w, i32_w]
        rfl
      refine pure_ (i := 31) (N := some 103) (v := ?_) (a' := ?_) #[true, true, true, true, true, true, true, true, true, true, true, true, true, true, true, true, true, true, true, true, true, true, true, true, true, true, true, true, true, true, true, true, false, false, false, false, false] rfl rfl (by kernel_rfl) (fun _ _ _ h => h) (Or.inl ⟨by rfl, ?_⟩) ?_ ?_
      rotate_left
      · intro w'
        go_simp
        (first | (with_reducible rfl) | ((try simp only [*]); (with_reducible rfl)))
      rotate_left
      · simp only [Act.put, List.setIfInBounds_toArray, List.set_cons_zero, List.set_cons_succ, i64_w, i32_w]
        rfl
      refine pure_ (i := 32) (N := some 104) (v := ?_) (a' := ?_) #[true, true, true, true, true, true, true, true, true, true, true, true, true, true, true, true, true, true, true, true, true, true, true, true, true, true, true, true, true, true, true, true, true, false, false, false, false] rfl rfl (by kernel_rfl) (fun _ _ _ h => h) (Or.inl ⟨by rfl, ?_⟩) ?_ ?_
      rotate_left
      · intro w'
        go_simp
        (first | (with_reducible rfl) | ((try simp only [*]); (with_reducible rfl)))
      rotate_left
      · simp only [Act.put, List.setIfInBounds_toArray, List.set_cons_zero, List.set_cons_succ, i64_w, i32_w]
        rfl
      refine pure_ (i := 33) (N := some 105) (v := ?_) (a' := ?_) #[true, true, true, true, true, true, true, true, true, true, true, true, true, true, true, true, true, true, true, true, true, true, true, true, true, true, true, true, true, true, true, true, true, true, false, false, false] rfl rfl (by kernel_rfl) (fun _ _ _ h => h) (Or.inl ⟨by rfl, ?_⟩) ?_ ?_
      rotate_left
      · intro w'
        go_simp
        (first | (with_reducible rfl) | ((try simp only [*]); (with_reducible rfl)))
      rotate_left
      · simp only [Act.put, List.setIfInBounds_toArray, List.set_cons_zero, List.set_cons_succ, i64_w, i32_w]
        rfl
      refine one_ (i := 34) (N := some 106) #[true, true, true, true, true, true, true, true, true, true, true, true, true, true, true, true, true, true, true, true, true, true, true, true, true, true, true, true, true, true, true, true, true, true, true, false, false] rfl rfl (by kernel_rfl) (by decide) (fun K hK => ?_)
      refine goes_ Try.func19 (by kernel_rfl) rfl #[.slice (some ⟨gs, 156, none⟩) 356 356, .slice (some ⟨g, 156, none⟩) 356 (cap - 156)] (by rfl) rfl rfl (by simp only [List.map_toArray, List.map_cons, List.map_nil]; rfl) ?_
      with_reducible refine (same_at (some ⟨gs, 156, none⟩) (some ⟨g, 156, none⟩) 356 356 (cap - 156) (y.drop 156) _ (by have := HIS9.out.drop 156; rw [HZD.out, Addr.add_lit] at this; exact this) (by have := HRY9.out.drop 156; rw [Addr.add_lit] at this; exact this) (by rw [List.length_drop, HYL.out]) (by decide) (by decide) (by omega)).mono ?_
      rintro e w10 ⟨rfl, hb⟩
      refine ⟨_, rfl, ?_⟩
      have HB10 := Lib.hid (HB9.out.trans (hb.mono HB9.out.size))
      have HRY10 := Lib.hid (HRY9.out.below hb)
      clear hb
      refine hK.out _ _ trivial (fun hHeld => ?_)
      clear hK K
      refine norm_ (a' := ?_) ?_ ?_
      rotate_left
      · show Act.put _ (some 106) _ = _
        simp only [Act.put, List.setIfInBounds_toArray, List.set_cons_zero, List.set_cons_succ, i64_w, i32_w]
        rfl
      refine pure_ (i := 35) (N := some 107) (v := ?_) (a' := ?_) #[true, true, true, true, true, true, true, true, true, true, true, true, true, true, true, true, true, true, true, true, true, true, true, true, true, true, true, true, true, true, true, true, true, true, true, true, false] rfl rfl (by kernel_rfl) (fun _ _ _ h => h) (Or.inl ⟨by rfl, ?_⟩) ?_ ?_
      rotate_left
      · intro w'
        go_simp
        (first | (with_reducible rfl) | ((try simp only [*]); (with_reducible rfl)))
      rotate_left
      · simp only [Act.put, List.setIfInBounds_toArray, List.set_cons_zero, List.set_cons_succ, i64_w, i32_w]
        rfl
      refine pure_ (i := 36) (N := some 108) (v := ?_) (a' := ?_) #[true, true, true, true, true, true, true, true, true, true, true, true, true, true, true, true, true, true, true, true, true, true, true, true, true, true, true, true, true, true, true, true, true, true, true, true, true] rfl rfl (by kernel_rfl) (fun _ _ _ h => h) (Or.inl ⟨by rfl, ?_⟩) ?_ ?_
      rotate_left
      · intro w'
        go_simp
        (first | (with_reducible rfl) | ((try simp only [*]); (with_reducible rfl)))
      rotate_left
      · simp only [Act.put, List.setIfInBounds_toArray, List.set_cons_zero, List.set_cons_succ, i64_w, i32_w]
        rfl
      refine done_ (by kernel_rfl) ?_
      by_cases in1 : 148 ≤ r1 ∧ r1 < 156
      · obtain ⟨p1, p2⟩ := in1
        have q1 : (148 : Int) ≤ (r1 : Int) := by omega
        have q2 : (r1 : Int) < 156 := by omega
        go_wp2_with (first | (go_at_call 28; have _tk := tk5; go_loud ((with_reducible refine (HP1.out _).mono ?_); rintro e w11 ⟨rfl, hb⟩; have HB11 := Lib.hid (HB10.out.trans (hb.mono HB10.out.size)); have HRY11 := Lib.hid (HRY10.out.below hb); have tk6 : True := trivial; clear hb tk5 _tk)) | (go_at_call 28; have _tk := tk6; go_loud ((with_reducible refine (HP2.out _).mono ?_); rintro e w12 ⟨rfl, hb⟩; have HB12 := Lib.hid (HB11.out.trans (hb.mono HB11.out.size)); have HRY12 := Lib.hid (HRY11.out.below hb); clear hb tk6 _tk)))
        go_ret
        exact ⟨rfl, HB.out.trans (HB12.out.mono HB.out.size)⟩
      · by_cases in2 : 148 ≤ r2 ∧ r2 < 156
        · obtain ⟨p3, p4⟩ := in2
          have q3 : (148 : Int) ≤ (r2 : Int) := by omega
          have q4 : (r2 : Int) < 156 := by omega
          have sp : ((148 : Int) ≤ (r1 : Int) ∧ ¬ (r1 : Int) < 156) ∨ ¬ (148 : Int) ≤ (r1 : Int) := by omega
          clear in1
          rcases sp with ⟨s1, s2⟩ | s1
          all_goals
            go_wp2_with (first | (go_at_call 28; have _tk := tk5; go_loud ((with_reducible refine (HP1.out _).mono ?_); rintro e w11 ⟨rfl, hb⟩; have HB11 := Lib.hid (HB10.out.trans (hb.mono HB10.out.size)); have HRY11 := Lib.hid (HRY10.out.below hb); have tk6 : True := trivial; clear hb tk5 _tk)) | (go_at_call 28; have _tk := tk6; go_loud ((with_reducible refine (HP2.out _).mono ?_); rintro e w12 ⟨rfl, hb⟩; have HB12 := Lib.hid (HB11.out.trans (hb.mono HB11.out.size)); have HRY12 := Lib.hid (HRY11.out.below hb); clear hb tk6 _tk)))
            go_ret
            exact ⟨rfl, HB.out.trans (HB12.out.mono HB.out.size)⟩
        · have HSW := Lib.hid (sum_swap y HYL.out r1 r2 hr1 hr2 in1 in2)
          have sp : ((148 : Int) ≤ (r1 : Int) ∧ ¬ (r1 : Int) < 156) ∨ ¬ (148 : Int) ≤ (r1 : Int) := by omega
          have sq : ((148 : Int) ≤ (r2 : Int) ∧ ¬ (r2 : Int) < 156) ∨ ¬ (148 : Int) ≤ (r2 : Int) := by omega
          have hz1 := hr1
          have hz2 := hr2
          clear in1 in2
          rcases sp with ⟨s1, s2⟩ | s1 <;> rcases sq with ⟨s3, s4⟩ | s3
          all_goals
            go_wp2_with (first | (go_at_call 28; have _tk := tk5; go_loud ((with_reducible refine (HP1.out _).mono ?_); rintro e w11 ⟨rfl, hb⟩; have HB11 := Lib.hid (HB10.out.trans (hb.mono HB10.out.size)); have HRY11 := Lib.hid (HRY10.out.below hb); have tk6 : True := trivial; clear hb tk5 _tk)) | (go_at_call 28; have _tk := tk6; go_loud ((with_reducible refine (HP2.out _).mono ?_); rintro e w12 ⟨rfl, hb⟩; have HB12 := Lib.hid (HB11.out.trans (hb.mono HB11.out.size)); have HRY12 := Lib.hid (HRY11.out.below hb); clear hb tk6 _tk)))
            have HRMx := Lib.hid (HRM.out.of (HB12.out.block g HRM.out.lt))
            have ex1 : w12.drew.cell? ⟨g, r1, none⟩ = some (.int .u8 (bn y r1)) := rc_at HRY12.out r1 (by rw [HYL.out]; exact hz1)
            have ex2 : w12.drew.cell? ⟨g, r2, none⟩ = some (.int .u8 (bn y r2)) := rc_at HRY12.out r2 (by rw [HYL.out]; exact hz2)
            have ef1 : w12.drew.frozen? ⟨g, r1, none⟩ = false := HRMx.out.frozen r1
            have HRYs := Lib.hid (rc_set (w := w12.drew) HRY12.out r1 (by rw [HYL.out]; exact hz1) (bn y r2))
            have ex3 : (w12.drew.setCell ⟨g, r1, none⟩ (.int .u8 (bn y r2))).cell? ⟨g, r2, none⟩ = some (.int .u8 (bn (y.set r1 (bn y r2)) r2)) := rc_at HRYs.out r2 (by rw [List.length_set, HYL.out]; exact hz2)
            have ef3 : (w12.drew.setCell ⟨g, r1, none⟩ (.int .u8 (bn y r2))).frozen? ⟨g, r2, none⟩ = false := (ROOM.set (w := w12.drew) HRMx.out g r1 (.int .u8 (bn y r2))).frozen r2
            have HRYt := Lib.hid (rc_set HRYs.out r2 (by rw [List.length_set, HYL.out]; exact hz2) (bn y r1))
            have HBT := Lib.hid ((((HB.out.trans (HB12.out.mono HB.out.size)).drew).setCell (p := ⟨g, r1, none⟩) HG.out (.int .u8 (bn y r2))).setCell (p := ⟨g, r2, none⟩) HG.out (.int .u8 (bn y r1)))
            have HYT := Lib.hid (show ((y.set r1 (bn y r2)).set r2 (bn y r1)).length = 512 by rw [List.length_set, List.length_set]; exact HYL.out)
            have HYB := Lib.hid (show AreB ((y.set r1 (bn y r2)).set r2 (bn y r1)) from mem_of_bytes (set_bytes (set_bytes ⟨HYL.out, bytes_of_mem HYA.out⟩ r1 (bytes_of_mem HYA.out r2)) r2 (bytes_of_mem HYA.out r1)).2)
            have HYS := Lib.hid (show S = sumS ((y.set r1 (bn y r2)).set r2 (bn y r1)) 512 by rw [HSW.out]; exact HS.out)
            have ey3 : (w12.setCell ⟨g, r1, none⟩ (.int .u8 (bn y r2))).cell? ⟨g, r2, none⟩ = some (.int .u8 (bn (y.set r1 (bn y r2)) r2)) := ex3
            have ey4 : w12.frozen? ⟨g, r2, none⟩ = false := HRMx.out.frozen r2
            have HRYu := Lib.hid (show RC (((w12.setCell ⟨g, r1, none⟩ (.int .u8 (bn y r2))).setCell ⟨g, r2, none⟩ (.int .u8 (bn y r1))).drew) (some ⟨g, 0, none⟩) ((y.set r1 (bn y r2)).set r2 (bn y r1)) from HRYt.out)
            have HBU := Lib.hid (show Below W.heap.size W (((w12.setCell ⟨g, r1, none⟩ (.int .u8 (bn y r2))).setCell ⟨g, r2, none⟩ (.int .u8 (bn y r1))).drew) from HBT.out)
            refine start_ (n := 16) (S := fun w' => w'.cell? ⟨g, r2, none⟩ = some (.int .u8 (bn y r2)) ∧ w'.cell? ⟨g, r1, none⟩ = some (.int .u8 (bn y r1))) (ds := [13, 15]) #[false, false, false, false, false, false, false, false, false, false, false, false, false, false, false, false] (by kernel_rfl) rfl rfl ⟨ex2, ex1⟩ (fun hHeld => ?_)
            refine pure_ (i := 0) (N := some 127) (v := ?_) (a' := ?_) #[true, false, false, false, false, false, false, false, false, false, false, false, false, false, false, false] rfl rfl (by kernel_rfl) (fun _ _ _ h => h) (Or.inl ⟨by rfl, ?_⟩) ?_ ?_
            rotate_left
            · intro w'
              go_simp
              (first | (with_reducible rfl) | ((try simp only [*]); (with_reducible rfl)))
            rotate_left
            · simp only [Act.put, List.setIfInBounds_toArray, List.set_cons_zero, List.set_cons_succ, i64_w, i32_w]
              rfl
            refine pure_ (i := 1) (N := some 128) (v := ?_) (a' := ?_) #[true, true, false, false, false, false, false, false, false, false, false, false, false, false, false, false] rfl rfl (by kernel_rfl) (fun _ _ _ h => h) (Or.inl ⟨by rfl, ?_⟩) ?_ ?_
            rotate_left
            · intro w'
              go_simp
              (first | (with_reducible rfl) | ((try simp only [*]); (with_reducible rfl)))
            rotate_left
            · simp only [Act.put, List.setIfInBounds_toArray, List.set_cons_zero, List.set_cons_succ, i64_w, i32_w]
              rfl
            refine pure_ (i := 2) (N := some 129) (v := ?_) (a' := ?_) #[true, true, true, false, false, false, false, false, false, false, false, false, false, false, false, false] rfl rfl (by kernel_rfl) (fun _ _ _ h => h) (Or.inl ⟨by rfl, ?_⟩) ?_ ?_
            rotate_left
            · intro w'
              go_simp
              (first | (with_reducible rfl) | ((try simp only [*]); (with_reducible rfl)))
            rotate_left
            · simp only [Act.put, List.setIfInBounds_toArray, List.set_cons_zero, List.set_cons_succ, i64_w, i32_w]
              rfl
            refine pure_ (i := 3) (N := some 130) (v := ?_) (a' := ?_) #[true, true, true, true, false, false, false, false, false, false, false, false, false, false, false, false] rfl rfl (by kernel_rfl) (fun _ _ _ h => h) (Or.inl ⟨by rfl, ?_⟩) ?_ ?_
            rotate_left
            · intro w'
              go_simp
              (first | (with_reducible rfl) | ((try simp only [*]); (with_reducible rfl)))
            rotate_left
            · simp only [Act.put, List.setIfInBounds_toArray, List.set_cons_zero, List.set_cons_succ, i64_w, i32_w]
              rfl
            refine pure_ (i := 4) (N := some 131) (v := ?_) (a' := ?_) #[true, true, true, true, true, false, false, false, false, false, false, false, false, false, false, false] rfl rfl (by kernel_rfl) (fun _ _ _ h => h) (Or.inl ⟨by rfl, ?_⟩) ?_ ?_
            rotate_left
            · intro w'
              go_simp
              (first | (with_reducible rfl) | ((try simp only [*]); (with_reducible rfl)))
            rotate_left
            · simp only [Act.put, List.setIfInBounds_toArray, List.set_cons_zero, List.set_cons_succ, i64_w, i32_w]
              rfl
            refine pure_ (i := 5) (N := some 132) (v := ?_) (a' := ?_) #[true, true, true, true, true, true, false, false, false, false, false, false, false, false, false, false] rfl rfl (by kernel_rfl) (fun _ _ _ h => h) (Or.inl ⟨by rfl, ?_⟩) ?_ ?_
            rotate_left
            · intro w'
              go_simp
              (first | (with_reducible rfl) | ((try simp only [*]); (with_reducible rfl)))
            rotate_left
            · simp only [Act.put, List.setIfInBounds_toArray, List.set_cons_zero, List.set_cons_succ, i64_w, i32_w]
              rfl
            refine pure_ (i := 6) (N := some 133) (v := ?_) (a' := ?_) #[true, true, true, true, true, true, true, false, false, false, false, false, false, false, false, false] rfl rfl (by kernel_rfl) (fun _ _ _ h => h) (Or.inl ⟨by rfl, ?_⟩) ?_ ?_
            rotate_left
            · intro w'
              go_simp
              (first | (with_reducible rfl) | ((try simp only [*]); (with_reducible rfl)))
            rotate_left
            · simp only [Act.put, List.setIfInBounds_toArray, List.set_cons_zero, List.set_cons_succ, i64_w, i32_w]
              rfl
            refine pure_ (i := 8) (N := some 135) (v := ?_) (a' := ?_) #[true, true, true, true, true, true, true, false, true, false, false, false, false, false, false, false] rfl rfl (by kernel_rfl) (fun _ _ _ h => h) (Or.inl ⟨by rfl, ?_⟩) ?_ ?_
            rotate_left
            · intro w'
              go_simp
              (first | (with_reducible rfl) | ((try simp only [*]); (with_reducible rfl)))
            rotate_left
            · simp only [Act.put, List.setIfInBounds_toArray, List.set_cons_zero, List.set_cons_succ, i64_w, i32_w]
              rfl
            refine pure_ (i := 9) (N := some 136) (v := ?_) (a' := ?_) #[true, true, true, true, true, true, true, false, true, true, false, false, false, false, false, false] rfl rfl (by kernel_rfl) (fun _ _ _ h => h) (Or.inl ⟨by rfl, ?_⟩) ?_ ?_
            rotate_left
            · intro w'
              go_simp
              (first | (with_reducible rfl) | ((try simp only [*]); (with_reducible rfl)))
            rotate_left
            · simp only [Act.put, List.setIfInBounds_toArray, List.set_cons_zero, List.set_cons_succ, i64_w, i32_w]
              rfl
            refine pure_ (i := 10) (N := some 137) (v := ?_) (a' := ?_) #[true, true, true, true, true, true, true, false, true, true, true, false, false, false, false, false] rfl rfl (by kernel_rfl) (fun _ _ _ h => h) (Or.inl ⟨by rfl, ?_⟩) ?_ ?_
            rotate_left
            · intro w'
              go_simp
              (first | (with_reducible rfl) | ((try simp only [*]); (with_reducible rfl)))
            rotate_left
            · simp only [Act.put, List.setIfInBounds_toArray, List.set_cons_zero, List.set_cons_succ, i64_w, i32_w]
              rfl
            refine take_ (i := 7) (N := some 134) (v := ?_) (a' := ?_) #[true, true, true, true, true, true, true, true, true, true, true, false, false, false, false, false] rfl rfl (by kernel_rfl) (fun _ _ _ h => h) (Or.inl ⟨by rfl, ?_⟩) hHeld ?_ ?_
            rotate_left
            · rintro w' ⟨s0, s1⟩
              go_simp
              (first | (with_reducible rfl) | ((try simp only [*]); (with_reducible rfl)))
            rotate_left
            · simp only [Act.put, List.setIfInBounds_toArray, List.set_cons_zero, List.set_cons_succ, i64_w, i32_w]
              rfl
            refine take_ (i := 11) (N := some 138) (v := ?_) (a' := ?_) #[true, true, true, true, true, true, true, true, true, true, true, true, false, false, false, false] rfl rfl (by kernel_rfl) (fun _ _ _ h => h) (Or.inl ⟨by rfl, ?_⟩) hHeld ?_ ?_
            rotate_left
            · rintro w' ⟨s0, s1⟩
              go_simp
              (first | (with_reducible rfl) | ((try simp only [*]); (with_reducible rfl)))
            rotate_left
            · simp only [Act.put, List.setIfInBounds_toArray, List.set_cons_zero, List.set_cons_succ, i64_w, i32_w]
              rfl
            refine pure_ (i := 12) (N := some 139) (v := ?_) (a' := ?_) #[true, true, true, true, true, true, true, true, true, true, true, true, true, false, false, false] rfl rfl (by kernel_rfl) (fun _ _ _ h => h) (Or.inl ⟨by rfl, ?_⟩) ?_ ?_
            rotate_left
            · intro w'
              go_simp
              (first | (with_reducible rfl) | ((try simp only [*]); (with_reducible rfl)))
            rotate_left
            · simp only [Act.put, List.setIfInBounds_toArray, List.set_cons_zero, List.set_cons_succ, i64_w, i32_w]
              rfl
            refine last_ (i := 13) (N := none) #[true, true, true, true, true, true, true, true, true, true, true, true, true, true, false, false] rfl rfl (by kernel_rfl) (by decide) (fun K hK => ?_)
            refine skip_ (w1 := ?_) (by rfl) rfl ?_ ?_
            rotate_left
            · go_simp
              rfl
            refine hK.out _ _ ?_
            clear hK K
            refine pure_ (i := 14) (N := some 140) (v := ?_) (a' := ?_) #[true, true, true, true, true, true, true, true, true, true, true, true, true, true, true, false] rfl rfl (by kernel_rfl) (fun _ _ _ h => h) (Or.inl ⟨by rfl, ?_⟩) ?_ ?_
            rotate_left
            · intro w'
              go_simp
              (first | (with_reducible rfl) | ((try simp only [*]); (with_reducible rfl)))
            rotate_left
            · simp only [Act.put, List.setIfInBounds_toArray, List.set_cons_zero, List.set_cons_succ, i64_w, i32_w]
              rfl
            refine last_ (i := 15) (N := none) #[true, true, true, true, true, true, true, true, true, true, true, true, true, true, true, true] rfl rfl (by kernel_rfl) (by decide) (fun K hK => ?_)
            refine skip_ (w1 := ?_) (by rfl) rfl ?_ ?_
            rotate_left
            · go_simp
              rfl
            refine hK.out _ _ ?_
            clear hK K
            refine done_ (by kernel_rfl) ?_
            clear ex1 ex2 ef1 ex3 ef3 ey3 ey4
            go_wp2_with (go_at_call 13; go_loud ((with_reducible refine (sum_at (some ⟨g, 0, none⟩) cap _ S _ HRYu.out HYT.out hcap5 HYB.out HYS.out).mono ?_); rintro e w14 ⟨rfl, hb⟩; have HB14 := Lib.hid (HBU.out.trans (hb.mono HBU.out.size)); clear hb))
            go_ret
            exact ⟨rfl, HB14.out⟩
end Go.Proofs.Ytdmpbfhbjklajaa.WalkHeadSealed
end

-- Written by wip/tools/myprint.py, a program of this session over the print tool: not a printed text of the kit's
section
namespace Go.Proofs.Ytdmpbfhbjklajaa.PFull
open Go.RowKit Go.Proofs.YtdmpbfhbjklajaaW.PrintWords Go.Proofs.YtdmpbfhbjklajaaW.PrintLast Go.Proofs.YtdmpbfhbjklajaaW.PrintMore
attribute [local go_sem] max2_int min2_int max_two min_two max_three min_three max_four min_four   -- for this text's walks alone
set_option linter.unusedVariables false
set_option linter.unusedSimpArgs false
set_option maxRecDepth 20000



def errW : Option Int → Value
 | none => .nilIface
 | some c => .iface 0 (.int .i64 c)
theorem errW_none : errW none = .nilIface := rfl
theorem errW_some (c : Int) : errW (some c) = .iface 0 (.int .i64 c) := rfl

-- the values' own types

end Go.Proofs.Ytdmpbfhbjklajaa.PFull
end

-- Written by wip/tools/myprint.py, a program of this session over the print tool: not a printed text of the kit's
section
namespace Go.Proofs.Ytdmpbfhbjklajaa.PFull
open Go.RowKit Go.Proofs.YtdmpbfhbjklajaaW.PrintWords Go.Proofs.YtdmpbfhbjklajaaW.PrintLast Go.Proofs.YtdmpbfhbjklajaaW.PrintMore
attribute [local go_sem] max2_int min2_int max_two min_two max_three min_three max_four min_four   -- for this text's walks alone
set_option linter.unusedVariables false
set_option linter.unusedSimpArgs false
set_option maxRecDepth 20000

/-! ### head_Full: function 23 -/
def head_Full.f (a0_0 : ByteArray) (a0_1 : ByteArray) (a0_2 : Int) (a0_3 : Int) (a0_4 : Int) (a0_5 : Int) (a0_6 : ByteArray) : Option (ByteArray) := if a0_1.toList = ([] : List UInt8) then (some a0_0) else (if a0_1.size + 1 ≤ 9223372036854775807 then (if (a0_1 ++ (⟨#[47]⟩ : ByteArray)).size + a0_0.size ≤ 9223372036854775807 then (some ((a0_1 ++ (⟨#[47]⟩ : ByteArray)) ++ a0_0)) else (none)) else (none))
set_option maxHeartbeats 8000000 in
set_option maxRecDepth 100000 in
theorem head_Full.calls (a0_0 : ByteArray) (a0_1 : ByteArray) (a0_2 : Int) (a0_3 : Int) (a0_4 : Int) (a0_5 : Int) (a0_6 : ByteArray) (r : ByteArray) (w : World) (h : head_Full.f a0_0 a0_1 a0_2 a0_3 a0_4 a0_5 a0_6 = some r) :
  Calls Try.prog 23 #[.agg #[.string a0_0, .string a0_1, .int .i64 a0_2, .int .i64 a0_3, .int .i64 a0_4, .int .u8 a0_5, .string a0_6]] w fun e w' => e = .returned (.string r) ∧ Below w.heap.size w w' := by
 have hu24 := Try.underlying24
 have HB := Aside0.mk (Below.refl w.heap.size w)
 have H : (if a0_1.toList = ([] : List UInt8) then (some a0_0) else (if a0_1.size + 1 ≤ 9223372036854775807 then (if (a0_1 ++ (⟨#[47]⟩ : ByteArray)).size + a0_0.size ≤ 9223372036854775807 then (some ((a0_1 ++ (⟨#[47]⟩ : ByteArray)) ++ a0_0)) else (none)) else (none))) = some r := h
 clear h
 by_cases c2 : a0_1.toList = ([] : List UInt8)
 ·rw [if_pos c2] at H
  have c2b0 : (a0_1.toList == ([] : List UInt8)) = true := beq_iff_eq.mpr c2
  have c2b1 : (a0_1.toList != ([] : List UInt8)) = false := bne_eq_false_iff_eq.mpr c2
  clear c2
  obtain rfl := Option.some.inj H
  go_enter Try.func23, Try.ntmps23
  go_wp2_with (first | ((with_reducible refine gate_dst (N := 1) rfl ?_); refine box_event ?hg (N := 1) ?hd (cs := #[.string a0_0, .string a0_1, .int .i64 a0_2, .int .i64 a0_3, .int .i64 a0_4, .int .u8 a0_5, .string a0_6]) (t := 24) ?hr ?_; (case hd => rfl); (case hg => rfl); (case hr => first | (go_simp; done) | (go_simp; rfl)); intro gb101 hg w3 hbox hb; have n0_ := Aside0.mk (below_step (by repeat (first | (with_reducible first | exact HB.out | apply below_alloc | apply pw_below_drewN | apply below_drew1) | exact HB.out)) hb); have n1_ := Aside0.mk (hbox); have n2_ := Aside0.mk ((by rw [hg]; exact (below_size (by repeat (first | (with_reducible first | exact HB.out | apply below_alloc | apply pw_below_drewN | apply below_drew1) | exact HB.out))) : w.heap.size ≤ gb101)); have n3_ := Aside0.mk ((by rw [hg]; exact (below_size (by repeat (first | (with_reducible first | exact HB.out | apply below_alloc | apply pw_below_drewN | apply below_drew1) | exact HB.out))) : w.heap.size ≤ gb101)); clear HB; have HB := n0_; have BK101 := n1_; have GW101 := n2_; have GE101 := n3_; clear n0_ n1_ n2_ n3_; clear hb hbox hg; have hcz4_0 : w3.cell? ⟨gb101, 0, none⟩ = some (.string a0_0) := (blk_cell BK101.out 0).trans rfl; have hcz4_1 : w3.cell? ⟨gb101, 1, none⟩ = some (.string a0_1) := (blk_cell BK101.out 1).trans rfl; have hcz4_2 : w3.cell? ⟨gb101, 2, none⟩ = some (.int .i64 a0_2) := (blk_cell BK101.out 2).trans rfl; have hcz4_3 : w3.cell? ⟨gb101, 3, none⟩ = some (.int .i64 a0_3) := (blk_cell BK101.out 3).trans rfl; have hcz4_4 : w3.cell? ⟨gb101, 4, none⟩ = some (.int .i64 a0_4) := (blk_cell BK101.out 4).trans rfl; have hcz4_5 : w3.cell? ⟨gb101, 5, none⟩ = some (.int .u8 a0_5) := (blk_cell BK101.out 5).trans rfl; have hcz4_6 : w3.cell? ⟨gb101, 6, none⟩ = some (.string a0_6) := (blk_cell BK101.out 6).trans rfl; have hfz4_0 := blk_frozen BK101.out 0; have hfz4_1 := blk_frozen BK101.out 1; have hfz4_2 := blk_frozen BK101.out 2; have hfz4_3 := blk_frozen BK101.out 3; have hfz4_4 := blk_frozen BK101.out 4; have hfz4_5 := blk_frozen BK101.out 5; have hfz4_6 := blk_frozen BK101.out 6))
  go_ret
  exact ⟨by first | rfl | (simp [errW_none, errW_some] <;> rfl) | (simp [*, errW_none, errW_some] <;> rfl), by repeat (first | (with_reducible first | exact HB.out | apply below_alloc | apply pw_below_drewN | apply below_drew1 | refine below_set ?_ GE101.out) | exact HB.out)⟩
 ·rw [if_neg c2] at H
  have c2b0 : (a0_1.toList == ([] : List UInt8)) = false := beq_eq_false_iff_ne.mpr c2
  have c2b1 : (a0_1.toList != ([] : List UInt8)) = true := bne_iff_ne.mpr c2
  by_cases c5 : a0_1.size + 1 ≤ 9223372036854775807
  ·rw [if_pos c5] at H
   have c5b0 := eq_true c5
   have c5b1 : decide (a0_1.size + 1 ≤ 9223372036854775807) = true := decide_eq_true c5
   try have c5b2 : (9223372036854775807 < a0_1.size + 1) = False := eq_false (Nat.not_lt.2 c5)
   by_cases c6 : (a0_1 ++ (⟨#[47]⟩ : ByteArray)).size + a0_0.size ≤ 9223372036854775807
   ·rw [if_pos c6] at H
    have c6b0 := eq_true c6
    have c6b1 : decide ((a0_1 ++ (⟨#[47]⟩ : ByteArray)).size + a0_0.size ≤ 9223372036854775807) = true := decide_eq_true c6
    try have c6b2 : (9223372036854775807 < (a0_1 ++ (⟨#[47]⟩ : ByteArray)).size + a0_0.size) = False := eq_false (Nat.not_lt.2 c6)
    obtain rfl := Option.some.inj H
    go_enter Try.func23, Try.ntmps23
    go_wp2_with (first | ((with_reducible refine gate_dst (N := 1) rfl ?_); refine box_event ?hg (N := 1) ?hd (cs := #[.string a0_0, .string a0_1, .int .i64 a0_2, .int .i64 a0_3, .int .i64 a0_4, .int .u8 a0_5, .string a0_6]) (t := 24) ?hr ?_; (case hd => rfl); (case hg => rfl); (case hr => first | (go_simp; done) | (go_simp; rfl)); intro gb101 hg w7 hbox hb; have n0_ := Aside0.mk (below_step (by repeat (first | (with_reducible first | exact HB.out | apply below_alloc | apply pw_below_drewN | apply below_drew1) | exact HB.out)) hb); have n1_ := Aside0.mk (hbox); have n2_ := Aside0.mk ((by rw [hg]; exact (below_size (by repeat (first | (with_reducible first | exact HB.out | apply below_alloc | apply pw_below_drewN | apply below_drew1) | exact HB.out))) : w.heap.size ≤ gb101)); have n3_ := Aside0.mk ((by rw [hg]; exact (below_size (by repeat (first | (with_reducible first | exact HB.out | apply below_alloc | apply pw_below_drewN | apply below_drew1) | exact HB.out))) : w.heap.size ≤ gb101)); clear HB; have HB := n0_; have BK101 := n1_; have GW101 := n2_; have GE101 := n3_; clear n0_ n1_ n2_ n3_; clear hb hbox hg; have hcz8_0 : w7.cell? ⟨gb101, 0, none⟩ = some (.string a0_0) := (blk_cell BK101.out 0).trans rfl; have hcz8_1 : w7.cell? ⟨gb101, 1, none⟩ = some (.string a0_1) := (blk_cell BK101.out 1).trans rfl; have hcz8_2 : w7.cell? ⟨gb101, 2, none⟩ = some (.int .i64 a0_2) := (blk_cell BK101.out 2).trans rfl; have hcz8_3 : w7.cell? ⟨gb101, 3, none⟩ = some (.int .i64 a0_3) := (blk_cell BK101.out 3).trans rfl; have hcz8_4 : w7.cell? ⟨gb101, 4, none⟩ = some (.int .i64 a0_4) := (blk_cell BK101.out 4).trans rfl; have hcz8_5 : w7.cell? ⟨gb101, 5, none⟩ = some (.int .u8 a0_5) := (blk_cell BK101.out 5).trans rfl; have hcz8_6 : w7.cell? ⟨gb101, 6, none⟩ = some (.string a0_6) := (blk_cell BK101.out 6).trans rfl; have hfz8_0 := blk_frozen BK101.out 0; have hfz8_1 := blk_frozen BK101.out 1; have hfz8_2 := blk_frozen BK101.out 2; have hfz8_3 := blk_frozen BK101.out 3; have hfz8_4 := blk_frozen BK101.out 4; have hfz8_5 := blk_frozen BK101.out 5; have hfz8_6 := blk_frozen BK101.out 6))
    go_ret
    exact ⟨by first | rfl | (simp [errW_none, errW_some] <;> rfl) | (simp [*, errW_none, errW_some] <;> rfl), by repeat (first | (with_reducible first | exact HB.out | apply below_alloc | apply pw_below_drewN | apply below_drew1 | refine below_set ?_ GE101.out) | exact HB.out)⟩
   ·rw [if_neg c6] at H
    exact absurd H (by simp)
  ·rw [if_neg c5] at H
   exact absurd H (by simp)

end Go.Proofs.Ytdmpbfhbjklajaa.PFull
end

-- Written by wip/tools/myprint.py, a program of this session over the print tool: not a printed text of the kit's
section
namespace Go.Proofs.Ytdmpbfhbjklajaa.PFull
open Go.RowKit Go.Proofs.YtdmpbfhbjklajaaW.PrintWords Go.Proofs.YtdmpbfhbjklajaaW.PrintLast Go.Proofs.YtdmpbfhbjklajaaW.PrintMore
attribute [local go_sem] max2_int min2_int max_two min_two max_three min_three max_four min_four   -- for this text's walks alone
set_option linter.unusedVariables false
set_option linter.unusedSimpArgs false
set_option maxRecDepth 20000

end Go.Proofs.Ytdmpbfhbjklajaa.PFull
end
