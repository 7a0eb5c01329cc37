/- Texts of this claim, laid together by wip/tools/squash.py: HGet, HGetC, PHeadBackx0, PHeadBackx1, PHeadBackx2. -/
import Derived.Test.YtdmpbfhbjklajaaQB3
import Derived.Deep.RegionHeld3
import Derived.Deep.DeepCutAuto
import Derived.Test.YtdmpbfhbjklajaaProg
import Derived.Below
import Derived.Deep.Draws
import Derived.Deep.AppendLies
import Derived.Maps.AppendAt
import Derived.OwnWalk
import Derived.Laws.BytesArg
import Derived.Laws.MakeOwn
import Derived.Laws.OwnMore
import Derived.Deep.OwnRows
import Derived.Tactics
import Derived.Lib.ConvBytes
import Derived.Laws.Slices
import Derived.WalkKit
import Derived.KernelRfl
import Derived.RowKit3
import Derived.Deep.LoopGhost
import Derived.Deep.QuietTactic
import Derived.BigQuiet
import Derived.WideLaws
import Derived.Deep.CutBlock
import Derived.Laws.Rows
import Derived.Lib.AppendStr
import Derived.ArgAppend
import Derived.Laws.IdiomCopy
import Derived.OrdersHeld
import Derived.Laws.BitsLemmas
import Derived.RowKit
import Derived.Test.YtdmpbfhbjklajaaWWords
import Derived.Test.YtdmpbfhbjklajaaWLast
import Derived.Test.YtdmpbfhbjklajaaWTab
import Derived.Test.YtdmpbfhbjklajaaWFour
import Derived.Test.YtdmpbfhbjklajaaWQPut
import Derived.Test.YtdmpbfhbjklajaaWApart
import Derived.Test.YtdmpbfhbjklajaaWArr
import Derived.Test.YtdmpbfhbjklajaaWZeros
import Derived.Test.YtdmpbfhbjklajaaWFoot
import Derived.Test.YtdmpbfhbjklajaaWKept
import Derived.Test.YtdmpbfhbjklajaaWShare
import Derived.Test.YtdmpbfhbjklajaaWN
import Derived.Test.YtdmpbfhbjklajaaWFootNe
import Derived.Test.YtdmpbfhbjklajaaWAt
import Derived.Test.YtdmpbfhbjklajaaWEqStruct
import Derived.Test.YtdmpbfhbjklajaaWRepsOne
import Derived.Test.YtdmpbfhbjklajaaWInv
import Derived.Test.YtdmpbfhbjklajaaWInvWords
import Derived.Test.YtdmpbfhbjklajaaWGuard
import Derived.Test.YtdmpbfhbjklajaaWNEv
import Derived.Test.YtdmpbfhbjklajaaWMore

/- Get: what a head's bytes are read as. -/
section
namespace Go.Proofs.Ytdmpbfhbjklajaa.HGet
open Go.Proofs.Ytdmpbfhbjklajaa Go.RowKit Go.Proofs.YtdmpbfhbjklajaaW.PrintWords Go.Proofs.YtdmpbfhbjklajaaW.PrintLast Go.Proofs.YtdmpbfhbjklajaaW.PrintMore Go.Proofs.Ytdmpbfhbjklajaa.Byt Go.Proofs.Ytdmpbfhbjklajaa.OctPure Go.Proofs.Ytdmpbfhbjklajaa.Img Go.Proofs.Ytdmpbfhbjklajaa.Head Go.Proofs.Ytdmpbfhbjklajaa.HeadPut Go.Proofs.Ytdmpbfhbjklajaa.HeadSums Go.Proofs.Ytdmpbfhbjklajaa.HText
set_option linter.unusedVariables false
set_option linter.unusedSimpArgs false
/-- Some of the bytes. -/
def part (l : List Int) (o n : Nat) : List Int := (l.drop o).take n
theorem part_len {l : List Int} {o n : Nat} (h : o + n ≤ l.length) : (part l o n).length = n := by unfold part; rw [List.length_take, List.length_drop]; omega
theorem part_bytes {l : List Int} (h : Bytes l) (o n : Nat) : Bytes (part l o n) := bytes_take (bytes_drop h o) n
theorem im_part {w : World} {g : Nat} {l : List Int} (h : IM w g l) (o n : Nat) : RC w (some ⟨g, o, none⟩) (part l o n) := by
  have h1 : RC w (some ⟨g, 0, none⟩) l := RC.row (g := g) (rest := #[]) (t := TI) (fr := (0, 0)) (by rw [Array.append_empty]; exact h)
  have h2 := (h1.drop o).take n
  rw [show (⟨g, 0, none⟩ : Addr).add o = ⟨g, o, none⟩ from add_plain g o] at h2
  exact h2
theorem im_alloc {w : World} {g : Nat} {l : List Int} (h : IM w g l) (o : Obj) : IM (w.alloc o) g l := blk_alloc h o
theorem text_at (g o n c : Nat) (l : List Int) (R : ByteArray) (W : World) (hR : R = firstS (part l o n)) (hi : IM W g l) (hB : Bytes l) (hl : o + n ≤ l.length) (h5 : n ≤ 512) :
    Calls Try.prog 38 #[.slice (some ⟨g, o, none⟩) n c] W fun e w' => e = .returned (.string R) ∧ Drawn0 W w' :=
  text_gen _ n c (part l o n) R W hR (part_len hl).symm (im_part hi o n) (part_bytes hB o n) (by rw [part_len hl]; omega)
theorem exact_at (g o n c : Nat) (l : List Int) (r e : Int) (W : World) (hr : exactS (part l o n) = (r, e)) (hi : IM W g l) (hB : Bytes l) (hl : o + n ≤ l.length) (h5 : n ≤ 512) (hc : n ≤ c) :
    Calls Try.prog 39 #[.slice (some ⟨g, o, none⟩) n c] W fun e' w' => e' = .returned (.tuple #[.int .i64 r, .int .i64 e]) ∧ Below W.heap.size W w' := by
  have h := PExact.octal_Exact.calls 61 (some ⟨g, o, none⟩) c (part l o n) r e W ((im_part hi o n).to_C (by rw [part_len hl]; omega)) (by rw [part_len hl]; omega) (by rw [exact_oct (part l o n) (mem_of_bytes (part_bytes hB o n)) 61 (by decide), hr])
  rw [part_len hl] at h
  exact h
theorem conv_at (g o n c : Nat) (l : List Int) (W : World) (hi : IM W g l) (hl : o + n ≤ l.length) (h5 : n ≤ 512) : (convert TB 9 (.slice (some ⟨g, o, none⟩) n c)).run Try.prog W = .ok (.string (strOfNums (part l o n))) W :=
  Kd.C_string Try.underlying22 Try.underlying5 Try.underlying9 (by have := (im_part hi o n).to_C (by rw [part_len hl]; omega); rwa [part_len hl] at this)
/-- An image stored into a new one. -/
theorem store_img {ops : Array Oper} {rs : List Oper} {o : Oper} {a : Act} {w : World} {Q : Exit → Act → World → Prop} (hgd : o.guard = none) (x y : Operand) (ho : o.op = .store TI x y) (g : Nat) (l l0 : List Int) (hx : a.eval x = .pointer (some ⟨g, 0, none⟩)) (hy : a.eval y = .agg (nums .u8 l).toArray)
    (hi : IM w g l0) (hl : l.length = 512) (hl0 : l0.length = 512) (h : ∀ w', IM w' g l → Wrote g w w' → wpList Try.prog ops Q rs (a.put o.dst undef) w') : wpList Try.prog ops Q (o :: rs) a w := by
  refine wpList_store_row hgd TI x y ho g (nums .u8 l).toArray hx hy TI (nums .u8 l0).toArray hi ?_ ?_ (bytes_one l) ?_
  · rw [show (nums .u8 l).toArray.size = 512 by simp [nums, hl]]; exact infoI
  · simp [nums, hl, hl0]
  · exact h _ (setRow_heap _ g _ (nums .u8 l).toArray TI (0, 0) hi) ⟨rfl, rfl, rfl, by simp, fun k hk hn => setRow_other _ _ _ _ hn⟩
theorem load_img {w : World} {g : Nat} {l : List Int} (hi : IM w g l) (hl : l.length = 512) : (loadVar TI ⟨g, 0, none⟩).run Try.prog w = .ok (.agg (nums .u8 l).toArray) w := by
  have h1 : RC w (some ⟨g, 0, none⟩) l := RC.row (g := g) (rest := #[]) (t := TI) (fr := (0, 0)) (by rw [Array.append_empty]; exact hi)
  obtain ⟨a, e, h⟩ := load_rc h1 hl
  cases e
  exact h
theorem img_new (w : World) (g : Nat) (hg : g = w.heap.size) : IM (w.alloc (.cells ZV TI)) g Z512 := by subst hg; exact blk_new _ _
theorem load_alloc {w : World} {A : Option Addr} {l : List Int} (h : RC w A l) (hl : l.length = 512) : ∃ a, A = some a ∧ ∀ o, (loadVar TI a).run Try.prog (w.alloc o) = .ok (.agg (nums .u8 l).toArray) (w.alloc o) := by
  obtain ⟨a, rfl, _⟩ := load_rc h hl
  refine ⟨a, rfl, fun o => ?_⟩
  obtain ⟨b, e, hb⟩ := load_rc (h.below ((Below.refl w.heap.size w).alloc (Nat.le_refl _) o)) hl
  cases e
  exact hb
def HZ : Array Value := #[.string ⟨#[]⟩, .string ⟨#[]⟩, .int .i64 0, .int .i64 0, .int .i64 0, .int .u8 0, .string ⟨#[]⟩]
/-- What stands while Get runs: the answer's place, still empty; the head's bytes; of what was there nothing has turned. -/
structure G (W : World) (l : List Int) (w : World) : Prop where
  out : w.heap[W.heap.size]? = some (.cells HZ TH (0, 0))
  im : IM w (W.heap.size + 1) l
  bel : Below W.heap.size W w
theorem G.lt {W w : World} {l : List Int} (h : G W l w) : W.heap.size + 1 < w.heap.size := h.im.lt
theorem G.drew {W w : World} {l : List Int} (h : G W l w) : G W l w.drew := ⟨h.out, h.im, below_drew1 h.bel⟩
theorem G.drewN {W w : World} {l : List Int} (h : G W l w) (n : Nat) : G W l (w.drewN n) := ⟨blk_drewN h.out n, blk_drewN h.im n, pw_below_drewN h.bel n⟩
theorem G.alloc {W w : World} {l : List Int} (h : G W l w) (o : Obj) : G W l (w.alloc o) := ⟨blk_alloc h.out o, blk_alloc h.im o, h.bel.alloc h.bel.size o⟩
theorem G.below {W w w' : World} {l : List Int} (h : G W l w) (hb : Below w.heap.size w w') : G W l w' := ⟨blk_below h.out hb, blk_below h.im hb, h.bel.trans (hb.mono h.bel.size)⟩
theorem G.wrote {W w w' : World} {l : List Int} {k : Nat} (h : G W l w) (hw : Wrote k w w') (hk : W.heap.size + 1 < k) : G W l w' :=
  ⟨(hw.block _ (by have := h.lt; omega) (by omega)).trans h.out, h.im.wrote hw (by omega), h.bel.trans (hw.below (by omega) h.bel.size)⟩
theorem G.setCell {W w : World} {l : List Int} {g : Nat} (h : G W l w) (hg : W.heap.size + 1 < g) (i : Nat) (v : Value) : G W l (w.setCell ⟨g, i, none⟩ v) := h.wrote (wrote_setCell (Wrote.refl _ _) i v) hg
theorem set7 {w : World} {g : Nat} {t : TypeId} {v0 v1 v2 v3 v4 v5 v6 : Value} (h : w.heap[g]? = some (.cells HZ t (0, 0))) :
    (((((((w.setCell ⟨g, 0, none⟩ v0).setCell ⟨g, 1, none⟩ v1).setCell ⟨g, 2, none⟩ v2).setCell ⟨g, 3, none⟩ v3).setCell ⟨g, 4, none⟩ v4).setCell ⟨g, 5, none⟩ v5).setCell ⟨g, 6, none⟩ v6).heap[g]? = some (.cells #[v0, v1, v2, v3, v4, v5, v6] t (0, 0)) := by
  have h0 := blk_put h 0 v0 (show _ = #[v0, .string ⟨#[]⟩, .int .i64 0, .int .i64 0, .int .i64 0, .int .u8 0, .string ⟨#[]⟩] from rfl)
  have h1 := blk_put h0 1 v1 (show _ = #[v0, v1, .int .i64 0, .int .i64 0, .int .i64 0, .int .u8 0, .string ⟨#[]⟩] from rfl)
  have h2 := blk_put h1 2 v2 (show _ = #[v0, v1, v2, .int .i64 0, .int .i64 0, .int .u8 0, .string ⟨#[]⟩] from rfl)
  have h3 := blk_put h2 3 v3 (show _ = #[v0, v1, v2, v3, .int .i64 0, .int .u8 0, .string ⟨#[]⟩] from rfl)
  have h4 := blk_put h3 4 v4 (show _ = #[v0, v1, v2, v3, v4, .int .u8 0, .string ⟨#[]⟩] from rfl)
  have h5 := blk_put h4 5 v5 (show _ = #[v0, v1, v2, v3, v4, v5, .string ⟨#[]⟩] from rfl)
  have h6 := blk_put h5 6 v6 (show _ = #[v0, v1, v2, v3, v4, v5, v6] from rfl)
  exact h6
theorem new_row (w : World) (n : Nat) (o : Obj) : ((w.drewN n).alloc o).heap[w.heap.size]? = some o := by
  have h := blk_new (w.drewN n) o
  rwa [show (w.drewN n).heap.size = w.heap.size by simp] at h
theorem G.start {W w4 : World} {l : List Int} (hi : IM w4 (W.heap.size + 1) l) (hw : Wrote (W.heap.size + 1) ((W.alloc (.cells HZ TH)).alloc (.cells ZV TI)) w4) : G W l w4 :=
  ⟨(hw.block W.heap.size (by simp; omega) (by omega)).trans (blk_alloc (blk_new W (.cells HZ TH)) _), hi, (((Below.refl W.heap.size W).alloc (Nat.le_refl _) _).alloc (by simp) _).trans (hw.below (by omega) (by simp; omega))⟩
theorem G.both {W w : World} {l : List Int} (h : G W l w) (hl : l.length = 512) : w.cell? ⟨W.heap.size + 1, 156, none⟩ = some (.int .u8 (bn l 156)) ∧ G W l w := ⟨h.im.cell 156 (by rw [hl]; decide), h⟩
theorem G.keep {W w : World} {l : List Int} {t : Int} (h : G W l w) (hl : l.length = 512) (ht : t = bn l 156) : w.cell? ⟨W.heap.size + 1, 156, none⟩ = some (.int .u8 t) ∧ G W l w := by subst ht; exact h.both hl
theorem new_cell (w : World) : ∀ (n : Nat) (cs : Array Value) (t j : Nat), ((w.drewN n).alloc (.cells cs t (0, 0))).cell? ⟨w.heap.size, j, none⟩ = cs[j]? := fun n cs t j => by
  have h := blk_new (w.drewN n) (.cells cs t (0, 0))
  rw [show (w.drewN n).heap.size = w.heap.size by simp] at h
  exact blk_cell h j
theorem new_frozen (w : World) : ∀ (n : Nat) (cs : Array Value) (t j : Nat), ((w.drewN n).alloc (.cells cs t (0, 0))).frozen? ⟨w.heap.size, j, none⟩ = false := fun n cs t j => by
  have h := blk_new (w.drewN n) (.cells cs t (0, 0))
  rw [show (w.drewN n).heap.size = w.heap.size by simp] at h
  exact blk_frozen h j
theorem run_toI (g hi : Nat) (h2 : hi ≤ 512) :
    ∀ W : World, (Instr.sliceAt TI (.pointer (some ⟨g, 0, none⟩)) none (some (.int .i64 (hi : Int))) none).run Try.prog W = .ok (.slice (some ⟨g, 0, none⟩) hi 512) W := by
  intro W
  obtain ⟨i, hi1, hsz⟩ := Option.map_eq_some_iff.1 info1
  have e1 : (⟨g, 0, none⟩ : Addr).add 0 = ⟨g, 0, none⟩ := add_plain g 0
  have hb : (0 : Int) ≤ hi ∧ (hi : Int) ≤ 512 := by omega
  simp [Instr.sliceAt, run_underlying (Try.underlying59), Instr.sureAddr, Instr.sliceBounds, run_sliceBound, sizeOf, typeInfo, hi1, hsz, e1, hb, Sem.run_bind]
/-- A whole block written over. -/
theorem store_blk {ops : Array Oper} {rs : List Oper} {o : Oper} {a : Act} {w : World} {Q : Exit → Act → World → Prop} (hgd : o.guard = none) (ty : TypeId) (x y : Operand) (ho : o.op = .store ty x y) (g : Nat) (cells old : Array Value) (hx : a.eval x = .pointer (some ⟨g, 0, none⟩)) (hy : a.eval y = .agg cells)
    (t : TypeId) (hg : w.heap[g]? = some (.cells old t (0, 0))) (hi : (Try.prog.info? ty).map (·.size) = some cells.size) (hold : old.size = cells.size) (h1 : cells.all (·.oneCell') = true) (h : ∀ w', w'.heap[g]? = some (.cells cells t (0, 0)) → Wrote g w w' → wpList Try.prog ops Q rs (a.put o.dst undef) w') : wpList Try.prog ops Q (o :: rs) a w := by
  refine wpList_store_row hgd ty x y ho g cells hx hy t old hg hi hold h1 ?_
  exact h _ (setRow_heap _ g _ cells t (0, 0) hg) ⟨rfl, rfl, rfl, by simp, fun k hk hn => setRow_other _ _ _ _ hn⟩
theorem ptr3_one (p : Option Addr) (x y : Int) : (#[Value.pointer p, .int .i64 x, .int .i64 y] : Array Value).all (·.oneCell') = true := by simp [Value.oneCell']
theorem head7_one (n p : ByteArray) (m s t y : Int) (k : ByteArray) : (#[Value.string n, .string p, .int .i64 m, .int .i64 s, .int .i64 t, .int .u8 y, .string k] : Array Value).all (·.oneCell') = true := by simp [Value.oneCell']
theorem results_row_tmp {P : Program} {fn : Func} {p u : Tmp} {ty : TypeId} (h : fn.results = #[.cell p ty, .tmp u]) (tmps : Array Value) (w : World) (g : Nat) (t : TypeId) (cs : Array Value) (fr : Nat × Nat) (d : TypeDesc)
    (hp : tmps.getD p undef = .pointer (some ⟨g, 0, none⟩)) (hg : w.heap[g]? = some (.cells cs t fr))
    (hu : P.underlying ty = some d) (hd : (match d with | .struct _ | .array _ _ => true | _ => false) = true) (hi : (P.info? ty).map (·.size) = some cs.size) :
    (results fn tmps).run P w = .ok (.tuple #[.agg cs, tmps.getD u undef]) w := by
  have hp' : tmps[p]?.getD undef = .pointer (some ⟨g, 0, none⟩) := by simpa using hp
  simp [results, h, hp', asAddr, Sem.run_bind, run_loadVar_row w g t ty cs fr d hg hu hd hi]
def restV (l : List Int) : Value :=
  if (exactS (part l 100 8)).2 = 0 ∧ (exactS (part l 124 12)).2 = 0 ∧ (exactS (part l 136 12)).2 = 0 then
    (if mayS (firstS (part l 0 100)) (firstS (part l 345 155)) (exactS (part l 100 8)).1 (exactS (part l 124 12)).1 (exactS (part l 136 12)).1 (bn l 156) (firstS (part l 157 100)) = 0 ∧ layS (firstS (part l 0 100)) (firstS (part l 345 155)) (exactS (part l 100 8)).1 (exactS (part l 124 12)).1 (exactS (part l 136 12)).1 (bn l 156) (firstS (part l 157 100)) = l then
      .tuple #[.agg #[.string (firstS (part l 0 100)), .string (firstS (part l 345 155)), .int .i64 (exactS (part l 100 8)).1, .int .i64 (exactS (part l 124 12)).1, .int .i64 (exactS (part l 136 12)).1, .int .u8 (bn l 156), .string (firstS (part l 157 100))], .int .i64 0]
    else .tuple #[.agg HZ, .int .i64 100])
  else .tuple #[.agg HZ, .int .i64 100]
theorem restV_bad {l : List Int} (h : ¬ ((exactS (part l 100 8)).2 = 0 ∧ (exactS (part l 124 12)).2 = 0 ∧ (exactS (part l 136 12)).2 = 0)) : restV l = .tuple #[.agg HZ, .int .i64 100] := by unfold restV; rw [if_neg h]
theorem restV_ok {l : List Int} {n p k : ByteArray} {m s t y : Int} (hm : exactS (part l 100 8) = (m, 0)) (hs : exactS (part l 124 12) = (s, 0)) (ht : exactS (part l 136 12) = (t, 0)) (hn : n = firstS (part l 0 100)) (hp : p = firstS (part l 345 155)) (hk : k = firstS (part l 157 100)) (hy : y = bn l 156)
    (h1 : mayS n p m s t y k = 0) (h2 : layS n p m s t y k = l) : restV l = .tuple #[.agg #[.string n, .string p, .int .i64 m, .int .i64 s, .int .i64 t, .int .u8 y, .string k], .int .i64 0] := by
  unfold restV
  rw [hm, hs, ht, ← hn, ← hp, ← hk, ← hy, if_pos ⟨rfl, rfl, rfl⟩, if_pos ⟨h1, h2⟩]
theorem restV_no {l : List Int} {n p k : ByteArray} {m s t y : Int} (hm : exactS (part l 100 8) = (m, 0)) (hs : exactS (part l 124 12) = (s, 0)) (ht : exactS (part l 136 12) = (t, 0)) (hn : n = firstS (part l 0 100)) (hp : p = firstS (part l 345 155)) (hk : k = firstS (part l 157 100)) (hy : y = bn l 156)
    (h : ¬ (mayS n p m s t y k = 0 ∧ layS n p m s t y k = l)) : restV l = .tuple #[.agg HZ, .int .i64 100] := by
  unfold restV
  rw [hm, hs, ht, ← hn, ← hp, ← hk, ← hy, if_pos ⟨rfl, rfl, rfl⟩, if_neg h]
def rowK (tn tp tk : ByteArray) (ty a b c : Int) : Nat → Array Value
  | 0 => #[.string tn, .string tp, .int .i64 0, .int .i64 0, .int .i64 0, .int .u8 ty, .string tk]
  | 1 => #[.string tn, .string tp, .int .i64 a, .int .i64 0, .int .i64 0, .int .u8 ty, .string tk]
  | 2 => #[.string tn, .string tp, .int .i64 a, .int .i64 b, .int .i64 0, .int .u8 ty, .string tk]
  | _ => #[.string tn, .string tp, .int .i64 a, .int .i64 b, .int .i64 c, .int .u8 ty, .string tk]
set_option maxRecDepth 100000 in
set_option maxHeartbeats 4000000 in
theorem main (A0 : Option Addr) (c0 : Nat) (l : List Int) (W : World) (h : Kd.C (Kd.int .u8) W A0 l.length l) (hc : l.length ≤ c0) (hl : l.length = 512) (hB : Bytes l) (hM : part l 257 8 = MAGIC) (hS : sealS l = l) :
    Calls Try.prog 25 #[.slice A0 l.length c0] W fun e w' => e = .returned (restV l) ∧ Below W.heap.size W w' := by
  have HRC := Lib.hid (RC.of_C h)
  have hz := zI
  have hu24 := Try.underlying24
  obtain ⟨a, rfl, hld⟩ := load_alloc HRC.out hl
  have HL := Lib.hid hl
  have HB := Lib.hid hB
  have hne' : ((512 : Int) != 512) = false := rfl
  have hqq : ∀ w, (binOp .neq TI (.agg (nums .u8 l).toArray) (.agg (nums .u8 l).toArray)).run Try.prog w = .ok (.bool false) w := fun w => by rw [run_neqI w l l hl hl, bne_self_eq_false]
  rw [hl]
  have HLD := Lib.hid hld
  have harr := run_arrI (some a) c0
  have hMs : strOfNums (part l 257 8) = ⟨#[117, 115, 116, 97, 114, 0, 48, 48]⟩ := by rw [hM]; decide
  have HMS := Lib.hid hMs
  have HSL := Lib.hid (show l = sealS l from hS.symm)
  have hcu0 := run_cutI (W.heap.size + 1) 257 265 (by decide) (by decide) (by decide)
  have hcut1 := run_toI (W.heap.size + 1) 100 (by decide)
  have hcut2 := run_cutI (W.heap.size + 1) 157 257 (by decide) (by decide) (by decide)
  have hcut3 := run_cutI (W.heap.size + 1) 345 500 (by decide) (by decide) (by decide)
  obtain ⟨tn, htn⟩ : ∃ t, t = firstS (part l 0 100) := ⟨_, rfl⟩
  obtain ⟨tk, htk⟩ : ∃ t, t = firstS (part l 157 100) := ⟨_, rfl⟩
  obtain ⟨tp, htp⟩ : ∃ t, t = firstS (part l 345 155) := ⟨_, rfl⟩
  obtain ⟨ty, hty⟩ : ∃ t, t = bn l 156 := ⟨_, rfl⟩
  have HTN := Lib.hid htn
  have HTK := Lib.hid htk
  have HTP := Lib.hid htp
  have HTY := Lib.hid hty
  clear htn htk htp hty
  clear h hc hld hM hMs hS hB
  clear hl
  go_enter Try.func25, Try.ntmps25
  go_upto_region 10 with (first
    | ((with_reducible refine gate_dst (N := 17) rfl ?_); refine wpList_load_run rfl TI (.tmp 16) rfl a _ rfl (HLD.out _) ?_)
    | (refine store_img rfl (.tmp 4) (.tmp 17) rfl (W.heap.size + 1) l Z512 rfl rfl (img_new (W.alloc (.cells HZ TH)) _ (by simp)) HL.out z_ok.1 ?_; go_loud (intro w4 hi4 hw4; have HG4 := Lib.hid (G.start hi4 hw4); have hcv := conv_at (W.heap.size + 1) 257 8 (512 - 257) l w4 hi4 (by rw [HL.out]; decide) (by decide); rw [HMS.out] at hcv; clear hi4 hw4))
    | ((with_reducible refine gate_dst (N := 22) rfl ?_); refine wpList_load_run rfl TI (.tmp 4) rfl ⟨W.heap.size + 1, 0, none⟩ _ rfl (load_img HG4.out.im HL.out) ?_)
    | (refine store_img rfl (.tmp 5) (.tmp 22) rfl w4.heap.size l Z512 rfl rfl (img_new w4 _ rfl) HL.out z_ok.1 ?_; go_loud (intro w6 hi6 hw6; have HG6 := Lib.hid ((HG4.out.alloc _).wrote hw6 HG4.out.lt); have HI6 := Lib.hid hi6; clear hi6 hw6))
    | (go_at_call 32; go_loud ((with_reducible refine (seal_gen w4.heap.size l l w6 HSL.out HB.out HL.out HI6.out).mono ?_); rintro e w7 ⟨rfl, hi7, hw7⟩; have HG7 := Lib.hid (HG6.out.wrote hw7 HG4.out.lt); have HI7 := Lib.hid hi7; have hnc7 := new_cell w7; have hnf7 := new_frozen w7; clear hi7 hw7))
    | ((with_reducible refine gate_dst (N := 24) rfl ?_); refine wpList_load_run rfl TI (.tmp 5) rfl ⟨w4.heap.size, 0, none⟩ _ rfl (load_img HI7.out HL.out) ?_)
    | ((with_reducible refine gate_dst (N := 25) rfl ?_); refine wpList_load_run rfl TI (.tmp 4) rfl ⟨W.heap.size + 1, 0, none⟩ _ rfl (load_img HG7.out.im HL.out) ?_))
  go_cut [6] (fun s6 wx => ∃ g : Nat, s6 = .pointer (some ⟨g, 0, none⟩) ∧ W.heap.size + 1 < g ∧ wx.heap[g]? = some (.cells #[.string tn, .string tp, .int .i64 0, .int .i64 0, .int .i64 0, .int .u8 ty, .string tk] TH (0, 0)) ∧ G W l wx)
  case first =>
    go_region_held3 (fun w' => w'.cell? ⟨W.heap.size + 1, 156, none⟩ = some (.int .u8 ty) ∧ G W l w') ((refine G.keep ?_ HL.out HTY.out; with_reducible repeat (first | exact HG7.out | refine G.setCell ?_ HG4.out.lt _ _ | refine G.setCell ?_ HG7.out.lt _ _ | apply G.drewN | apply G.drew | apply G.alloc)))
      (first
        | (go_at_call 38; (with_reducible refine (text_at (W.heap.size + 1) 0 100 _ l tn _ HTN.out ?_ HB.out (by rw [HL.out]; decide) (by decide)).mono ?_); (exact (‹_ ∧ G W l _›).2.im); rintro e w' ⟨rfl, ⟨nd, rfl⟩⟩)
        | (go_at_call 38; (with_reducible refine (text_at (W.heap.size + 1) 157 100 _ l tk _ HTK.out ?_ HB.out (by rw [HL.out]; decide) (by decide)).mono ?_); (exact (‹_ ∧ G W l _›).2.im); rintro e w' ⟨rfl, ⟨nd, rfl⟩⟩)
        | (go_at_call 38; (with_reducible refine (text_at (W.heap.size + 1) 345 155 _ l tp _ HTP.out ?_ HB.out (by rw [HL.out]; decide) (by decide)).mono ?_); (exact (‹_ ∧ G W l _›).2.im); rintro e w' ⟨rfl, ⟨nd, rfl⟩⟩))
    all_goals (go_wp2_with fail; go_meet; refine ⟨w7.heap.size, rfl, HG7.out.lt, ?_, ?_⟩)
    all_goals (first | (refine set7 ?_; (with_reducible repeat apply blk_drewN); first | exact new_row w7 _ _ | exact blk_new w7 _) | (with_reducible repeat (first | exact HG7.out | refine G.setCell ?_ HG7.out.lt _ _ | apply G.drewN | apply G.drew | apply G.alloc)) | skip)
  case rest =>
    obtain ⟨g, rfl, hg, hrow, hG⟩ := hcut
    obtain ⟨⟨em, xm⟩, hem⟩ : ∃ r, r = exactS (part l 100 8) := ⟨_, rfl⟩
    obtain ⟨⟨es, xs⟩, hes⟩ : ∃ r, r = exactS (part l 124 12) := ⟨_, rfl⟩
    obtain ⟨⟨et, xt⟩, het⟩ : ∃ r, r = exactS (part l 136 12) := ⟨_, rfl⟩
    have HEM := Lib.hid hem
    have HES := Lib.hid hes
    have HET := Lib.hid het
    have HROW := Lib.hid hrow
    have HG := Lib.hid hG
    clear hem hes het hrow hG hcv hnc7 hnf7
    have HGL := Lib.hid hg
    go_wp2
    go_loopw [8, 9, 10, 45] (fun v8 v9 v10 v45 wr => ∃ k : Nat, k ≤ 3 ∧ v45 = .int .i64 k ∧ wr.heap[g]? = some (.cells (rowK tn tp tk ty em es et k) TH (0, 0)) ∧ wr.heap[wc.heap.size]? = some (.cells #[.pointer (some ⟨g, 2, none⟩), .int .i64 100, .int .i64 8, .pointer (some ⟨g, 3, none⟩), .int .i64 124, .int .i64 12, .pointer (some ⟨g, 4, none⟩), .int .i64 136, .int .i64 12] 68 (0, 0)) ∧ G W l wr ∧ ((1 ≤ k → xm = 0) ∧ (2 ≤ k → xs = 0) ∧ (3 ≤ k → xt = 0))) (fun _ _ _ v45 _ => 3 - (intOf v45).toNat)
    case atStart => exact ⟨0, by omega, rfl, blk_alloc HROW.out _, blk_new wc _, HG.out.alloc _, by omega⟩
    case round =>
      obtain ⟨k, hk, rfl, hrow, hsl, hG, hok⟩ := hrel
      obtain rfl | rfl | rfl | rfl : k = 0 ∨ k = 1 ∨ k = 2 ∨ k = 3 := by omega
      · -- round 0
        have q0 : wr.cell? ⟨wc.heap.size, 0, none⟩ = some (.pointer (some ⟨g, 2, none⟩)) := (blk_cell hsl 0).trans rfl
        have q1 : wr.cell? ⟨wc.heap.size, 1, none⟩ = some (.int .i64 100) := (blk_cell hsl 1).trans rfl
        have q2 : wr.cell? ⟨wc.heap.size, 2, none⟩ = some (.int .i64 8) := (blk_cell hsl 2).trans rfl
        have HR0 := Lib.hid hrow
        have HS0 := Lib.hid hsl
        have HG0 := Lib.hid hG
        have HOK := Lib.hid hok
        have hcw := run_cutI (W.heap.size + 1) 100 108 (by decide) (by decide) (by decide)
        clear hrow hsl hG hok
        by_cases hx : xm = 0
        · subst hx
          go_wp2_with (first
            | (refine store_blk rfl 68 (.tmp 8) (.tmp 48) rfl wr.heap.size #[.pointer (some ⟨g, 2, none⟩), .int .i64 100, .int .i64 8] #[.pointer none, .int .i64 0, .int .i64 0] rfl rfl 68 (blk_new wr _) (by kernel_rfl) rfl (ptr3_one _ _ _) ?_; go_loud (intro w8 h8 hw8; have p0 : w8.cell? ⟨wr.heap.size, 0, none⟩ = some (.pointer (some ⟨g, 2, none⟩)) := (blk_cell h8 0).trans rfl; have p1 : w8.cell? ⟨wr.heap.size, 1, none⟩ = some (.int .i64 100) := (blk_cell h8 1).trans rfl; have p2 : w8.cell? ⟨wr.heap.size, 2, none⟩ = some (.int .i64 8) := (blk_cell h8 2).trans rfl; have HG8 := Lib.hid ((HG0.out.alloc _).wrote hw8 HG0.out.lt); have HR8 := Lib.hid ((hw8.block g (by have := blk_lt HR0.out; simp; omega) (by have := blk_lt HR0.out; omega)).trans (blk_alloc HR0.out _)); have HS8 := Lib.hid ((hw8.block wc.heap.size (by have := blk_lt HS0.out; simp; omega) (by have := blk_lt HS0.out; omega)).trans (blk_alloc HS0.out _)); have HP8 := Lib.hid h8; clear h8 hw8))
            | (go_at_call 39; go_loud ((with_reducible refine (exact_at (W.heap.size + 1) 100 8 _ l em 0 w8 HEM.out.symm HG8.out.im HB.out (by rw [HL.out]; decide) (by decide) (by decide)).mono ?_); rintro e w9 ⟨rfl, hb9⟩; have p0 : w9.cell? ⟨wr.heap.size, 0, none⟩ = some (.pointer (some ⟨g, 2, none⟩)) := (blk_cell (blk_below HP8.out hb9) 0).trans rfl; have HG9 := Lib.hid (HG8.out.below hb9); have HR9 := Lib.hid (blk_below HR8.out hb9); have HS9 := Lib.hid (blk_below HS8.out hb9); have r0 : w9.cell? ⟨g, 2, none⟩ = some (.int .i64 0) := (blk_cell HR9.out 2).trans rfl; have r1 := blk_frozen HR9.out 2; clear hb9)))
          go_roundw
          case rel => exact ⟨1, by omega, by go_num, blk_put HR9.out 2 (.int .i64 em) rfl, blk_far HS9.out (by show wc.heap.size ≠ g; have := blk_lt HROW.out; omega) _, HG9.out.setCell HGL.out 2 _, ⟨fun _ => by first | trivial | rfl, fun h => absurd h (by decide), fun h => absurd h (by decide)⟩⟩
          case measure => simp [intOf]
        · have hxn : (xm != 0) = true := by simpa using hx
          have HV := Lib.hid (restV_bad (l := l) (by rw [← HEM.out, ← HES.out, ← HET.out]; simp only; omega))
          go_wp2_with (first
            | (refine store_blk rfl 68 (.tmp 8) (.tmp 48) rfl wr.heap.size #[.pointer (some ⟨g, 2, none⟩), .int .i64 100, .int .i64 8] #[.pointer none, .int .i64 0, .int .i64 0] rfl rfl 68 (blk_new wr _) (by kernel_rfl) rfl (ptr3_one _ _ _) ?_; go_loud (intro w8 h8 hw8; have p0 : w8.cell? ⟨wr.heap.size, 0, none⟩ = some (.pointer (some ⟨g, 2, none⟩)) := (blk_cell h8 0).trans rfl; have p1 : w8.cell? ⟨wr.heap.size, 1, none⟩ = some (.int .i64 100) := (blk_cell h8 1).trans rfl; have p2 : w8.cell? ⟨wr.heap.size, 2, none⟩ = some (.int .i64 8) := (blk_cell h8 2).trans rfl; have HG8 := Lib.hid ((HG0.out.alloc _).wrote hw8 HG0.out.lt); have HR8 := Lib.hid ((hw8.block g (by have := blk_lt HR0.out; simp; omega) (by have := blk_lt HR0.out; omega)).trans (blk_alloc HR0.out _)); have HS8 := Lib.hid ((hw8.block wc.heap.size (by have := blk_lt HS0.out; simp; omega) (by have := blk_lt HS0.out; omega)).trans (blk_alloc HS0.out _)); have HP8 := Lib.hid h8; clear h8 hw8))
            | (go_at_call 39; go_loud ((with_reducible refine (exact_at (W.heap.size + 1) 100 8 _ l em xm w8 HEM.out.symm HG8.out.im HB.out (by rw [HL.out]; decide) (by decide) (by decide)).mono ?_); rintro e w9 ⟨rfl, hb9⟩; have p0 : w9.cell? ⟨wr.heap.size, 0, none⟩ = some (.pointer (some ⟨g, 2, none⟩)) := (blk_cell (blk_below HP8.out hb9) 0).trans rfl; have HG9 := Lib.hid (HG8.out.below hb9); have HR9 := Lib.hid (blk_below HR8.out hb9); have HS9 := Lib.hid (blk_below HS8.out hb9); clear hb9))
            | (refine store_blk rfl TH (.tmp 2) (.tmp 63) rfl W.heap.size HZ HZ rfl rfl TH HG9.out.out (by kernel_rfl) rfl (head7_one _ _ _ _ _ _ _) ?_; go_loud (intro w10 h10 hw10; have HB10 := Lib.hid (HG9.out.bel.trans (hw10.below (Nat.le_refl _) HG9.out.bel.size)); have HH10 := Lib.hid h10; clear h10 hw10)))
          (try simp only [Exit.inBlock, Exit.then])
          refine bodyPost_ret (results_row_tmp (P := Try.prog) rfl _ _ W.heap.size TH HZ (0, 0) _ (by rfl) HH10.out Try.underlying24 rfl (by kernel_rfl)) rfl ?_
          exact ⟨by rw [HV.out]; rfl, HB10.out⟩
      · -- round 1
        have q0 : wr.cell? ⟨wc.heap.size, 3, none⟩ = some (.pointer (some ⟨g, 3, none⟩)) := (blk_cell hsl 3).trans rfl
        have q1 : wr.cell? ⟨wc.heap.size, 4, none⟩ = some (.int .i64 124) := (blk_cell hsl 4).trans rfl
        have q2 : wr.cell? ⟨wc.heap.size, 5, none⟩ = some (.int .i64 12) := (blk_cell hsl 5).trans rfl
        have HR0 := Lib.hid hrow
        have HS0 := Lib.hid hsl
        have HG0 := Lib.hid hG
        have HOK := Lib.hid hok
        have hcw := run_cutI (W.heap.size + 1) 124 136 (by decide) (by decide) (by decide)
        clear hrow hsl hG hok
        by_cases hx : xs = 0
        · subst hx
          go_wp2_with (first
            | (refine store_blk rfl 68 (.tmp 8) (.tmp 48) rfl wr.heap.size #[.pointer (some ⟨g, 3, none⟩), .int .i64 124, .int .i64 12] #[.pointer none, .int .i64 0, .int .i64 0] rfl rfl 68 (blk_new wr _) (by kernel_rfl) rfl (ptr3_one _ _ _) ?_; go_loud (intro w8 h8 hw8; have p0 : w8.cell? ⟨wr.heap.size, 0, none⟩ = some (.pointer (some ⟨g, 3, none⟩)) := (blk_cell h8 0).trans rfl; have p1 : w8.cell? ⟨wr.heap.size, 1, none⟩ = some (.int .i64 124) := (blk_cell h8 1).trans rfl; have p2 : w8.cell? ⟨wr.heap.size, 2, none⟩ = some (.int .i64 12) := (blk_cell h8 2).trans rfl; have HG8 := Lib.hid ((HG0.out.alloc _).wrote hw8 HG0.out.lt); have HR8 := Lib.hid ((hw8.block g (by have := blk_lt HR0.out; simp; omega) (by have := blk_lt HR0.out; omega)).trans (blk_alloc HR0.out _)); have HS8 := Lib.hid ((hw8.block wc.heap.size (by have := blk_lt HS0.out; simp; omega) (by have := blk_lt HS0.out; omega)).trans (blk_alloc HS0.out _)); have HP8 := Lib.hid h8; clear h8 hw8))
            | (go_at_call 39; go_loud ((with_reducible refine (exact_at (W.heap.size + 1) 124 12 _ l es 0 w8 HES.out.symm HG8.out.im HB.out (by rw [HL.out]; decide) (by decide) (by decide)).mono ?_); rintro e w9 ⟨rfl, hb9⟩; have p0 : w9.cell? ⟨wr.heap.size, 0, none⟩ = some (.pointer (some ⟨g, 3, none⟩)) := (blk_cell (blk_below HP8.out hb9) 0).trans rfl; have HG9 := Lib.hid (HG8.out.below hb9); have HR9 := Lib.hid (blk_below HR8.out hb9); have HS9 := Lib.hid (blk_below HS8.out hb9); have r0 : w9.cell? ⟨g, 3, none⟩ = some (.int .i64 0) := (blk_cell HR9.out 3).trans rfl; have r1 := blk_frozen HR9.out 3; clear hb9)))
          go_roundw
          case rel => exact ⟨2, by omega, by go_num, blk_put HR9.out 3 (.int .i64 es) rfl, blk_far HS9.out (by show wc.heap.size ≠ g; have := blk_lt HROW.out; omega) _, HG9.out.setCell HGL.out 3 _, ⟨fun _ => HOK.out.1 (by decide), fun _ => by first | trivial | rfl, fun h => absurd h (by decide)⟩⟩
          case measure => simp [intOf]
        · have hxn : (xs != 0) = true := by simpa using hx
          have HV := Lib.hid (restV_bad (l := l) (by rw [← HEM.out, ← HES.out, ← HET.out]; simp only; omega))
          go_wp2_with (first
            | (refine store_blk rfl 68 (.tmp 8) (.tmp 48) rfl wr.heap.size #[.pointer (some ⟨g, 3, none⟩), .int .i64 124, .int .i64 12] #[.pointer none, .int .i64 0, .int .i64 0] rfl rfl 68 (blk_new wr _) (by kernel_rfl) rfl (ptr3_one _ _ _) ?_; go_loud (intro w8 h8 hw8; have p0 : w8.cell? ⟨wr.heap.size, 0, none⟩ = some (.pointer (some ⟨g, 3, none⟩)) := (blk_cell h8 0).trans rfl; have p1 : w8.cell? ⟨wr.heap.size, 1, none⟩ = some (.int .i64 124) := (blk_cell h8 1).trans rfl; have p2 : w8.cell? ⟨wr.heap.size, 2, none⟩ = some (.int .i64 12) := (blk_cell h8 2).trans rfl; have HG8 := Lib.hid ((HG0.out.alloc _).wrote hw8 HG0.out.lt); have HR8 := Lib.hid ((hw8.block g (by have := blk_lt HR0.out; simp; omega) (by have := blk_lt HR0.out; omega)).trans (blk_alloc HR0.out _)); have HS8 := Lib.hid ((hw8.block wc.heap.size (by have := blk_lt HS0.out; simp; omega) (by have := blk_lt HS0.out; omega)).trans (blk_alloc HS0.out _)); have HP8 := Lib.hid h8; clear h8 hw8))
            | (go_at_call 39; go_loud ((with_reducible refine (exact_at (W.heap.size + 1) 124 12 _ l es xs w8 HES.out.symm HG8.out.im HB.out (by rw [HL.out]; decide) (by decide) (by decide)).mono ?_); rintro e w9 ⟨rfl, hb9⟩; have p0 : w9.cell? ⟨wr.heap.size, 0, none⟩ = some (.pointer (some ⟨g, 3, none⟩)) := (blk_cell (blk_below HP8.out hb9) 0).trans rfl; have HG9 := Lib.hid (HG8.out.below hb9); have HR9 := Lib.hid (blk_below HR8.out hb9); have HS9 := Lib.hid (blk_below HS8.out hb9); clear hb9))
            | (refine store_blk rfl TH (.tmp 2) (.tmp 63) rfl W.heap.size HZ HZ rfl rfl TH HG9.out.out (by kernel_rfl) rfl (head7_one _ _ _ _ _ _ _) ?_; go_loud (intro w10 h10 hw10; have HB10 := Lib.hid (HG9.out.bel.trans (hw10.below (Nat.le_refl _) HG9.out.bel.size)); have HH10 := Lib.hid h10; clear h10 hw10)))
          (try simp only [Exit.inBlock, Exit.then])
          refine bodyPost_ret (results_row_tmp (P := Try.prog) rfl _ _ W.heap.size TH HZ (0, 0) _ (by rfl) HH10.out Try.underlying24 rfl (by kernel_rfl)) rfl ?_
          exact ⟨by rw [HV.out]; rfl, HB10.out⟩
      · -- round 2
        have q0 : wr.cell? ⟨wc.heap.size, 6, none⟩ = some (.pointer (some ⟨g, 4, none⟩)) := (blk_cell hsl 6).trans rfl
        have q1 : wr.cell? ⟨wc.heap.size, 7, none⟩ = some (.int .i64 136) := (blk_cell hsl 7).trans rfl
        have q2 : wr.cell? ⟨wc.heap.size, 8, none⟩ = some (.int .i64 12) := (blk_cell hsl 8).trans rfl
        have HR0 := Lib.hid hrow
        have HS0 := Lib.hid hsl
        have HG0 := Lib.hid hG
        have HOK := Lib.hid hok
        have hcw := run_cutI (W.heap.size + 1) 136 148 (by decide) (by decide) (by decide)
        clear hrow hsl hG hok
        by_cases hx : xt = 0
        · subst hx
          go_wp2_with (first
            | (refine store_blk rfl 68 (.tmp 8) (.tmp 48) rfl wr.heap.size #[.pointer (some ⟨g, 4, none⟩), .int .i64 136, .int .i64 12] #[.pointer none, .int .i64 0, .int .i64 0] rfl rfl 68 (blk_new wr _) (by kernel_rfl) rfl (ptr3_one _ _ _) ?_; go_loud (intro w8 h8 hw8; have p0 : w8.cell? ⟨wr.heap.size, 0, none⟩ = some (.pointer (some ⟨g, 4, none⟩)) := (blk_cell h8 0).trans rfl; have p1 : w8.cell? ⟨wr.heap.size, 1, none⟩ = some (.int .i64 136) := (blk_cell h8 1).trans rfl; have p2 : w8.cell? ⟨wr.heap.size, 2, none⟩ = some (.int .i64 12) := (blk_cell h8 2).trans rfl; have HG8 := Lib.hid ((HG0.out.alloc _).wrote hw8 HG0.out.lt); have HR8 := Lib.hid ((hw8.block g (by have := blk_lt HR0.out; simp; omega) (by have := blk_lt HR0.out; omega)).trans (blk_alloc HR0.out _)); have HS8 := Lib.hid ((hw8.block wc.heap.size (by have := blk_lt HS0.out; simp; omega) (by have := blk_lt HS0.out; omega)).trans (blk_alloc HS0.out _)); have HP8 := Lib.hid h8; clear h8 hw8))
            | (go_at_call 39; go_loud ((with_reducible refine (exact_at (W.heap.size + 1) 136 12 _ l et 0 w8 HET.out.symm HG8.out.im HB.out (by rw [HL.out]; decide) (by decide) (by decide)).mono ?_); rintro e w9 ⟨rfl, hb9⟩; have p0 : w9.cell? ⟨wr.heap.size, 0, none⟩ = some (.pointer (some ⟨g, 4, none⟩)) := (blk_cell (blk_below HP8.out hb9) 0).trans rfl; have HG9 := Lib.hid (HG8.out.below hb9); have HR9 := Lib.hid (blk_below HR8.out hb9); have HS9 := Lib.hid (blk_below HS8.out hb9); have r0 : w9.cell? ⟨g, 4, none⟩ = some (.int .i64 0) := (blk_cell HR9.out 4).trans rfl; have r1 := blk_frozen HR9.out 4; clear hb9)))
          go_roundw
          case rel => exact ⟨3, by omega, by go_num, blk_put HR9.out 4 (.int .i64 et) rfl, blk_far HS9.out (by show wc.heap.size ≠ g; have := blk_lt HROW.out; omega) _, HG9.out.setCell HGL.out 4 _, ⟨fun _ => HOK.out.1 (by decide), fun _ => HOK.out.2.1 (by decide), fun _ => by first | trivial | rfl⟩⟩
          case measure => simp [intOf]
        · have hxn : (xt != 0) = true := by simpa using hx
          have HV := Lib.hid (restV_bad (l := l) (by rw [← HEM.out, ← HES.out, ← HET.out]; simp only; omega))
          go_wp2_with (first
            | (refine store_blk rfl 68 (.tmp 8) (.tmp 48) rfl wr.heap.size #[.pointer (some ⟨g, 4, none⟩), .int .i64 136, .int .i64 12] #[.pointer none, .int .i64 0, .int .i64 0] rfl rfl 68 (blk_new wr _) (by kernel_rfl) rfl (ptr3_one _ _ _) ?_; go_loud (intro w8 h8 hw8; have p0 : w8.cell? ⟨wr.heap.size, 0, none⟩ = some (.pointer (some ⟨g, 4, none⟩)) := (blk_cell h8 0).trans rfl; have p1 : w8.cell? ⟨wr.heap.size, 1, none⟩ = some (.int .i64 136) := (blk_cell h8 1).trans rfl; have p2 : w8.cell? ⟨wr.heap.size, 2, none⟩ = some (.int .i64 12) := (blk_cell h8 2).trans rfl; have HG8 := Lib.hid ((HG0.out.alloc _).wrote hw8 HG0.out.lt); have HR8 := Lib.hid ((hw8.block g (by have := blk_lt HR0.out; simp; omega) (by have := blk_lt HR0.out; omega)).trans (blk_alloc HR0.out _)); have HS8 := Lib.hid ((hw8.block wc.heap.size (by have := blk_lt HS0.out; simp; omega) (by have := blk_lt HS0.out; omega)).trans (blk_alloc HS0.out _)); have HP8 := Lib.hid h8; clear h8 hw8))
            | (go_at_call 39; go_loud ((with_reducible refine (exact_at (W.heap.size + 1) 136 12 _ l et xt w8 HET.out.symm HG8.out.im HB.out (by rw [HL.out]; decide) (by decide) (by decide)).mono ?_); rintro e w9 ⟨rfl, hb9⟩; have p0 : w9.cell? ⟨wr.heap.size, 0, none⟩ = some (.pointer (some ⟨g, 4, none⟩)) := (blk_cell (blk_below HP8.out hb9) 0).trans rfl; have HG9 := Lib.hid (HG8.out.below hb9); have HR9 := Lib.hid (blk_below HR8.out hb9); have HS9 := Lib.hid (blk_below HS8.out hb9); clear hb9))
            | (refine store_blk rfl TH (.tmp 2) (.tmp 63) rfl W.heap.size HZ HZ rfl rfl TH HG9.out.out (by kernel_rfl) rfl (head7_one _ _ _ _ _ _ _) ?_; go_loud (intro w10 h10 hw10; have HB10 := Lib.hid (HG9.out.bel.trans (hw10.below (Nat.le_refl _) HG9.out.bel.size)); have HH10 := Lib.hid h10; clear h10 hw10)))
          (try simp only [Exit.inBlock, Exit.then])
          refine bodyPost_ret (results_row_tmp (P := Try.prog) rfl _ _ W.heap.size TH HZ (0, 0) _ (by rfl) HH10.out Try.underlying24 rfl (by kernel_rfl)) rfl ?_
          exact ⟨by rw [HV.out]; rfl, HB10.out⟩
      · -- all read
        obtain rfl := hok.1 (by decide)
        obtain rfl := hok.2.1 (by decide)
        obtain rfl := hok.2.2 (by decide)
        have HR0 := Lib.hid (show wr.heap[g]? = some (.cells #[.string tn, .string tp, .int .i64 em, .int .i64 es, .int .i64 et, .int .u8 ty, .string tk] TH (0, 0)) from hrow)
        have HG0 := Lib.hid hG
        obtain ⟨MY, hMY⟩ : ∃ r, r = mayS tn tp em es et ty tk := ⟨_, rfl⟩
        obtain ⟨LY, hLY⟩ : ∃ r, r = layS tn tp em es et ty tk := ⟨_, rfl⟩
        have HMY := Lib.hid hMY
        have HLY := Lib.hid hLY
        have hB156 := HB.out 156
        have he1 := exactS_range (part l 100 8) (mem_of_bytes (part_bytes HB.out 100 8))
        have he2 := exactS_range (part l 124 12) (mem_of_bytes (part_bytes HB.out 124 12))
        have he3 := exactS_range (part l 136 12) (mem_of_bytes (part_bytes HB.out 136 12))
        rw [← HEM.out] at he1
        rw [← HES.out] at he2
        rw [← HET.out] at he3
        simp only at he1 he2 he3
        have HFIT := Lib.hid (show Fit em es et ty from ⟨by rw [HTY.out]; exact hB156, by omega, by omega, by omega⟩)
        clear hrow hsl hG hok hB156 he1 he2 he3
        by_cases hm0 : MY = 0
        · subst hm0
          have HSZ := Lib.hid (may_sizes hMY.symm)
          by_cases hll : LY = l
          · have hll' := hll.symm
            subst hll'
            have HV := Lib.hid (restV_ok HEM.out.symm HES.out.symm HET.out.symm HTN.out HTP.out HTK.out HTY.out hMY.symm hLY.symm)
            clear hMY hLY
            go_wp2
            refine start_ (n := 9) (S := fun w' => w'.cell? ⟨g, 0, none⟩ = some (.string tn) ∧ w'.cell? ⟨g, 1, none⟩ = some (.string tp) ∧ w'.cell? ⟨g, 2, none⟩ = some (.int .i64 em) ∧ w'.cell? ⟨g, 3, none⟩ = some (.int .i64 es) ∧ w'.cell? ⟨g, 4, none⟩ = some (.int .i64 et) ∧ w'.cell? ⟨g, 5, none⟩ = some (.int .u8 ty) ∧ w'.cell? ⟨g, 6, none⟩ = some (.string tk) ∧ (loadVar TI ⟨W.heap.size + 1, 0, none⟩).run Try.prog w' = .ok (.agg (nums .u8 l).toArray) w') (ds := []) #[false, false, false, false, false, false, false, false, false] (by kernel_rfl) rfl rfl ⟨(blk_cell (w := wr.drew) HR0.out 0).trans rfl, (blk_cell (w := wr.drew) HR0.out 1).trans rfl, (blk_cell (w := wr.drew) HR0.out 2).trans rfl, (blk_cell (w := wr.drew) HR0.out 3).trans rfl, (blk_cell (w := wr.drew) HR0.out 4).trans rfl, (blk_cell (w := wr.drew) HR0.out 5).trans rfl, (blk_cell (w := wr.drew) HR0.out 6).trans rfl, load_img HG0.out.drew.im HL.out⟩ (fun hHeld => ?_)
            refine take_ (i := 0) (N := some 69) (v := ?_) (a' := ?_) #[true, false, false, false, false, false, false, false, false] rfl rfl (by kernel_rfl) (fun _ _ _ h => h) (Or.inl ⟨by rfl, ?_⟩) hHeld ?_ ?_
            rotate_left
            · rintro w' ⟨s0, s1, s2, s3, s4, s5, s6, s7⟩
              go_simp
              (first | (with_reducible rfl) | ((try simp only [*]); (with_reducible rfl)))
            rotate_left
            · simp only [Act.put, List.setIfInBounds_toArray, List.set_cons_zero, List.set_cons_succ, i64_w, i32_w]
              rfl
            refine one_ (i := 1) (N := some 70) #[true, true, false, false, false, false, false, false, false] rfl rfl (by kernel_rfl) (by decide) (fun K hK => ?_)
            refine goes_ Try.func34 (by kernel_rfl) rfl #[.agg #[.string tn, .string tp, .int .i64 em, .int .i64 es, .int .i64 et, .int .u8 ty, .string tk]] (by rfl) rfl rfl (by simp only [List.map_toArray, List.map_cons, List.map_nil]; rfl) ?_
            with_reducible refine (may_at tn tp em es et ty tk 0 _ HMY.out).mono ?_
            rintro e w20 ⟨rfl, hb20⟩
            refine ⟨_, rfl, ?_⟩
            have HG20 := Lib.hid (HG0.out.drew.below hb20)
            have HR20 := Lib.hid (blk_below (w := wr.drew) HR0.out hb20)
            clear hb20
            refine hK.out _ _ ⟨(blk_cell HR20.out 0).trans rfl, (blk_cell HR20.out 1).trans rfl, (blk_cell HR20.out 2).trans rfl, (blk_cell HR20.out 3).trans rfl, (blk_cell HR20.out 4).trans rfl, (blk_cell HR20.out 5).trans rfl, (blk_cell HR20.out 6).trans rfl, load_img HG20.out.im HL.out⟩ (fun hHeld => ?_)
            clear hK K
            refine norm_ (a' := ?_) ?_ ?_
            rotate_left
            · show Act.put _ (some 70) _ = _
              simp only [Act.put, List.setIfInBounds_toArray, List.set_cons_zero, List.set_cons_succ, i64_w, i32_w]
              rfl
            refine pure_ (i := 2) (N := some 71) (v := ?_) (a' := ?_) #[true, true, true, false, false, false, false, false, false] rfl rfl (by kernel_rfl) (fun _ _ _ h => h) (Or.inl ⟨by rfl, ?_⟩) ?_ ?_
            rotate_left
            · intro w'
              go_simp
              (first | (with_reducible rfl) | ((try simp only [*]); (with_reducible rfl)))
            rotate_left
            · simp only [Act.put, List.setIfInBounds_toArray, List.set_cons_zero, List.set_cons_succ, i64_w, i32_w]
              rfl
            refine pure_ (i := 3) (N := some 72) (v := ?_) (a' := ?_) #[true, true, true, true, false, false, false, false, false] rfl rfl (by kernel_rfl) (fun _ _ _ h => h) (Or.inl ⟨by rfl, ?_⟩) ?_ ?_
            rotate_left
            · intro w'
              go_simp
              (first | (with_reducible rfl) | ((try simp only [*]); (with_reducible rfl)))
            rotate_left
            · simp only [Act.put, List.setIfInBounds_toArray, List.set_cons_zero, List.set_cons_succ, i64_w, i32_w]
              rfl
            refine take_ (i := 4) (N := some 73) (v := ?_) (a' := ?_) #[true, true, true, true, true, false, false, false, false] rfl rfl (by kernel_rfl) (fun _ _ _ h => h) (Or.inl ⟨by rfl, ?_⟩) hHeld ?_ ?_
            rotate_left
            · rintro w' ⟨s0, s1, s2, s3, s4, s5, s6, s7⟩
              go_simp
              (first | (with_reducible rfl) | ((try simp only [*]); (with_reducible rfl)))
            rotate_left
            · simp only [Act.put, List.setIfInBounds_toArray, List.set_cons_zero, List.set_cons_succ, i64_w, i32_w]
              rfl
            refine take_ (i := 6) (N := some 75) (v := ?_) (a' := ?_) #[true, true, true, true, true, false, true, false, false] rfl rfl (by kernel_rfl) (fun _ _ _ h => h) (Or.inl ⟨by rfl, ?_⟩) hHeld ?_ ?_
            rotate_left
            · rintro w' ⟨s0, s1, s2, s3, s4, s5, s6, s7⟩
              refine (exec_load (ty := TI) (g := ⟨W.heap.size + 1, 0, none⟩) rfl rfl s7).trans ?_; with_reducible rfl
            rotate_left
            · simp only [Act.put, List.setIfInBounds_toArray, List.set_cons_zero, List.set_cons_succ, i64_w, i32_w]
              rfl
            refine one_ (i := 5) (N := some 74) #[true, true, true, true, true, true, true, false, false] rfl rfl (by kernel_rfl) (by decide) (fun K hK => ?_)
            refine goes_ Try.func35 (by kernel_rfl) rfl #[.agg #[.string tn, .string tp, .int .i64 em, .int .i64 es, .int .i64 et, .int .u8 ty, .string tk]] (by rfl) rfl rfl (by simp only [List.map_toArray, List.map_cons, List.map_nil]; rfl) ?_
            with_reducible refine (lay_at tn tp em es et ty tk l _ HLY.out HSZ.out HFIT.out).mono ?_
            rintro e w21 ⟨rfl, hb21⟩
            refine ⟨_, rfl, ?_⟩
            have HG21 := Lib.hid (HG20.out.below hb21)
            have HR21 := Lib.hid (blk_below HR20.out hb21)
            clear hb21
            refine hK.out _ _ ⟨(blk_cell HR21.out 0).trans rfl, (blk_cell HR21.out 1).trans rfl, (blk_cell HR21.out 2).trans rfl, (blk_cell HR21.out 3).trans rfl, (blk_cell HR21.out 4).trans rfl, (blk_cell HR21.out 5).trans rfl, (blk_cell HR21.out 6).trans rfl, load_img HG21.out.im HL.out⟩ (fun hHeld => ?_)
            clear hK K
            refine norm_ (a' := ?_) ?_ ?_
            rotate_left
            · show Act.put _ (some 74) _ = _
              simp only [Act.put, List.setIfInBounds_toArray, List.set_cons_zero, List.set_cons_succ, i64_w, i32_w]
              rfl
            refine pure_ (i := 7) (N := some 76) (v := ?_) (a' := ?_) #[true, true, true, true, true, true, true, true, false] rfl rfl (by kernel_rfl) (fun _ _ _ h => h) (Or.inl ⟨by rfl, ?_⟩) ?_ ?_
            rotate_left
            · intro w'
              go_simp
              (first | (with_reducible rfl) | ((try simp only [*]); (with_reducible rfl)))
            rotate_left
            · simp only [Act.put, List.setIfInBounds_toArray, List.set_cons_zero, List.set_cons_succ, i64_w, i32_w]
              rfl
            refine pure_ (i := 8) (N := some 77) (v := ?_) (a' := ?_) #[true, true, true, true, true, true, true, true, true] rfl rfl (by kernel_rfl) (fun _ _ _ h => h) (Or.inl ⟨by rfl, ?_⟩) ?_ ?_
            rotate_left
            · intro w'
              go_simp
              (first | (with_reducible rfl) | ((try simp only [*]); (with_reducible rfl)))
            rotate_left
            · simp only [Act.put, List.setIfInBounds_toArray, List.set_cons_zero, List.set_cons_succ, i64_w, i32_w]
              rfl
            refine done_ (by kernel_rfl) ?_
            go_wp2_with (first
              | ((with_reducible refine gate_dst (N := 79) rfl ?_); refine wpList_load_row rfl TH (.tmp 6) rfl g rfl TH _ (0, 0) _ HR21.out Try.underlying24 rfl (by kernel_rfl) ?_)
              | (refine store_blk rfl TH (.tmp 2) (.tmp 79) rfl W.heap.size _ HZ rfl rfl TH HG21.out.out (by kernel_rfl) rfl (head7_one _ _ _ _ _ _ _) ?_; go_loud (intro w10 h10 hw10; have HB10 := Lib.hid (HG21.out.bel.trans (hw10.below (Nat.le_refl _) HG21.out.bel.size)); have HH10 := Lib.hid h10; clear h10 hw10)))
            (try simp only [Exit.inBlock, Exit.then])
            refine bodyPost_ret (results_row_tmp (P := Try.prog) rfl _ _ W.heap.size TH _ (0, 0) _ (by rfl) HH10.out Try.underlying24 rfl (by kernel_rfl)) rfl ?_
            exact ⟨by rw [HV.out]; rfl, HB10.out⟩
          · have HV := Lib.hid (restV_no HEM.out.symm HES.out.symm HET.out.symm HTN.out HTP.out HTK.out HTY.out (fun h => hll (hLY.trans h.2)))
            have hLl : LY.length = 512 := by rw [hLY]; exact (seal_ok (body_ok tn tp em es et ty tk HFIT.out.1)).1
            have hqn : ∀ w, (binOp .neq TI (.agg (nums .u8 LY).toArray) (.agg (nums .u8 l).toArray)).run Try.prog w = .ok (.bool true) w := fun w => by rw [run_neqI w LY l hLl HL.out, show (LY != l) = true by simpa using hll]
            clear hMY hLY hLl hll
            go_wp2
            refine start_ (n := 9) (S := fun w' => w'.cell? ⟨g, 0, none⟩ = some (.string tn) ∧ w'.cell? ⟨g, 1, none⟩ = some (.string tp) ∧ w'.cell? ⟨g, 2, none⟩ = some (.int .i64 em) ∧ w'.cell? ⟨g, 3, none⟩ = some (.int .i64 es) ∧ w'.cell? ⟨g, 4, none⟩ = some (.int .i64 et) ∧ w'.cell? ⟨g, 5, none⟩ = some (.int .u8 ty) ∧ w'.cell? ⟨g, 6, none⟩ = some (.string tk) ∧ (loadVar TI ⟨W.heap.size + 1, 0, none⟩).run Try.prog w' = .ok (.agg (nums .u8 l).toArray) w') (ds := []) #[false, false, false, false, false, false, false, false, false] (by kernel_rfl) rfl rfl ⟨(blk_cell (w := wr.drew) HR0.out 0).trans rfl, (blk_cell (w := wr.drew) HR0.out 1).trans rfl, (blk_cell (w := wr.drew) HR0.out 2).trans rfl, (blk_cell (w := wr.drew) HR0.out 3).trans rfl, (blk_cell (w := wr.drew) HR0.out 4).trans rfl, (blk_cell (w := wr.drew) HR0.out 5).trans rfl, (blk_cell (w := wr.drew) HR0.out 6).trans rfl, load_img HG0.out.drew.im HL.out⟩ (fun hHeld => ?_)
            refine take_ (i := 0) (N := some 69) (v := ?_) (a' := ?_) #[true, false, false, false, false, false, false, false, false] rfl rfl (by kernel_rfl) (fun _ _ _ h => h) (Or.inl ⟨by rfl, ?_⟩) hHeld ?_ ?_
            rotate_left
            · rintro w' ⟨s0, s1, s2, s3, s4, s5, s6, s7⟩
              go_simp
              (first | (with_reducible rfl) | ((try simp only [*]); (with_reducible rfl)))
            rotate_left
            · simp only [Act.put, List.setIfInBounds_toArray, List.set_cons_zero, List.set_cons_succ, i64_w, i32_w]
              rfl
            refine one_ (i := 1) (N := some 70) #[true, true, false, false, false, false, false, false, false] rfl rfl (by kernel_rfl) (by decide) (fun K hK => ?_)
            refine goes_ Try.func34 (by kernel_rfl) rfl #[.agg #[.string tn, .string tp, .int .i64 em, .int .i64 es, .int .i64 et, .int .u8 ty, .string tk]] (by rfl) rfl rfl (by simp only [List.map_toArray, List.map_cons, List.map_nil]; rfl) ?_
            with_reducible refine (may_at tn tp em es et ty tk 0 _ HMY.out).mono ?_
            rintro e w20 ⟨rfl, hb20⟩
            refine ⟨_, rfl, ?_⟩
            have HG20 := Lib.hid (HG0.out.drew.below hb20)
            have HR20 := Lib.hid (blk_below (w := wr.drew) HR0.out hb20)
            clear hb20
            refine hK.out _ _ ⟨(blk_cell HR20.out 0).trans rfl, (blk_cell HR20.out 1).trans rfl, (blk_cell HR20.out 2).trans rfl, (blk_cell HR20.out 3).trans rfl, (blk_cell HR20.out 4).trans rfl, (blk_cell HR20.out 5).trans rfl, (blk_cell HR20.out 6).trans rfl, load_img HG20.out.im HL.out⟩ (fun hHeld => ?_)
            clear hK K
            refine norm_ (a' := ?_) ?_ ?_
            rotate_left
            · show Act.put _ (some 70) _ = _
              simp only [Act.put, List.setIfInBounds_toArray, List.set_cons_zero, List.set_cons_succ, i64_w, i32_w]
              rfl
            refine pure_ (i := 2) (N := some 71) (v := ?_) (a' := ?_) #[true, true, true, false, false, false, false, false, false] rfl rfl (by kernel_rfl) (fun _ _ _ h => h) (Or.inl ⟨by rfl, ?_⟩) ?_ ?_
            rotate_left
            · intro w'
              go_simp
              (first | (with_reducible rfl) | ((try simp only [*]); (with_reducible rfl)))
            rotate_left
            · simp only [Act.put, List.setIfInBounds_toArray, List.set_cons_zero, List.set_cons_succ, i64_w, i32_w]
              rfl
            refine pure_ (i := 3) (N := some 72) (v := ?_) (a' := ?_) #[true, true, true, true, false, false, false, false, false] rfl rfl (by kernel_rfl) (fun _ _ _ h => h) (Or.inl ⟨by rfl, ?_⟩) ?_ ?_
            rotate_left
            · intro w'
              go_simp
              (first | (with_reducible rfl) | ((try simp only [*]); (with_reducible rfl)))
            rotate_left
            · simp only [Act.put, List.setIfInBounds_toArray, List.set_cons_zero, List.set_cons_succ, i64_w, i32_w]
              rfl
            refine take_ (i := 4) (N := some 73) (v := ?_) (a' := ?_) #[true, true, true, true, true, false, false, false, false] rfl rfl (by kernel_rfl) (fun _ _ _ h => h) (Or.inl ⟨by rfl, ?_⟩) hHeld ?_ ?_
            rotate_left
            · rintro w' ⟨s0, s1, s2, s3, s4, s5, s6, s7⟩
              go_simp
              (first | (with_reducible rfl) | ((try simp only [*]); (with_reducible rfl)))
            rotate_left
            · simp only [Act.put, List.setIfInBounds_toArray, List.set_cons_zero, List.set_cons_succ, i64_w, i32_w]
              rfl
            refine take_ (i := 6) (N := some 75) (v := ?_) (a' := ?_) #[true, true, true, true, true, false, true, false, false] rfl rfl (by kernel_rfl) (fun _ _ _ h => h) (Or.inl ⟨by rfl, ?_⟩) hHeld ?_ ?_
            rotate_left
            · rintro w' ⟨s0, s1, s2, s3, s4, s5, s6, s7⟩
              refine (exec_load (ty := TI) (g := ⟨W.heap.size + 1, 0, none⟩) rfl rfl s7).trans ?_; with_reducible rfl
            rotate_left
            · simp only [Act.put, List.setIfInBounds_toArray, List.set_cons_zero, List.set_cons_succ, i64_w, i32_w]
              rfl
            refine one_ (i := 5) (N := some 74) #[true, true, true, true, true, true, true, false, false] rfl rfl (by kernel_rfl) (by decide) (fun K hK => ?_)
            refine goes_ Try.func35 (by kernel_rfl) rfl #[.agg #[.string tn, .string tp, .int .i64 em, .int .i64 es, .int .i64 et, .int .u8 ty, .string tk]] (by rfl) rfl rfl (by simp only [List.map_toArray, List.map_cons, List.map_nil]; rfl) ?_
            with_reducible refine (lay_at tn tp em es et ty tk LY _ HLY.out HSZ.out HFIT.out).mono ?_
            rintro e w21 ⟨rfl, hb21⟩
            refine ⟨_, rfl, ?_⟩
            have HG21 := Lib.hid (HG20.out.below hb21)
            have HR21 := Lib.hid (blk_below HR20.out hb21)
            clear hb21
            refine hK.out _ _ ⟨(blk_cell HR21.out 0).trans rfl, (blk_cell HR21.out 1).trans rfl, (blk_cell HR21.out 2).trans rfl, (blk_cell HR21.out 3).trans rfl, (blk_cell HR21.out 4).trans rfl, (blk_cell HR21.out 5).trans rfl, (blk_cell HR21.out 6).trans rfl, load_img HG21.out.im HL.out⟩ (fun hHeld => ?_)
            clear hK K
            refine norm_ (a' := ?_) ?_ ?_
            rotate_left
            · show Act.put _ (some 74) _ = _
              simp only [Act.put, List.setIfInBounds_toArray, List.set_cons_zero, List.set_cons_succ, i64_w, i32_w]
              rfl
            refine pure_ (i := 7) (N := some 76) (v := ?_) (a' := ?_) #[true, true, true, true, true, true, true, true, false] rfl rfl (by kernel_rfl) (fun _ _ _ h => h) (Or.inl ⟨by rfl, ?_⟩) ?_ ?_
            rotate_left
            · intro w'
              go_simp
              (first | (with_reducible rfl) | ((try simp only [*]); (with_reducible rfl)))
            rotate_left
            · simp only [Act.put, List.setIfInBounds_toArray, List.set_cons_zero, List.set_cons_succ, i64_w, i32_w]
              rfl
            refine pure_ (i := 8) (N := some 77) (v := ?_) (a' := ?_) #[true, true, true, true, true, true, true, true, true] rfl rfl (by kernel_rfl) (fun _ _ _ h => h) (Or.inl ⟨by rfl, ?_⟩) ?_ ?_
            rotate_left
            · intro w'
              go_simp
              (first | (with_reducible rfl) | ((try simp only [*]); (with_reducible rfl)))
            rotate_left
            · simp only [Act.put, List.setIfInBounds_toArray, List.set_cons_zero, List.set_cons_succ, i64_w, i32_w]
              rfl
            refine done_ (by kernel_rfl) ?_
            go_wp2_with (refine store_blk rfl TH (.tmp 2) (.tmp 78) rfl W.heap.size HZ HZ rfl rfl TH HG21.out.out (by kernel_rfl) rfl (head7_one _ _ _ _ _ _ _) ?_; go_loud (intro w10 h10 hw10; have HB10 := Lib.hid (HG21.out.bel.trans (hw10.below (Nat.le_refl _) HG21.out.bel.size)); have HH10 := Lib.hid h10; clear h10 hw10))
            (try simp only [Exit.inBlock, Exit.then])
            refine bodyPost_ret (results_row_tmp (P := Try.prog) rfl _ _ W.heap.size TH HZ (0, 0) _ (by rfl) HH10.out Try.underlying24 rfl (by kernel_rfl)) rfl ?_
            exact ⟨by rw [HV.out]; rfl, HB10.out⟩
        · have hmn : (MY != 0) = true := by simpa using hm0
          have HV := Lib.hid (restV_no HEM.out.symm HES.out.symm HET.out.symm HTN.out HTP.out HTK.out HTY.out (fun h => hm0 (hMY.trans h.1)))
          clear hMY hLY hm0
          go_wp2
          refine start_ (n := 9) (S := fun w' => w'.cell? ⟨g, 0, none⟩ = some (.string tn) ∧ w'.cell? ⟨g, 1, none⟩ = some (.string tp) ∧ w'.cell? ⟨g, 2, none⟩ = some (.int .i64 em) ∧ w'.cell? ⟨g, 3, none⟩ = some (.int .i64 es) ∧ w'.cell? ⟨g, 4, none⟩ = some (.int .i64 et) ∧ w'.cell? ⟨g, 5, none⟩ = some (.int .u8 ty) ∧ w'.cell? ⟨g, 6, none⟩ = some (.string tk) ∧ (loadVar TI ⟨W.heap.size + 1, 0, none⟩).run Try.prog w' = .ok (.agg (nums .u8 l).toArray) w') (ds := []) #[false, false, false, false, false, false, false, false, false] (by kernel_rfl) rfl rfl ⟨(blk_cell (w := wr.drew) HR0.out 0).trans rfl, (blk_cell (w := wr.drew) HR0.out 1).trans rfl, (blk_cell (w := wr.drew) HR0.out 2).trans rfl, (blk_cell (w := wr.drew) HR0.out 3).trans rfl, (blk_cell (w := wr.drew) HR0.out 4).trans rfl, (blk_cell (w := wr.drew) HR0.out 5).trans rfl, (blk_cell (w := wr.drew) HR0.out 6).trans rfl, load_img HG0.out.drew.im HL.out⟩ (fun hHeld => ?_)
          refine take_ (i := 0) (N := some 69) (v := ?_) (a' := ?_) #[true, false, false, false, false, false, false, false, false] rfl rfl (by kernel_rfl) (fun _ _ _ h => h) (Or.inl ⟨by rfl, ?_⟩) hHeld ?_ ?_
          rotate_left
          · rintro w' ⟨s0, s1, s2, s3, s4, s5, s6, s7⟩
            go_simp
            (first | (with_reducible rfl) | ((try simp only [*]); (with_reducible rfl)))
          rotate_left
          · simp only [Act.put, List.setIfInBounds_toArray, List.set_cons_zero, List.set_cons_succ, i64_w, i32_w]
            rfl
          refine one_ (i := 1) (N := some 70) #[true, true, false, false, false, false, false, false, false] rfl rfl (by kernel_rfl) (by decide) (fun K hK => ?_)
          refine goes_ Try.func34 (by kernel_rfl) rfl #[.agg #[.string tn, .string tp, .int .i64 em, .int .i64 es, .int .i64 et, .int .u8 ty, .string tk]] (by rfl) rfl rfl (by simp only [List.map_toArray, List.map_cons, List.map_nil]; rfl) ?_
          with_reducible refine (may_at tn tp em es et ty tk MY _ HMY.out).mono ?_
          rintro e w20 ⟨rfl, hb20⟩
          refine ⟨_, rfl, ?_⟩
          have HG20 := Lib.hid (HG0.out.drew.below hb20)
          have HR20 := Lib.hid (blk_below (w := wr.drew) HR0.out hb20)
          clear hb20
          refine hK.out _ _ ⟨(blk_cell HR20.out 0).trans rfl, (blk_cell HR20.out 1).trans rfl, (blk_cell HR20.out 2).trans rfl, (blk_cell HR20.out 3).trans rfl, (blk_cell HR20.out 4).trans rfl, (blk_cell HR20.out 5).trans rfl, (blk_cell HR20.out 6).trans rfl, load_img HG20.out.im HL.out⟩ (fun hHeld => ?_)
          clear hK K
          refine norm_ (a' := ?_) ?_ ?_
          rotate_left
          · show Act.put _ (some 70) _ = _
            simp only [Act.put, List.setIfInBounds_toArray, List.set_cons_zero, List.set_cons_succ, i64_w, i32_w]
            rfl
          refine pure_ (i := 2) (N := some 71) (v := ?_) (a' := ?_) #[true, true, true, false, false, false, false, false, false] rfl rfl (by kernel_rfl) (fun _ _ _ h => h) (Or.inl ⟨by rfl, ?_⟩) ?_ ?_
          rotate_left
          · intro w'
            go_simp
            (first | (with_reducible rfl) | ((try simp only [*]); (with_reducible rfl)))
          rotate_left
          · simp only [Act.put, List.setIfInBounds_toArray, List.set_cons_zero, List.set_cons_succ, i64_w, i32_w]
            rfl
          refine pure_ (i := 3) (N := some 72) (v := ?_) (a' := ?_) #[true, true, true, true, false, false, false, false, false] rfl rfl (by kernel_rfl) (fun _ _ _ h => h) (Or.inl ⟨by rfl, ?_⟩) ?_ ?_
          rotate_left
          · intro w'
            go_simp
            (first | (with_reducible rfl) | ((try simp only [*]); (with_reducible rfl)))
          rotate_left
          · simp only [Act.put, List.setIfInBounds_toArray, List.set_cons_zero, List.set_cons_succ, i64_w, i32_w]
            rfl
          refine pure_ (i := 4) (N := some 73) (v := undef) (a' := ?_) #[true, true, true, true, true, false, false, false, false] rfl rfl (by kernel_rfl) (fun _ _ _ h => h) (Or.inr ⟨by rfl, rfl⟩) ?_ ?_
          rotate_left
          · simp only [Act.put, List.setIfInBounds_toArray, List.set_cons_zero, List.set_cons_succ, i64_w, i32_w]
            rfl
          refine pure_ (i := 5) (N := some 74) (v := undef) (a' := ?_) #[true, true, true, true, true, true, false, false, false] rfl rfl (by kernel_rfl) (fun _ _ _ h => h) (Or.inr ⟨by rfl, rfl⟩) ?_ ?_
          rotate_left
          · simp only [Act.put, List.setIfInBounds_toArray, List.set_cons_zero, List.set_cons_succ, i64_w, i32_w]
            rfl
          refine pure_ (i := 6) (N := some 75) (v := undef) (a' := ?_) #[true, true, true, true, true, true, true, false, false] rfl rfl (by kernel_rfl) (fun _ _ _ h => h) (Or.inr ⟨by rfl, rfl⟩) ?_ ?_
          rotate_left
          · simp only [Act.put, List.setIfInBounds_toArray, List.set_cons_zero, List.set_cons_succ, i64_w, i32_w]
            rfl
          refine pure_ (i := 7) (N := some 76) (v := undef) (a' := ?_) #[true, true, true, true, true, true, true, true, false] rfl rfl (by kernel_rfl) (fun _ _ _ h => h) (Or.inr ⟨by rfl, rfl⟩) ?_ ?_
          rotate_left
          · simp only [Act.put, List.setIfInBounds_toArray, List.set_cons_zero, List.set_cons_succ, i64_w, i32_w]
            rfl
          refine pure_ (i := 8) (N := some 77) (v := ?_) (a' := ?_) #[true, true, true, true, true, true, true, true, true] rfl rfl (by kernel_rfl) (fun _ _ _ h => h) (Or.inl ⟨by rfl, ?_⟩) ?_ ?_
          rotate_left
          · intro w'
            go_simp
            (first | (with_reducible rfl) | ((try simp only [*]); (with_reducible rfl)))
          rotate_left
          · simp only [Act.put, List.setIfInBounds_toArray, List.set_cons_zero, List.set_cons_succ, i64_w, i32_w]
            rfl
          refine done_ (by kernel_rfl) ?_
          go_wp2_with (refine store_blk rfl TH (.tmp 2) (.tmp 78) rfl W.heap.size HZ HZ rfl rfl TH HG20.out.out (by kernel_rfl) rfl (head7_one _ _ _ _ _ _ _) ?_; go_loud (intro w10 h10 hw10; have HB10 := Lib.hid (HG20.out.bel.trans (hw10.below (Nat.le_refl _) HG20.out.bel.size)); have HH10 := Lib.hid h10; clear h10 hw10))
          (try simp only [Exit.inBlock, Exit.then])
          refine bodyPost_ret (results_row_tmp (P := Try.prog) rfl _ _ W.heap.size TH HZ (0, 0) _ (by rfl) HH10.out Try.underlying24 rfl (by kernel_rfl)) rfl ?_
          exact ⟨by rw [HV.out]; rfl, HB10.out⟩

set_option maxRecDepth 100000 in
set_option maxHeartbeats 4000000 in
theorem short (A0 : Option Addr) (c0 : Nat) (l : List Int) (W : World) (hl : l.length ≠ 512) :
    Calls Try.prog 25 #[.slice A0 l.length c0] W fun e w' => e = .returned (.tuple #[.agg HZ, .int .i64 1]) ∧ Below W.heap.size W w' := by
  have hne : ((l.length : Int) != 512) = true := by simp; omega
  clear hl
  have hu24 := Try.underlying24
  go_enter Try.func25, Try.ntmps25
  go_wp2_with (refine store_blk rfl TH (.tmp 2) (.tmp 14) rfl W.heap.size HZ HZ rfl rfl TH (blk_new W _) (by kernel_rfl) rfl (head7_one _ _ _ _ _ _ _) ?_; go_loud (intro w10 h10 hw10; have HB10 := Lib.hid (((Below.refl W.heap.size W).alloc (Nat.le_refl _) _).trans (hw10.below (Nat.le_refl _) (by simp))); have HH10 := Lib.hid h10; clear h10 hw10))
  (try simp only [Exit.inBlock, Exit.then])
  refine bodyPost_ret (results_row_tmp (P := Try.prog) rfl _ _ W.heap.size TH HZ (0, 0) _ (by rfl) HH10.out Try.underlying24 rfl (by kernel_rfl)) rfl ?_
  exact ⟨rfl, HB10.out⟩
set_option maxRecDepth 100000 in
set_option maxHeartbeats 4000000 in
theorem unmagic (A0 : Option Addr) (c0 : Nat) (l : List Int) (W : World) (h : Kd.C (Kd.int .u8) W A0 l.length l) (hc : l.length ≤ c0) (hl : l.length = 512) (hB : Bytes l) (hM : part l 257 8 ≠ MAGIC) :
    Calls Try.prog 25 #[.slice A0 l.length c0] W fun e w' => e = .returned (.tuple #[.agg HZ, .int .i64 100]) ∧ Below W.heap.size W w' := by
  have HRC := Lib.hid (RC.of_C h)
  have hz := zI
  have hu24 := Try.underlying24
  obtain ⟨a, rfl, hld⟩ := load_alloc HRC.out hl
  have HL := Lib.hid hl
  have hne' : ((512 : Int) != 512) = false := rfl
  rw [hl]
  have HLD := Lib.hid hld
  have harr := run_arrI (some a) c0
  obtain ⟨M, hMs⟩ : ∃ M, M = strOfNums (part l 257 8) := ⟨_, rfl⟩
  have hMn : M.toList ≠ ([117, 115, 116, 97, 114, 0, 48, 48] : List UInt8) := by
    have e : (strOfNums MAGIC).toList = ([117, 115, 116, 97, 114, 0, 48, 48] : List UInt8) := by decide +kernel
    have hbm : AreBytes MAGIC := by unfold AreBytes; decide
    rw [hMs, ← e]
    intro h'
    exact hM ((strOfNums_inj _ _ (mem_of_bytes (part_bytes hB 257 8)) hbm).1 h')
  have hMb : (M.toList != ([117, 115, 116, 97, 114, 0, 48, 48] : List UInt8)) = true := bne_iff_ne.mpr hMn
  have hMe : (M.toList == ([117, 115, 116, 97, 114, 0, 48, 48] : List UInt8)) = false := beq_eq_false_iff_ne.mpr hMn
  have HMS := Lib.hid hMs.symm
  have hcu0 := run_cutI (W.heap.size + 1) 257 265 (by decide) (by decide) (by decide)
  clear h hc hld hM hMs hB
  clear hl
  go_enter Try.func25, Try.ntmps25
  go_wp2_with (first
    | ((with_reducible refine gate_dst (N := 17) rfl ?_); refine wpList_load_run rfl TI (.tmp 16) rfl a _ rfl (HLD.out _) ?_)
    | (refine store_img rfl (.tmp 4) (.tmp 17) rfl (W.heap.size + 1) l Z512 rfl rfl (img_new (W.alloc (.cells HZ TH)) _ (by simp)) HL.out z_ok.1 ?_; go_loud (intro w4 hi4 hw4; have HG4 := Lib.hid (G.start hi4 hw4); have hcv := conv_at (W.heap.size + 1) 257 8 (512 - 257) l w4 hi4 (by rw [HL.out]; decide) (by decide); rw [HMS.out] at hcv; clear hi4 hw4))
    | (refine store_blk rfl TH (.tmp 2) (.tmp 21) rfl W.heap.size HZ HZ rfl rfl TH HG4.out.out (by kernel_rfl) rfl (head7_one _ _ _ _ _ _ _) ?_; go_loud (intro w10 h10 hw10; have HB10 := Lib.hid (HG4.out.bel.trans (hw10.below (Nat.le_refl _) HG4.out.bel.size)); have HH10 := Lib.hid h10; clear h10 hw10)))
  (try simp only [Exit.inBlock, Exit.then])
  refine bodyPost_ret (results_row_tmp (P := Try.prog) rfl _ _ W.heap.size TH HZ (0, 0) _ (by rfl) HH10.out Try.underlying24 rfl (by kernel_rfl)) rfl ?_
  exact ⟨rfl, HB10.out⟩
set_option maxRecDepth 100000 in
set_option maxHeartbeats 4000000 in
theorem unsealed (A0 : Option Addr) (c0 : Nat) (l : List Int) (W : World) (h : Kd.C (Kd.int .u8) W A0 l.length l) (hc : l.length ≤ c0) (hl : l.length = 512) (hB : Bytes l) (hM : part l 257 8 = MAGIC) (hS : sealS l ≠ l) :
    Calls Try.prog 25 #[.slice A0 l.length c0] W fun e w' => e = .returned (.tuple #[.agg HZ, .int .i64 101]) ∧ Below W.heap.size W w' := by
  have HRC := Lib.hid (RC.of_C h)
  have hz := zI
  have hu24 := Try.underlying24
  obtain ⟨a, rfl, hld⟩ := load_alloc HRC.out hl
  have HL := Lib.hid hl
  have HB := Lib.hid hB
  have hne' : ((512 : Int) != 512) = false := rfl
  obtain ⟨SE, hSE⟩ : ∃ SE, SE = sealS l := ⟨_, rfl⟩
  have hSL : SE.length = 512 := by rw [hSE]; exact (seal_ok ⟨hl, hB⟩).1
  have hqq : ∀ w, (binOp .neq TI (.agg (nums .u8 SE).toArray) (.agg (nums .u8 l).toArray)).run Try.prog w = .ok (.bool true) w := fun w => by rw [run_neqI w SE l hSL hl, show (SE != l) = true by rw [hSE]; simpa using hS]
  rw [hl]
  have HLD := Lib.hid hld
  have harr := run_arrI (some a) c0
  have hMs : strOfNums (part l 257 8) = ⟨#[117, 115, 116, 97, 114, 0, 48, 48]⟩ := by rw [hM]; decide
  have HMS := Lib.hid hMs
  have HSL := Lib.hid hSE
  have HSN := Lib.hid hSL
  have hcu0 := run_cutI (W.heap.size + 1) 257 265 (by decide) (by decide) (by decide)
  clear h hc hld hM hMs hS hB hSE hSL
  clear hl
  go_enter Try.func25, Try.ntmps25
  go_wp2_with (first
    | ((with_reducible refine gate_dst (N := 17) rfl ?_); refine wpList_load_run rfl TI (.tmp 16) rfl a _ rfl (HLD.out _) ?_)
    | (refine store_img rfl (.tmp 4) (.tmp 17) rfl (W.heap.size + 1) l Z512 rfl rfl (img_new (W.alloc (.cells HZ TH)) _ (by simp)) HL.out z_ok.1 ?_; go_loud (intro w4 hi4 hw4; have HG4 := Lib.hid (G.start hi4 hw4); have hcv := conv_at (W.heap.size + 1) 257 8 (512 - 257) l w4 hi4 (by rw [HL.out]; decide) (by decide); rw [HMS.out] at hcv; clear hi4 hw4))
    | ((with_reducible refine gate_dst (N := 22) rfl ?_); refine wpList_load_run rfl TI (.tmp 4) rfl ⟨W.heap.size + 1, 0, none⟩ _ rfl (load_img HG4.out.im HL.out) ?_)
    | (refine store_img rfl (.tmp 5) (.tmp 22) rfl w4.heap.size l Z512 rfl rfl (img_new w4 _ rfl) HL.out z_ok.1 ?_; go_loud (intro w6 hi6 hw6; have HG6 := Lib.hid ((HG4.out.alloc _).wrote hw6 HG4.out.lt); have HI6 := Lib.hid hi6; clear hi6 hw6))
    | (go_at_call 32; go_loud ((with_reducible refine (seal_gen w4.heap.size l SE w6 HSL.out HB.out HL.out HI6.out).mono ?_); rintro e w7 ⟨rfl, hi7, hw7⟩; have HG7 := Lib.hid (HG6.out.wrote hw7 HG4.out.lt); have HI7 := Lib.hid hi7; clear hi7 hw7))
    | ((with_reducible refine gate_dst (N := 24) rfl ?_); refine wpList_load_run rfl TI (.tmp 5) rfl ⟨w4.heap.size, 0, none⟩ _ rfl (load_img HI7.out HSN.out) ?_)
    | ((with_reducible refine gate_dst (N := 25) rfl ?_); refine wpList_load_run rfl TI (.tmp 4) rfl ⟨W.heap.size + 1, 0, none⟩ _ rfl (load_img HG7.out.im HL.out) ?_)
    | (refine store_blk rfl TH (.tmp 2) (.tmp 27) rfl W.heap.size HZ HZ rfl rfl TH HG7.out.out (by kernel_rfl) rfl (head7_one _ _ _ _ _ _ _) ?_; go_loud (intro w10 h10 hw10; have HB10 := Lib.hid (HG7.out.bel.trans (hw10.below (Nat.le_refl _) HG7.out.bel.size)); have HH10 := Lib.hid h10; clear h10 hw10)))
  (try simp only [Exit.inBlock, Exit.then])
  refine bodyPost_ret (results_row_tmp (P := Try.prog) rfl _ _ W.heap.size TH HZ (0, 0) _ (by rfl) HH10.out Try.underlying24 rfl (by kernel_rfl)) rfl ?_
  exact ⟨rfl, HB10.out⟩
end Go.Proofs.Ytdmpbfhbjklajaa.HGet
end

/- Get: its answer in one word. -/
section
namespace Go.Proofs.Ytdmpbfhbjklajaa.HGetC
open Go.Proofs.Ytdmpbfhbjklajaa Go.RowKit Go.Proofs.YtdmpbfhbjklajaaW.PrintWords Go.Proofs.YtdmpbfhbjklajaaW.PrintLast Go.Proofs.YtdmpbfhbjklajaaW.PrintMore Go.Proofs.Ytdmpbfhbjklajaa.Byt Go.Proofs.Ytdmpbfhbjklajaa.OctPure Go.Proofs.Ytdmpbfhbjklajaa.Img Go.Proofs.Ytdmpbfhbjklajaa.Head Go.Proofs.Ytdmpbfhbjklajaa.HeadPut Go.Proofs.Ytdmpbfhbjklajaa.HeadSums Go.Proofs.Ytdmpbfhbjklajaa.HText Go.Proofs.Ytdmpbfhbjklajaa.HGet
set_option linter.unusedVariables false
set_option linter.unusedSimpArgs false
/-- What Get answers. -/
def getF (l : List Int) : Option (ByteArray × ByteArray × Int × Int × Int × Int × ByteArray × Int) :=
  if AreB l then some (
    if l.length = 512 then
      (if HGet.part l 257 8 = MAGIC then
        (if sealS l = l then
          (if (exactS (HGet.part l 100 8)).2 = 0 ∧ (exactS (HGet.part l 124 12)).2 = 0 ∧ (exactS (HGet.part l 136 12)).2 = 0 then
            (if mayS (firstS (HGet.part l 0 100)) (firstS (HGet.part l 345 155)) (exactS (HGet.part l 100 8)).1 (exactS (HGet.part l 124 12)).1 (exactS (HGet.part l 136 12)).1 (bn l 156) (firstS (HGet.part l 157 100)) = 0 ∧ layS (firstS (HGet.part l 0 100)) (firstS (HGet.part l 345 155)) (exactS (HGet.part l 100 8)).1 (exactS (HGet.part l 124 12)).1 (exactS (HGet.part l 136 12)).1 (bn l 156) (firstS (HGet.part l 157 100)) = l then
              (firstS (HGet.part l 0 100), firstS (HGet.part l 345 155), (exactS (HGet.part l 100 8)).1, (exactS (HGet.part l 124 12)).1, (exactS (HGet.part l 136 12)).1, bn l 156, firstS (HGet.part l 157 100), 0)
            else (⟨#[]⟩, ⟨#[]⟩, 0, 0, 0, 0, ⟨#[]⟩, 100))
          else (⟨#[]⟩, ⟨#[]⟩, 0, 0, 0, 0, ⟨#[]⟩, 100))
        else (⟨#[]⟩, ⟨#[]⟩, 0, 0, 0, 0, ⟨#[]⟩, 101))
      else (⟨#[]⟩, ⟨#[]⟩, 0, 0, 0, 0, ⟨#[]⟩, 100))
    else (⟨#[]⟩, ⟨#[]⟩, 0, 0, 0, 0, ⟨#[]⟩, 1)) else none
theorem get_calls (A0 : Option Addr) (c0 : Nat) (l0 : List Int) (r1 r2 : ByteArray) (r3 r4 r5 r6 : Int) (r7 : ByteArray) (r8 : Int) (w : World) (hr0 : Kd.C (Kd.int .u8) w A0 l0.length l0) (hc0 : l0.length ≤ c0) (h : getF l0 = some (r1, r2, r3, r4, r5, r6, r7, r8)) :
    Calls Try.prog 25 #[.slice A0 l0.length c0] w fun e w' => e = .returned (.tuple #[.agg #[.string r1, .string r2, .int .i64 r3, .int .i64 r4, .int .i64 r5, .int .u8 r6, .string r7], .int .i64 r8]) ∧ Below w.heap.size w w' := by
  unfold getF at h
  by_cases hB : AreB l0
  · rw [if_pos hB] at h
    have h := Option.some.inj h
    by_cases hl : l0.length = 512
    · rw [if_pos hl] at h
      by_cases hM : HGet.part l0 257 8 = MAGIC
      · rw [if_pos hM] at h
        by_cases hS : sealS l0 = l0
        · rw [if_pos hS] at h
          refine (main A0 c0 l0 w hr0 hc0 hl (bytes_of_mem hB) hM hS).mono fun e w' ⟨he, hb⟩ => ⟨he.trans ?_, hb⟩
          refine congrArg Ending.returned ?_
          unfold restV
          clear hM hS hl hb he
          generalize exactS (HGet.part l0 100 8) = x1 at h ⊢
          generalize exactS (HGet.part l0 124 12) = x2 at h ⊢
          generalize exactS (HGet.part l0 136 12) = x3 at h ⊢
          generalize firstS (HGet.part l0 0 100) = t1 at h ⊢
          generalize firstS (HGet.part l0 345 155) = t2 at h ⊢
          generalize firstS (HGet.part l0 157 100) = t3 at h ⊢
          generalize bn l0 156 = y at h ⊢
          generalize hLL : layS t1 t2 x1.1 x2.1 x3.1 y t3 = LL at h ⊢
          generalize hMM : mayS t1 t2 x1.1 x2.1 x3.1 y t3 = MM at h ⊢
          by_cases h1 : x1.2 = 0 ∧ x2.2 = 0 ∧ x3.2 = 0
          · rw [if_pos h1] at h ⊢
            by_cases h2 : MM = 0 ∧ LL = l0
            · rw [if_pos h2] at h ⊢
              simp only [Prod.mk.injEq] at h
              obtain ⟨rfl, rfl, rfl, rfl, rfl, rfl, rfl, rfl⟩ := h
              rfl
            · rw [if_neg h2] at h ⊢
              simp only [Prod.mk.injEq] at h
              obtain ⟨rfl, rfl, rfl, rfl, rfl, rfl, rfl, rfl⟩ := h
              rfl
          · rw [if_neg h1] at h ⊢
            simp only [Prod.mk.injEq] at h
            obtain ⟨rfl, rfl, rfl, rfl, rfl, rfl, rfl, rfl⟩ := h
            rfl
        · rw [if_neg hS] at h
          simp only [Prod.mk.injEq] at h
          obtain ⟨rfl, rfl, rfl, rfl, rfl, rfl, rfl, rfl⟩ := h
          exact unsealed A0 c0 l0 w hr0 hc0 hl (bytes_of_mem hB) hM hS
      · rw [if_neg hM] at h
        simp only [Prod.mk.injEq] at h
        obtain ⟨rfl, rfl, rfl, rfl, rfl, rfl, rfl, rfl⟩ := h
        exact unmagic A0 c0 l0 w hr0 hc0 hl (bytes_of_mem hB) hM
    · rw [if_neg hl] at h
      simp only [Prod.mk.injEq] at h
      obtain ⟨rfl, rfl, rfl, rfl, rfl, rfl, rfl, rfl⟩ := h
      exact short A0 c0 l0 w hl
  · rw [if_neg hB] at h; cases h
end Go.Proofs.Ytdmpbfhbjklajaa.HGetC
end

-- Written by wip/tools/myprint.py, a program of this session over the print tool: not a printed text of the kit's
section
namespace Go.Proofs.Ytdmpbfhbjklajaa.PHeadBack
open Go.RowKit Go.Proofs.YtdmpbfhbjklajaaW.PrintWords Go.Proofs.YtdmpbfhbjklajaaW.PrintLast Go.Proofs.YtdmpbfhbjklajaaW.PrintMore
attribute [local go_sem] max2_int min2_int max_two min_two max_three min_three max_four min_four   -- for this text's walks alone
set_option linter.unusedVariables false
set_option linter.unusedSimpArgs false
set_option maxRecDepth 20000



def errW : Option Int → Value
 | none => .nilIface
 | some c => .iface 0 (.int .i64 c)
theorem errW_none : errW none = .nilIface := rfl
theorem errW_some (c : Int) : errW (some c) = .iface 0 (.int .i64 c) := rfl

theorem info5 : (Try.prog.info? 5).map (fun i => (i.zero, i.size, i.bytes)) = some (some (.int .u8 0), 1, 1) := by kernel_rfl
-- the values' own types

end Go.Proofs.Ytdmpbfhbjklajaa.PHeadBack
end

-- Written by wip/tools/myprint.py, a program of this session over the print tool: not a printed text of the kit's
section
namespace Go.Proofs.Ytdmpbfhbjklajaa.PHeadBack
open Go.RowKit Go.Proofs.YtdmpbfhbjklajaaW.PrintWords Go.Proofs.YtdmpbfhbjklajaaW.PrintLast Go.Proofs.YtdmpbfhbjklajaaW.PrintMore
attribute [local go_sem] max2_int min2_int max_two min_two max_three min_three max_four min_four   -- for this text's walks alone
set_option linter.unusedVariables false
set_option linter.unusedSimpArgs false
set_option maxRecDepth 20000

theorem eqA24 (d : Nat) (w : World) (x0 y0 : ByteArray) (x1 y1 : ByteArray) (x2 y2 : Int) (x3 y3 : Int) (x4 y4 : Int) (x5 y5 : Int) (x6 y6 : ByteArray) :
  (Op.equalIn (d + 2) 24 (.agg #[.string x0, .string x1, .int .i64 x2, .int .i64 x3, .int .i64 x4, .int .u8 x5, .string x6]) (.agg #[.string y0, .string y1, .int .i64 y2, .int .i64 y3, .int .i64 y4, .int .u8 y5, .string y6])).run Try.prog w = .ok (x0.toList == y0.toList && (x1.toList == y1.toList && (x2 == y2 && (x3 == y3 && (x4 == y4 && (x5 == y5 && (x6.toList == y6.toList))))))) w := by
 refine eqA_of Try.underlying24 (by kernel_rfl) ?_
 refine eqf_cons (by rfl) (by go_simp; rfl) (by go_simp; rfl) (by go_simp) ?_
 refine eqf_cons (by rfl) (by go_simp; rfl) (by go_simp; rfl) (by go_simp) ?_
 refine eqf_cons (by rfl) (by go_simp; rfl) (by go_simp; rfl) (by go_simp) ?_
 refine eqf_cons (by rfl) (by go_simp; rfl) (by go_simp; rfl) (by go_simp) ?_
 refine eqf_cons (by rfl) (by go_simp; rfl) (by go_simp; rfl) (by go_simp) ?_
 refine eqf_cons (by rfl) (by go_simp; rfl) (by go_simp; rfl) (by go_simp) ?_
 exact eqf_last (by rfl) (by go_simp; rfl) (by go_simp; rfl) (by go_simp)
end Go.Proofs.Ytdmpbfhbjklajaa.PHeadBack
end

-- Written by wip/tools/myprint.py, a program of this session over the print tool: not a printed text of the kit's
section
namespace Go.Proofs.Ytdmpbfhbjklajaa.PHeadBack
open Go.RowKit Go.Proofs.YtdmpbfhbjklajaaW.PrintWords Go.Proofs.YtdmpbfhbjklajaaW.PrintLast Go.Proofs.YtdmpbfhbjklajaaW.PrintMore
attribute [local go_sem] max2_int min2_int max_two min_two max_three min_three max_four min_four   -- for this text's walks alone
set_option linter.unusedVariables false
set_option linter.unusedSimpArgs false
set_option maxRecDepth 20000

/-! ### tabularylaw10_same: function 19 -/
def tabularylaw10_same.l0 : Nat → List Int → List Int → Int → Option (Bool)
 | 0, _, _, _ => none
 | k + 1, x0, x1, x5 => if x5 < (x0.length : Int) then (if 0 ≤ x5 then (if x5 < (x1.length : Int) then (if (rd x0 x5) = (rd x1 x5) then (tabularylaw10_same.l0 k x0 x1 (wrap64 (x5 + 1))) else (some false)) else (none)) else (none)) else (some true)
def tabularylaw10_same.f (k : Nat) (l0 : List Int) (l1 : List Int) : Option (Bool) := if (l0.length : Int) = (l1.length : Int) then (tabularylaw10_same.l0 k l0 l1 0) else (some false)
set_option maxHeartbeats 8000000 in
set_option maxRecDepth 100000 in
theorem tabularylaw10_same.calls (k : Nat) (A0 : Option Addr) (c0 : Nat) (l0 : List Int) (A1 : Option Addr) (c1 : Nat) (l1 : List Int) (r : Bool) (w : World) (hr0 : Kd.C (Kd.int .u8) w A0 l0.length l0) (hc0 : l0.length ≤ c0) (hr1 : Kd.C (Kd.int .u8) w A1 l1.length l1) (hc1 : l1.length ≤ c1) (h : tabularylaw10_same.f k l0 l1 = some r) :
  Calls Try.prog 19 #[.slice A0 l0.length c0, .slice A1 l1.length c1] w fun e w' => e = .returned (.bool r) ∧ Drawn0 w w' := by
 have HR0 := Aside0.mk hr0
 have HC0 := Aside0.mk hc0
 clear hr0 hc0
 have HR1 := Aside0.mk hr1
 have HC1 := Aside0.mk hc1
 clear hr1 hc1
 have H : (if (l0.length : Int) = (l1.length : Int) then (tabularylaw10_same.l0 k l0 l1 0) else (some false)) = some r := h
 clear h
 by_cases c3 : (l0.length : Int) = (l1.length : Int)
 ·rw [if_pos c3] at H
  have c3b0 : ((l0.length : Int) == (l1.length : Int)) = true := beq_iff_eq.mpr c3
  have c3b1 : ((l0.length : Int) != (l1.length : Int)) = false := bne_eq_false_iff_eq.mpr c3
  have c3b2 : (l0.length == l1.length) = true := by first | simpa using c3 | (simp at c3 ⊢; omega)
  clear c3
  have H' := Aside0.mk H
  clear H
  go_enter Try.func19, Try.ntmps19
  go_wp2
  repeat (go_quiet (fail); try go_wp2)
  go_loopg [5] k (fun kq v5 w' => ∃ (x5_1 : Int), v5 = .int .i64 x5_1 ∧ Aside0 (tabularylaw10_same.l0 kq l0 l1 x5_1 = some r) ∧ Aside0 (kq ≤ k) ∧ Drawn0 w w')
  case atStart => exact ⟨(0), (by first | rfl | (simp; done) | (simp [*]; done)), H', ⟨Nat.le_refl _⟩, by repeat (first | exact Drawn0.refl _ | apply Drawn0.step)⟩
  case round =>
   clear H'
   try clear c1
   try clear p2
   try clear c3
   try clear c3b0
   try clear c3b1
   try clear c3b2
   obtain ⟨x5_1, rfl, HA, HK1, ⟨m1, rfl⟩⟩ := hrel
   cases gk with
   | zero => exact absurd HA.out (by simp [tabularylaw10_same.l0])
   | succ k1 =>
    have H := HA.out
    clear HA
    simp only [tabularylaw10_same.l0] at H
    by_cases c4 : x5_1 < (l0.length : Int)
    ·rw [if_pos c4] at H
     have c4b0 : decide (x5_1 < (l0.length : Int)) = true := decide_eq_true c4
     clear c4
     by_cases c5 : 0 ≤ x5_1
     ·rw [if_pos c5] at H
      have c5b0 : decide (0 ≤ x5_1) = true := decide_eq_true c5
      clear c5
      by_cases c6 : x5_1 < (l1.length : Int)
      ·rw [if_pos c6] at H
       have c6b0 : decide (x5_1 < (l1.length : Int)) = true := decide_eq_true c6
       clear c6
       by_cases c7 : (rd l0 x5_1) = (rd l1 x5_1)
       ·rw [if_pos c7] at H
        have c7b0 : ((rd l0 x5_1) == (rd l1 x5_1)) = true := beq_iff_eq.mpr c7
        have c7b1 : ((rd l0 x5_1) != (rd l1 x5_1)) = false := bne_eq_false_iff_eq.mpr c7
        clear c7
        have H' := Aside0.mk H
        clear H
        have p101 : 0 ≤ (x5_1 : Int) := of_decide_eq_true (by first | (with_reducible assumption) | assumption)
        have q101 : x5_1 < (l0.length : Int) := of_decide_eq_true (by first | (with_reducible assumption) | assumption)
        obtain ⟨ad101, e101, hx101_0⟩ := Kd.at_int HR0.out x5_1 p101 q101
        cases e101
        replace p101 := eq_true p101
        replace q101 := eq_true q101
        have p102 : 0 ≤ (x5_1 : Int) := of_decide_eq_true (by first | (with_reducible assumption) | assumption)
        have q102 : x5_1 < (l1.length : Int) := of_decide_eq_true (by first | (with_reducible assumption) | assumption)
        obtain ⟨ad102, e102, hx102_0⟩ := Kd.at_int HR1.out x5_1 p102 q102
        cases e102
        replace p102 := eq_true p102
        replace q102 := eq_true q102
        go_wp2
        repeat (go_quiet (fail); try go_wp2)
        go_roundg k1
        case measure => have := HK1.out; omega
        case rel => exact ⟨(wrap64 (x5_1 + 1)), (by first | rfl | (simp; done) | (simp [*]; done)), H', ⟨by have := HK1.out; omega⟩, by repeat (first | exact Drawn0.refl _ | apply Drawn0.step)⟩
       ·rw [if_neg c7] at H
        have c7b0 : ((rd l0 x5_1) == (rd l1 x5_1)) = false := beq_eq_false_iff_ne.mpr c7
        have c7b1 : ((rd l0 x5_1) != (rd l1 x5_1)) = true := bne_iff_ne.mpr c7
        obtain rfl := Option.some.inj H
        have p101 : 0 ≤ (x5_1 : Int) := of_decide_eq_true (by first | (with_reducible assumption) | assumption)
        have q101 : x5_1 < (l0.length : Int) := of_decide_eq_true (by first | (with_reducible assumption) | assumption)
        obtain ⟨ad101, e101, hx101_0⟩ := Kd.at_int HR0.out x5_1 p101 q101
        cases e101
        replace p101 := eq_true p101
        replace q101 := eq_true q101
        have p102 : 0 ≤ (x5_1 : Int) := of_decide_eq_true (by first | (with_reducible assumption) | assumption)
        have q102 : x5_1 < (l1.length : Int) := of_decide_eq_true (by first | (with_reducible assumption) | assumption)
        obtain ⟨ad102, e102, hx102_0⟩ := Kd.at_int HR1.out x5_1 p102 q102
        cases e102
        replace p102 := eq_true p102
        replace q102 := eq_true q102
        go_wp2
        repeat (go_quiet (fail); try go_wp2)
        go_ret
        exact ⟨by first | rfl | (simp; done) | (simp [*]; done), by repeat (first | exact Drawn0.refl _ | apply Drawn0.step)⟩
      ·rw [if_neg c6] at H
       exact absurd H (by simp)
     ·rw [if_neg c5] at H
      exact absurd H (by simp)
    ·rw [if_neg c4] at H
     have c4b0 : decide (x5_1 < (l0.length : Int)) = false := decide_eq_false c4
     clear c4
     obtain rfl := Option.some.inj H
     go_wp2
     repeat (go_quiet (fail); try go_wp2)
     go_ret
     exact ⟨by first | rfl | (simp; done) | (simp [*]; done), by repeat (first | exact Drawn0.refl _ | apply Drawn0.step)⟩
 ·rw [if_neg c3] at H
  have c3b0 : ((l0.length : Int) == (l1.length : Int)) = false := beq_eq_false_iff_ne.mpr c3
  have c3b1 : ((l0.length : Int) != (l1.length : Int)) = true := bne_iff_ne.mpr c3
  have c3b2 : (l0.length == l1.length) = false := by first | simpa using c3 | (simp at c3 ⊢; omega)
  obtain rfl := Option.some.inj H
  go_enter Try.func19, Try.ntmps19
  go_wp2
  repeat (go_quiet (fail); try go_wp2)
  go_ret
  exact ⟨by first | rfl | (simp; done) | (simp [*]; done), by repeat (first | exact Drawn0.refl _ | apply Drawn0.step)⟩

/-! ### head_Put: function 21 (proved by hand: HeadPut.put_calls) -/
def head_Put.f (a0_0 : ByteArray) (a0_1 : ByteArray) (a0_2 : Int) (a0_3 : Int) (a0_4 : Int) (a0_5 : Int) (a0_6 : ByteArray) : Option (List Int × Int) := Go.Proofs.Ytdmpbfhbjklajaa.HeadPut.putF a0_0 a0_1 a0_2 a0_3 a0_4 a0_5 a0_6
theorem head_Put.calls (a0_0 : ByteArray) (a0_1 : ByteArray) (a0_2 : Int) (a0_3 : Int) (a0_4 : Int) (a0_5 : Int) (a0_6 : ByteArray) (r1 : List Int) (r2 : Int) (w : World) (h : head_Put.f a0_0 a0_1 a0_2 a0_3 a0_4 a0_5 a0_6 = some (r1, r2)) :
  Calls Try.prog 21 #[.agg #[.string a0_0, .string a0_1, .int .i64 a0_2, .int .i64 a0_3, .int .i64 a0_4, .int .u8 a0_5, .string a0_6]] w fun e w' => ∃ v0_ : Value, e = .returned (.tuple #[v0_, .int .i64 r2]) ∧ Kd.V (Kd.int .u8) 5 w' w.heap.size (fun k_ => (w.heap.size ≤ k_)) v0_ r1 ∧ Below w.heap.size w w' :=
 Go.Proofs.Ytdmpbfhbjklajaa.HeadPut.put_calls a0_0 a0_1 a0_2 a0_3 a0_4 a0_5 a0_6 r1 r2 w  h

/-! ### head_Get: function 25 (proved by hand: HGetC.get_calls) -/
def head_Get.f (l0 : List Int) : Option (ByteArray × ByteArray × Int × Int × Int × Int × ByteArray × Int) := Go.Proofs.Ytdmpbfhbjklajaa.HGetC.getF l0
theorem head_Get.calls (A0 : Option Addr) (c0 : Nat) (l0 : List Int) (r1 : ByteArray) (r2 : ByteArray) (r3 : Int) (r4 : Int) (r5 : Int) (r6 : Int) (r7 : ByteArray) (r8 : Int) (w : World) (hr0 : Kd.C (Kd.int .u8) w A0 l0.length l0) (hc0 : l0.length ≤ c0) (h : head_Get.f l0 = some (r1, r2, r3, r4, r5, r6, r7, r8)) :
  Calls Try.prog 25 #[.slice A0 l0.length c0] w fun e w' => e = .returned (.tuple #[.agg #[.string r1, .string r2, .int .i64 r3, .int .i64 r4, .int .i64 r5, .int .u8 r6, .string r7], .int .i64 r8]) ∧ Below w.heap.size w w' :=
 Go.Proofs.Ytdmpbfhbjklajaa.HGetC.get_calls A0 c0 l0 r1 r2 r3 r4 r5 r6 r7 r8 w hr0 hc0 h

/-! ### head_Sum: function 13 (proved by hand: HeadSums.sum_calls) -/
def head_Sum.f (l0 : List Int) : Option (Int × Int) := Go.Proofs.Ytdmpbfhbjklajaa.HeadSums.sumF l0
theorem head_Sum.calls (A0 : Option Addr) (c0 : Nat) (l0 : List Int) (r1 : Int) (r2 : Int) (w : World) (hr0 : Kd.C (Kd.int .u8) w A0 l0.length l0) (hc0 : l0.length ≤ c0) (h : head_Sum.f l0 = some (r1, r2)) :
  Calls Try.prog 13 #[.slice A0 l0.length c0] w fun e w' => e = .returned (.tuple #[.int .i64 r1, .int .i64 r2]) ∧ Below w.heap.size w w' :=
 Go.Proofs.Ytdmpbfhbjklajaa.HeadSums.sum_calls A0 c0 l0 r1 r2 w hr0 hc0 h

/-! ### tabularylaw10_small: function 29 -/
def tabularylaw10_small.f  : Option (ByteArray × ByteArray × Int × Int × Int × Int × ByteArray) := some ((⟨#[97]⟩ : ByteArray), (⟨#[]⟩ : ByteArray), 420, 3, 0, 48, (⟨#[]⟩ : ByteArray))
set_option maxHeartbeats 8000000 in
set_option maxRecDepth 100000 in
theorem tabularylaw10_small.calls  (r1 : ByteArray) (r2 : ByteArray) (r3 : Int) (r4 : Int) (r5 : Int) (r6 : Int) (r7 : ByteArray) (w : World) (h : tabularylaw10_small.f  = some (r1, r2, r3, r4, r5, r6, r7)) :
  Calls Try.prog 29 #[] w fun e w' => e = .returned (.agg #[.string r1, .string r2, .int .i64 r3, .int .i64 r4, .int .i64 r5, .int .u8 r6, .string r7]) ∧ Below w.heap.size w w' := by
 have hu24 := Try.underlying24
 have HB := Aside0.mk (Below.refl w.heap.size w)
 have H : (some ((⟨#[97]⟩ : ByteArray), (⟨#[]⟩ : ByteArray), 420, 3, 0, 48, (⟨#[]⟩ : ByteArray))) = some (r1, r2, r3, r4, r5, r6, r7) := h
 clear h
 simp only [Option.some.injEq, Prod.mk.injEq] at H
 obtain ⟨rfl, rfl, rfl, rfl, rfl, rfl, rfl⟩ := H
 go_enter Try.func29, Try.ntmps29
 go_wp2_with (first | ((with_reducible refine gate_dst (N := 0) rfl ?_); refine box_event ?hg (N := 0) ?hd (cs := #[.string (⟨#[]⟩ : ByteArray), .string (⟨#[]⟩ : ByteArray), .int .i64 0, .int .i64 0, .int .i64 0, .int .u8 0, .string (⟨#[]⟩ : ByteArray)]) (t := 24) ?hr ?_; (case hd => rfl); (case hg => rfl); (case hr => first | (go_simp; done) | (go_simp; rfl)); intro gb103 hg w1 hbox hb; have n0_ := Aside0.mk (below_step (by repeat (first | (with_reducible first | exact HB.out | apply below_alloc | apply pw_below_drewN | apply below_drew1) | exact HB.out)) hb); have n1_ := Aside0.mk (hbox); have n2_ := Aside0.mk ((by rw [hg]; exact (below_size (by repeat (first | (with_reducible first | exact HB.out | apply below_alloc | apply pw_below_drewN | apply below_drew1) | exact HB.out))) : w.heap.size ≤ gb103)); have n3_ := Aside0.mk ((by rw [hg]; exact (below_size (by repeat (first | (with_reducible first | exact HB.out | apply below_alloc | apply pw_below_drewN | apply below_drew1) | exact HB.out))) : w.heap.size ≤ gb103)); clear HB; have HB := n0_; have BK103 := n1_; have GW103 := n2_; have GE103 := n3_; clear n0_ n1_ n2_ n3_; clear hb hbox hg; have hcz2_0 : w1.cell? ⟨gb103, 0, none⟩ = some (.string (⟨#[]⟩ : ByteArray)) := (blk_cell BK103.out 0).trans rfl; have hcz2_1 : w1.cell? ⟨gb103, 1, none⟩ = some (.string (⟨#[]⟩ : ByteArray)) := (blk_cell BK103.out 1).trans rfl; have hcz2_2 : w1.cell? ⟨gb103, 2, none⟩ = some (.int .i64 0) := (blk_cell BK103.out 2).trans rfl; have hcz2_3 : w1.cell? ⟨gb103, 3, none⟩ = some (.int .i64 0) := (blk_cell BK103.out 3).trans rfl; have hcz2_4 : w1.cell? ⟨gb103, 4, none⟩ = some (.int .i64 0) := (blk_cell BK103.out 4).trans rfl; have hcz2_5 : w1.cell? ⟨gb103, 5, none⟩ = some (.int .u8 0) := (blk_cell BK103.out 5).trans rfl; have hcz2_6 : w1.cell? ⟨gb103, 6, none⟩ = some (.string (⟨#[]⟩ : ByteArray)) := (blk_cell BK103.out 6).trans rfl; have hfz2_0 := blk_frozen BK103.out 0; have hfz2_1 := blk_frozen BK103.out 1; have hfz2_2 := blk_frozen BK103.out 2; have hfz2_3 := blk_frozen BK103.out 3; have hfz2_4 := blk_frozen BK103.out 4; have hfz2_5 := blk_frozen BK103.out 5; have hfz2_6 := blk_frozen BK103.out 6))
 refine bodyPost_ret (results_cell_row rfl _ _ gb103 24 #[.string (⟨#[97]⟩ : ByteArray), .string (⟨#[]⟩ : ByteArray), .int .i64 420, .int .i64 3, .int .i64 0, .int .u8 48, .string (⟨#[]⟩ : ByteArray)] (0, 0) _ rfl (by (with_reducible repeat (first | refine blk_drewN ?_ _ | refine blk_drew ?_ | refine blk_alloc ?_ _)); refine blk_put (cs := #[.string (⟨#[97]⟩ : ByteArray), .string (⟨#[]⟩ : ByteArray), .int .i64 420, .int .i64 3, .int .i64 0, .int .u8 48, .string (⟨#[]⟩ : ByteArray)]) ?_ 6 _ rfl; (with_reducible repeat (first | refine blk_drewN ?_ _ | refine blk_drew ?_ | refine blk_alloc ?_ _)); refine blk_put (cs := #[.string (⟨#[97]⟩ : ByteArray), .string (⟨#[]⟩ : ByteArray), .int .i64 420, .int .i64 3, .int .i64 0, .int .u8 0, .string (⟨#[]⟩ : ByteArray)]) ?_ 5 _ rfl; (with_reducible repeat (first | refine blk_drewN ?_ _ | refine blk_drew ?_ | refine blk_alloc ?_ _)); refine blk_put (cs := #[.string (⟨#[97]⟩ : ByteArray), .string (⟨#[]⟩ : ByteArray), .int .i64 420, .int .i64 3, .int .i64 0, .int .u8 0, .string (⟨#[]⟩ : ByteArray)]) ?_ 4 _ rfl; (with_reducible repeat (first | refine blk_drewN ?_ _ | refine blk_drew ?_ | refine blk_alloc ?_ _)); refine blk_put (cs := #[.string (⟨#[97]⟩ : ByteArray), .string (⟨#[]⟩ : ByteArray), .int .i64 420, .int .i64 0, .int .i64 0, .int .u8 0, .string (⟨#[]⟩ : ByteArray)]) ?_ 3 _ rfl; (with_reducible repeat (first | refine blk_drewN ?_ _ | refine blk_drew ?_ | refine blk_alloc ?_ _)); refine blk_put (cs := #[.string (⟨#[97]⟩ : ByteArray), .string (⟨#[]⟩ : ByteArray), .int .i64 0, .int .i64 0, .int .i64 0, .int .u8 0, .string (⟨#[]⟩ : ByteArray)]) ?_ 2 _ rfl; (with_reducible repeat (first | refine blk_drewN ?_ _ | refine blk_drew ?_ | refine blk_alloc ?_ _)); refine blk_put (cs := #[.string (⟨#[97]⟩ : ByteArray), .string (⟨#[]⟩ : ByteArray), .int .i64 0, .int .i64 0, .int .i64 0, .int .u8 0, .string (⟨#[]⟩ : ByteArray)]) ?_ 1 _ rfl; (with_reducible repeat (first | refine blk_drewN ?_ _ | refine blk_drew ?_ | refine blk_alloc ?_ _)); refine blk_put (cs := #[.string (⟨#[]⟩ : ByteArray), .string (⟨#[]⟩ : ByteArray), .int .i64 0, .int .i64 0, .int .i64 0, .int .u8 0, .string (⟨#[]⟩ : ByteArray)]) ?_ 0 _ rfl; (with_reducible repeat (first | refine blk_drewN ?_ _ | refine blk_drew ?_ | refine blk_alloc ?_ _)); exact BK103.out) Try.underlying24 rfl (by kernel_rfl)) rfl ?_
 exact ⟨by first | rfl | (simp [errW_none, errW_some] <;> rfl) | (simp [*, errW_none, errW_some] <;> rfl), by repeat (first | (with_reducible first | exact HB.out | apply below_alloc | apply pw_below_drewN | apply below_drew1 | refine below_set ?_ GE103.out) | exact HB.out)⟩

end Go.Proofs.Ytdmpbfhbjklajaa.PHeadBack
end
