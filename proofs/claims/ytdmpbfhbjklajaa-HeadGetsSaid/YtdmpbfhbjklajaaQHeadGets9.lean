/- Texts of this claim, laid together by wip/tools/squash.py: PGetx, HGet, HGetC, HeadLaw. -/
import Derived.Test.YtdmpbfhbjklajaaQHeadGets8
import Derived.Deep.RegionHeld3
import Derived.Deep.DeepCutAuto

-- Written by wip/tools/myprint.py, a program of this session over the print tool: not a printed text of the kit's
section
namespace Go.Proofs.Ytdmpbfhbjklajaa.PGet
open Go.RowKit Go.Proofs.YtdmpbfhbjklajaaW.PrintWords Go.Proofs.YtdmpbfhbjklajaaW.PrintLast Go.Proofs.YtdmpbfhbjklajaaW.PrintMore
attribute [local go_sem] max2_int min2_int max_two min_two max_three min_three max_four min_four   -- for this text's walks alone
set_option linter.unusedVariables false
set_option linter.unusedSimpArgs false
set_option maxRecDepth 20000

end Go.Proofs.Ytdmpbfhbjklajaa.PGet
end

/- Get: what a head's bytes are read as. -/
section
namespace Go.Proofs.Ytdmpbfhbjklajaa.HGet
open Go.Proofs.Ytdmpbfhbjklajaa Go.RowKit Go.Proofs.YtdmpbfhbjklajaaW.PrintWords Go.Proofs.YtdmpbfhbjklajaaW.PrintLast Go.Proofs.YtdmpbfhbjklajaaW.PrintMore Go.Proofs.Ytdmpbfhbjklajaa.Byt Go.Proofs.Ytdmpbfhbjklajaa.OctPure Go.Proofs.Ytdmpbfhbjklajaa.Img Go.Proofs.Ytdmpbfhbjklajaa.Head Go.Proofs.Ytdmpbfhbjklajaa.HeadPut Go.Proofs.Ytdmpbfhbjklajaa.HeadSums Go.Proofs.Ytdmpbfhbjklajaa.HText
set_option linter.unusedVariables false
set_option linter.unusedSimpArgs false
/-- Some of the bytes. -/
def part (l : List Int) (o n : Nat) : List Int := (l.drop o).take n
theorem part_len {l : List Int} {o n : Nat} (h : o + n ≤ l.length) : (part l o n).length = n := by unfold part; rw [List.length_take, List.length_drop]; omega
theorem part_bytes {l : List Int} (h : Bytes l) (o n : Nat) : Bytes (part l o n) := bytes_take (bytes_drop h o) n
theorem im_part {w : World} {g : Nat} {l : List Int} (h : IM w g l) (o n : Nat) : RC w (some ⟨g, o, none⟩) (part l o n) := by
  have h1 : RC w (some ⟨g, 0, none⟩) l := RC.row (g := g) (rest := #[]) (t := TI) (fr := (0, 0)) (by rw [Array.append_empty]; exact h)
  have h2 := (h1.drop o).take n
  rw [show (⟨g, 0, none⟩ : Addr).add o = ⟨g, o, none⟩ from add_plain g o] at h2
  exact h2
theorem im_alloc {w : World} {g : Nat} {l : List Int} (h : IM w g l) (o : Obj) : IM (w.alloc o) g l := blk_alloc h o
theorem text_at (g o n c : Nat) (l : List Int) (R : ByteArray) (W : World) (hR : R = firstS (part l o n)) (hi : IM W g l) (hB : Bytes l) (hl : o + n ≤ l.length) (h5 : n ≤ 512) :
    Calls Try.prog 38 #[.slice (some ⟨g, o, none⟩) n c] W fun e w' => e = .returned (.string R) ∧ Drawn0 W w' :=
  text_gen _ n c (part l o n) R W hR (part_len hl).symm (im_part hi o n) (part_bytes hB o n) (by rw [part_len hl]; omega)
theorem exact_at (g o n c : Nat) (l : List Int) (r e : Int) (W : World) (hr : exactS (part l o n) = (r, e)) (hi : IM W g l) (hB : Bytes l) (hl : o + n ≤ l.length) (h5 : n ≤ 512) (hc : n ≤ c) :
    Calls Try.prog 39 #[.slice (some ⟨g, o, none⟩) n c] W fun e' w' => e' = .returned (.tuple #[.int .i64 r, .int .i64 e]) ∧ Below W.heap.size W w' := by
  have h := PExact.octal_Exact.calls 61 (some ⟨g, o, none⟩) c (part l o n) r e W ((im_part hi o n).to_C (by rw [part_len hl]; omega)) (by rw [part_len hl]; omega) (by rw [exact_oct (part l o n) (mem_of_bytes (part_bytes hB o n)) 61 (by decide), hr])
  rw [part_len hl] at h
  exact h
theorem conv_at (g o n c : Nat) (l : List Int) (W : World) (hi : IM W g l) (hl : o + n ≤ l.length) (h5 : n ≤ 512) : (convert TB 9 (.slice (some ⟨g, o, none⟩) n c)).run Try.prog W = .ok (.string (strOfNums (part l o n))) W :=
  Kd.C_string Try.underlying22 Try.underlying5 Try.underlying9 (by have := (im_part hi o n).to_C (by rw [part_len hl]; omega); rwa [part_len hl] at this)
/-- An image stored into a new one. -/
theorem store_img {ops : Array Oper} {rs : List Oper} {o : Oper} {a : Act} {w : World} {Q : Exit → Act → World → Prop} (hgd : o.guard = none) (x y : Operand) (ho : o.op = .store TI x y) (g : Nat) (l l0 : List Int) (hx : a.eval x = .pointer (some ⟨g, 0, none⟩)) (hy : a.eval y = .agg (nums .u8 l).toArray)
    (hi : IM w g l0) (hl : l.length = 512) (hl0 : l0.length = 512) (h : ∀ w', IM w' g l → Wrote g w w' → wpList Try.prog ops Q rs (a.put o.dst undef) w') : wpList Try.prog ops Q (o :: rs) a w := by
  refine wpList_store_row hgd TI x y ho g (nums .u8 l).toArray hx hy TI (nums .u8 l0).toArray hi ?_ ?_ (bytes_one l) ?_
  · rw [show (nums .u8 l).toArray.size = 512 by simp [nums, hl]]; exact infoI
  · simp [nums, hl, hl0]
  · exact h _ (setRow_heap _ g _ (nums .u8 l).toArray TI (0, 0) hi) ⟨rfl, rfl, rfl, by simp, fun k hk hn => setRow_other _ _ _ _ hn⟩
theorem load_img {w : World} {g : Nat} {l : List Int} (hi : IM w g l) (hl : l.length = 512) : (loadVar TI ⟨g, 0, none⟩).run Try.prog w = .ok (.agg (nums .u8 l).toArray) w := by
  have h1 : RC w (some ⟨g, 0, none⟩) l := RC.row (g := g) (rest := #[]) (t := TI) (fr := (0, 0)) (by rw [Array.append_empty]; exact hi)
  obtain ⟨a, e, h⟩ := load_rc h1 hl
  cases e
  exact h
theorem img_new (w : World) (g : Nat) (hg : g = w.heap.size) : IM (w.alloc (.cells ZV TI)) g Z512 := by subst hg; exact blk_new _ _
theorem load_alloc {w : World} {A : Option Addr} {l : List Int} (h : RC w A l) (hl : l.length = 512) : ∃ a, A = some a ∧ ∀ o, (loadVar TI a).run Try.prog (w.alloc o) = .ok (.agg (nums .u8 l).toArray) (w.alloc o) := by
  obtain ⟨a, rfl, _⟩ := load_rc h hl
  refine ⟨a, rfl, fun o => ?_⟩
  obtain ⟨b, e, hb⟩ := load_rc (h.below ((Below.refl w.heap.size w).alloc (Nat.le_refl _) o)) hl
  cases e
  exact hb
def HZ : Array Value := #[.string ⟨#[]⟩, .string ⟨#[]⟩, .int .i64 0, .int .i64 0, .int .i64 0, .int .u8 0, .string ⟨#[]⟩]
/-- What stands while Get runs: the answer's place, still empty; the head's bytes; of what was there nothing has turned. -/
structure G (W : World) (l : List Int) (w : World) : Prop where
  out : w.heap[W.heap.size]? = some (.cells HZ TH (0, 0))
  im : IM w (W.heap.size + 1) l
  bel : Below W.heap.size W w
theorem G.lt {W w : World} {l : List Int} (h : G W l w) : W.heap.size + 1 < w.heap.size := h.im.lt
theorem G.drew {W w : World} {l : List Int} (h : G W l w) : G W l w.drew := ⟨h.out, h.im, below_drew1 h.bel⟩
theorem G.drewN {W w : World} {l : List Int} (h : G W l w) (n : Nat) : G W l (w.drewN n) := ⟨blk_drewN h.out n, blk_drewN h.im n, pw_below_drewN h.bel n⟩
theorem G.alloc {W w : World} {l : List Int} (h : G W l w) (o : Obj) : G W l (w.alloc o) := ⟨blk_alloc h.out o, blk_alloc h.im o, h.bel.alloc h.bel.size o⟩
theorem G.below {W w w' : World} {l : List Int} (h : G W l w) (hb : Below w.heap.size w w') : G W l w' := ⟨blk_below h.out hb, blk_below h.im hb, h.bel.trans (hb.mono h.bel.size)⟩
theorem G.wrote {W w w' : World} {l : List Int} {k : Nat} (h : G W l w) (hw : Wrote k w w') (hk : W.heap.size + 1 < k) : G W l w' :=
  ⟨(hw.block _ (by have := h.lt; omega) (by omega)).trans h.out, h.im.wrote hw (by omega), h.bel.trans (hw.below (by omega) h.bel.size)⟩
theorem G.setCell {W w : World} {l : List Int} {g : Nat} (h : G W l w) (hg : W.heap.size + 1 < g) (i : Nat) (v : Value) : G W l (w.setCell ⟨g, i, none⟩ v) := h.wrote (wrote_setCell (Wrote.refl _ _) i v) hg
theorem set7 {w : World} {g : Nat} {t : TypeId} {v0 v1 v2 v3 v4 v5 v6 : Value} (h : w.heap[g]? = some (.cells HZ t (0, 0))) :
    (((((((w.setCell ⟨g, 0, none⟩ v0).setCell ⟨g, 1, none⟩ v1).setCell ⟨g, 2, none⟩ v2).setCell ⟨g, 3, none⟩ v3).setCell ⟨g, 4, none⟩ v4).setCell ⟨g, 5, none⟩ v5).setCell ⟨g, 6, none⟩ v6).heap[g]? = some (.cells #[v0, v1, v2, v3, v4, v5, v6] t (0, 0)) := by
  have h0 := blk_put h 0 v0 (show _ = #[v0, .string ⟨#[]⟩, .int .i64 0, .int .i64 0, .int .i64 0, .int .u8 0, .string ⟨#[]⟩] from rfl)
  have h1 := blk_put h0 1 v1 (show _ = #[v0, v1, .int .i64 0, .int .i64 0, .int .i64 0, .int .u8 0, .string ⟨#[]⟩] from rfl)
  have h2 := blk_put h1 2 v2 (show _ = #[v0, v1, v2, .int .i64 0, .int .i64 0, .int .u8 0, .string ⟨#[]⟩] from rfl)
  have h3 := blk_put h2 3 v3 (show _ = #[v0, v1, v2, v3, .int .i64 0, .int .u8 0, .string ⟨#[]⟩] from rfl)
  have h4 := blk_put h3 4 v4 (show _ = #[v0, v1, v2, v3, v4, .int .u8 0, .string ⟨#[]⟩] from rfl)
  have h5 := blk_put h4 5 v5 (show _ = #[v0, v1, v2, v3, v4, v5, .string ⟨#[]⟩] from rfl)
  have h6 := blk_put h5 6 v6 (show _ = #[v0, v1, v2, v3, v4, v5, v6] from rfl)
  exact h6
theorem new_row (w : World) (n : Nat) (o : Obj) : ((w.drewN n).alloc o).heap[w.heap.size]? = some o := by
  have h := blk_new (w.drewN n) o
  rwa [show (w.drewN n).heap.size = w.heap.size by simp] at h
theorem G.start {W w4 : World} {l : List Int} (hi : IM w4 (W.heap.size + 1) l) (hw : Wrote (W.heap.size + 1) ((W.alloc (.cells HZ TH)).alloc (.cells ZV TI)) w4) : G W l w4 :=
  ⟨(hw.block W.heap.size (by simp; omega) (by omega)).trans (blk_alloc (blk_new W (.cells HZ TH)) _), hi, (((Below.refl W.heap.size W).alloc (Nat.le_refl _) _).alloc (by simp) _).trans (hw.below (by omega) (by simp; omega))⟩
theorem G.both {W w : World} {l : List Int} (h : G W l w) (hl : l.length = 512) : w.cell? ⟨W.heap.size + 1, 156, none⟩ = some (.int .u8 (bn l 156)) ∧ G W l w := ⟨h.im.cell 156 (by rw [hl]; decide), h⟩
theorem G.keep {W w : World} {l : List Int} {t : Int} (h : G W l w) (hl : l.length = 512) (ht : t = bn l 156) : w.cell? ⟨W.heap.size + 1, 156, none⟩ = some (.int .u8 t) ∧ G W l w := by subst ht; exact h.both hl
theorem new_cell (w : World) : ∀ (n : Nat) (cs : Array Value) (t j : Nat), ((w.drewN n).alloc (.cells cs t (0, 0))).cell? ⟨w.heap.size, j, none⟩ = cs[j]? := fun n cs t j => by
  have h := blk_new (w.drewN n) (.cells cs t (0, 0))
  rw [show (w.drewN n).heap.size = w.heap.size by simp] at h
  exact blk_cell h j
theorem new_frozen (w : World) : ∀ (n : Nat) (cs : Array Value) (t j : Nat), ((w.drewN n).alloc (.cells cs t (0, 0))).frozen? ⟨w.heap.size, j, none⟩ = false := fun n cs t j => by
  have h := blk_new (w.drewN n) (.cells cs t (0, 0))
  rw [show (w.drewN n).heap.size = w.heap.size by simp] at h
  exact blk_frozen h j
theorem run_toI (g hi : Nat) (h2 : hi ≤ 512) :
    ∀ W : World, (Instr.sliceAt TI (.pointer (some ⟨g, 0, none⟩)) none (some (.int .i64 (hi : Int))) none).run Try.prog W = .ok (.slice (some ⟨g, 0, none⟩) hi 512) W := by
  intro W
  obtain ⟨i, hi1, hsz⟩ := Option.map_eq_some_iff.1 info1
  have e1 : (⟨g, 0, none⟩ : Addr).add 0 = ⟨g, 0, none⟩ := add_plain g 0
  have hb : (0 : Int) ≤ hi ∧ (hi : Int) ≤ 512 := by omega
  simp [Instr.sliceAt, run_underlying (Try.underlying59), Instr.sureAddr, Instr.sliceBounds, run_sliceBound, sizeOf, typeInfo, hi1, hsz, e1, hb, Sem.run_bind]
/-- A whole block written over. -/
theorem store_blk {ops : Array Oper} {rs : List Oper} {o : Oper} {a : Act} {w : World} {Q : Exit → Act → World → Prop} (hgd : o.guard = none) (ty : TypeId) (x y : Operand) (ho : o.op = .store ty x y) (g : Nat) (cells old : Array Value) (hx : a.eval x = .pointer (some ⟨g, 0, none⟩)) (hy : a.eval y = .agg cells)
    (t : TypeId) (hg : w.heap[g]? = some (.cells old t (0, 0))) (hi : (Try.prog.info? ty).map (·.size) = some cells.size) (hold : old.size = cells.size) (h1 : cells.all (·.oneCell') = true) (h : ∀ w', w'.heap[g]? = some (.cells cells t (0, 0)) → Wrote g w w' → wpList Try.prog ops Q rs (a.put o.dst undef) w') : wpList Try.prog ops Q (o :: rs) a w := by
  refine wpList_store_row hgd ty x y ho g cells hx hy t old hg hi hold h1 ?_
  exact h _ (setRow_heap _ g _ cells t (0, 0) hg) ⟨rfl, rfl, rfl, by simp, fun k hk hn => setRow_other _ _ _ _ hn⟩
theorem ptr3_one (p : Option Addr) (x y : Int) : (#[Value.pointer p, .int .i64 x, .int .i64 y] : Array Value).all (·.oneCell') = true := by simp [Value.oneCell']
theorem head7_one (n p : ByteArray) (m s t y : Int) (k : ByteArray) : (#[Value.string n, .string p, .int .i64 m, .int .i64 s, .int .i64 t, .int .u8 y, .string k] : Array Value).all (·.oneCell') = true := by simp [Value.oneCell']
theorem results_row_tmp {P : Program} {fn : Func} {p u : Tmp} {ty : TypeId} (h : fn.results = #[.cell p ty, .tmp u]) (tmps : Array Value) (w : World) (g : Nat) (t : TypeId) (cs : Array Value) (fr : Nat × Nat) (d : TypeDesc)
    (hp : tmps.getD p undef = .pointer (some ⟨g, 0, none⟩)) (hg : w.heap[g]? = some (.cells cs t fr))
    (hu : P.underlying ty = some d) (hd : (match d with | .struct _ | .array _ _ => true | _ => false) = true) (hi : (P.info? ty).map (·.size) = some cs.size) :
    (results fn tmps).run P w = .ok (.tuple #[.agg cs, tmps.getD u undef]) w := by
  have hp' : tmps[p]?.getD undef = .pointer (some ⟨g, 0, none⟩) := by simpa using hp
  simp [results, h, hp', asAddr, Sem.run_bind, run_loadVar_row w g t ty cs fr d hg hu hd hi]
def restV (l : List Int) : Value :=
  if (exactS (part l 100 8)).2 = 0 ∧ (exactS (part l 124 12)).2 = 0 ∧ (exactS (part l 136 12)).2 = 0 then
    (if mayS (firstS (part l 0 100)) (firstS (part l 345 155)) (exactS (part l 100 8)).1 (exactS (part l 124 12)).1 (exactS (part l 136 12)).1 (bn l 156) (firstS (part l 157 100)) = 0 ∧ layS (firstS (part l 0 100)) (firstS (part l 345 155)) (exactS (part l 100 8)).1 (exactS (part l 124 12)).1 (exactS (part l 136 12)).1 (bn l 156) (firstS (part l 157 100)) = l then
      .tuple #[.agg #[.string (firstS (part l 0 100)), .string (firstS (part l 345 155)), .int .i64 (exactS (part l 100 8)).1, .int .i64 (exactS (part l 124 12)).1, .int .i64 (exactS (part l 136 12)).1, .int .u8 (bn l 156), .string (firstS (part l 157 100))], .int .i64 0]
    else .tuple #[.agg HZ, .int .i64 100])
  else .tuple #[.agg HZ, .int .i64 100]
theorem restV_bad {l : List Int} (h : ¬ ((exactS (part l 100 8)).2 = 0 ∧ (exactS (part l 124 12)).2 = 0 ∧ (exactS (part l 136 12)).2 = 0)) : restV l = .tuple #[.agg HZ, .int .i64 100] := by unfold restV; rw [if_neg h]
theorem restV_ok {l : List Int} {n p k : ByteArray} {m s t y : Int} (hm : exactS (part l 100 8) = (m, 0)) (hs : exactS (part l 124 12) = (s, 0)) (ht : exactS (part l 136 12) = (t, 0)) (hn : n = firstS (part l 0 100)) (hp : p = firstS (part l 345 155)) (hk : k = firstS (part l 157 100)) (hy : y = bn l 156)
    (h1 : mayS n p m s t y k = 0) (h2 : layS n p m s t y k = l) : restV l = .tuple #[.agg #[.string n, .string p, .int .i64 m, .int .i64 s, .int .i64 t, .int .u8 y, .string k], .int .i64 0] := by
  unfold restV
  rw [hm, hs, ht, ← hn, ← hp, ← hk, ← hy, if_pos ⟨rfl, rfl, rfl⟩, if_pos ⟨h1, h2⟩]
theorem restV_no {l : List Int} {n p k : ByteArray} {m s t y : Int} (hm : exactS (part l 100 8) = (m, 0)) (hs : exactS (part l 124 12) = (s, 0)) (ht : exactS (part l 136 12) = (t, 0)) (hn : n = firstS (part l 0 100)) (hp : p = firstS (part l 345 155)) (hk : k = firstS (part l 157 100)) (hy : y = bn l 156)
    (h : ¬ (mayS n p m s t y k = 0 ∧ layS n p m s t y k = l)) : restV l = .tuple #[.agg HZ, .int .i64 100] := by
  unfold restV
  rw [hm, hs, ht, ← hn, ← hp, ← hk, ← hy, if_pos ⟨rfl, rfl, rfl⟩, if_neg h]
def rowK (tn tp tk : ByteArray) (ty a b c : Int) : Nat → Array Value
  | 0 => #[.string tn, .string tp, .int .i64 0, .int .i64 0, .int .i64 0, .int .u8 ty, .string tk]
  | 1 => #[.string tn, .string tp, .int .i64 a, .int .i64 0, .int .i64 0, .int .u8 ty, .string tk]
  | 2 => #[.string tn, .string tp, .int .i64 a, .int .i64 b, .int .i64 0, .int .u8 ty, .string tk]
  | _ => #[.string tn, .string tp, .int .i64 a, .int .i64 b, .int .i64 c, .int .u8 ty, .string tk]
set_option maxRecDepth 100000 in
set_option maxHeartbeats 4000000 in
theorem main (A0 : Option Addr) (c0 : Nat) (l : List Int) (W : World) (h : Kd.C (Kd.int .u8) W A0 l.length l) (hc : l.length ≤ c0) (hl : l.length = 512) (hB : Bytes l) (hM : part l 257 8 = MAGIC) (hS : sealS l = l) :
    Calls Try.prog 25 #[.slice A0 l.length c0] W fun e w' => e = .returned (restV l) ∧ Below W.heap.size W w' := by
  have HRC := Lib.hid (RC.of_C h)
  have hz := zI
  have hu24 := Try.underlying24
  obtain ⟨a, rfl, hld⟩ := load_alloc HRC.out hl
  have HL := Lib.hid hl
  have HB := Lib.hid hB
  have hne' : ((512 : Int) != 512) = false := rfl
  have hqq : ∀ w, (binOp .neq TI (.agg (nums .u8 l).toArray) (.agg (nums .u8 l).toArray)).run Try.prog w = .ok (.bool false) w := fun w => by rw [run_neqI w l l hl hl, bne_self_eq_false]
  rw [hl]
  have HLD := Lib.hid hld
  have harr := run_arrI (some a) c0
  have hMs : strOfNums (part l 257 8) = ⟨#[117, 115, 116, 97, 114, 0, 48, 48]⟩ := by rw [hM]; decide
  have HMS := Lib.hid hMs
  have HSL := Lib.hid (show l = sealS l from hS.symm)
  have hcu0 := run_cutI (W.heap.size + 1) 257 265 (by decide) (by decide) (by decide)
  have hcut1 := run_toI (W.heap.size + 1) 100 (by decide)
  have hcut2 := run_cutI (W.heap.size + 1) 157 257 (by decide) (by decide) (by decide)
  have hcut3 := run_cutI (W.heap.size + 1) 345 500 (by decide) (by decide) (by decide)
  obtain ⟨tn, htn⟩ : ∃ t, t = firstS (part l 0 100) := ⟨_, rfl⟩
  obtain ⟨tk, htk⟩ : ∃ t, t = firstS (part l 157 100) := ⟨_, rfl⟩
  obtain ⟨tp, htp⟩ : ∃ t, t = firstS (part l 345 155) := ⟨_, rfl⟩
  obtain ⟨ty, hty⟩ : ∃ t, t = bn l 156 := ⟨_, rfl⟩
  have HTN := Lib.hid htn
  have HTK := Lib.hid htk
  have HTP := Lib.hid htp
  have HTY := Lib.hid hty
  clear htn htk htp hty
  clear h hc hld hM hMs hS hB
  clear hl
  go_enter Try.func25, Try.ntmps25
  go_upto_region 10 with (first
    | ((with_reducible refine gate_dst (N := 17) rfl ?_); refine wpList_load_run rfl TI (.tmp 16) rfl a _ rfl (HLD.out _) ?_)
    | (refine store_img rfl (.tmp 4) (.tmp 17) rfl (W.heap.size + 1) l Z512 rfl rfl (img_new (W.alloc (.cells HZ TH)) _ (by simp)) HL.out z_ok.1 ?_; go_loud (intro w4 hi4 hw4; have HG4 := Lib.hid (G.start hi4 hw4); have hcv := conv_at (W.heap.size + 1) 257 8 (512 - 257) l w4 hi4 (by rw [HL.out]; decide) (by decide); rw [HMS.out] at hcv; clear hi4 hw4))
    | ((with_reducible refine gate_dst (N := 22) rfl ?_); refine wpList_load_run rfl TI (.tmp 4) rfl ⟨W.heap.size + 1, 0, none⟩ _ rfl (load_img HG4.out.im HL.out) ?_)
    | (refine store_img rfl (.tmp 5) (.tmp 22) rfl w4.heap.size l Z512 rfl rfl (img_new w4 _ rfl) HL.out z_ok.1 ?_; go_loud (intro w6 hi6 hw6; have HG6 := Lib.hid ((HG4.out.alloc _).wrote hw6 HG4.out.lt); have HI6 := Lib.hid hi6; clear hi6 hw6))
    | (go_at_call 32; go_loud ((with_reducible refine (seal_gen w4.heap.size l l w6 HSL.out HB.out HL.out HI6.out).mono ?_); rintro e w7 ⟨rfl, hi7, hw7⟩; have HG7 := Lib.hid (HG6.out.wrote hw7 HG4.out.lt); have HI7 := Lib.hid hi7; have hnc7 := new_cell w7; have hnf7 := new_frozen w7; clear hi7 hw7))
    | ((with_reducible refine gate_dst (N := 24) rfl ?_); refine wpList_load_run rfl TI (.tmp 5) rfl ⟨w4.heap.size, 0, none⟩ _ rfl (load_img HI7.out HL.out) ?_)
    | ((with_reducible refine gate_dst (N := 25) rfl ?_); refine wpList_load_run rfl TI (.tmp 4) rfl ⟨W.heap.size + 1, 0, none⟩ _ rfl (load_img HG7.out.im HL.out) ?_))
  go_cut [6] (fun s6 wx => ∃ g : Nat, s6 = .pointer (some ⟨g, 0, none⟩) ∧ W.heap.size + 1 < g ∧ wx.heap[g]? = some (.cells #[.string tn, .string tp, .int .i64 0, .int .i64 0, .int .i64 0, .int .u8 ty, .string tk] TH (0, 0)) ∧ G W l wx)
  case first =>
    go_region_held3 (fun w' => w'.cell? ⟨W.heap.size + 1, 156, none⟩ = some (.int .u8 ty) ∧ G W l w') ((refine G.keep ?_ HL.out HTY.out; with_reducible repeat (first | exact HG7.out | refine G.setCell ?_ HG4.out.lt _ _ | refine G.setCell ?_ HG7.out.lt _ _ | apply G.drewN | apply G.drew | apply G.alloc)))
      (first
        | (go_at_call 38; (with_reducible refine (text_at (W.heap.size + 1) 0 100 _ l tn _ HTN.out ?_ HB.out (by rw [HL.out]; decide) (by decide)).mono ?_); (exact (‹_ ∧ G W l _›).2.im); rintro e w' ⟨rfl, ⟨nd, rfl⟩⟩)
        | (go_at_call 38; (with_reducible refine (text_at (W.heap.size + 1) 157 100 _ l tk _ HTK.out ?_ HB.out (by rw [HL.out]; decide) (by decide)).mono ?_); (exact (‹_ ∧ G W l _›).2.im); rintro e w' ⟨rfl, ⟨nd, rfl⟩⟩)
        | (go_at_call 38; (with_reducible refine (text_at (W.heap.size + 1) 345 155 _ l tp _ HTP.out ?_ HB.out (by rw [HL.out]; decide) (by decide)).mono ?_); (exact (‹_ ∧ G W l _›).2.im); rintro e w' ⟨rfl, ⟨nd, rfl⟩⟩))
    all_goals (go_wp2_with fail; go_meet; refine ⟨w7.heap.size, rfl, HG7.out.lt, ?_, ?_⟩)
    all_goals (first | (refine set7 ?_; (with_reducible repeat apply blk_drewN); first | exact new_row w7 _ _ | exact blk_new w7 _) | (with_reducible repeat (first | exact HG7.out | refine G.setCell ?_ HG7.out.lt _ _ | apply G.drewN | apply G.drew | apply G.alloc)) | skip)
  case rest =>
    obtain ⟨g, rfl, hg, hrow, hG⟩ := hcut
    obtain ⟨⟨em, xm⟩, hem⟩ : ∃ r, r = exactS (part l 100 8) := ⟨_, rfl⟩
    obtain ⟨⟨es, xs⟩, hes⟩ : ∃ r, r = exactS (part l 124 12) := ⟨_, rfl⟩
    obtain ⟨⟨et, xt⟩, het⟩ : ∃ r, r = exactS (part l 136 12) := ⟨_, rfl⟩
    have HEM := Lib.hid hem
    have HES := Lib.hid hes
    have HET := Lib.hid het
    have HROW := Lib.hid hrow
    have HG := Lib.hid hG
    clear hem hes het hrow hG hcv hnc7 hnf7
    have HGL := Lib.hid hg
    go_wp2
    go_loopw [8, 9, 10, 45] (fun v8 v9 v10 v45 wr => ∃ k : Nat, k ≤ 3 ∧ v45 = .int .i64 k ∧ wr.heap[g]? = some (.cells (rowK tn tp tk ty em es et k) TH (0, 0)) ∧ wr.heap[wc.heap.size]? = some (.cells #[.pointer (some ⟨g, 2, none⟩), .int .i64 100, .int .i64 8, .pointer (some ⟨g, 3, none⟩), .int .i64 124, .int .i64 12, .pointer (some ⟨g, 4, none⟩), .int .i64 136, .int .i64 12] 68 (0, 0)) ∧ G W l wr ∧ ((1 ≤ k → xm = 0) ∧ (2 ≤ k → xs = 0) ∧ (3 ≤ k → xt = 0))) (fun _ _ _ v45 _ => 3 - (intOf v45).toNat)
    case atStart => exact ⟨0, by omega, rfl, blk_alloc HROW.out _, blk_new wc _, HG.out.alloc _, by omega⟩
    case round =>
      obtain ⟨k, hk, rfl, hrow, hsl, hG, hok⟩ := hrel
      obtain rfl | rfl | rfl | rfl : k = 0 ∨ k = 1 ∨ k = 2 ∨ k = 3 := by omega
      · -- round 0
        have q0 : wr.cell? ⟨wc.heap.size, 0, none⟩ = some (.pointer (some ⟨g, 2, none⟩)) := (blk_cell hsl 0).trans rfl
        have q1 : wr.cell? ⟨wc.heap.size, 1, none⟩ = some (.int .i64 100) := (blk_cell hsl 1).trans rfl
        have q2 : wr.cell? ⟨wc.heap.size, 2, none⟩ = some (.int .i64 8) := (blk_cell hsl 2).trans rfl
        have HR0 := Lib.hid hrow
        have HS0 := Lib.hid hsl
        have HG0 := Lib.hid hG
        have HOK := Lib.hid hok
        have hcw := run_cutI (W.heap.size + 1) 100 108 (by decide) (by decide) (by decide)
        clear hrow hsl hG hok
        by_cases hx : xm = 0
        · subst hx
          go_wp2_with (first
            | (refine store_blk rfl 68 (.tmp 8) (.tmp 48) rfl wr.heap.size #[.pointer (some ⟨g, 2, none⟩), .int .i64 100, .int .i64 8] #[.pointer none, .int .i64 0, .int .i64 0] rfl rfl 68 (blk_new wr _) (by kernel_rfl) rfl (ptr3_one _ _ _) ?_; go_loud (intro w8 h8 hw8; have p0 : w8.cell? ⟨wr.heap.size, 0, none⟩ = some (.pointer (some ⟨g, 2, none⟩)) := (blk_cell h8 0).trans rfl; have p1 : w8.cell? ⟨wr.heap.size, 1, none⟩ = some (.int .i64 100) := (blk_cell h8 1).trans rfl; have p2 : w8.cell? ⟨wr.heap.size, 2, none⟩ = some (.int .i64 8) := (blk_cell h8 2).trans rfl; have HG8 := Lib.hid ((HG0.out.alloc _).wrote hw8 HG0.out.lt); have HR8 := Lib.hid ((hw8.block g (by have := blk_lt HR0.out; simp; omega) (by have := blk_lt HR0.out; omega)).trans (blk_alloc HR0.out _)); have HS8 := Lib.hid ((hw8.block wc.heap.size (by have := blk_lt HS0.out; simp; omega) (by have := blk_lt HS0.out; omega)).trans (blk_alloc HS0.out _)); have HP8 := Lib.hid h8; clear h8 hw8))
            | (go_at_call 39; go_loud ((with_reducible refine (exact_at (W.heap.size + 1) 100 8 _ l em 0 w8 HEM.out.symm HG8.out.im HB.out (by rw [HL.out]; decide) (by decide) (by decide)).mono ?_); rintro e w9 ⟨rfl, hb9⟩; have p0 : w9.cell? ⟨wr.heap.size, 0, none⟩ = some (.pointer (some ⟨g, 2, none⟩)) := (blk_cell (blk_below HP8.out hb9) 0).trans rfl; have HG9 := Lib.hid (HG8.out.below hb9); have HR9 := Lib.hid (blk_below HR8.out hb9); have HS9 := Lib.hid (blk_below HS8.out hb9); have r0 : w9.cell? ⟨g, 2, none⟩ = some (.int .i64 0) := (blk_cell HR9.out 2).trans rfl; have r1 := blk_frozen HR9.out 2; clear hb9)))
          go_roundw
          case rel => exact ⟨1, by omega, by go_num, blk_put HR9.out 2 (.int .i64 em) rfl, blk_far HS9.out (by show wc.heap.size ≠ g; have := blk_lt HROW.out; omega) _, HG9.out.setCell HGL.out 2 _, ⟨fun _ => by first | trivial | rfl, fun h => absurd h (by decide), fun h => absurd h (by decide)⟩⟩
          case measure => simp [intOf]
        · have hxn : (xm != 0) = true := by simpa using hx
          have HV := Lib.hid (restV_bad (l := l) (by rw [← HEM.out, ← HES.out, ← HET.out]; simp only; omega))
          go_wp2_with (first
            | (refine store_blk rfl 68 (.tmp 8) (.tmp 48) rfl wr.heap.size #[.pointer (some ⟨g, 2, none⟩), .int .i64 100, .int .i64 8] #[.pointer none, .int .i64 0, .int .i64 0] rfl rfl 68 (blk_new wr _) (by kernel_rfl) rfl (ptr3_one _ _ _) ?_; go_loud (intro w8 h8 hw8; have p0 : w8.cell? ⟨wr.heap.size, 0, none⟩ = some (.pointer (some ⟨g, 2, none⟩)) := (blk_cell h8 0).trans rfl; have p1 : w8.cell? ⟨wr.heap.size, 1, none⟩ = some (.int .i64 100) := (blk_cell h8 1).trans rfl; have p2 : w8.cell? ⟨wr.heap.size, 2, none⟩ = some (.int .i64 8) := (blk_cell h8 2).trans rfl; have HG8 := Lib.hid ((HG0.out.alloc _).wrote hw8 HG0.out.lt); have HR8 := Lib.hid ((hw8.block g (by have := blk_lt HR0.out; simp; omega) (by have := blk_lt HR0.out; omega)).trans (blk_alloc HR0.out _)); have HS8 := Lib.hid ((hw8.block wc.heap.size (by have := blk_lt HS0.out; simp; omega) (by have := blk_lt HS0.out; omega)).trans (blk_alloc HS0.out _)); have HP8 := Lib.hid h8; clear h8 hw8))
            | (go_at_call 39; go_loud ((with_reducible refine (exact_at (W.heap.size + 1) 100 8 _ l em xm w8 HEM.out.symm HG8.out.im HB.out (by rw [HL.out]; decide) (by decide) (by decide)).mono ?_); rintro e w9 ⟨rfl, hb9⟩; have p0 : w9.cell? ⟨wr.heap.size, 0, none⟩ = some (.pointer (some ⟨g, 2, none⟩)) := (blk_cell (blk_below HP8.out hb9) 0).trans rfl; have HG9 := Lib.hid (HG8.out.below hb9); have HR9 := Lib.hid (blk_below HR8.out hb9); have HS9 := Lib.hid (blk_below HS8.out hb9); clear hb9))
            | (refine store_blk rfl TH (.tmp 2) (.tmp 63) rfl W.heap.size HZ HZ rfl rfl TH HG9.out.out (by kernel_rfl) rfl (head7_one _ _ _ _ _ _ _) ?_; go_loud (intro w10 h10 hw10; have HB10 := Lib.hid (HG9.out.bel.trans (hw10.below (Nat.le_refl _) HG9.out.bel.size)); have HH10 := Lib.hid h10; clear h10 hw10)))
          (try simp only [Exit.inBlock, Exit.then])
          refine bodyPost_ret (results_row_tmp (P := Try.prog) rfl _ _ W.heap.size TH HZ (0, 0) _ (by rfl) HH10.out Try.underlying24 rfl (by kernel_rfl)) rfl ?_
          exact ⟨by rw [HV.out]; rfl, HB10.out⟩
      · -- round 1
        have q0 : wr.cell? ⟨wc.heap.size, 3, none⟩ = some (.pointer (some ⟨g, 3, none⟩)) := (blk_cell hsl 3).trans rfl
        have q1 : wr.cell? ⟨wc.heap.size, 4, none⟩ = some (.int .i64 124) := (blk_cell hsl 4).trans rfl
        have q2 : wr.cell? ⟨wc.heap.size, 5, none⟩ = some (.int .i64 12) := (blk_cell hsl 5).trans rfl
        have HR0 := Lib.hid hrow
        have HS0 := Lib.hid hsl
        have HG0 := Lib.hid hG
        have HOK := Lib.hid hok
        have hcw := run_cutI (W.heap.size + 1) 124 136 (by decide) (by decide) (by decide)
        clear hrow hsl hG hok
        by_cases hx : xs = 0
        · subst hx
          go_wp2_with (first
            | (refine store_blk rfl 68 (.tmp 8) (.tmp 48) rfl wr.heap.size #[.pointer (some ⟨g, 3, none⟩), .int .i64 124, .int .i64 12] #[.pointer none, .int .i64 0, .int .i64 0] rfl rfl 68 (blk_new wr _) (by kernel_rfl) rfl (ptr3_one _ _ _) ?_; go_loud (intro w8 h8 hw8; have p0 : w8.cell? ⟨wr.heap.size, 0, none⟩ = some (.pointer (some ⟨g, 3, none⟩)) := (blk_cell h8 0).trans rfl; have p1 : w8.cell? ⟨wr.heap.size, 1, none⟩ = some (.int .i64 124) := (blk_cell h8 1).trans rfl; have p2 : w8.cell? ⟨wr.heap.size, 2, none⟩ = some (.int .i64 12) := (blk_cell h8 2).trans rfl; have HG8 := Lib.hid ((HG0.out.alloc _).wrote hw8 HG0.out.lt); have HR8 := Lib.hid ((hw8.block g (by have := blk_lt HR0.out; simp; omega) (by have := blk_lt HR0.out; omega)).trans (blk_alloc HR0.out _)); have HS8 := Lib.hid ((hw8.block wc.heap.size (by have := blk_lt HS0.out; simp; omega) (by have := blk_lt HS0.out; omega)).trans (blk_alloc HS0.out _)); have HP8 := Lib.hid h8; clear h8 hw8))
            | (go_at_call 39; go_loud ((with_reducible refine (exact_at (W.heap.size + 1) 124 12 _ l es 0 w8 HES.out.symm HG8.out.im HB.out (by rw [HL.out]; decide) (by decide) (by decide)).mono ?_); rintro e w9 ⟨rfl, hb9⟩; have p0 : w9.cell? ⟨wr.heap.size, 0, none⟩ = some (.pointer (some ⟨g, 3, none⟩)) := (blk_cell (blk_below HP8.out hb9) 0).trans rfl; have HG9 := Lib.hid (HG8.out.below hb9); have HR9 := Lib.hid (blk_below HR8.out hb9); have HS9 := Lib.hid (blk_below HS8.out hb9); have r0 : w9.cell? ⟨g, 3, none⟩ = some (.int .i64 0) := (blk_cell HR9.out 3).trans rfl; have r1 := blk_frozen HR9.out 3; clear hb9)))
          go_roundw
          case rel => exact ⟨2, by omega, by go_num, blk_put HR9.out 3 (.int .i64 es) rfl, blk_far HS9.out (by show wc.heap.size ≠ g; have := blk_lt HROW.out; omega) _, HG9.out.setCell HGL.out 3 _, ⟨fun _ => HOK.out.1 (by decide), fun _ => by first | trivial | rfl, fun h => absurd h (by decide)⟩⟩
          case measure => simp [intOf]
        · have hxn : (xs != 0) = true := by simpa using hx
          have HV := Lib.hid (restV_bad (l := l) (by rw [← HEM.out, ← HES.out, ← HET.out]; simp only; omega))
          go_wp2_with (first
            | (refine store_blk rfl 68 (.tmp 8) (.tmp 48) rfl wr.heap.size #[.pointer (some ⟨g, 3, none⟩), .int .i64 124, .int .i64 12] #[.pointer none, .int .i64 0, .int .i64 0] rfl rfl 68 (blk_new wr _) (by kernel_rfl) rfl (ptr3_one _ _ _) ?_; go_loud (intro w8 h8 hw8; have p0 : w8.cell? ⟨wr.heap.size, 0, none⟩ = some (.pointer (some ⟨g, 3, none⟩)) := (blk_cell h8 0).trans rfl; have p1 : w8.cell? ⟨wr.heap.size, 1, none⟩ = some (.int .i64 124) := (blk_cell h8 1).trans rfl; have p2 : w8.cell? ⟨wr.heap.size, 2, none⟩ = some (.int .i64 12) := (blk_cell h8 2).trans rfl; have HG8 := Lib.hid ((HG0.out.alloc _).wrote hw8 HG0.out.lt); have HR8 := Lib.hid ((hw8.block g (by have := blk_lt HR0.out; simp; omega) (by have := blk_lt HR0.out; omega)).trans (blk_alloc HR0.out _)); have HS8 := Lib.hid ((hw8.block wc.heap.size (by have := blk_lt HS0.out; simp; omega) (by have := blk_lt HS0.out; omega)).trans (blk_alloc HS0.out _)); have HP8 := Lib.hid h8; clear h8 hw8))
            | (go_at_call 39; go_loud ((with_reducible refine (exact_at (W.heap.size + 1) 124 12 _ l es xs w8 HES.out.symm HG8.out.im HB.out (by rw [HL.out]; decide) (by decide) (by decide)).mono ?_); rintro e w9 ⟨rfl, hb9⟩; have p0 : w9.cell? ⟨wr.heap.size, 0, none⟩ = some (.pointer (some ⟨g, 3, none⟩)) := (blk_cell (blk_below HP8.out hb9) 0).trans rfl; have HG9 := Lib.hid (HG8.out.below hb9); have HR9 := Lib.hid (blk_below HR8.out hb9); have HS9 := Lib.hid (blk_below HS8.out hb9); clear hb9))
            | (refine store_blk rfl TH (.tmp 2) (.tmp 63) rfl W.heap.size HZ HZ rfl rfl TH HG9.out.out (by kernel_rfl) rfl (head7_one _ _ _ _ _ _ _) ?_; go_loud (intro w10 h10 hw10; have HB10 := Lib.hid (HG9.out.bel.trans (hw10.below (Nat.le_refl _) HG9.out.bel.size)); have HH10 := Lib.hid h10; clear h10 hw10)))
          (try simp only [Exit.inBlock, Exit.then])
          refine bodyPost_ret (results_row_tmp (P := Try.prog) rfl _ _ W.heap.size TH HZ (0, 0) _ (by rfl) HH10.out Try.underlying24 rfl (by kernel_rfl)) rfl ?_
          exact ⟨by rw [HV.out]; rfl, HB10.out⟩
      · -- round 2
        have q0 : wr.cell? ⟨wc.heap.size, 6, none⟩ = some (.pointer (some ⟨g, 4, none⟩)) := (blk_cell hsl 6).trans rfl
        have q1 : wr.cell? ⟨wc.heap.size, 7, none⟩ = some (.int .i64 136) := (blk_cell hsl 7).trans rfl
        have q2 : wr.cell? ⟨wc.heap.size, 8, none⟩ = some (.int .i64 12) := (blk_cell hsl 8).trans rfl
        have HR0 := Lib.hid hrow
        have HS0 := Lib.hid hsl
        have HG0 := Lib.hid hG
        have HOK := Lib.hid hok
        have hcw := run_cutI (W.heap.size + 1) 136 148 (by decide) (by decide) (by decide)
        clear hrow hsl hG hok
        by_cases hx : xt = 0
        · subst hx
          go_wp2_with (first
            | (refine store_blk rfl 68 (.tmp 8) (.tmp 48) rfl wr.heap.size #[.pointer (some ⟨g, 4, none⟩), .int .i64 136, .int .i64 12] #[.pointer none, .int .i64 0, .int .i64 0] rfl rfl 68 (blk_new wr _) (by kernel_rfl) rfl (ptr3_one _ _ _) ?_; go_loud (intro w8 h8 hw8; have p0 : w8.cell? ⟨wr.heap.size, 0, none⟩ = some (.pointer (some ⟨g, 4, none⟩)) := (blk_cell h8 0).trans rfl; have p1 : w8.cell? ⟨wr.heap.size, 1, none⟩ = some (.int .i64 136) := (blk_cell h8 1).trans rfl; have p2 : w8.cell? ⟨wr.heap.size, 2, none⟩ = some (.int .i64 12) := (blk_cell h8 2).trans rfl; have HG8 := Lib.hid ((HG0.out.alloc _).wrote hw8 HG0.out.lt); have HR8 := Lib.hid ((hw8.block g (by have := blk_lt HR0.out; simp; omega) (by have := blk_lt HR0.out; omega)).trans (blk_alloc HR0.out _)); have HS8 := Lib.hid ((hw8.block wc.heap.size (by have := blk_lt HS0.out; simp; omega) (by have := blk_lt HS0.out; omega)).trans (blk_alloc HS0.out _)); have HP8 := Lib.hid h8; clear h8 hw8))
            | (go_at_call 39; go_loud ((with_reducible refine (exact_at (W.heap.size + 1) 136 12 _ l et 0 w8 HET.out.symm HG8.out.im HB.out (by rw [HL.out]; decide) (by decide) (by decide)).mono ?_); rintro e w9 ⟨rfl, hb9⟩; have p0 : w9.cell? ⟨wr.heap.size, 0, none⟩ = some (.pointer (some ⟨g, 4, none⟩)) := (blk_cell (blk_below HP8.out hb9) 0).trans rfl; have HG9 := Lib.hid (HG8.out.below hb9); have HR9 := Lib.hid (blk_below HR8.out hb9); have HS9 := Lib.hid (blk_below HS8.out hb9); have r0 : w9.cell? ⟨g, 4, none⟩ = some (.int .i64 0) := (blk_cell HR9.out 4).trans rfl; have r1 := blk_frozen HR9.out 4; clear hb9)))
          go_roundw
          case rel => exact ⟨3, by omega, by go_num, blk_put HR9.out 4 (.int .i64 et) rfl, blk_far HS9.out (by show wc.heap.size ≠ g; have := blk_lt HROW.out; omega) _, HG9.out.setCell HGL.out 4 _, ⟨fun _ => HOK.out.1 (by decide), fun _ => HOK.out.2.1 (by decide), fun _ => by first | trivial | rfl⟩⟩
          case measure => simp [intOf]
        · have hxn : (xt != 0) = true := by simpa using hx
          have HV := Lib.hid (restV_bad (l := l) (by rw [← HEM.out, ← HES.out, ← HET.out]; simp only; omega))
          go_wp2_with (first
            | (refine store_blk rfl 68 (.tmp 8) (.tmp 48) rfl wr.heap.size #[.pointer (some ⟨g, 4, none⟩), .int .i64 136, .int .i64 12] #[.pointer none, .int .i64 0, .int .i64 0] rfl rfl 68 (blk_new wr _) (by kernel_rfl) rfl (ptr3_one _ _ _) ?_; go_loud (intro w8 h8 hw8; have p0 : w8.cell? ⟨wr.heap.size, 0, none⟩ = some (.pointer (some ⟨g, 4, none⟩)) := (blk_cell h8 0).trans rfl; have p1 : w8.cell? ⟨wr.heap.size, 1, none⟩ = some (.int .i64 136) := (blk_cell h8 1).trans rfl; have p2 : w8.cell? ⟨wr.heap.size, 2, none⟩ = some (.int .i64 12) := (blk_cell h8 2).trans rfl; have HG8 := Lib.hid ((HG0.out.alloc _).wrote hw8 HG0.out.lt); have HR8 := Lib.hid ((hw8.block g (by have := blk_lt HR0.out; simp; omega) (by have := blk_lt HR0.out; omega)).trans (blk_alloc HR0.out _)); have HS8 := Lib.hid ((hw8.block wc.heap.size (by have := blk_lt HS0.out; simp; omega) (by have := blk_lt HS0.out; omega)).trans (blk_alloc HS0.out _)); have HP8 := Lib.hid h8; clear h8 hw8))
            | (go_at_call 39; go_loud ((with_reducible refine (exact_at (W.heap.size + 1) 136 12 _ l et xt w8 HET.out.symm HG8.out.im HB.out (by rw [HL.out]; decide) (by decide) (by decide)).mono ?_); rintro e w9 ⟨rfl, hb9⟩; have p0 : w9.cell? ⟨wr.heap.size, 0, none⟩ = some (.pointer (some ⟨g, 4, none⟩)) := (blk_cell (blk_below HP8.out hb9) 0).trans rfl; have HG9 := Lib.hid (HG8.out.below hb9); have HR9 := Lib.hid (blk_below HR8.out hb9); have HS9 := Lib.hid (blk_below HS8.out hb9); clear hb9))
            | (refine store_blk rfl TH (.tmp 2) (.tmp 63) rfl W.heap.size HZ HZ rfl rfl TH HG9.out.out (by kernel_rfl) rfl (head7_one _ _ _ _ _ _ _) ?_; go_loud (intro w10 h10 hw10; have HB10 := Lib.hid (HG9.out.bel.trans (hw10.below (Nat.le_refl _) HG9.out.bel.size)); have HH10 := Lib.hid h10; clear h10 hw10)))
          (try simp only [Exit.inBlock, Exit.then])
          refine bodyPost_ret (results_row_tmp (P := Try.prog) rfl _ _ W.heap.size TH HZ (0, 0) _ (by rfl) HH10.out Try.underlying24 rfl (by kernel_rfl)) rfl ?_
          exact ⟨by rw [HV.out]; rfl, HB10.out⟩
      · -- all read
        obtain rfl := hok.1 (by decide)
        obtain rfl := hok.2.1 (by decide)
        obtain rfl := hok.2.2 (by decide)
        have HR0 := Lib.hid (show wr.heap[g]? = some (.cells #[.string tn, .string tp, .int .i64 em, .int .i64 es, .int .i64 et, .int .u8 ty, .string tk] TH (0, 0)) from hrow)
        have HG0 := Lib.hid hG
        obtain ⟨MY, hMY⟩ : ∃ r, r = mayS tn tp em es et ty tk := ⟨_, rfl⟩
        obtain ⟨LY, hLY⟩ : ∃ r, r = layS tn tp em es et ty tk := ⟨_, rfl⟩
        have HMY := Lib.hid hMY
        have HLY := Lib.hid hLY
        have hB156 := HB.out 156
        have he1 := exactS_range (part l 100 8) (mem_of_bytes (part_bytes HB.out 100 8))
        have he2 := exactS_range (part l 124 12) (mem_of_bytes (part_bytes HB.out 124 12))
        have he3 := exactS_range (part l 136 12) (mem_of_bytes (part_bytes HB.out 136 12))
        rw [← HEM.out] at he1
        rw [← HES.out] at he2
        rw [← HET.out] at he3
        simp only at he1 he2 he3
        have HFIT := Lib.hid (show Fit em es et ty from ⟨by rw [HTY.out]; exact hB156, by omega, by omega, by omega⟩)
        clear hrow hsl hG hok hB156 he1 he2 he3
        by_cases hm0 : MY = 0
        · subst hm0
          have HSZ := Lib.hid (may_sizes hMY.symm)
          by_cases hll : LY = l
          · have hll' := hll.symm
            subst hll'
            have HV := Lib.hid (restV_ok HEM.out.symm HES.out.symm HET.out.symm HTN.out HTP.out HTK.out HTY.out hMY.symm hLY.symm)
            clear hMY hLY
            go_wp2
            refine start_ (n := 9) (S := fun w' => w'.cell? ⟨g, 0, none⟩ = some (.string tn) ∧ w'.cell? ⟨g, 1, none⟩ = some (.string tp) ∧ w'.cell? ⟨g, 2, none⟩ = some (.int .i64 em) ∧ w'.cell? ⟨g, 3, none⟩ = some (.int .i64 es) ∧ w'.cell? ⟨g, 4, none⟩ = some (.int .i64 et) ∧ w'.cell? ⟨g, 5, none⟩ = some (.int .u8 ty) ∧ w'.cell? ⟨g, 6, none⟩ = some (.string tk) ∧ (loadVar TI ⟨W.heap.size + 1, 0, none⟩).run Try.prog w' = .ok (.agg (nums .u8 l).toArray) w') (ds := []) #[false, false, false, false, false, false, false, false, false] (by kernel_rfl) rfl rfl ⟨(blk_cell (w := wr.drew) HR0.out 0).trans rfl, (blk_cell (w := wr.drew) HR0.out 1).trans rfl, (blk_cell (w := wr.drew) HR0.out 2).trans rfl, (blk_cell (w := wr.drew) HR0.out 3).trans rfl, (blk_cell (w := wr.drew) HR0.out 4).trans rfl, (blk_cell (w := wr.drew) HR0.out 5).trans rfl, (blk_cell (w := wr.drew) HR0.out 6).trans rfl, load_img HG0.out.drew.im HL.out⟩ (fun hHeld => ?_)
            refine take_ (i := 0) (N := some 69) (v := ?_) (a' := ?_) #[true, false, false, false, false, false, false, false, false] rfl rfl (by kernel_rfl) (fun _ _ _ h => h) (Or.inl ⟨by rfl, ?_⟩) hHeld ?_ ?_
            rotate_left
            · rintro w' ⟨s0, s1, s2, s3, s4, s5, s6, s7⟩
              go_simp
              with_reducible rfl
            rotate_left
            · simp only [Act.put, List.setIfInBounds_toArray, List.set_cons_zero, List.set_cons_succ, i64_w, i32_w]
              rfl
            refine one_ (i := 1) (N := some 70) #[true, true, false, false, false, false, false, false, false] rfl rfl (by kernel_rfl) (by decide) (fun K hK => ?_)
            refine goes_ Try.func34 (by kernel_rfl) rfl #[.agg #[.string tn, .string tp, .int .i64 em, .int .i64 es, .int .i64 et, .int .u8 ty, .string tk]] (by rfl) rfl rfl (by simp only [List.map_toArray, List.map_cons, List.map_nil]; rfl) ?_
            with_reducible refine (may_at tn tp em es et ty tk 0 _ HMY.out).mono ?_
            rintro e w20 ⟨rfl, hb20⟩
            refine ⟨_, rfl, ?_⟩
            have HG20 := Lib.hid (HG0.out.drew.below hb20)
            have HR20 := Lib.hid (blk_below (w := wr.drew) HR0.out hb20)
            clear hb20
            refine hK.out _ _ ⟨(blk_cell HR20.out 0).trans rfl, (blk_cell HR20.out 1).trans rfl, (blk_cell HR20.out 2).trans rfl, (blk_cell HR20.out 3).trans rfl, (blk_cell HR20.out 4).trans rfl, (blk_cell HR20.out 5).trans rfl, (blk_cell HR20.out 6).trans rfl, load_img HG20.out.im HL.out⟩ (fun hHeld => ?_)
            clear hK K
            refine norm_ (a' := ?_) ?_ ?_
            rotate_left
            · show Act.put _ (some 70) _ = _
              simp only [Act.put, List.setIfInBounds_toArray, List.set_cons_zero, List.set_cons_succ, i64_w, i32_w]
              rfl
            refine pure_ (i := 2) (N := some 71) (v := ?_) (a' := ?_) #[true, true, true, false, false, false, false, false, false] rfl rfl (by kernel_rfl) (fun _ _ _ h => h) (Or.inl ⟨by rfl, ?_⟩) ?_ ?_
            rotate_left
            · intro w'
              go_simp
              with_reducible rfl
            rotate_left
            · simp only [Act.put, List.setIfInBounds_toArray, List.set_cons_zero, List.set_cons_succ, i64_w, i32_w]
              rfl
            refine pure_ (i := 3) (N := some 72) (v := ?_) (a' := ?_) #[true, true, true, true, false, false, false, false, false] rfl rfl (by kernel_rfl) (fun _ _ _ h => h) (Or.inl ⟨by rfl, ?_⟩) ?_ ?_
            rotate_left
            · intro w'
              go_simp
              with_reducible rfl
            rotate_left
            · simp only [Act.put, List.setIfInBounds_toArray, List.set_cons_zero, List.set_cons_succ, i64_w, i32_w]
              rfl
            refine take_ (i := 4) (N := some 73) (v := ?_) (a' := ?_) #[true, true, true, true, true, false, false, false, false] rfl rfl (by kernel_rfl) (fun _ _ _ h => h) (Or.inl ⟨by rfl, ?_⟩) hHeld ?_ ?_
            rotate_left
            · rintro w' ⟨s0, s1, s2, s3, s4, s5, s6, s7⟩
              go_simp
              with_reducible rfl
            rotate_left
            · simp only [Act.put, List.setIfInBounds_toArray, List.set_cons_zero, List.set_cons_succ, i64_w, i32_w]
              rfl
            refine take_ (i := 6) (N := some 75) (v := ?_) (a' := ?_) #[true, true, true, true, true, false, true, false, false] rfl rfl (by kernel_rfl) (fun _ _ _ h => h) (Or.inl ⟨by rfl, ?_⟩) hHeld ?_ ?_
            rotate_left
            · rintro w' ⟨s0, s1, s2, s3, s4, s5, s6, s7⟩
              refine (exec_load (ty := TI) (g := ⟨W.heap.size + 1, 0, none⟩) rfl rfl s7).trans ?_; with_reducible rfl
            rotate_left
            · simp only [Act.put, List.setIfInBounds_toArray, List.set_cons_zero, List.set_cons_succ, i64_w, i32_w]
              rfl
            refine one_ (i := 5) (N := some 74) #[true, true, true, true, true, true, true, false, false] rfl rfl (by kernel_rfl) (by decide) (fun K hK => ?_)
            refine goes_ Try.func35 (by kernel_rfl) rfl #[.agg #[.string tn, .string tp, .int .i64 em, .int .i64 es, .int .i64 et, .int .u8 ty, .string tk]] (by rfl) rfl rfl (by simp only [List.map_toArray, List.map_cons, List.map_nil]; rfl) ?_
            with_reducible refine (lay_at tn tp em es et ty tk l _ HLY.out HSZ.out HFIT.out).mono ?_
            rintro e w21 ⟨rfl, hb21⟩
            refine ⟨_, rfl, ?_⟩
            have HG21 := Lib.hid (HG20.out.below hb21)
            have HR21 := Lib.hid (blk_below HR20.out hb21)
            clear hb21
            refine hK.out _ _ ⟨(blk_cell HR21.out 0).trans rfl, (blk_cell HR21.out 1).trans rfl, (blk_cell HR21.out 2).trans rfl, (blk_cell HR21.out 3).trans rfl, (blk_cell HR21.out 4).trans rfl, (blk_cell HR21.out 5).trans rfl, (blk_cell HR21.out 6).trans rfl, load_img HG21.out.im HL.out⟩ (fun hHeld => ?_)
            clear hK K
            refine norm_ (a' := ?_) ?_ ?_
            rotate_left
            · show Act.put _ (some 74) _ = _
              simp only [Act.put, List.setIfInBounds_toArray, List.set_cons_zero, List.set_cons_succ, i64_w, i32_w]
              rfl
            refine pure_ (i := 7) (N := some 76) (v := ?_) (a' := ?_) #[true, true, true, true, true, true, true, true, false] rfl rfl (by kernel_rfl) (fun _ _ _ h => h) (Or.inl ⟨by rfl, ?_⟩) ?_ ?_
            rotate_left
            · intro w'
              go_simp
              with_reducible rfl
            rotate_left
            · simp only [Act.put, List.setIfInBounds_toArray, List.set_cons_zero, List.set_cons_succ, i64_w, i32_w]
              rfl
            refine pure_ (i := 8) (N := some 77) (v := ?_) (a' := ?_) #[true, true, true, true, true, true, true, true, true] rfl rfl (by kernel_rfl) (fun _ _ _ h => h) (Or.inl ⟨by rfl, ?_⟩) ?_ ?_
            rotate_left
            · intro w'
              go_simp
              with_reducible rfl
            rotate_left
            · simp only [Act.put, List.setIfInBounds_toArray, List.set_cons_zero, List.set_cons_succ, i64_w, i32_w]
              rfl
            refine done_ (by kernel_rfl) ?_
            go_wp2_with (first
              | ((with_reducible refine gate_dst (N := 79) rfl ?_); refine wpList_load_row rfl TH (.tmp 6) rfl g rfl TH _ (0, 0) _ HR21.out Try.underlying24 rfl (by kernel_rfl) ?_)
              | (refine store_blk rfl TH (.tmp 2) (.tmp 79) rfl W.heap.size _ HZ rfl rfl TH HG21.out.out (by kernel_rfl) rfl (head7_one _ _ _ _ _ _ _) ?_; go_loud (intro w10 h10 hw10; have HB10 := Lib.hid (HG21.out.bel.trans (hw10.below (Nat.le_refl _) HG21.out.bel.size)); have HH10 := Lib.hid h10; clear h10 hw10)))
            (try simp only [Exit.inBlock, Exit.then])
            refine bodyPost_ret (results_row_tmp (P := Try.prog) rfl _ _ W.heap.size TH _ (0, 0) _ (by rfl) HH10.out Try.underlying24 rfl (by kernel_rfl)) rfl ?_
            exact ⟨by rw [HV.out]; rfl, HB10.out⟩
          · have HV := Lib.hid (restV_no HEM.out.symm HES.out.symm HET.out.symm HTN.out HTP.out HTK.out HTY.out (fun h => hll (hLY.trans h.2)))
            have hLl : LY.length = 512 := by rw [hLY]; exact (seal_ok (body_ok tn tp em es et ty tk HFIT.out.1)).1
            have hqn : ∀ w, (binOp .neq TI (.agg (nums .u8 LY).toArray) (.agg (nums .u8 l).toArray)).run Try.prog w = .ok (.bool true) w := fun w => by rw [run_neqI w LY l hLl HL.out, show (LY != l) = true by simpa using hll]
            clear hMY hLY hLl hll
            go_wp2
            refine start_ (n := 9) (S := fun w' => w'.cell? ⟨g, 0, none⟩ = some (.string tn) ∧ w'.cell? ⟨g, 1, none⟩ = some (.string tp) ∧ w'.cell? ⟨g, 2, none⟩ = some (.int .i64 em) ∧ w'.cell? ⟨g, 3, none⟩ = some (.int .i64 es) ∧ w'.cell? ⟨g, 4, none⟩ = some (.int .i64 et) ∧ w'.cell? ⟨g, 5, none⟩ = some (.int .u8 ty) ∧ w'.cell? ⟨g, 6, none⟩ = some (.string tk) ∧ (loadVar TI ⟨W.heap.size + 1, 0, none⟩).run Try.prog w' = .ok (.agg (nums .u8 l).toArray) w') (ds := []) #[false, false, false, false, false, false, false, false, false] (by kernel_rfl) rfl rfl ⟨(blk_cell (w := wr.drew) HR0.out 0).trans rfl, (blk_cell (w := wr.drew) HR0.out 1).trans rfl, (blk_cell (w := wr.drew) HR0.out 2).trans rfl, (blk_cell (w := wr.drew) HR0.out 3).trans rfl, (blk_cell (w := wr.drew) HR0.out 4).trans rfl, (blk_cell (w := wr.drew) HR0.out 5).trans rfl, (blk_cell (w := wr.drew) HR0.out 6).trans rfl, load_img HG0.out.drew.im HL.out⟩ (fun hHeld => ?_)
            refine take_ (i := 0) (N := some 69) (v := ?_) (a' := ?_) #[true, false, false, false, false, false, false, false, false] rfl rfl (by kernel_rfl) (fun _ _ _ h => h) (Or.inl ⟨by rfl, ?_⟩) hHeld ?_ ?_
            rotate_left
            · rintro w' ⟨s0, s1, s2, s3, s4, s5, s6, s7⟩
              go_simp
              with_reducible rfl
            rotate_left
            · simp only [Act.put, List.setIfInBounds_toArray, List.set_cons_zero, List.set_cons_succ, i64_w, i32_w]
              rfl
            refine one_ (i := 1) (N := some 70) #[true, true, false, false, false, false, false, false, false] rfl rfl (by kernel_rfl) (by decide) (fun K hK => ?_)
            refine goes_ Try.func34 (by kernel_rfl) rfl #[.agg #[.string tn, .string tp, .int .i64 em, .int .i64 es, .int .i64 et, .int .u8 ty, .string tk]] (by rfl) rfl rfl (by simp only [List.map_toArray, List.map_cons, List.map_nil]; rfl) ?_
            with_reducible refine (may_at tn tp em es et ty tk 0 _ HMY.out).mono ?_
            rintro e w20 ⟨rfl, hb20⟩
            refine ⟨_, rfl, ?_⟩
            have HG20 := Lib.hid (HG0.out.drew.below hb20)
            have HR20 := Lib.hid (blk_below (w := wr.drew) HR0.out hb20)
            clear hb20
            refine hK.out _ _ ⟨(blk_cell HR20.out 0).trans rfl, (blk_cell HR20.out 1).trans rfl, (blk_cell HR20.out 2).trans rfl, (blk_cell HR20.out 3).trans rfl, (blk_cell HR20.out 4).trans rfl, (blk_cell HR20.out 5).trans rfl, (blk_cell HR20.out 6).trans rfl, load_img HG20.out.im HL.out⟩ (fun hHeld => ?_)
            clear hK K
            refine norm_ (a' := ?_) ?_ ?_
            rotate_left
            · show Act.put _ (some 70) _ = _
              simp only [Act.put, List.setIfInBounds_toArray, List.set_cons_zero, List.set_cons_succ, i64_w, i32_w]
              rfl
            refine pure_ (i := 2) (N := some 71) (v := ?_) (a' := ?_) #[true, true, true, false, false, false, false, false, false] rfl rfl (by kernel_rfl) (fun _ _ _ h => h) (Or.inl ⟨by rfl, ?_⟩) ?_ ?_
            rotate_left
            · intro w'
              go_simp
              with_reducible rfl
            rotate_left
            · simp only [Act.put, List.setIfInBounds_toArray, List.set_cons_zero, List.set_cons_succ, i64_w, i32_w]
              rfl
            refine pure_ (i := 3) (N := some 72) (v := ?_) (a' := ?_) #[true, true, true, true, false, false, false, false, false] rfl rfl (by kernel_rfl) (fun _ _ _ h => h) (Or.inl ⟨by rfl, ?_⟩) ?_ ?_
            rotate_left
            · intro w'
              go_simp
              with_reducible rfl
            rotate_left
            · simp only [Act.put, List.setIfInBounds_toArray, List.set_cons_zero, List.set_cons_succ, i64_w, i32_w]
              rfl
            refine take_ (i := 4) (N := some 73) (v := ?_) (a' := ?_) #[true, true, true, true, true, false, false, false, false] rfl rfl (by kernel_rfl) (fun _ _ _ h => h) (Or.inl ⟨by rfl, ?_⟩) hHeld ?_ ?_
            rotate_left
            · rintro w' ⟨s0, s1, s2, s3, s4, s5, s6, s7⟩
              go_simp
              with_reducible rfl
            rotate_left
            · simp only [Act.put, List.setIfInBounds_toArray, List.set_cons_zero, List.set_cons_succ, i64_w, i32_w]
              rfl
            refine take_ (i := 6) (N := some 75) (v := ?_) (a' := ?_) #[true, true, true, true, true, false, true, false, false] rfl rfl (by kernel_rfl) (fun _ _ _ h => h) (Or.inl ⟨by rfl, ?_⟩) hHeld ?_ ?_
            rotate_left
            · rintro w' ⟨s0, s1, s2, s3, s4, s5, s6, s7⟩
              refine (exec_load (ty := TI) (g := ⟨W.heap.size + 1, 0, none⟩) rfl rfl s7).trans ?_; with_reducible rfl
            rotate_left
            · simp only [Act.put, List.setIfInBounds_toArray, List.set_cons_zero, List.set_cons_succ, i64_w, i32_w]
              rfl
            refine one_ (i := 5) (N := some 74) #[true, true, true, true, true, true, true, false, false] rfl rfl (by kernel_rfl) (by decide) (fun K hK => ?_)
            refine goes_ Try.func35 (by kernel_rfl) rfl #[.agg #[.string tn, .string tp, .int .i64 em, .int .i64 es, .int .i64 et, .int .u8 ty, .string tk]] (by rfl) rfl rfl (by simp only [List.map_toArray, List.map_cons, List.map_nil]; rfl) ?_
            with_reducible refine (lay_at tn tp em es et ty tk LY _ HLY.out HSZ.out HFIT.out).mono ?_
            rintro e w21 ⟨rfl, hb21⟩
            refine ⟨_, rfl, ?_⟩
            have HG21 := Lib.hid (HG20.out.below hb21)
            have HR21 := Lib.hid (blk_below HR20.out hb21)
            clear hb21
            refine hK.out _ _ ⟨(blk_cell HR21.out 0).trans rfl, (blk_cell HR21.out 1).trans rfl, (blk_cell HR21.out 2).trans rfl, (blk_cell HR21.out 3).trans rfl, (blk_cell HR21.out 4).trans rfl, (blk_cell HR21.out 5).trans rfl, (blk_cell HR21.out 6).trans rfl, load_img HG21.out.im HL.out⟩ (fun hHeld => ?_)
            clear hK K
            refine norm_ (a' := ?_) ?_ ?_
            rotate_left
            · show Act.put _ (some 74) _ = _
              simp only [Act.put, List.setIfInBounds_toArray, List.set_cons_zero, List.set_cons_succ, i64_w, i32_w]
              rfl
            refine pure_ (i := 7) (N := some 76) (v := ?_) (a' := ?_) #[true, true, true, true, true, true, true, true, false] rfl rfl (by kernel_rfl) (fun _ _ _ h => h) (Or.inl ⟨by rfl, ?_⟩) ?_ ?_
            rotate_left
            · intro w'
              go_simp
              with_reducible rfl
            rotate_left
            · simp only [Act.put, List.setIfInBounds_toArray, List.set_cons_zero, List.set_cons_succ, i64_w, i32_w]
              rfl
            refine pure_ (i := 8) (N := some 77) (v := ?_) (a' := ?_) #[true, true, true, true, true, true, true, true, true] rfl rfl (by kernel_rfl) (fun _ _ _ h => h) (Or.inl ⟨by rfl, ?_⟩) ?_ ?_
            rotate_left
            · intro w'
              go_simp
              with_reducible rfl
            rotate_left
            · simp only [Act.put, List.setIfInBounds_toArray, List.set_cons_zero, List.set_cons_succ, i64_w, i32_w]
              rfl
            refine done_ (by kernel_rfl) ?_
            go_wp2_with (refine store_blk rfl TH (.tmp 2) (.tmp 78) rfl W.heap.size HZ HZ rfl rfl TH HG21.out.out (by kernel_rfl) rfl (head7_one _ _ _ _ _ _ _) ?_; go_loud (intro w10 h10 hw10; have HB10 := Lib.hid (HG21.out.bel.trans (hw10.below (Nat.le_refl _) HG21.out.bel.size)); have HH10 := Lib.hid h10; clear h10 hw10))
            (try simp only [Exit.inBlock, Exit.then])
            refine bodyPost_ret (results_row_tmp (P := Try.prog) rfl _ _ W.heap.size TH HZ (0, 0) _ (by rfl) HH10.out Try.underlying24 rfl (by kernel_rfl)) rfl ?_
            exact ⟨by rw [HV.out]; rfl, HB10.out⟩
        · have hmn : (MY != 0) = true := by simpa using hm0
          have HV := Lib.hid (restV_no HEM.out.symm HES.out.symm HET.out.symm HTN.out HTP.out HTK.out HTY.out (fun h => hm0 (hMY.trans h.1)))
          clear hMY hLY hm0
          go_wp2
          refine start_ (n := 9) (S := fun w' => w'.cell? ⟨g, 0, none⟩ = some (.string tn) ∧ w'.cell? ⟨g, 1, none⟩ = some (.string tp) ∧ w'.cell? ⟨g, 2, none⟩ = some (.int .i64 em) ∧ w'.cell? ⟨g, 3, none⟩ = some (.int .i64 es) ∧ w'.cell? ⟨g, 4, none⟩ = some (.int .i64 et) ∧ w'.cell? ⟨g, 5, none⟩ = some (.int .u8 ty) ∧ w'.cell? ⟨g, 6, none⟩ = some (.string tk) ∧ (loadVar TI ⟨W.heap.size + 1, 0, none⟩).run Try.prog w' = .ok (.agg (nums .u8 l).toArray) w') (ds := []) #[false, false, false, false, false, false, false, false, false] (by kernel_rfl) rfl rfl ⟨(blk_cell (w := wr.drew) HR0.out 0).trans rfl, (blk_cell (w := wr.drew) HR0.out 1).trans rfl, (blk_cell (w := wr.drew) HR0.out 2).trans rfl, (blk_cell (w := wr.drew) HR0.out 3).trans rfl, (blk_cell (w := wr.drew) HR0.out 4).trans rfl, (blk_cell (w := wr.drew) HR0.out 5).trans rfl, (blk_cell (w := wr.drew) HR0.out 6).trans rfl, load_img HG0.out.drew.im HL.out⟩ (fun hHeld => ?_)
          refine take_ (i := 0) (N := some 69) (v := ?_) (a' := ?_) #[true, false, false, false, false, false, false, false, false] rfl rfl (by kernel_rfl) (fun _ _ _ h => h) (Or.inl ⟨by rfl, ?_⟩) hHeld ?_ ?_
          rotate_left
          · rintro w' ⟨s0, s1, s2, s3, s4, s5, s6, s7⟩
            go_simp
            with_reducible rfl
          rotate_left
          · simp only [Act.put, List.setIfInBounds_toArray, List.set_cons_zero, List.set_cons_succ, i64_w, i32_w]
            rfl
          refine one_ (i := 1) (N := some 70) #[true, true, false, false, false, false, false, false, false] rfl rfl (by kernel_rfl) (by decide) (fun K hK => ?_)
          refine goes_ Try.func34 (by kernel_rfl) rfl #[.agg #[.string tn, .string tp, .int .i64 em, .int .i64 es, .int .i64 et, .int .u8 ty, .string tk]] (by rfl) rfl rfl (by simp only [List.map_toArray, List.map_cons, List.map_nil]; rfl) ?_
          with_reducible refine (may_at tn tp em es et ty tk MY _ HMY.out).mono ?_
          rintro e w20 ⟨rfl, hb20⟩
          refine ⟨_, rfl, ?_⟩
          have HG20 := Lib.hid (HG0.out.drew.below hb20)
          have HR20 := Lib.hid (blk_below (w := wr.drew) HR0.out hb20)
          clear hb20
          refine hK.out _ _ ⟨(blk_cell HR20.out 0).trans rfl, (blk_cell HR20.out 1).trans rfl, (blk_cell HR20.out 2).trans rfl, (blk_cell HR20.out 3).trans rfl, (blk_cell HR20.out 4).trans rfl, (blk_cell HR20.out 5).trans rfl, (blk_cell HR20.out 6).trans rfl, load_img HG20.out.im HL.out⟩ (fun hHeld => ?_)
          clear hK K
          refine norm_ (a' := ?_) ?_ ?_
          rotate_left
          · show Act.put _ (some 70) _ = _
            simp only [Act.put, List.setIfInBounds_toArray, List.set_cons_zero, List.set_cons_succ, i64_w, i32_w]
            rfl
          refine pure_ (i := 2) (N := some 71) (v := ?_) (a' := ?_) #[true, true, true, false, false, false, false, false, false] rfl rfl (by kernel_rfl) (fun _ _ _ h => h) (Or.inl ⟨by rfl, ?_⟩) ?_ ?_
          rotate_left
          · intro w'
            go_simp
            with_reducible rfl
          rotate_left
          · simp only [Act.put, List.setIfInBounds_toArray, List.set_cons_zero, List.set_cons_succ, i64_w, i32_w]
            rfl
          refine pure_ (i := 3) (N := some 72) (v := ?_) (a' := ?_) #[true, true, true, true, false, false, false, false, false] rfl rfl (by kernel_rfl) (fun _ _ _ h => h) (Or.inl ⟨by rfl, ?_⟩) ?_ ?_
          rotate_left
          · intro w'
            go_simp
            with_reducible rfl
          rotate_left
          · simp only [Act.put, List.setIfInBounds_toArray, List.set_cons_zero, List.set_cons_succ, i64_w, i32_w]
            rfl
          refine pure_ (i := 4) (N := some 73) (v := undef) (a' := ?_) #[true, true, true, true, true, false, false, false, false] rfl rfl (by kernel_rfl) (fun _ _ _ h => h) (Or.inr ⟨by rfl, rfl⟩) ?_ ?_
          rotate_left
          · simp only [Act.put, List.setIfInBounds_toArray, List.set_cons_zero, List.set_cons_succ, i64_w, i32_w]
            rfl
          refine pure_ (i := 5) (N := some 74) (v := undef) (a' := ?_) #[true, true, true, true, true, true, false, false, false] rfl rfl (by kernel_rfl) (fun _ _ _ h => h) (Or.inr ⟨by rfl, rfl⟩) ?_ ?_
          rotate_left
          · simp only [Act.put, List.setIfInBounds_toArray, List.set_cons_zero, List.set_cons_succ, i64_w, i32_w]
            rfl
          refine pure_ (i := 6) (N := some 75) (v := undef) (a' := ?_) #[true, true, true, true, true, true, true, false, false] rfl rfl (by kernel_rfl) (fun _ _ _ h => h) (Or.inr ⟨by rfl, rfl⟩) ?_ ?_
          rotate_left
          · simp only [Act.put, List.setIfInBounds_toArray, List.set_cons_zero, List.set_cons_succ, i64_w, i32_w]
            rfl
          refine pure_ (i := 7) (N := some 76) (v := undef) (a' := ?_) #[true, true, true, true, true, true, true, true, false] rfl rfl (by kernel_rfl) (fun _ _ _ h => h) (Or.inr ⟨by rfl, rfl⟩) ?_ ?_
          rotate_left
          · simp only [Act.put, List.setIfInBounds_toArray, List.set_cons_zero, List.set_cons_succ, i64_w, i32_w]
            rfl
          refine pure_ (i := 8) (N := some 77) (v := ?_) (a' := ?_) #[true, true, true, true, true, true, true, true, true] rfl rfl (by kernel_rfl) (fun _ _ _ h => h) (Or.inl ⟨by rfl, ?_⟩) ?_ ?_
          rotate_left
          · intro w'
            go_simp
            with_reducible rfl
          rotate_left
          · simp only [Act.put, List.setIfInBounds_toArray, List.set_cons_zero, List.set_cons_succ, i64_w, i32_w]
            rfl
          refine done_ (by kernel_rfl) ?_
          go_wp2_with (refine store_blk rfl TH (.tmp 2) (.tmp 78) rfl W.heap.size HZ HZ rfl rfl TH HG20.out.out (by kernel_rfl) rfl (head7_one _ _ _ _ _ _ _) ?_; go_loud (intro w10 h10 hw10; have HB10 := Lib.hid (HG20.out.bel.trans (hw10.below (Nat.le_refl _) HG20.out.bel.size)); have HH10 := Lib.hid h10; clear h10 hw10))
          (try simp only [Exit.inBlock, Exit.then])
          refine bodyPost_ret (results_row_tmp (P := Try.prog) rfl _ _ W.heap.size TH HZ (0, 0) _ (by rfl) HH10.out Try.underlying24 rfl (by kernel_rfl)) rfl ?_
          exact ⟨by rw [HV.out]; rfl, HB10.out⟩

set_option maxRecDepth 100000 in
set_option maxHeartbeats 4000000 in
theorem short (A0 : Option Addr) (c0 : Nat) (l : List Int) (W : World) (hl : l.length ≠ 512) :
    Calls Try.prog 25 #[.slice A0 l.length c0] W fun e w' => e = .returned (.tuple #[.agg HZ, .int .i64 1]) ∧ Below W.heap.size W w' := by
  have hne : ((l.length : Int) != 512) = true := by simp; omega
  clear hl
  have hu24 := Try.underlying24
  go_enter Try.func25, Try.ntmps25
  go_wp2_with (refine store_blk rfl TH (.tmp 2) (.tmp 14) rfl W.heap.size HZ HZ rfl rfl TH (blk_new W _) (by kernel_rfl) rfl (head7_one _ _ _ _ _ _ _) ?_; go_loud (intro w10 h10 hw10; have HB10 := Lib.hid (((Below.refl W.heap.size W).alloc (Nat.le_refl _) _).trans (hw10.below (Nat.le_refl _) (by simp))); have HH10 := Lib.hid h10; clear h10 hw10))
  (try simp only [Exit.inBlock, Exit.then])
  refine bodyPost_ret (results_row_tmp (P := Try.prog) rfl _ _ W.heap.size TH HZ (0, 0) _ (by rfl) HH10.out Try.underlying24 rfl (by kernel_rfl)) rfl ?_
  exact ⟨rfl, HB10.out⟩
set_option maxRecDepth 100000 in
set_option maxHeartbeats 4000000 in
theorem unmagic (A0 : Option Addr) (c0 : Nat) (l : List Int) (W : World) (h : Kd.C (Kd.int .u8) W A0 l.length l) (hc : l.length ≤ c0) (hl : l.length = 512) (hB : Bytes l) (hM : part l 257 8 ≠ MAGIC) :
    Calls Try.prog 25 #[.slice A0 l.length c0] W fun e w' => e = .returned (.tuple #[.agg HZ, .int .i64 100]) ∧ Below W.heap.size W w' := by
  have HRC := Lib.hid (RC.of_C h)
  have hz := zI
  have hu24 := Try.underlying24
  obtain ⟨a, rfl, hld⟩ := load_alloc HRC.out hl
  have HL := Lib.hid hl
  have hne' : ((512 : Int) != 512) = false := rfl
  rw [hl]
  have HLD := Lib.hid hld
  have harr := run_arrI (some a) c0
  obtain ⟨M, hMs⟩ : ∃ M, M = strOfNums (part l 257 8) := ⟨_, rfl⟩
  have hMn : M.toList ≠ ([117, 115, 116, 97, 114, 0, 48, 48] : List UInt8) := by
    have e : (strOfNums MAGIC).toList = ([117, 115, 116, 97, 114, 0, 48, 48] : List UInt8) := by decide +kernel
    have hbm : AreBytes MAGIC := by unfold AreBytes; decide
    rw [hMs, ← e]
    intro h'
    exact hM ((strOfNums_inj _ _ (mem_of_bytes (part_bytes hB 257 8)) hbm).1 h')
  have hMb : (M.toList != ([117, 115, 116, 97, 114, 0, 48, 48] : List UInt8)) = true := bne_iff_ne.mpr hMn
  have hMe : (M.toList == ([117, 115, 116, 97, 114, 0, 48, 48] : List UInt8)) = false := beq_eq_false_iff_ne.mpr hMn
  have HMS := Lib.hid hMs.symm
  have hcu0 := run_cutI (W.heap.size + 1) 257 265 (by decide) (by decide) (by decide)
  clear h hc hld hM hMs hB
  clear hl
  go_enter Try.func25, Try.ntmps25
  go_wp2_with (first
    | ((with_reducible refine gate_dst (N := 17) rfl ?_); refine wpList_load_run rfl TI (.tmp 16) rfl a _ rfl (HLD.out _) ?_)
    | (refine store_img rfl (.tmp 4) (.tmp 17) rfl (W.heap.size + 1) l Z512 rfl rfl (img_new (W.alloc (.cells HZ TH)) _ (by simp)) HL.out z_ok.1 ?_; go_loud (intro w4 hi4 hw4; have HG4 := Lib.hid (G.start hi4 hw4); have hcv := conv_at (W.heap.size + 1) 257 8 (512 - 257) l w4 hi4 (by rw [HL.out]; decide) (by decide); rw [HMS.out] at hcv; clear hi4 hw4))
    | (refine store_blk rfl TH (.tmp 2) (.tmp 21) rfl W.heap.size HZ HZ rfl rfl TH HG4.out.out (by kernel_rfl) rfl (head7_one _ _ _ _ _ _ _) ?_; go_loud (intro w10 h10 hw10; have HB10 := Lib.hid (HG4.out.bel.trans (hw10.below (Nat.le_refl _) HG4.out.bel.size)); have HH10 := Lib.hid h10; clear h10 hw10)))
  (try simp only [Exit.inBlock, Exit.then])
  refine bodyPost_ret (results_row_tmp (P := Try.prog) rfl _ _ W.heap.size TH HZ (0, 0) _ (by rfl) HH10.out Try.underlying24 rfl (by kernel_rfl)) rfl ?_
  exact ⟨rfl, HB10.out⟩
set_option maxRecDepth 100000 in
set_option maxHeartbeats 4000000 in
theorem unsealed (A0 : Option Addr) (c0 : Nat) (l : List Int) (W : World) (h : Kd.C (Kd.int .u8) W A0 l.length l) (hc : l.length ≤ c0) (hl : l.length = 512) (hB : Bytes l) (hM : part l 257 8 = MAGIC) (hS : sealS l ≠ l) :
    Calls Try.prog 25 #[.slice A0 l.length c0] W fun e w' => e = .returned (.tuple #[.agg HZ, .int .i64 101]) ∧ Below W.heap.size W w' := by
  have HRC := Lib.hid (RC.of_C h)
  have hz := zI
  have hu24 := Try.underlying24
  obtain ⟨a, rfl, hld⟩ := load_alloc HRC.out hl
  have HL := Lib.hid hl
  have HB := Lib.hid hB
  have hne' : ((512 : Int) != 512) = false := rfl
  obtain ⟨SE, hSE⟩ : ∃ SE, SE = sealS l := ⟨_, rfl⟩
  have hSL : SE.length = 512 := by rw [hSE]; exact (seal_ok ⟨hl, hB⟩).1
  have hqq : ∀ w, (binOp .neq TI (.agg (nums .u8 SE).toArray) (.agg (nums .u8 l).toArray)).run Try.prog w = .ok (.bool true) w := fun w => by rw [run_neqI w SE l hSL hl, show (SE != l) = true by rw [hSE]; simpa using hS]
  rw [hl]
  have HLD := Lib.hid hld
  have harr := run_arrI (some a) c0
  have hMs : strOfNums (part l 257 8) = ⟨#[117, 115, 116, 97, 114, 0, 48, 48]⟩ := by rw [hM]; decide
  have HMS := Lib.hid hMs
  have HSL := Lib.hid hSE
  have HSN := Lib.hid hSL
  have hcu0 := run_cutI (W.heap.size + 1) 257 265 (by decide) (by decide) (by decide)
  clear h hc hld hM hMs hS hB hSE hSL
  clear hl
  go_enter Try.func25, Try.ntmps25
  go_wp2_with (first
    | ((with_reducible refine gate_dst (N := 17) rfl ?_); refine wpList_load_run rfl TI (.tmp 16) rfl a _ rfl (HLD.out _) ?_)
    | (refine store_img rfl (.tmp 4) (.tmp 17) rfl (W.heap.size + 1) l Z512 rfl rfl (img_new (W.alloc (.cells HZ TH)) _ (by simp)) HL.out z_ok.1 ?_; go_loud (intro w4 hi4 hw4; have HG4 := Lib.hid (G.start hi4 hw4); have hcv := conv_at (W.heap.size + 1) 257 8 (512 - 257) l w4 hi4 (by rw [HL.out]; decide) (by decide); rw [HMS.out] at hcv; clear hi4 hw4))
    | ((with_reducible refine gate_dst (N := 22) rfl ?_); refine wpList_load_run rfl TI (.tmp 4) rfl ⟨W.heap.size + 1, 0, none⟩ _ rfl (load_img HG4.out.im HL.out) ?_)
    | (refine store_img rfl (.tmp 5) (.tmp 22) rfl w4.heap.size l Z512 rfl rfl (img_new w4 _ rfl) HL.out z_ok.1 ?_; go_loud (intro w6 hi6 hw6; have HG6 := Lib.hid ((HG4.out.alloc _).wrote hw6 HG4.out.lt); have HI6 := Lib.hid hi6; clear hi6 hw6))
    | (go_at_call 32; go_loud ((with_reducible refine (seal_gen w4.heap.size l SE w6 HSL.out HB.out HL.out HI6.out).mono ?_); rintro e w7 ⟨rfl, hi7, hw7⟩; have HG7 := Lib.hid (HG6.out.wrote hw7 HG4.out.lt); have HI7 := Lib.hid hi7; clear hi7 hw7))
    | ((with_reducible refine gate_dst (N := 24) rfl ?_); refine wpList_load_run rfl TI (.tmp 5) rfl ⟨w4.heap.size, 0, none⟩ _ rfl (load_img HI7.out HSN.out) ?_)
    | ((with_reducible refine gate_dst (N := 25) rfl ?_); refine wpList_load_run rfl TI (.tmp 4) rfl ⟨W.heap.size + 1, 0, none⟩ _ rfl (load_img HG7.out.im HL.out) ?_)
    | (refine store_blk rfl TH (.tmp 2) (.tmp 27) rfl W.heap.size HZ HZ rfl rfl TH HG7.out.out (by kernel_rfl) rfl (head7_one _ _ _ _ _ _ _) ?_; go_loud (intro w10 h10 hw10; have HB10 := Lib.hid (HG7.out.bel.trans (hw10.below (Nat.le_refl _) HG7.out.bel.size)); have HH10 := Lib.hid h10; clear h10 hw10)))
  (try simp only [Exit.inBlock, Exit.then])
  refine bodyPost_ret (results_row_tmp (P := Try.prog) rfl _ _ W.heap.size TH HZ (0, 0) _ (by rfl) HH10.out Try.underlying24 rfl (by kernel_rfl)) rfl ?_
  exact ⟨rfl, HB10.out⟩
end Go.Proofs.Ytdmpbfhbjklajaa.HGet
end

/- Get: its answer in one word. -/
section
namespace Go.Proofs.Ytdmpbfhbjklajaa.HGetC
open Go.Proofs.Ytdmpbfhbjklajaa Go.RowKit Go.Proofs.YtdmpbfhbjklajaaW.PrintWords Go.Proofs.YtdmpbfhbjklajaaW.PrintLast Go.Proofs.YtdmpbfhbjklajaaW.PrintMore Go.Proofs.Ytdmpbfhbjklajaa.Byt Go.Proofs.Ytdmpbfhbjklajaa.OctPure Go.Proofs.Ytdmpbfhbjklajaa.Img Go.Proofs.Ytdmpbfhbjklajaa.Head Go.Proofs.Ytdmpbfhbjklajaa.HeadPut Go.Proofs.Ytdmpbfhbjklajaa.HeadSums Go.Proofs.Ytdmpbfhbjklajaa.HText Go.Proofs.Ytdmpbfhbjklajaa.HGet
set_option linter.unusedVariables false
set_option linter.unusedSimpArgs false
/-- What Get answers. -/
def getF (l : List Int) : Option (ByteArray × ByteArray × Int × Int × Int × Int × ByteArray × Int) :=
  if AreB l then some (
    if l.length = 512 then
      (if HGet.part l 257 8 = MAGIC then
        (if sealS l = l then
          (if (exactS (HGet.part l 100 8)).2 = 0 ∧ (exactS (HGet.part l 124 12)).2 = 0 ∧ (exactS (HGet.part l 136 12)).2 = 0 then
            (if mayS (firstS (HGet.part l 0 100)) (firstS (HGet.part l 345 155)) (exactS (HGet.part l 100 8)).1 (exactS (HGet.part l 124 12)).1 (exactS (HGet.part l 136 12)).1 (bn l 156) (firstS (HGet.part l 157 100)) = 0 ∧ layS (firstS (HGet.part l 0 100)) (firstS (HGet.part l 345 155)) (exactS (HGet.part l 100 8)).1 (exactS (HGet.part l 124 12)).1 (exactS (HGet.part l 136 12)).1 (bn l 156) (firstS (HGet.part l 157 100)) = l then
              (firstS (HGet.part l 0 100), firstS (HGet.part l 345 155), (exactS (HGet.part l 100 8)).1, (exactS (HGet.part l 124 12)).1, (exactS (HGet.part l 136 12)).1, bn l 156, firstS (HGet.part l 157 100), 0)
            else (⟨#[]⟩, ⟨#[]⟩, 0, 0, 0, 0, ⟨#[]⟩, 100))
          else (⟨#[]⟩, ⟨#[]⟩, 0, 0, 0, 0, ⟨#[]⟩, 100))
        else (⟨#[]⟩, ⟨#[]⟩, 0, 0, 0, 0, ⟨#[]⟩, 101))
      else (⟨#[]⟩, ⟨#[]⟩, 0, 0, 0, 0, ⟨#[]⟩, 100))
    else (⟨#[]⟩, ⟨#[]⟩, 0, 0, 0, 0, ⟨#[]⟩, 1)) else none
theorem get_calls (A0 : Option Addr) (c0 : Nat) (l0 : List Int) (r1 r2 : ByteArray) (r3 r4 r5 r6 : Int) (r7 : ByteArray) (r8 : Int) (w : World) (hr0 : Kd.C (Kd.int .u8) w A0 l0.length l0) (hc0 : l0.length ≤ c0) (h : getF l0 = some (r1, r2, r3, r4, r5, r6, r7, r8)) :
    Calls Try.prog 25 #[.slice A0 l0.length c0] w fun e w' => e = .returned (.tuple #[.agg #[.string r1, .string r2, .int .i64 r3, .int .i64 r4, .int .i64 r5, .int .u8 r6, .string r7], .int .i64 r8]) ∧ Below w.heap.size w w' := by
  unfold getF at h
  by_cases hB : AreB l0
  · rw [if_pos hB] at h
    have h := Option.some.inj h
    by_cases hl : l0.length = 512
    · rw [if_pos hl] at h
      by_cases hM : HGet.part l0 257 8 = MAGIC
      · rw [if_pos hM] at h
        by_cases hS : sealS l0 = l0
        · rw [if_pos hS] at h
          refine (main A0 c0 l0 w hr0 hc0 hl (bytes_of_mem hB) hM hS).mono fun e w' ⟨he, hb⟩ => ⟨he.trans ?_, hb⟩
          refine congrArg Ending.returned ?_
          unfold restV
          clear hM hS hl hb he
          generalize exactS (HGet.part l0 100 8) = x1 at h ⊢
          generalize exactS (HGet.part l0 124 12) = x2 at h ⊢
          generalize exactS (HGet.part l0 136 12) = x3 at h ⊢
          generalize firstS (HGet.part l0 0 100) = t1 at h ⊢
          generalize firstS (HGet.part l0 345 155) = t2 at h ⊢
          generalize firstS (HGet.part l0 157 100) = t3 at h ⊢
          generalize bn l0 156 = y at h ⊢
          generalize hLL : layS t1 t2 x1.1 x2.1 x3.1 y t3 = LL at h ⊢
          generalize hMM : mayS t1 t2 x1.1 x2.1 x3.1 y t3 = MM at h ⊢
          by_cases h1 : x1.2 = 0 ∧ x2.2 = 0 ∧ x3.2 = 0
          · rw [if_pos h1] at h ⊢
            by_cases h2 : MM = 0 ∧ LL = l0
            · rw [if_pos h2] at h ⊢
              simp only [Prod.mk.injEq] at h
              obtain ⟨rfl, rfl, rfl, rfl, rfl, rfl, rfl, rfl⟩ := h
              rfl
            · rw [if_neg h2] at h ⊢
              simp only [Prod.mk.injEq] at h
              obtain ⟨rfl, rfl, rfl, rfl, rfl, rfl, rfl, rfl⟩ := h
              rfl
          · rw [if_neg h1] at h ⊢
            simp only [Prod.mk.injEq] at h
            obtain ⟨rfl, rfl, rfl, rfl, rfl, rfl, rfl, rfl⟩ := h
            rfl
        · rw [if_neg hS] at h
          simp only [Prod.mk.injEq] at h
          obtain ⟨rfl, rfl, rfl, rfl, rfl, rfl, rfl, rfl⟩ := h
          exact unsealed A0 c0 l0 w hr0 hc0 hl (bytes_of_mem hB) hM hS
      · rw [if_neg hM] at h
        simp only [Prod.mk.injEq] at h
        obtain ⟨rfl, rfl, rfl, rfl, rfl, rfl, rfl, rfl⟩ := h
        exact unmagic A0 c0 l0 w hr0 hc0 hl (bytes_of_mem hB) hM
    · rw [if_neg hl] at h
      simp only [Prod.mk.injEq] at h
      obtain ⟨rfl, rfl, rfl, rfl, rfl, rfl, rfl, rfl⟩ := h
      exact short A0 c0 l0 w hl
  · rw [if_neg hB] at h; cases h
end Go.Proofs.Ytdmpbfhbjklajaa.HGetC
end

/- A head's bytes, in plain words: there and back; a byte that is another is seen; what is sealed. -/
section
namespace Go.Proofs.Ytdmpbfhbjklajaa.HeadLaw
open Go.Proofs.Ytdmpbfhbjklajaa Go.RowKit Go.Proofs.YtdmpbfhbjklajaaW.PrintWords Go.Proofs.YtdmpbfhbjklajaaW.PrintLast Go.Proofs.YtdmpbfhbjklajaaW.PrintMore Go.Proofs.Ytdmpbfhbjklajaa.Byt Go.Proofs.Ytdmpbfhbjklajaa.OctPure Go.Proofs.Ytdmpbfhbjklajaa.Img Go.Proofs.Ytdmpbfhbjklajaa.Head Go.Proofs.Ytdmpbfhbjklajaa.HeadPut Go.Proofs.Ytdmpbfhbjklajaa.HeadSums Go.Proofs.Ytdmpbfhbjklajaa.HText Go.Proofs.Ytdmpbfhbjklajaa.RefLay Go.Proofs.Ytdmpbfhbjklajaa.HeadPure Go.Proofs.Ytdmpbfhbjklajaa.HGetC
set_option linter.unusedVariables false
set_option linter.unusedSimpArgs false

theorem part_mid (a b c : List Int) {o n : Nat} (ha : a.length = o) (hb : b.length = n) : HGet.part (a ++ (b ++ c)) o n = b := by
  subst ha hb
  unfold HGet.part
  rw [List.drop_left, List.take_left]
theorem str_bytes (s : ByteArray) : strOfNums (bytesOf s) = s := by
  apply ba_ext
  rw [strOfNums_list]
  unfold bytesOf
  rw [List.map_map]
  conv => rhs; rw [← List.map_id s.data.toList]
  refine List.map_congr_left fun b _ => ?_
  simp
theorem first_tx {s : ByteArray} {wd : Nat} (h : (0 : UInt8) ∉ s.data.toList) : firstS (tx s wd) = s := by
  unfold firstS tx
  rw [List.takeWhile_append_of_pos]
  · rw [show (List.replicate (wd - s.size) (0 : Int)).takeWhile (fun x => decide (x ≠ 0)) = [] by cases (wd - s.size) <;> simp [List.replicate_succ], List.append_nil, str_bytes]
  · intro x hx
    unfold bytesOf at hx
    obtain ⟨b, hb, rfl⟩ := List.mem_map.1 hx
    refine decide_eq_true fun e => h ?_
    have : b = 0 := by
      apply UInt8.toNat_inj.1
      have : (b.toNat : Int) = 0 := e
      simpa using this
    rw [← this]; exact hb
theorem bn_append_left {a b : List Int} {j : Nat} (h : j < a.length) : bn (a ++ b) j = bn a j := by
  rw [bn_getD, bn_getD, List.getD_eq_getElem?_getD, List.getD_eq_getElem?_getD, List.getElem?_append_left h]
theorem bn_append_right {a b : List Int} {j : Nat} (h : a.length ≤ j) : bn (a ++ b) j = bn b (j - a.length) := by
  rw [bn_getD, bn_getD, List.getD_eq_getElem?_getD, List.getD_eq_getElem?_getD, List.getElem?_append_right h]
/-- What is sealed: what stands ahead, the sum, a blank, what stands behind. -/
theorem seal_parts (B : List Int) (hl : B.length = 512) (hB : Bytes B) : (sealS B).take 148 = B.take 148 ∧ (sealS B).drop 156 = B.drop 156 ∧ HGet.part (sealS B) 148 7 = (putS (sumS B 512) 7).1 ∧ ∀ j, ¬ (148 ≤ j ∧ j < 156) → bn (sealS B) j = bn B j := by
  have hr := sumS_range hB 512
  have h7 := (put7 (sumS B 512) (by omega) (by omega)).1
  rw [seal_list B hl hB]
  generalize (putS (sumS B 512) 7).1 = m at h7 ⊢
  have h1 : (B.take 148).length = 148 := by rw [List.length_take]; omega
  have e : B.take 148 ++ m ++ [32] ++ B.drop 156 = B.take 148 ++ (m ++ ([32] ++ B.drop 156)) := by simp only [List.append_assoc]
  have e2 : B.take 148 ++ m ++ [32] ++ B.drop 156 = (B.take 148 ++ m ++ [32]) ++ B.drop 156 := rfl
  have h3 : (B.take 148 ++ m ++ [32]).length = 156 := by simp only [List.length_append, h1, h7, List.length_cons, List.length_nil]
  refine ⟨?_, ?_, ?_, ?_⟩
  · rw [e]; exact List.take_left' h1
  · rw [e2]; exact List.drop_left' h3
  · rw [e]; exact part_mid _ _ _ h1 h7
  · intro j hj
    by_cases h : j < 148
    · rw [e, bn_append_left (by omega), bn_take B 148 j h]
    · rw [e2, bn_append_right (by omega), h3, bn_drop, show 156 + (j - 156) = j by omega]
theorem sum_congr {l l' : List Int} (h : ∀ j, ¬ (148 ≤ j ∧ j < 156) → bn l j = bn l' j) : ∀ k, sumS l k = sumS l' k
  | 0 => rfl
  | k + 1 => by
    have := sum_congr h k
    by_cases hk : 148 ≤ k ∧ k < 156
    · rw [sumS_in hk, sumS_in hk, this]
    · rw [sumS_out hk, sumS_out hk, this, h k hk]
theorem sum_seal (B : List Int) (hl : B.length = 512) (hB : Bytes B) : sumS (sealS B) 512 = sumS B 512 := sum_congr (seal_parts B hl hB).2.2.2 512
/-- What is alike but for the sum's place is sealed the same. -/
theorem seal_congr (A B : List Int) (hA : A.length = 512 ∧ Bytes A) (hB : B.length = 512 ∧ Bytes B) (h1 : A.take 148 = B.take 148) (h2 : A.drop 156 = B.drop 156) (h3 : sumS A 512 = sumS B 512) : sealS A = sealS B := by
  rw [seal_list A hA.1 hA.2, seal_list B hB.1 hB.2, h1, h2, h3]
theorem seal_seal (B : List Int) (hl : B.length = 512) (hB : Bytes B) : sealS (sealS B) = sealS B := by
  have hp := seal_parts B hl hB
  exact seal_congr _ _ (seal_ok ⟨hl, hB⟩) ⟨hl, hB⟩ hp.1 hp.2.1 (sum_seal B hl hB)
theorem bn_set (l : List Int) (i : Nat) (c : Int) (j : Nat) : bn (l.set i c) j = if i = j ∧ i < l.length then c else bn l j := by
  rw [bn_getD, bn_getD, List.getD_eq_getElem?_getD, List.getD_eq_getElem?_getD, List.getElem?_set]
  by_cases h : i = j
  · subst h
    by_cases h2 : i < l.length
    · rw [if_pos rfl, if_pos h2, if_pos ⟨rfl, h2⟩]; rfl
    · rw [if_pos rfl, if_neg h2, if_neg (by simp [h2]), List.getElem?_eq_none (by omega)]
  · rw [if_neg h, if_neg (by simp [h])]
theorem sum_set (l : List Int) (i : Nat) (c : Int) (hi : i < l.length) (ho : ¬ (148 ≤ i ∧ i < 156)) : ∀ k, sumS (l.set i c) k = sumS l k + if i < k then c - bn l i else 0
  | 0 => by simp [sumS]
  | k + 1 => by
    have := sum_set l i c hi ho k
    by_cases hk : 148 ≤ k ∧ k < 156
    · rw [sumS_in hk, sumS_in hk, this]
      have : k ≠ i := fun e => ho (by omega)
      by_cases h : i < k
      · rw [if_pos h, if_pos (by omega)]; omega
      · rw [if_neg h, if_neg (by omega)]; omega
    · rw [sumS_out hk, sumS_out hk, this, bn_set]
      by_cases h : i < k
      · rw [if_pos h, if_neg (by omega), if_pos (show i < k + 1 by omega)]; omega
      · by_cases h2 : i = k
        · subst h2; rw [if_neg h, if_pos ⟨rfl, hi⟩, if_pos (show i < i + 1 by omega)]; omega
        · rw [if_neg h, if_neg (by omega), if_neg (show ¬ i < k + 1 by omega)]; omega
theorem put7_inj {a b : Int} (ha : 0 ≤ a ∧ a ≤ 130560) (hb : 0 ≤ b ∧ b ≤ 130560) (h : (putS a 7).1 = (putS b 7).1) : a = b := by
  have h1 := exact_put a 7 (by omega) (put7 a ha.1 ha.2).2
  have h2 := exact_put b 7 (by omega) (put7 b hb.1 hb.2).2
  rw [h, h2] at h1
  exact (Prod.ext_iff.1 h1).1.symm
theorem set_bytes {l : List Int} (h : l.length = 512 ∧ Bytes l) (i : Nat) {c : Int} (hc : 0 ≤ c ∧ c ≤ 255) : (l.set i c).length = 512 ∧ Bytes (l.set i c) := set_ok hc h
/-- A byte of what is sealed that is another: it is sealed no more. -/
theorem unsealed_set (L : List Int) (hL : L.length = 512 ∧ Bytes L) (hS : sealS L = L) (i : Nat) (hi : i < 512) (c : Int) (hc : 0 ≤ c ∧ c ≤ 255) (hn : bn L i ≠ c) : sealS (L.set i c) ≠ L.set i c := by
  intro h
  have hL' := set_bytes hL i hc
  have hr := sumS_range hL.2 512
  have hr' := sumS_range hL'.2 512
  have p1 := seal_parts L hL.1 hL.2
  have p2 := seal_parts _ hL'.1 hL'.2
  by_cases hin : 148 ≤ i ∧ i < 156
  · have hs : sumS (L.set i c) 512 = sumS L 512 := sum_congr (fun j hj => by rw [bn_set, if_neg (by omega)]) 512
    have : sealS (L.set i c) = sealS L := seal_congr _ _ hL' hL (by rw [List.take_set_of_le hin.1]) (by rw [List.drop_set_of_lt hin.2]) hs
    rw [h, hS] at this
    have := congrArg (fun l => bn l i) this
    simp only [bn_set] at this
    rw [if_pos ⟨trivial, by omega⟩] at this
    exact hn this.symm
  · have e1 : HGet.part (L.set i c) 148 7 = HGet.part L 148 7 := by
      unfold HGet.part
      by_cases h1 : i < 148
      · rw [List.drop_set_of_lt h1]
      · apply List.ext_getElem?
        intro j
        simp only [List.getElem?_take, List.getElem?_drop, List.getElem?_set]
        by_cases hj : j < 7
        · rw [if_pos hj, if_pos hj, if_neg (by omega)]
        · rw [if_neg hj, if_neg hj]
    have e2 : (putS (sumS (L.set i c) 512) 7).1 = (putS (sumS L 512) 7).1 := by rw [← p2.2.2.1, ← p1.2.2.1, h, hS, e1]
    have e3 := put7_inj ⟨hr'.1, by omega⟩ ⟨hr.1, by omega⟩ e2
    rw [sum_set L i c (by omega) hin, if_pos hi] at e3
    exact hn (by omega)
/-- Two bytes changed about: the same sum. -/
theorem sum_swap (L : List Int) (hL : L.length = 512) (i k : Nat) (hi : i < 512) (hk : k < 512) (oi : ¬ (148 ≤ i ∧ i < 156)) (ok : ¬ (148 ≤ k ∧ k < 156)) : sumS ((L.set i (bn L k)).set k (bn L i)) 512 = sumS L 512 := by
  rw [sum_set _ k _ (by rw [List.length_set]; omega) ok, sum_set L i _ (by omega) oi, if_pos hi, if_pos hk, bn_set]
  by_cases h : i = k
  · subst h; rw [if_pos ⟨rfl, by omega⟩]; omega
  · rw [if_neg (by omega)]; omega

/-- The list of a head that may be. -/
theorem lay_list (n p : ByteArray) (m s t y : Int) (k : ByteArray) (hy : 0 ≤ y ∧ y ≤ 255) (h : mayS n p m s t y k = 0) :
    sealS (layS n p m s t y k) = layS n p m s t y k ∧ (layS n p m s t y k).length = 512 ∧ Bytes (layS n p m s t y k) ∧
    HGet.part (layS n p m s t y k) 0 100 = tx n 100 ∧ HGet.part (layS n p m s t y k) 100 8 = (putS m 8).1 ∧ HGet.part (layS n p m s t y k) 124 12 = (putS s 12).1 ∧ HGet.part (layS n p m s t y k) 136 12 = (putS t 12).1 ∧
    bn (layS n p m s t y k) 156 = y ∧ HGet.part (layS n p m s t y k) 157 100 = tx k 100 ∧ HGet.part (layS n p m s t y k) 257 8 = MAGIC ∧ HGet.part (layS n p m s t y k) 345 155 = tx p 155 := by
  obtain ⟨h1, h2, h3⟩ := may_sizes h
  obtain ⟨hm, hs, ht⟩ := may_zero h
  have hb := body_ok n p m s t y k hy
  have hok := seal_ok hb
  have hp := seal_parts _ hb.1 hb.2
  have hss := seal_seal _ hb.1 hb.2
  have hlist := seal_list _ hb.1 hb.2
  have hr := sumS_range hb.2 512
  have h7 := (put7 (sumS (bodyS n p m s t y k) 512) (by omega) (by omega)).1
  refine ⟨hss, hok.1, hok.2, ?_⟩
  unfold layS
  rw [hlist]
  generalize (putS (sumS (bodyS n p m s t y k) 512) 7).1 = P7 at h7 ⊢
  clear hlist hss hp hok hr
  rw [body_eq n p m s t y k h1 h3 h2 hm hs ht]
  clear hb
  have m8 := len8 m hm.1 (by omega)
  have z8 := len8 0 (by decide) (by decide)
  have s12 := len12 s hs.1 (by omega)
  have t12 := len12 t ht.1 ht.2
  have tn := tx_len h1
  have tk := tx_len h2
  have tp := tx_len h3
  unfold rbodyS
  generalize (putS m 8).1 = M at m8 ⊢
  generalize (putS 0 8).1 = O at z8 ⊢
  generalize (putS s 12).1 = S at s12 ⊢
  generalize (putS t 12).1 = T at t12 ⊢
  generalize tx n 100 = N at tn ⊢
  generalize tx k 100 = K at tk ⊢
  generalize tx p 155 = P at tp ⊢
  have e8 : (tx (⟨#[]⟩ : ByteArray) 8).length = 8 := tx_len (by decide)
  have e64 : (tx (⟨#[]⟩ : ByteArray) 64).length = 64 := tx_len (by decide)
  rw [ustar]
  have eM : MAGIC.length = 8 := rfl
  generalize tx (⟨#[]⟩ : ByteArray) 8 = E8 at e8 ⊢
  generalize tx (⟨#[]⟩ : ByteArray) 64 = E64 at e64 ⊢
  generalize tx (⟨#[]⟩ : ByteArray) 12 = E12
  generalize MAGIC = MG at eM ⊢
  have hR : ((((((((((((((([] ++ N) ++ M) ++ O) ++ O) ++ S) ++ T) ++ E8) ++ [y]) ++ K) ++ MG) ++ E64) ++ O) ++ O) ++ P) ++ E12) = (N ++ M ++ O ++ O ++ S ++ T) ++ (E8 ++ ([y] ++ K ++ MG ++ E64 ++ O ++ O ++ P ++ E12)) := by simp only [List.append_assoc, List.nil_append]
  rw [hR]
  have hA : (N ++ M ++ O ++ O ++ S ++ T).length = 148 := by simp only [List.length_append, tn, m8, z8, s12, t12]
  rw [List.take_left' hA, show (156 : Nat) = 148 + 8 from rfl, ← List.drop_drop, List.drop_left' hA, List.drop_left' e8]
  refine ⟨?_, ?_, ?_, ?_, ?_, ?_, ?_, ?_⟩
  · rw [show (N ++ M ++ O ++ O ++ S ++ T) ++ P7 ++ [32] ++ ([y] ++ K ++ MG ++ E64 ++ O ++ O ++ P ++ E12) = [] ++ (N ++ (M ++ O ++ O ++ S ++ T ++ P7 ++ [32] ++ ([y] ++ K ++ MG ++ E64 ++ O ++ O ++ P ++ E12))) by simp only [List.append_assoc, List.nil_append]]
    exact part_mid _ _ _ rfl tn
  · rw [show (N ++ M ++ O ++ O ++ S ++ T) ++ P7 ++ [32] ++ ([y] ++ K ++ MG ++ E64 ++ O ++ O ++ P ++ E12) = N ++ (M ++ (O ++ O ++ S ++ T ++ P7 ++ [32] ++ ([y] ++ K ++ MG ++ E64 ++ O ++ O ++ P ++ E12))) by simp only [List.append_assoc]]
    exact part_mid _ _ _ tn m8
  · rw [show (N ++ M ++ O ++ O ++ S ++ T) ++ P7 ++ [32] ++ ([y] ++ K ++ MG ++ E64 ++ O ++ O ++ P ++ E12) = (N ++ M ++ O ++ O) ++ (S ++ (T ++ P7 ++ [32] ++ ([y] ++ K ++ MG ++ E64 ++ O ++ O ++ P ++ E12))) by simp only [List.append_assoc]]
    exact part_mid _ _ _ (by simp only [List.length_append, tn, m8, z8]) s12
  · rw [show (N ++ M ++ O ++ O ++ S ++ T) ++ P7 ++ [32] ++ ([y] ++ K ++ MG ++ E64 ++ O ++ O ++ P ++ E12) = (N ++ M ++ O ++ O ++ S) ++ (T ++ (P7 ++ [32] ++ ([y] ++ K ++ MG ++ E64 ++ O ++ O ++ P ++ E12))) by simp only [List.append_assoc]]
    exact part_mid _ _ _ (by simp only [List.length_append, tn, m8, z8, s12]) t12
  · rw [show (N ++ M ++ O ++ O ++ S ++ T) ++ P7 ++ [32] ++ ([y] ++ K ++ MG ++ E64 ++ O ++ O ++ P ++ E12) = (N ++ M ++ O ++ O ++ S ++ T ++ P7 ++ [32]) ++ (y :: (K ++ MG ++ E64 ++ O ++ O ++ P ++ E12)) by simp only [List.append_assoc, List.cons_append, List.nil_append]]
    have h0 : (N ++ M ++ O ++ O ++ S ++ T ++ P7 ++ [32]).length = 156 := by simp only [List.length_append, tn, m8, z8, s12, t12, h7, List.length_cons, List.length_nil]
    rw [bn_append_right (by omega), h0]
    rfl
  · rw [show (N ++ M ++ O ++ O ++ S ++ T) ++ P7 ++ [32] ++ ([y] ++ K ++ MG ++ E64 ++ O ++ O ++ P ++ E12) = (N ++ M ++ O ++ O ++ S ++ T ++ P7 ++ [32] ++ [y]) ++ (K ++ (MG ++ E64 ++ O ++ O ++ P ++ E12)) by simp only [List.append_assoc]]
    exact part_mid _ _ _ (by simp only [List.length_append, tn, m8, z8, s12, t12, h7, List.length_cons, List.length_nil]) tk
  · rw [show (N ++ M ++ O ++ O ++ S ++ T) ++ P7 ++ [32] ++ ([y] ++ K ++ MG ++ E64 ++ O ++ O ++ P ++ E12) = (N ++ M ++ O ++ O ++ S ++ T ++ P7 ++ [32] ++ [y] ++ K) ++ (MG ++ (E64 ++ O ++ O ++ P ++ E12)) by simp only [List.append_assoc]]
    exact part_mid _ _ _ (by simp only [List.length_append, tn, m8, z8, s12, t12, h7, tk, List.length_cons, List.length_nil]) eM
  · rw [show (N ++ M ++ O ++ O ++ S ++ T) ++ P7 ++ [32] ++ ([y] ++ K ++ MG ++ E64 ++ O ++ O ++ P ++ E12) = (N ++ M ++ O ++ O ++ S ++ T ++ P7 ++ [32] ++ [y] ++ K ++ MG ++ E64 ++ O ++ O) ++ (P ++ E12) by simp only [List.append_assoc]]
    exact part_mid _ _ _ (by simp only [List.length_append, tn, m8, z8, s12, t12, h7, tk, eM, e64, List.length_cons, List.length_nil]) tp
theorem may_nul {n p : ByteArray} {m s t y : Int} {k : ByteArray} (h : mayS n p m s t y k = 0) : (0 : UInt8) ∉ n.data.toList ∧ (0 : UInt8) ∉ k.data.toList ∧ (0 : UInt8) ∉ p.data.toList := by
  have hn : ¬ 0 ≤ nulAt n p k := by
    unfold mayS at h
    split at h
    · split at h
      · cases h
      · split at h
        · cases h
        · assumption
    · cases h
  rw [nul_iff] at hn
  exact ⟨fun h => hn (.inl h), fun h => hn (.inr (.inl h)), fun h => hn (.inr (.inr h))⟩
/-- THERE AND BACK. -/
theorem get_lay (n p : ByteArray) (m s t y : Int) (k : ByteArray) (hy : 0 ≤ y ∧ y ≤ 255) (h : mayS n p m s t y k = 0) : getF (layS n p m s t y k) = some (n, p, m, s, t, y, k, 0) := by
  obtain ⟨q0, q1, q2, q3, q4, q5, q6, q7, q8, q9, q10⟩ := lay_list n p m s t y k hy h
  obtain ⟨n1, n2, n3⟩ := may_nul h
  obtain ⟨hm, hs, ht⟩ := may_zero h
  have h8 := exact_put m 8 (by omega) (ok8 m hm.1 (by omega))
  have h9 := exact_put s 12 (by omega) (ok12 s hs.1 (by omega))
  have h10 := exact_put t 12 (by omega) (ok12 t ht.1 ht.2)
  unfold getF
  rw [if_pos (show AreB _ from mem_of_bytes q2), if_pos q1, if_pos q9, if_pos q0, q3, q4, q5, q6, q7, q8, q10, first_tx n1, first_tx n2, first_tx n3, h8, h9, h10, if_pos ⟨rfl, rfl, rfl⟩, if_pos ⟨h, rfl⟩]
/-- AND BACK AGAIN. -/
theorem put_get {l : List Int} {n p : ByteArray} {m s t y : Int} {k : ByteArray} {e : Int} (h : getF l = some (n, p, m, s, t, y, k, e)) :
    (e = 0 → putF n p m s t y k = some (l, 0)) ∧ (e ≠ 0 → n = ⟨#[]⟩ ∧ p = ⟨#[]⟩ ∧ m = 0 ∧ s = 0 ∧ t = 0 ∧ y = 0 ∧ k = ⟨#[]⟩) := by
  unfold getF at h
  split at h
  · rename_i hB
    have h := Option.some.inj h
    split at h
    · split at h
      · split at h
        · split at h
          · split at h
            · rename_i h1 h2 h3 h4 h5
              simp only [Prod.mk.injEq] at h
              obtain ⟨rfl, rfl, rfl, rfl, rfl, rfl, rfl, rfl⟩ := h
              refine ⟨fun _ => ?_, fun h => absurd rfl h⟩
              obtain ⟨hm, hs, ht⟩ := may_zero h5.1
              unfold putF
              have hy := bytes_of_mem hB 156
              rw [if_pos ⟨hy, by omega, by omega, by omega⟩, if_pos h5.1, h5.2]
            · simp only [Prod.mk.injEq] at h
              obtain ⟨rfl, rfl, rfl, rfl, rfl, rfl, rfl, rfl⟩ := h
              exact ⟨fun h => absurd h (by decide), fun _ => ⟨rfl, rfl, rfl, rfl, rfl, rfl, rfl⟩⟩
          · simp only [Prod.mk.injEq] at h
            obtain ⟨rfl, rfl, rfl, rfl, rfl, rfl, rfl, rfl⟩ := h
            exact ⟨fun h => absurd h (by decide), fun _ => ⟨rfl, rfl, rfl, rfl, rfl, rfl, rfl⟩⟩
        · simp only [Prod.mk.injEq] at h
          obtain ⟨rfl, rfl, rfl, rfl, rfl, rfl, rfl, rfl⟩ := h
          exact ⟨fun h => absurd h (by decide), fun _ => ⟨rfl, rfl, rfl, rfl, rfl, rfl, rfl⟩⟩
      · simp only [Prod.mk.injEq] at h
        obtain ⟨rfl, rfl, rfl, rfl, rfl, rfl, rfl, rfl⟩ := h
        exact ⟨fun h => absurd h (by decide), fun _ => ⟨rfl, rfl, rfl, rfl, rfl, rfl, rfl⟩⟩
    · simp only [Prod.mk.injEq] at h
      obtain ⟨rfl, rfl, rfl, rfl, rfl, rfl, rfl, rfl⟩ := h
      exact ⟨fun h => absurd h (by decide), fun _ => ⟨rfl, rfl, rfl, rfl, rfl, rfl, rfl⟩⟩
  · cases h
/-- A head's byte that is another is seen. -/
theorem get_set (L : List Int) (hL : L.length = 512 ∧ Bytes L) (hS : sealS L = L) (i : Nat) (hi : i < 512) (c : Int) (hc : 0 ≤ c ∧ c ≤ 255) (hn : bn L i ≠ c) :
    ∃ e : Int, (e = 100 ∨ e = 101) ∧ getF (L.set i c) = some (⟨#[]⟩, ⟨#[]⟩, 0, 0, 0, 0, ⟨#[]⟩, e) := by
  have hL' := set_bytes hL i hc
  have hu := unsealed_set L hL hS i hi c hc hn
  unfold getF
  rw [if_pos (show AreB _ from mem_of_bytes hL'.2), if_pos hL'.1, if_neg hu]
  by_cases h : HGet.part (L.set i c) 257 8 = MAGIC
  · rw [if_pos h]; exact ⟨101, .inr rfl, rfl⟩
  · rw [if_neg h]; exact ⟨100, .inl rfl, rfl⟩
/-- What is sealed is never refused for its sum. -/
theorem get_sealed {L : List Int} (hS : sealS L = L) (hA : AreB L) : ∃ n p m s t y k e, getF L = some (n, p, m, s, t, y, k, e) ∧ e ≠ 101 := by
  unfold getF
  rw [if_pos hA, if_pos hS]
  split
  · split
    · split
      · split
        · exact ⟨_, _, _, _, _, _, _, _, rfl, by decide⟩
        · exact ⟨_, _, _, _, _, _, _, _, rfl, by decide⟩
      · exact ⟨_, _, _, _, _, _, _, _, rfl, by decide⟩
    · exact ⟨_, _, _, _, _, _, _, _, rfl, by decide⟩
  · exact ⟨_, _, _, _, _, _, _, _, rfl, by decide⟩
theorem get_some {L : List Int} (hA : AreB L) : ∃ n p m s t y k e, getF L = some (n, p, m, s, t, y, k, e) := by
  unfold getF
  rw [if_pos hA]
  exact ⟨_, _, _, _, _, _, _, _, rfl⟩
end Go.Proofs.Ytdmpbfhbjklajaa.HeadLaw
end
