/- Texts of this claim, laid together by wip/tools/squash.py: Parse6w, ParseC, PIsx0, PIsx1, PIsx, Wakes6. -/
import Derived.Test.YthmcigdkopadjaaDoorQB2
import Derived.Test.YthmcigdkopadjaaDoorProg
import Derived.Below
import Derived.Deep.Draws
import Derived.Deep.AppendLies
import Derived.Maps.AppendAt
import Derived.OwnWalk
import Derived.Laws.BytesArg
import Derived.Laws.MakeOwn
import Derived.Laws.OwnMore
import Derived.Deep.OwnRows
import Derived.Tactics
import Derived.Lib.ConvBytes
import Derived.Laws.Slices
import Derived.WalkKit
import Derived.KernelRfl
import Derived.RowKit3
import Derived.Deep.LoopGhost
import Derived.Deep.QuietTactic
import Derived.BigQuiet
import Derived.WideLaws
import Derived.Deep.DeepCutAuto
import Derived.Deep.CutBlock
import Derived.Deep.RegionHeld3
import Derived.Laws.Rows
import Derived.Lib.AppendStr
import Derived.ArgAppend
import Derived.Laws.IdiomCopy
import Derived.OrdersHeld
import Derived.Laws.BitsLemmas
import Derived.RowKit
import Derived.Test.YthmcigdkopadjaaDoorWWords
import Derived.Test.YthmcigdkopadjaaDoorWLast
import Derived.Test.YthmcigdkopadjaaDoorWTab
import Derived.Test.YthmcigdkopadjaaDoorWFour
import Derived.Test.YthmcigdkopadjaaDoorWQPut
import Derived.Test.YthmcigdkopadjaaDoorWApart
import Derived.Test.YthmcigdkopadjaaDoorWArr
import Derived.Test.YthmcigdkopadjaaDoorWZeros
import Derived.Test.YthmcigdkopadjaaDoorWFoot
import Derived.Test.YthmcigdkopadjaaDoorWKept
import Derived.Test.YthmcigdkopadjaaDoorWShare
import Derived.Test.YthmcigdkopadjaaDoorWN
import Derived.Test.YthmcigdkopadjaaDoorWFootNe
import Derived.Test.YthmcigdkopadjaaDoorWAt
import Derived.Test.YthmcigdkopadjaaDoorWEqStruct
import Derived.Test.YthmcigdkopadjaaDoorWRepsOne
import Derived.Test.YthmcigdkopadjaaDoorWInv
import Derived.Test.YthmcigdkopadjaaDoorWInvWords
import Derived.Test.YthmcigdkopadjaaDoorWGuard
import Derived.Test.YthmcigdkopadjaaDoorWNEv
import Derived.Test.YthmcigdkopadjaaDoorWMore

/- A block read: the Go program's Parse, walked. -/
section
namespace Go.Proofs.YthmcigdkopadjaaDoor.Parse6w
open Go.Proofs.YthmcigdkopadjaaDoor Go.RowKit Go.Proofs.YthmcigdkopadjaaDoorW.PrintWords Go.Proofs.YthmcigdkopadjaaDoorW.PrintLast Go.Proofs.YthmcigdkopadjaaDoorW.PrintMore Go.Proofs.YthmcigdkopadjaaDoor.Byt Go.Proofs.YthmcigdkopadjaaDoor.Lay6 Go.Proofs.YthmcigdkopadjaaDoor.Pack6 Go.Proofs.YthmcigdkopadjaaDoor.Parse6
set_option linter.unusedVariables false
set_option linter.unusedSimpArgs false
abbrev BZ : Array Value := #[.int .u64 0, .int .u32 0, .int .u8 0, .slice none 0 0]
theorem four_one (x y z : Int) (A : Option Addr) (n c : Nat) : (#[Value.int .u64 x, .int .u32 y, .int .u8 z, .slice A n c] : Array Value).all (·.oneCell') = true := by simp [Value.oneCell']
set_option maxRecDepth 100000 in
set_option maxHeartbeats 4000000 in
theorem short (A0 : Option Addr) (c0 : Nat) (l : List Int) (W : World) (hl : l.length ≠ 128) :
    Calls Tryd.prog 12 #[.slice A0 l.length c0] W fun e w' => e = .returned (.tuple #[.agg BZ, .int .i64 6]) ∧ Below W.heap.size W w' := by
  have hne : ((l.length : Int) != 128) = true := by simp; omega
  clear hl
  go_enter Tryd.func12, Tryd.ntmps12
  go_wp2_with (refine store_blk rfl TP (.tmp 2) (.tmp 13) rfl W.heap.size BZ BZ rfl rfl TP (blk_new W _) (by kernel_rfl) rfl (four_one _ _ _ _ _ _) ?_; go_loud (intro w10 h10 hw10; have HB10 := Lib.hid (((Below.refl W.heap.size W).alloc (Nat.le_refl _) _).trans (hw10.below (Nat.le_refl _) (by simp))); have HH10 := Lib.hid h10; clear h10 hw10))
  (try simp only [Exit.inBlock, Exit.then])
  refine bodyPost_ret (results_row_tmp (P := Tryd.prog) rfl _ _ W.heap.size TP BZ (0, 0) _ (by rfl) HH10.out Tryd.underlying26 rfl (by kernel_rfl)) rfl ?_
  exact ⟨rfl, HB10.out⟩
theorem toNat_byte (x : Int) (h : 0 ≤ x ∧ x ≤ 255) : ((UInt8.ofNat x.toNat).toNat : Int) = x := by
  rw [UInt8.toNat_ofNat']; omega

theorem map_byte_inj (a : List Int) : ∀ b : List Int, AreB a → AreB b → (a.map (fun n => UInt8.ofNat n.toNat)) = (b.map (fun n => UInt8.ofNat n.toNat)) → a = b := by
  induction a with
  | nil => intro b _ _ h; cases b with
    | nil => rfl
    | cons y b => simp at h
  | cons x a ih =>
    intro b ha hb h
    cases b with
    | nil => simp at h
    | cons y b =>
      simp only [List.map_cons, List.cons.injEq] at h
      have h1 := toNat_byte x (ha x (by simp))
      have h2 := toNat_byte y (hb y (by simp))
      have : x = y := by rw [← h1, ← h2, h.1]
      rw [this, ih b (fun z hz => ha z (by simp [hz])) (fun z hz => hb z (by simp [hz])) h.2]

theorem strOfNums_inj (a b : List Int) (ha : AreB a) (hb : AreB b) : ((strOfNums a).toList = (strOfNums b).toList) ↔ a = b := by
  constructor
  · intro h
    apply map_byte_inj a b ha hb
    have : (strOfNums a).data.toList = (strOfNums b).data.toList := by
      simpa [ByteArray.toList_eq] using h
    rw [strOfNums_data, strOfNums_data] at this
    exact this
  · intro h; rw [h]
theorem conv4 {A0 : Option Addr} {c0 : Nat} {X : List Int} {w : World} (h : RC w A0 X) (hl : X.length = 128) : (convert TB 9 (.slice A0 4 c0)).run Tryd.prog w = .ok (.string (strOfNums (X.take 4))) w := by
  have h4 : (X.take 4).length = 4 := by rw [List.length_take]; omega
  have := Kd.C_string (P := Tryd.prog) (c := c0) Tryd.underlying24 Tryd.underlying5 Tryd.underlying9 ((h.take 4).to_C (by omega))
  rw [h4] at this
  exact this
set_option maxRecDepth 100000 in
set_option maxHeartbeats 4000000 in
theorem unmarked (A0 : Option Addr) (c0 : Nat) (X : List Int) (W : World) (h : RC W A0 X) (hc : X.length ≤ c0) (hl : X.length = 128) (hA : AreB X) (hM : X.take 4 ≠ MARK) :
    Calls Tryd.prog 12 #[.slice A0 128 c0] W fun e w' => e = .returned (.tuple #[.agg BZ, .int .i64 60]) ∧ Below W.heap.size W w' := by
  have hcv := conv4 (c0 := c0) (h.below ((Below.refl W.heap.size W).alloc (Nat.le_refl _) (.cells BZ TP))) hl
  obtain ⟨M, hMs⟩ : ∃ M, M = strOfNums (X.take 4) := ⟨_, rfl⟩
  rw [← hMs] at hcv
  have hMn : M.toList ≠ ([84, 66, 76, 75] : List UInt8) := by
    intro h'
    have e : (strOfNums MARK).toList = ([84, 66, 76, 75] : List UInt8) := by decide +kernel
    rw [hMs, ← e] at h'
    exact hM ((strOfNums_inj _ _ (fun x hx => hA x (List.mem_of_mem_take hx)) (by unfold AreB MARK; decide)).1 h')
  have hMb : (M.toList != ([84, 66, 76, 75] : List UInt8)) = true := bne_iff_ne.mpr hMn
  have hMe : (M.toList == ([84, 66, 76, 75] : List UInt8)) = false := beq_eq_false_iff_ne.mpr hMn
  have hne : ((128 : Int) != 128) = false := rfl
  have hc4 : 4 ≤ c0 := by omega
  clear hM hA h hc hl hMs
  go_enter Tryd.func12, Tryd.ntmps12
  go_wp2_with (refine store_blk rfl TP (.tmp 2) (.tmp 18) rfl W.heap.size BZ BZ rfl rfl TP (blk_new W _) (by kernel_rfl) rfl (four_one _ _ _ _ _ _) ?_; go_loud (intro w10 h10 hw10; have HB10 := Lib.hid (((Below.refl W.heap.size W).alloc (Nat.le_refl _) _).trans (hw10.below (Nat.le_refl _) (by simp))); have HH10 := Lib.hid h10; clear h10 hw10))
  (try simp only [Exit.inBlock, Exit.then])
  refine bodyPost_ret (results_row_tmp (P := Tryd.prog) rfl _ _ W.heap.size TP BZ (0, 0) _ (by rfl) HH10.out Tryd.underlying26 rfl (by kernel_rfl)) rfl ?_
  exact ⟨rfl, HB10.out⟩
theorem mark_str {X : List Int} (hM : X.take 4 = MARK) : strOfNums (X.take 4) = ⟨#[84, 66, 76, 75]⟩ := by rw [hM]; decide
set_option maxRecDepth 100000 in
set_option maxHeartbeats 4000000 in
theorem unsealed (A0 : Option Addr) (c0 : Nat) (X : List Int) (W : World) (h : RC W A0 X) (hc : X.length ≤ c0) (hl : X.length = 128) (hA : AreB X) (hM : X.take 4 = MARK) (hS : ¬ X = sealI (X.take 124)) :
    Calls Tryd.prog 12 #[.slice A0 128 c0] W fun e w' => e = .returned (.tuple #[.agg BZ, .int .i64 61]) ∧ Below W.heap.size W w' := by
  have hcv := conv4 (c0 := c0) (h.below ((Below.refl W.heap.size W).alloc (Nat.le_refl _) (.cells BZ TP))) hl
  rw [mark_str hM] at hcv
  have hne : ((128 : Int) != 128) = false := rfl
  have hc4 : 4 ≤ c0 := by omega
  have HO := Lib.hid (open_at A0 c0 X (W.alloc (.cells BZ TP)) (h.below ((Below.refl W.heap.size W).alloc (Nat.le_refl _) (.cells BZ TP))) hc hA hl)
  have HS := Lib.hid hS
  clear hM hA h hc hl hS
  go_enter Tryd.func12, Tryd.ntmps12
  go_wp2_with (first
    | (go_at_call 20; go_loud ((with_reducible refine HO.out.mono ?_); rintro e w1 ⟨v, rfl, _, hv, hb1⟩; obtain ⟨A2, c2, rfl⟩ := hv HS.out; rw [decide_eq_false HS.out]; have HB1 := Lib.hid (((Below.refl W.heap.size W).alloc (Nat.le_refl _) (.cells BZ TP)).trans (hb1.mono (by simp))); have HX1 := Lib.hid ((hb1.block W.heap.size (by simp)).trans (blk_new W (.cells BZ TP))); clear hb1 hv))
    | (refine store_blk rfl TP (.tmp 2) (.tmp 26) rfl W.heap.size BZ BZ rfl rfl TP (blk_alloc HX1.out _) (by kernel_rfl) rfl (four_one _ _ _ _ _ _) ?_; go_loud (intro w10 h10 hw10; have HB10 := Lib.hid ((HB1.out.alloc HB1.out.size _).trans (hw10.below (Nat.le_refl _) (by have := HB1.out.size; simp; omega))); have HH10 := Lib.hid h10; clear h10 hw10)))
  (try simp only [Exit.inBlock, Exit.then])
  refine bodyPost_ret (results_row_tmp (P := Tryd.prog) rfl _ _ W.heap.size TP BZ (0, 0) _ (by rfl) HH10.out Tryd.underlying26 rfl (by kernel_rfl)) rfl ?_
  exact ⟨rfl, HB10.out⟩
/-- What stands while Parse reads on: the answer's place, still empty; what is left; the first closure. -/
structure PP (W : World) (g1 g2 : Nat) (m : List Int) (w : World) : Prop where
  out : w.heap[W.heap.size]? = some (.cells BZ TP (0, 0))
  st : ST g1 m w
  cl : w.heap[g2]? = some (.cells #[.func (.func 21) #[] #[.pointer (some ⟨g1, 0, none⟩)]] 46 (0, 0))
  bel : Below W.heap.size W w
  ord : W.heap.size < g1 ∧ g1 < g2
theorem store_new {P : Program} (w : World) (u v : Value) (t : TypeId) (g : Nat) (hg : g = w.heap.size) (hv : v.oneCell' = true) : (store ⟨g, 0, none⟩ v).run P (w.alloc (.cells #[u] t)) = .ok () (w.alloc (.cells #[v] t)) := by
  subst hg
  rw [run_store P _ _ _ _ hv, blk_cell (blk_new w (.cells #[u] t)) 0, blk_frozen (blk_new w (.cells #[u] t)) 0]
  simp [World.setCell_alloc_at]
theorem PP.start {W w1 : World} {a2 : Addr} {c2 : Nat} {A : List Int} (hb : Below W.heap.size W w1) (hx : w1.heap[W.heap.size]? = some (.cells BZ TP (0, 0))) (hr : RC w1 (some a2) A) (hA : A.length = 124) (hc : 124 ≤ c2) :
    PP W w1.heap.size (w1.heap.size + 1) (A.drop 4) ((w1.alloc (.cells #[.slice (some { block := a2.block, off := a2.off + 4 }) 120 (c2 - 4)] TB)).alloc (.cells #[.func (.func 21) #[] #[.pointer (some ⟨w1.heap.size, 0, none⟩)]] 46)) := by
  obtain ⟨x2, hx2, hlt, _⟩ := hr (by intro e; rw [e] at hA; cases hA)
  cases hx2
  have h1 : RC w1 (some (a2.add 4)) (A.drop 4) := hr.drop 4
  have hB := ((Below.refl w1.heap.size w1).alloc (Nat.le_refl _) (.cells #[.slice (some { block := a2.block, off := a2.off + 4 }) 120 (c2 - 4)] TB)).alloc (by simp) (.cells #[.func (.func 21) #[] #[.pointer (some ⟨w1.heap.size, 0, none⟩)]] 46)
  refine ⟨blk_alloc (blk_alloc hx _) _, ⟨some (a2.add 4), c2 - 4, ?_, by rw [List.length_drop]; omega, h1.below hB, ?_⟩, ?_, (hb.alloc hb.size _).alloc (by have := hb.size; simp; omega) _, blk_lt hx, by omega⟩
  · refine (blk_alloc (blk_new w1 _) _).trans ?_
    rw [List.length_drop, hA]
    rfl
  · intro a ha
    cases ha
    rw [Byt.add_block]
    omega
  · have := blk_new (w1.alloc (.cells #[.slice (some { block := a2.block, off := a2.off + 4 }) 120 (c2 - 4)] TB)) (.cells #[.func (.func 21) #[] #[.pointer (some ⟨w1.heap.size, 0, none⟩)]] 46)
    rwa [show (w1.alloc (.cells #[.slice (some { block := a2.block, off := a2.off + 4 }) 120 (c2 - 4)] TB)).heap.size = w1.heap.size + 1 by simp] at this
theorem PP.wrote {W w w' : World} {g1 g2 : Nat} {m m' : List Int} (h : PP W g1 g2 m w) (hs : ST g1 m' w') (hw : Wrote g1 w w') : PP W g1 g2 m' w' :=
  ⟨(hw.block W.heap.size (blk_lt h.out) (by have := h.ord; omega)).trans h.out, hs, (hw.block g2 (blk_lt h.cl) (by have := h.ord; omega)).trans h.cl, h.bel.trans (hw.below (by have := h.ord; omega) h.bel.size), h.ord⟩
theorem number_at (W : World) (g1 g2 : Nat) (m : List Int) (n : Nat) (ni : Int) (hni : ni = (n : Int)) (R : Int) (w : World) (hR : R = beN (m.take n)) (h : PP W g1 g2 m w) (h0 : n < m.length) (h8 : n ≤ 8) (hm : m.length ≤ 1000000) (hA : AreB m) :
    Calls Tryd.prog 22 #[.int .i64 ni, .pointer (some ⟨g2, 0, none⟩)] w fun e w' => e = .returned (.int .u64 R) ∧ PP W g1 g2 (m.drop n) w' := by
  subst hni
  refine (number_gen g1 g2 m n R w hR h.st (by intro e; rw [e] at h0; simp at h0) (by omega) h8 hm hA (by have := h.ord; omega) h.cl).mono ?_
  rintro e w' ⟨he, hs, hw⟩
  exact ⟨he, h.wrote hs hw⟩
structure PQ (C : Array Value) (W : World) (g1 g2 g3 : Nat) (m : List Int) (w : World) : Prop where
  pp : PP W g1 g2 m w
  bx : w.heap[g3]? = some (.cells C TP (0, 0))
  ord : g2 < g3
theorem PQ.start {C : Array Value} {W : World} {g1 g2 : Nat} {m : List Int} {w : World} (h : PP W g1 g2 m w) : PQ C W g1 g2 w.heap.size m (w.alloc (.cells C TP)) := by
  obtain ⟨A, c, hb, hc, hr, ho⟩ := h.st
  refine ⟨⟨blk_alloc h.out _, ⟨A, c, blk_alloc hb _, hc, hr.below ((Below.refl w.heap.size w).alloc (Nat.le_refl _) _), ho⟩, blk_alloc h.cl _, h.bel.alloc h.bel.size _, h.ord⟩, blk_new w _, blk_lt h.cl⟩
theorem PQ.wrote {C : Array Value} {W w w' : World} {g1 g2 g3 : Nat} {m m' : List Int} (h : PQ C W g1 g2 g3 m w) (hs : ST g1 m' w') (hw : Wrote g1 w w') : PQ C W g1 g2 g3 m' w' :=
  ⟨h.pp.wrote hs hw, (hw.block g3 (blk_lt h.bx) (by have := h.ord; have := h.pp.ord; omega)).trans h.bx, h.ord⟩
theorem PQ.drewN {C : Array Value} {W w : World} {g1 g2 g3 : Nat} {m : List Int} (h : PQ C W g1 g2 g3 m w) (nd : Nat) : PQ C W g1 g2 g3 m (w.drewN nd) := by
  obtain ⟨A, c, hb, hc, hr, ho⟩ := h.pp.st
  exact ⟨⟨blk_drewN h.pp.out nd, ⟨A, c, blk_drewN hb nd, hc, hr, ho⟩, blk_drewN h.pp.cl nd, pw_below_drewN h.pp.bel nd, h.pp.ord⟩, blk_drewN h.bx nd, h.ord⟩
theorem PQ.drawn {C : Array Value} {W w w' : World} {g1 g2 g3 : Nat} {m : List Int} (h : PQ C W g1 g2 g3 m w) (hd : Drawn0 w w') : PQ C W g1 g2 g3 m w' := by
  obtain ⟨nd, rfl⟩ := hd
  exact h.drewN nd
theorem number_q (C : Array Value) (W : World) (g1 g2 g3 : Nat) (m : List Int) (n : Nat) (ni : Int) (hni : ni = (n : Int)) (R : Int) (w : World) (hR : R = beN (m.take n)) (h : PQ C W g1 g2 g3 m w) (h0 : n < m.length) (h8 : n ≤ 8) (hm : m.length ≤ 1000000) (hA : AreB m) :
    Calls Tryd.prog 22 #[.int .i64 ni, .pointer (some ⟨g2, 0, none⟩)] w fun e w' => e = .returned (.int .u64 R) ∧ PQ C W g1 g2 g3 (m.drop n) w' := by
  subst hni
  refine (number_gen g1 g2 m n R w hR h.pp.st (by intro e; rw [e] at h0; simp at h0) (by omega) h8 hm hA (by have := h.pp.ord; omega) h.pp.cl).mono ?_
  rintro e w' ⟨he, hs, hw⟩
  exact ⟨he, h.wrote hs hw⟩
theorem next_q (C : Array Value) (W : World) (g1 g2 g3 : Nat) (m : List Int) (n : Nat) (ni : Int) (hni : ni = (n : Int)) (w : World) (h : PQ C W g1 g2 g3 m w) (h0 : n ≤ m.length) (hpos : 0 < m.length) (hm : m.length ≤ 1000000) :
    Calls Tryd.prog 21 #[.int .i64 ni, .pointer (some ⟨g1, 0, none⟩)] w fun e w' => ∃ A2, e = .returned (.slice A2 n n) ∧ RC w' A2 (m.take n) ∧ PQ C W g1 g2 g3 (m.drop n) w' := by
  subst hni
  refine (next_gen g1 m n w h.pp.st (List.length_pos_iff.mp hpos) h0 hm).mono ?_
  rintro e w' ⟨A2, he, hr, _, hs, hw⟩
  exact ⟨A2, he, hr, h.wrote hs hw⟩
theorem zero_at (A : Option Addr) (n c : Nat) (l : List Int) (R : Bool) (W : World) (hn : n = l.length) (hR : R = decide (∀ x ∈ l, x = 0)) (hr : RC W A l) (hc : n ≤ c) (hl : l.length ≤ 1000000) :
    Calls Tryd.prog 23 #[.slice A n c] W fun e w' => e = .returned (.bool R) ∧ Drawn0 W w' := by
  subst hn
  exact Zero6.zero_gen A c l R W hR hr hc hl
theorem clone_at (A : Option Addr) (n c : Nat) (l : List Int) (W : World) (hn : n = l.length) (hr : RC W A l) (hc : n ≤ c) (hl : l.length ≤ 1000000) :
    Calls Tryd.prog 24 #[.slice A n c] W fun e w' => ∃ A2 c2, e = .returned (.slice A2 n c2) ∧ OWN w' W.heap.size (.slice A2 n c2) l ∧ Below W.heap.size W w' := by
  subst hn
  refine (Clone.clone_calls A c l l W (hr.to_C (by omega)) hc (by unfold Clone.cloneF; rw [if_pos (by omega)])).mono ?_
  rintro e w' ⟨v, he, ho, hb⟩
  obtain ⟨A2, c2, rfl, _⟩ := OWN.form ho
  exact ⟨A2, c2, he, ho, hb⟩
theorem own_wrote {w w' : World} {base : Nat} {v : Value} {l : List Int} {k : Nat} (h : OWN w base v l) (hw : Wrote k w w') (hk : k < base) : OWN w' base v l := by
  refine Kd.R_mono (Kd.R_grown (row := some k) (Kd.R_bound h) ⟨hw.os, hw.tape, hw.output, hw.size, fun j hj hne => hw.block j hj (fun e => hne (by rw [e]))⟩ ?_) (fun _ _ => trivial)
  intro j hj e
  cases e
  have := hj.2.1
  omega
set_option maxRecDepth 100000 in
set_option maxHeartbeats 8000000 in
theorem many (A0 : Option Addr) (c0 : Nat) (X : List Int) (W : World) (h : RC W A0 X) (hc : X.length ≤ c0) (hl : X.length = 128) (hA : AreB X) (hM : X.take 4 = MARK) (hS : X = sealI (X.take 124)) (hq : ¬ bn X 17 ≤ 96) :
    Calls Tryd.prog 12 #[.slice A0 128 c0] W fun e w' => e = .returned (.tuple #[.agg BZ, .int .i64 62]) ∧ Below W.heap.size W w' := by
  have hcv := conv4 (c0 := c0) (h.below ((Below.refl W.heap.size W).alloc (Nat.le_refl _) (.cells BZ TP))) hl
  rw [mark_str hM] at hcv
  have hne : ((128 : Int) != 128) = false := rfl
  have hc4 : 4 ≤ c0 := by omega
  have HO := Lib.hid (open_at A0 c0 X (W.alloc (.cells BZ TP)) (h.below ((Below.refl W.heap.size W).alloc (Nat.le_refl _) (.cells BZ TP))) hc hA hl)
  have HS := Lib.hid hS
  obtain ⟨A, hAA⟩ : ∃ A, A = X.take 124 := ⟨_, rfl⟩
  have HL := Lib.hid (show A.length = 124 by rw [hAA, List.length_take]; omega)
  have HAA := Lib.hid hAA
  have HAB := Lib.hid (show AreB A by rw [hAA]; exact fun x hx => hA x (List.mem_of_mem_take hx))
  obtain ⟨K, hK⟩ : ∃ K, K = beN ((A.drop 4).take 8) := ⟨_, rfl⟩
  obtain ⟨S, hSs⟩ : ∃ S, S = beN (((A.drop 4).drop 8).take 4) := ⟨_, rfl⟩
  obtain ⟨D, hD⟩ : ∃ D, D = beN ((((A.drop 4).drop 8).drop 4).take 1) := ⟨_, rfl⟩
  obtain ⟨Z, hZ⟩ : ∃ Z, Z = beN (((((A.drop 4).drop 8).drop 4).drop 1).take 1) := ⟨_, rfl⟩
  have HK := Lib.hid hK
  have HSs := Lib.hid hSs
  have HD := Lib.hid hD
  have HZ := Lib.hid hZ
  have dB : ∀ n (l : List Int), AreB l → AreB (l.drop n) := fun n l h x hx => h x (List.mem_of_mem_drop hx)
  have HDB := Lib.hid dB
  have hws : IntKind.u32.wrap S = S := by
    have := beN_range (l := ((A.drop 4).drop 8).take 4) (fun x hx => dB 8 _ (dB 4 _ HAB.out) x (List.mem_of_mem_take hx))
    rw [← hSs, show (((A.drop 4).drop 8).take 4).length = 4 by simp only [List.length_take, List.length_drop, HL.out]; decide] at this
    rw [IntKind.wrap_u32]; omega
  have hwd : IntKind.u8.wrap D = D := by
    have := beN_range (l := (((A.drop 4).drop 8).drop 4).take 1) (fun x hx => dB 4 _ (dB 8 _ (dB 4 _ HAB.out)) x (List.mem_of_mem_take hx))
    rw [← hD, show ((((A.drop 4).drop 8).drop 4).take 1).length = 1 by simp only [List.length_take, List.length_drop, HL.out]; decide] at this
    rw [IntKind.wrap_u8]; omega
  have hzr : 0 ≤ Z ∧ Z < 256 := by
    have := beN_range (l := ((((A.drop 4).drop 8).drop 4).drop 1).take 1) (fun x hx => dB 1 _ (dB 4 _ (dB 8 _ (dB 4 _ HAB.out))) x (List.mem_of_mem_take hx))
    rw [← hZ, show (((((A.drop 4).drop 8).drop 4).drop 1).take 1).length = 1 by simp only [List.length_take, List.length_drop, HL.out]; decide] at this
    omega
  obtain ⟨zn, rfl⟩ := Int.eq_ofNat_of_zero_le hzr.1
  have hwz : IntKind.i64.wrap (zn : Int) = (zn : Int) := by rw [IntKind.wrap_i64]; omega
  have hznA : zn = (bn X 17).toNat := by
    have e1 : ((((A.drop 4).drop 8).drop 4).drop 1).take 1 = [bn X 17] := by
      rw [hAA]
      apply List.ext_getElem?
      intro j
      simp only [List.getElem?_take, List.getElem?_drop]
      match j with
      | 0 =>
        simp only [show (0 : Nat) < 1 from Nat.zero_lt_one, if_true]
        rw [if_pos (by decide), bn_getD, List.getD_eq_getElem?_getD, List.getElem?_eq_getElem (by omega)]
        rfl
      | j + 1 =>
        rw [if_neg (by omega)]
        rfl
    rw [e1] at hZ
    have : beN [bn X 17] = bn X 17 := by unfold beN; simp
    rw [this] at hZ
    rw [← hZ]; rfl
  have tk0 : True := trivial
  have hbx := bytes_of_mem hA 17
  have hbig : (zn : Int) > 96 := by omega
  clear hq hbx hznA
  clear hM hA h hc hl hS hAA hK hSs hD hZ dB
  go_enter Tryd.func12, Tryd.ntmps12
  go_wp2_with (first
    | (go_at_call 20; go_loud ((with_reducible refine HO.out.mono ?_); rintro e w1 ⟨v, rfl, hv, _, hb1⟩; have hv := hv HS.out; rw [decide_eq_true HS.out]; rw [← HAA.out] at hv; obtain ⟨A2, c2, rfl, hc2, hr2, hab2⟩ := hv.form; rw [HL.out] at hc2; obtain ⟨a2, rfl, hlt2, _⟩ := hr2 (by intro e; have := HL.out; rw [e] at this; cases this); have hn4 : ¬ c2 = 4 := (by omega); have h4c : 4 ≤ c2 := (by omega); have hl124 : A.length = 124 := HL.out; have hst := store_new (P := Tryd.prog) (w1.alloc (.cells #[.slice (some { block := a2.block, off := a2.off + 4 }) 120 (c2 - 4)] TB)) .nilFunc (.func (.func 21) #[] #[.pointer (some ⟨w1.heap.size, 0, none⟩)]) 46 (w1.heap.size + 1) (by simp) rfl; have HP0 := Lib.hid (PP.start (((Below.refl W.heap.size W).alloc (Nat.le_refl _) (.cells BZ TP)).trans (hb1.mono (by simp))) ((hb1.block W.heap.size (by simp)).trans (blk_new W (.cells BZ TP))) hr2 hl124 hc2); have HR2 := Lib.hid hr2; have HLT := Lib.hid hlt2; have HB1 := Lib.hid (((Below.refl W.heap.size W).alloc (Nat.le_refl _) (.cells BZ TP)).trans (hb1.mono (by simp))); have HX1 := Lib.hid ((hb1.block W.heap.size (by simp)).trans (blk_new W (.cells BZ TP))); clear hb1 hv hr2))
    | (go_at_call 22; have _tk := tk0; go_loud ((with_reducible refine (number_at W _ _ _ 8 8 rfl K _ HK.out HP0.out (by simp only [List.length_drop, HL.out]; decide) (by decide) (by simp only [List.length_drop, HL.out]; decide) (HDB.out _ _ HAB.out)).mono ?_); rintro e w3 ⟨rfl, hp⟩; have HP1 := Lib.hid hp; have tk1 : True := trivial; clear hp tk0 _tk))
    | (go_at_call 22; have _tk := tk1; go_loud ((with_reducible refine (number_at W _ _ _ 4 4 rfl S _ HSs.out HP1.out (by simp only [List.length_drop, HL.out]; decide) (by decide) (by simp only [List.length_drop, HL.out]; decide) (HDB.out _ _ (HDB.out _ _ HAB.out))).mono ?_); rintro e w4 ⟨rfl, hp⟩; have HP2 := Lib.hid hp; have tk2 : True := trivial; clear hp tk1 _tk))
    | (go_at_call 22; have _tk := tk2; go_loud ((with_reducible refine (number_at W _ _ _ 1 1 rfl D _ HD.out HP2.out (by simp only [List.length_drop, HL.out]; decide) (by decide) (by simp only [List.length_drop, HL.out]; decide) (HDB.out _ _ (HDB.out _ _ (HDB.out _ _ HAB.out)))).mono ?_); rintro e w5 ⟨rfl, hp⟩; have HP3 := Lib.hid hp; have tk3 : True := trivial; clear hp tk2 _tk))
    | (go_at_call 22; have _tk := tk3; go_loud ((with_reducible refine (number_q #[.int .u64 K, .int .u32 S, .int .u8 D, .slice none 0 0] W _ _ _ _ 1 1 rfl (zn : Int) _ HZ.out (PQ.start HP3.out) (by simp only [List.length_drop, HL.out]; decide) (by decide) (by simp only [List.length_drop, HL.out]; decide) (HDB.out _ _ (HDB.out _ _ (HDB.out _ _ (HDB.out _ _ HAB.out))))).mono ?_); rintro e w6 ⟨rfl, hp⟩; have HP4 := Lib.hid hp; have hcl6 : w6.cell? ⟨w1.heap.size + 1, 0, none⟩ = some (.func (.func 21) #[] #[.pointer (some ⟨w1.heap.size, 0, none⟩)]) := (by rw [blk_cell hp.pp.cl]; rfl); have tk4 : True := trivial; clear hp tk3 _tk))
    | (refine store_blk rfl TP (.tmp 2) (.tmp 58) rfl W.heap.size BZ BZ rfl rfl TP HP4.out.pp.out (by kernel_rfl) rfl (four_one _ _ _ _ _ _) ?_; go_loud (intro w10 h10 hw10; have HB10 := Lib.hid (HP4.out.pp.bel.trans (hw10.below (Nat.le_refl _) HP4.out.pp.bel.size)); have HH10 := Lib.hid h10; clear h10 hw10)))
  (try simp only [Exit.inBlock, Exit.then])
  refine bodyPost_ret (results_row_tmp (P := Tryd.prog) rfl _ _ W.heap.size TP BZ (0, 0) _ (by rfl) HH10.out Tryd.underlying26 rfl (by kernel_rfl)) rfl ?_
  exact ⟨rfl, HB10.out⟩
set_option maxRecDepth 100000 in
set_option maxHeartbeats 8000000 in
theorem dirty (A0 : Option Addr) (c0 : Nat) (X : List Int) (W : World) (h : RC W A0 X) (hc : X.length ≤ c0) (hl : X.length = 128) (hA : AreB X) (hM : X.take 4 = MARK) (hS : X = sealI (X.take 124)) (hq : bn X 17 ≤ 96) (hq2 : ¬ ∀ x ∈ ((X.take 124).drop 18).take 10, x = 0) :
    Calls Tryd.prog 12 #[.slice A0 128 c0] W fun e w' => e = .returned (.tuple #[.agg BZ, .int .i64 62]) ∧ Below W.heap.size W w' := by
  have hcv := conv4 (c0 := c0) (h.below ((Below.refl W.heap.size W).alloc (Nat.le_refl _) (.cells BZ TP))) hl
  rw [mark_str hM] at hcv
  have hne : ((128 : Int) != 128) = false := rfl
  have hc4 : 4 ≤ c0 := by omega
  have HO := Lib.hid (open_at A0 c0 X (W.alloc (.cells BZ TP)) (h.below ((Below.refl W.heap.size W).alloc (Nat.le_refl _) (.cells BZ TP))) hc hA hl)
  have HS := Lib.hid hS
  obtain ⟨A, hAA⟩ : ∃ A, A = X.take 124 := ⟨_, rfl⟩
  have HL := Lib.hid (show A.length = 124 by rw [hAA, List.length_take]; omega)
  have HAA := Lib.hid hAA
  have HAB := Lib.hid (show AreB A by rw [hAA]; exact fun x hx => hA x (List.mem_of_mem_take hx))
  obtain ⟨K, hK⟩ : ∃ K, K = beN ((A.drop 4).take 8) := ⟨_, rfl⟩
  obtain ⟨S, hSs⟩ : ∃ S, S = beN (((A.drop 4).drop 8).take 4) := ⟨_, rfl⟩
  obtain ⟨D, hD⟩ : ∃ D, D = beN ((((A.drop 4).drop 8).drop 4).take 1) := ⟨_, rfl⟩
  obtain ⟨Z, hZ⟩ : ∃ Z, Z = beN (((((A.drop 4).drop 8).drop 4).drop 1).take 1) := ⟨_, rfl⟩
  have HK := Lib.hid hK
  have HSs := Lib.hid hSs
  have HD := Lib.hid hD
  have HZ := Lib.hid hZ
  have dB : ∀ n (l : List Int), AreB l → AreB (l.drop n) := fun n l h x hx => h x (List.mem_of_mem_drop hx)
  have HDB := Lib.hid dB
  have hws : IntKind.u32.wrap S = S := by
    have := beN_range (l := ((A.drop 4).drop 8).take 4) (fun x hx => dB 8 _ (dB 4 _ HAB.out) x (List.mem_of_mem_take hx))
    rw [← hSs, show (((A.drop 4).drop 8).take 4).length = 4 by simp only [List.length_take, List.length_drop, HL.out]; decide] at this
    rw [IntKind.wrap_u32]; omega
  have hwd : IntKind.u8.wrap D = D := by
    have := beN_range (l := (((A.drop 4).drop 8).drop 4).take 1) (fun x hx => dB 4 _ (dB 8 _ (dB 4 _ HAB.out)) x (List.mem_of_mem_take hx))
    rw [← hD, show ((((A.drop 4).drop 8).drop 4).take 1).length = 1 by simp only [List.length_take, List.length_drop, HL.out]; decide] at this
    rw [IntKind.wrap_u8]; omega
  have hzr : 0 ≤ Z ∧ Z < 256 := by
    have := beN_range (l := ((((A.drop 4).drop 8).drop 4).drop 1).take 1) (fun x hx => dB 1 _ (dB 4 _ (dB 8 _ (dB 4 _ HAB.out))) x (List.mem_of_mem_take hx))
    rw [← hZ, show (((((A.drop 4).drop 8).drop 4).drop 1).take 1).length = 1 by simp only [List.length_take, List.length_drop, HL.out]; decide] at this
    omega
  obtain ⟨zn, rfl⟩ := Int.eq_ofNat_of_zero_le hzr.1
  have hwz : IntKind.i64.wrap (zn : Int) = (zn : Int) := by rw [IntKind.wrap_i64]; omega
  have hznA : zn = (bn X 17).toNat := by
    have e1 : ((((A.drop 4).drop 8).drop 4).drop 1).take 1 = [bn X 17] := by
      rw [hAA]
      apply List.ext_getElem?
      intro j
      simp only [List.getElem?_take, List.getElem?_drop]
      match j with
      | 0 =>
        simp only [show (0 : Nat) < 1 from Nat.zero_lt_one, if_true]
        rw [if_pos (by decide), bn_getD, List.getD_eq_getElem?_getD, List.getElem?_eq_getElem (by omega)]
        rfl
      | j + 1 =>
        rw [if_neg (by omega)]
        rfl
    rw [e1] at hZ
    have : beN [bn X 17] = bn X 17 := by unfold beN; simp
    rw [this] at hZ
    rw [← hZ]; rfl
  have tk0 : True := trivial
  have hbx := bytes_of_mem hA 17
  have hbig : ¬ (zn : Int) > 96 := by omega
  have e18 : (((((A.drop 4).drop 8).drop 4).drop 1).drop 1).take 10 = ((X.take 124).drop 18).take 10 := by rw [hAA]; simp only [List.drop_drop]
  have e28 : ((((((A.drop 4).drop 8).drop 4).drop 1).drop 1).drop 10).drop zn = ((X.take 124).drop 28).drop (bn X 17).toNat := by rw [hAA, ← hznA]; simp only [List.drop_drop]
  have HZ1 := Lib.hid (show false = decide (∀ x ∈ (((((A.drop 4).drop 8).drop 4).drop 1).drop 1).take 10, x = 0) by rw [e18]; exact (decide_eq_false hq2).symm)
  clear hq hq2 hbx hznA e18 e28
  clear hM hA h hc hl hS hAA hK hSs hD hZ dB
  go_enter Tryd.func12, Tryd.ntmps12
  go_wp2_with (first
    | (go_at_call 20; go_loud ((with_reducible refine HO.out.mono ?_); rintro e w1 ⟨v, rfl, hv, _, hb1⟩; have hv := hv HS.out; rw [decide_eq_true HS.out]; rw [← HAA.out] at hv; obtain ⟨A2, c2, rfl, hc2, hr2, hab2⟩ := hv.form; rw [HL.out] at hc2; obtain ⟨a2, rfl, hlt2, _⟩ := hr2 (by intro e; have := HL.out; rw [e] at this; cases this); have hn4 : ¬ c2 = 4 := (by omega); have h4c : 4 ≤ c2 := (by omega); have hl124 : A.length = 124 := HL.out; have hst := store_new (P := Tryd.prog) (w1.alloc (.cells #[.slice (some { block := a2.block, off := a2.off + 4 }) 120 (c2 - 4)] TB)) .nilFunc (.func (.func 21) #[] #[.pointer (some ⟨w1.heap.size, 0, none⟩)]) 46 (w1.heap.size + 1) (by simp) rfl; have HP0 := Lib.hid (PP.start (((Below.refl W.heap.size W).alloc (Nat.le_refl _) (.cells BZ TP)).trans (hb1.mono (by simp))) ((hb1.block W.heap.size (by simp)).trans (blk_new W (.cells BZ TP))) hr2 hl124 hc2); have HR2 := Lib.hid hr2; have HLT := Lib.hid hlt2; have HB1 := Lib.hid (((Below.refl W.heap.size W).alloc (Nat.le_refl _) (.cells BZ TP)).trans (hb1.mono (by simp))); have HX1 := Lib.hid ((hb1.block W.heap.size (by simp)).trans (blk_new W (.cells BZ TP))); clear hb1 hv hr2))
    | (go_at_call 22; have _tk := tk0; go_loud ((with_reducible refine (number_at W _ _ _ 8 8 rfl K _ HK.out HP0.out (by simp only [List.length_drop, HL.out]; decide) (by decide) (by simp only [List.length_drop, HL.out]; decide) (HDB.out _ _ HAB.out)).mono ?_); rintro e w3 ⟨rfl, hp⟩; have HP1 := Lib.hid hp; have tk1 : True := trivial; clear hp tk0 _tk))
    | (go_at_call 22; have _tk := tk1; go_loud ((with_reducible refine (number_at W _ _ _ 4 4 rfl S _ HSs.out HP1.out (by simp only [List.length_drop, HL.out]; decide) (by decide) (by simp only [List.length_drop, HL.out]; decide) (HDB.out _ _ (HDB.out _ _ HAB.out))).mono ?_); rintro e w4 ⟨rfl, hp⟩; have HP2 := Lib.hid hp; have tk2 : True := trivial; clear hp tk1 _tk))
    | (go_at_call 22; have _tk := tk2; go_loud ((with_reducible refine (number_at W _ _ _ 1 1 rfl D _ HD.out HP2.out (by simp only [List.length_drop, HL.out]; decide) (by decide) (by simp only [List.length_drop, HL.out]; decide) (HDB.out _ _ (HDB.out _ _ (HDB.out _ _ HAB.out)))).mono ?_); rintro e w5 ⟨rfl, hp⟩; have HP3 := Lib.hid hp; have tk3 : True := trivial; clear hp tk2 _tk))
    | (go_at_call 22; have _tk := tk3; go_loud ((with_reducible refine (number_q #[.int .u64 K, .int .u32 S, .int .u8 D, .slice none 0 0] W _ _ _ _ 1 1 rfl (zn : Int) _ HZ.out (PQ.start HP3.out) (by simp only [List.length_drop, HL.out]; decide) (by decide) (by simp only [List.length_drop, HL.out]; decide) (HDB.out _ _ (HDB.out _ _ (HDB.out _ _ (HDB.out _ _ HAB.out))))).mono ?_); rintro e w6 ⟨rfl, hp⟩; have HP4 := Lib.hid hp; have hcl6 : w6.cell? ⟨w1.heap.size + 1, 0, none⟩ = some (.func (.func 21) #[] #[.pointer (some ⟨w1.heap.size, 0, none⟩)]) := (by rw [blk_cell hp.pp.cl]; rfl); have tk4 : True := trivial; clear hp tk3 _tk))
    | (go_at_call 21; have _tk := tk4; go_loud ((with_reducible refine (next_q _ W _ _ _ _ 10 10 rfl _ HP4.out (by simp only [List.length_drop, HL.out]; decide) (by simp only [List.length_drop, HL.out]; decide) (by simp only [List.length_drop, HL.out]; decide)).mono ?_); rintro e w7 ⟨A7, rfl, hr7, hp⟩; have HR7 := Lib.hid hr7; have HP5 := Lib.hid hp; have tk5 : True := trivial; clear hp hr7 tk4 _tk))
    | (go_at_call 23; have _tk := tk5; go_loud ((with_reducible refine (zero_at A7 10 10 _ false _ (by simp only [List.length_take, List.length_drop, HL.out]; decide) HZ1.out HR7.out (by decide) (by simp only [List.length_take, List.length_drop, HL.out]; decide)).mono ?_); rintro e w8 ⟨rfl, hd8⟩; have HP6 := Lib.hid (HP5.out.drawn hd8); clear hd8; have tk6 : True := trivial; clear tk5 _tk))
    | (refine store_blk rfl TP (.tmp 2) (.tmp 58) rfl W.heap.size BZ BZ rfl rfl TP HP6.out.pp.out (by kernel_rfl) rfl (four_one _ _ _ _ _ _) ?_; go_loud (intro w10 h10 hw10; have HB10 := Lib.hid (HP6.out.pp.bel.trans (hw10.below (Nat.le_refl _) HP6.out.pp.bel.size)); have HH10 := Lib.hid h10; clear h10 hw10)))
  (try simp only [Exit.inBlock, Exit.then])
  refine bodyPost_ret (results_row_tmp (P := Tryd.prog) rfl _ _ W.heap.size TP BZ (0, 0) _ (by rfl) HH10.out Tryd.underlying26 rfl (by kernel_rfl)) rfl ?_
  exact ⟨rfl, HB10.out⟩
set_option maxRecDepth 100000 in
set_option maxHeartbeats 8000000 in
theorem dirtier (A0 : Option Addr) (c0 : Nat) (X : List Int) (W : World) (h : RC W A0 X) (hc : X.length ≤ c0) (hl : X.length = 128) (hA : AreB X) (hM : X.take 4 = MARK) (hS : X = sealI (X.take 124)) (hq : bn X 17 ≤ 96) (hq2 : ∀ x ∈ ((X.take 124).drop 18).take 10, x = 0) (hq3 : ¬ ∀ x ∈ ((X.take 124).drop 28).drop (bn X 17).toNat, x = 0) :
    Calls Tryd.prog 12 #[.slice A0 128 c0] W fun e w' => e = .returned (.tuple #[.agg BZ, .int .i64 62]) ∧ Below W.heap.size W w' := by
  have hcv := conv4 (c0 := c0) (h.below ((Below.refl W.heap.size W).alloc (Nat.le_refl _) (.cells BZ TP))) hl
  rw [mark_str hM] at hcv
  have hne : ((128 : Int) != 128) = false := rfl
  have hc4 : 4 ≤ c0 := by omega
  have HO := Lib.hid (open_at A0 c0 X (W.alloc (.cells BZ TP)) (h.below ((Below.refl W.heap.size W).alloc (Nat.le_refl _) (.cells BZ TP))) hc hA hl)
  have HS := Lib.hid hS
  obtain ⟨A, hAA⟩ : ∃ A, A = X.take 124 := ⟨_, rfl⟩
  have HL := Lib.hid (show A.length = 124 by rw [hAA, List.length_take]; omega)
  have HAA := Lib.hid hAA
  have HAB := Lib.hid (show AreB A by rw [hAA]; exact fun x hx => hA x (List.mem_of_mem_take hx))
  obtain ⟨K, hK⟩ : ∃ K, K = beN ((A.drop 4).take 8) := ⟨_, rfl⟩
  obtain ⟨S, hSs⟩ : ∃ S, S = beN (((A.drop 4).drop 8).take 4) := ⟨_, rfl⟩
  obtain ⟨D, hD⟩ : ∃ D, D = beN ((((A.drop 4).drop 8).drop 4).take 1) := ⟨_, rfl⟩
  obtain ⟨Z, hZ⟩ : ∃ Z, Z = beN (((((A.drop 4).drop 8).drop 4).drop 1).take 1) := ⟨_, rfl⟩
  have HK := Lib.hid hK
  have HSs := Lib.hid hSs
  have HD := Lib.hid hD
  have HZ := Lib.hid hZ
  have dB : ∀ n (l : List Int), AreB l → AreB (l.drop n) := fun n l h x hx => h x (List.mem_of_mem_drop hx)
  have HDB := Lib.hid dB
  have hws : IntKind.u32.wrap S = S := by
    have := beN_range (l := ((A.drop 4).drop 8).take 4) (fun x hx => dB 8 _ (dB 4 _ HAB.out) x (List.mem_of_mem_take hx))
    rw [← hSs, show (((A.drop 4).drop 8).take 4).length = 4 by simp only [List.length_take, List.length_drop, HL.out]; decide] at this
    rw [IntKind.wrap_u32]; omega
  have hwd : IntKind.u8.wrap D = D := by
    have := beN_range (l := (((A.drop 4).drop 8).drop 4).take 1) (fun x hx => dB 4 _ (dB 8 _ (dB 4 _ HAB.out)) x (List.mem_of_mem_take hx))
    rw [← hD, show ((((A.drop 4).drop 8).drop 4).take 1).length = 1 by simp only [List.length_take, List.length_drop, HL.out]; decide] at this
    rw [IntKind.wrap_u8]; omega
  have hzr : 0 ≤ Z ∧ Z < 256 := by
    have := beN_range (l := ((((A.drop 4).drop 8).drop 4).drop 1).take 1) (fun x hx => dB 1 _ (dB 4 _ (dB 8 _ (dB 4 _ HAB.out))) x (List.mem_of_mem_take hx))
    rw [← hZ, show (((((A.drop 4).drop 8).drop 4).drop 1).take 1).length = 1 by simp only [List.length_take, List.length_drop, HL.out]; decide] at this
    omega
  obtain ⟨zn, rfl⟩ := Int.eq_ofNat_of_zero_le hzr.1
  have hwz : IntKind.i64.wrap (zn : Int) = (zn : Int) := by rw [IntKind.wrap_i64]; omega
  have hznA : zn = (bn X 17).toNat := by
    have e1 : ((((A.drop 4).drop 8).drop 4).drop 1).take 1 = [bn X 17] := by
      rw [hAA]
      apply List.ext_getElem?
      intro j
      simp only [List.getElem?_take, List.getElem?_drop]
      match j with
      | 0 =>
        simp only [show (0 : Nat) < 1 from Nat.zero_lt_one, if_true]
        rw [if_pos (by decide), bn_getD, List.getD_eq_getElem?_getD, List.getElem?_eq_getElem (by omega)]
        rfl
      | j + 1 =>
        rw [if_neg (by omega)]
        rfl
    rw [e1] at hZ
    have : beN [bn X 17] = bn X 17 := by unfold beN; simp
    rw [this] at hZ
    rw [← hZ]; rfl
  have tk0 : True := trivial
  have hbx := bytes_of_mem hA 17
  have hbig : ¬ (zn : Int) > 96 := by omega
  have hzn96 : zn ≤ 96 := by omega
  have e18 : (((((A.drop 4).drop 8).drop 4).drop 1).drop 1).take 10 = ((X.take 124).drop 18).take 10 := by rw [hAA]; simp only [List.drop_drop]
  have e28 : ((((((A.drop 4).drop 8).drop 4).drop 1).drop 1).drop 10).drop zn = ((X.take 124).drop 28).drop (bn X 17).toNat := by rw [hAA, ← hznA]; simp only [List.drop_drop]
  have HZ1 := Lib.hid (show true = decide (∀ x ∈ (((((A.drop 4).drop 8).drop 4).drop 1).drop 1).take 10, x = 0) by rw [e18]; exact (decide_eq_true hq2).symm)
  have HZ2 := Lib.hid (show false = decide (∀ x ∈ ((((((A.drop 4).drop 8).drop 4).drop 1).drop 1).drop 10).drop zn, x = 0) by rw [e28]; exact (decide_eq_false hq3).symm)
  clear hq hq2 hq3 hbx hznA e18 e28
  clear hM hA h hc hl hS hAA hK hSs hD hZ dB
  go_enter Tryd.func12, Tryd.ntmps12
  go_wp2_with (first
    | (go_at_call 20; go_loud ((with_reducible refine HO.out.mono ?_); rintro e w1 ⟨v, rfl, hv, _, hb1⟩; have hv := hv HS.out; rw [decide_eq_true HS.out]; rw [← HAA.out] at hv; obtain ⟨A2, c2, rfl, hc2, hr2, hab2⟩ := hv.form; rw [HL.out] at hc2; obtain ⟨a2, rfl, hlt2, _⟩ := hr2 (by intro e; have := HL.out; rw [e] at this; cases this); have hn4 : ¬ c2 = 4 := (by omega); have h4c : 4 ≤ c2 := (by omega); have hl124 : A.length = 124 := HL.out; have hst := store_new (P := Tryd.prog) (w1.alloc (.cells #[.slice (some { block := a2.block, off := a2.off + 4 }) 120 (c2 - 4)] TB)) .nilFunc (.func (.func 21) #[] #[.pointer (some ⟨w1.heap.size, 0, none⟩)]) 46 (w1.heap.size + 1) (by simp) rfl; have HP0 := Lib.hid (PP.start (((Below.refl W.heap.size W).alloc (Nat.le_refl _) (.cells BZ TP)).trans (hb1.mono (by simp))) ((hb1.block W.heap.size (by simp)).trans (blk_new W (.cells BZ TP))) hr2 hl124 hc2); have HR2 := Lib.hid hr2; have HLT := Lib.hid hlt2; have HB1 := Lib.hid (((Below.refl W.heap.size W).alloc (Nat.le_refl _) (.cells BZ TP)).trans (hb1.mono (by simp))); have HX1 := Lib.hid ((hb1.block W.heap.size (by simp)).trans (blk_new W (.cells BZ TP))); clear hb1 hv hr2))
    | (go_at_call 22; have _tk := tk0; go_loud ((with_reducible refine (number_at W _ _ _ 8 8 rfl K _ HK.out HP0.out (by simp only [List.length_drop, HL.out]; decide) (by decide) (by simp only [List.length_drop, HL.out]; decide) (HDB.out _ _ HAB.out)).mono ?_); rintro e w3 ⟨rfl, hp⟩; have HP1 := Lib.hid hp; have tk1 : True := trivial; clear hp tk0 _tk))
    | (go_at_call 22; have _tk := tk1; go_loud ((with_reducible refine (number_at W _ _ _ 4 4 rfl S _ HSs.out HP1.out (by simp only [List.length_drop, HL.out]; decide) (by decide) (by simp only [List.length_drop, HL.out]; decide) (HDB.out _ _ (HDB.out _ _ HAB.out))).mono ?_); rintro e w4 ⟨rfl, hp⟩; have HP2 := Lib.hid hp; have tk2 : True := trivial; clear hp tk1 _tk))
    | (go_at_call 22; have _tk := tk2; go_loud ((with_reducible refine (number_at W _ _ _ 1 1 rfl D _ HD.out HP2.out (by simp only [List.length_drop, HL.out]; decide) (by decide) (by simp only [List.length_drop, HL.out]; decide) (HDB.out _ _ (HDB.out _ _ (HDB.out _ _ HAB.out)))).mono ?_); rintro e w5 ⟨rfl, hp⟩; have HP3 := Lib.hid hp; have tk3 : True := trivial; clear hp tk2 _tk))
    | (go_at_call 22; have _tk := tk3; go_loud ((with_reducible refine (number_q #[.int .u64 K, .int .u32 S, .int .u8 D, .slice none 0 0] W _ _ _ _ 1 1 rfl (zn : Int) _ HZ.out (PQ.start HP3.out) (by simp only [List.length_drop, HL.out]; decide) (by decide) (by simp only [List.length_drop, HL.out]; decide) (HDB.out _ _ (HDB.out _ _ (HDB.out _ _ (HDB.out _ _ HAB.out))))).mono ?_); rintro e w6 ⟨rfl, hp⟩; have HP4 := Lib.hid hp; have hcl6 : w6.cell? ⟨w1.heap.size + 1, 0, none⟩ = some (.func (.func 21) #[] #[.pointer (some ⟨w1.heap.size, 0, none⟩)]) := (by rw [blk_cell hp.pp.cl]; rfl); have tk4 : True := trivial; clear hp tk3 _tk))
    | (go_at_call 21; have _tk := tk4; go_loud ((with_reducible refine (next_q _ W _ _ _ _ 10 10 rfl _ HP4.out (by simp only [List.length_drop, HL.out]; decide) (by simp only [List.length_drop, HL.out]; decide) (by simp only [List.length_drop, HL.out]; decide)).mono ?_); rintro e w7 ⟨A7, rfl, hr7, hp⟩; have HR7 := Lib.hid hr7; have HP5 := Lib.hid hp; have tk5 : True := trivial; clear hp hr7 tk4 _tk))
    | (go_at_call 23; have _tk := tk5; go_loud ((with_reducible refine (zero_at A7 10 10 _ true _ (by simp only [List.length_take, List.length_drop, HL.out]; decide) HZ1.out HR7.out (by decide) (by simp only [List.length_take, List.length_drop, HL.out]; decide)).mono ?_); rintro e w8 ⟨rfl, hd8⟩; have HP6 := Lib.hid (HP5.out.drawn hd8); clear hd8; obtain ⟨A5, c5, hb5, hc5, hr5, _⟩ := HP6.out.pp.st; have hl5 : ((((((A.drop 4).drop 8).drop 4).drop 1).drop 1).drop 10).length = 96 := (by simp only [List.length_drop, HL.out]); rw [hl5] at hb5 hc5; obtain ⟨A6, hcut6, hrc6⟩ := run_cutB A5 96 c5 zn (by omega) hc5 (by decide); have hcut7 := hcut6 w8; have HR6 := Lib.hid (hrc6 _ _ hl5.symm hr5); have hx6 : w8.cell? ⟨w1.heap.size, 0, none⟩ = some (.slice A5 96 c5) := (by rw [blk_cell hb5]; rfl); have HC5 := Lib.hid hc5; have HL5 := Lib.hid hl5; have hzc : zn ≤ c5 := (by omega); clear hb5 hc5 hr5 hrc6 hcut6 hl5; have tk6 : True := trivial; clear tk5 _tk))
    | (go_at_call 23; have _tk := tk6; go_loud ((with_reducible refine (zero_at A6 (96 - zn) (c5 - zn) _ false _ (by rw [List.length_drop, HL5.out]) HZ2.out HR6.out (by have := HC5.out; omega) (by rw [List.length_drop, HL5.out]; omega)).mono ?_); rintro e w9 ⟨rfl, hd9⟩; have HP7 := Lib.hid (HP6.out.drawn hd9); clear hd9; have hcl9 : w9.cell? ⟨w1.heap.size + 1, 0, none⟩ = some (.func (.func 21) #[] #[.pointer (some ⟨w1.heap.size, 0, none⟩)]) := (by rw [blk_cell HP7.out.pp.cl]; rfl); have tk7 : True := trivial; clear tk6 _tk))
    | (refine store_blk rfl TP (.tmp 2) (.tmp 58) rfl W.heap.size BZ BZ rfl rfl TP HP7.out.pp.out (by kernel_rfl) rfl (four_one _ _ _ _ _ _) ?_; go_loud (intro w10 h10 hw10; have HB10 := Lib.hid (HP7.out.pp.bel.trans (hw10.below (Nat.le_refl _) HP7.out.pp.bel.size)); have HH10 := Lib.hid h10; clear h10 hw10)))
  (try simp only [Exit.inBlock, Exit.then])
  refine bodyPost_ret (results_row_tmp (P := Tryd.prog) rfl _ _ W.heap.size TP BZ (0, 0) _ (by rfl) HH10.out Tryd.underlying26 rfl (by kernel_rfl)) rfl ?_
  exact ⟨rfl, HB10.out⟩
set_option maxRecDepth 100000 in
set_option maxHeartbeats 8000000 in
theorem fine (A0 : Option Addr) (c0 : Nat) (X : List Int) (W : World) (h : RC W A0 X) (hc : X.length ≤ c0) (hl : X.length = 128) (hA : AreB X) (hM : X.take 4 = MARK) (hS : X = sealI (X.take 124)) (hq : bn X 17 ≤ 96) (hq2 : ∀ x ∈ ((X.take 124).drop 18).take 10, x = 0) (hq3 : ∀ x ∈ ((X.take 124).drop 28).drop (bn X 17).toNat, x = 0) :
    Calls Tryd.prog 12 #[.slice A0 128 c0] W fun e w' => ∃ v, e = .returned (.tuple #[.agg #[.int .u64 (beN (((X.take 124).drop 4).take 8)), .int .u32 (beN (((X.take 124).drop 12).take 4)), .int .u8 (bn X 16), v], .int .i64 0]) ∧ OWN w' W.heap.size v (((X.take 124).drop 28).take (bn X 17).toNat) ∧ Below W.heap.size W w' := by
  have hcv := conv4 (c0 := c0) (h.below ((Below.refl W.heap.size W).alloc (Nat.le_refl _) (.cells BZ TP))) hl
  rw [mark_str hM] at hcv
  have hne : ((128 : Int) != 128) = false := rfl
  have hc4 : 4 ≤ c0 := by omega
  have HO := Lib.hid (open_at A0 c0 X (W.alloc (.cells BZ TP)) (h.below ((Below.refl W.heap.size W).alloc (Nat.le_refl _) (.cells BZ TP))) hc hA hl)
  have HS := Lib.hid hS
  obtain ⟨A, hAA⟩ : ∃ A, A = X.take 124 := ⟨_, rfl⟩
  have HL := Lib.hid (show A.length = 124 by rw [hAA, List.length_take]; omega)
  have HAA := Lib.hid hAA
  have HAB := Lib.hid (show AreB A by rw [hAA]; exact fun x hx => hA x (List.mem_of_mem_take hx))
  obtain ⟨K, hK⟩ : ∃ K, K = beN ((A.drop 4).take 8) := ⟨_, rfl⟩
  obtain ⟨S, hSs⟩ : ∃ S, S = beN (((A.drop 4).drop 8).take 4) := ⟨_, rfl⟩
  obtain ⟨D, hD⟩ : ∃ D, D = beN ((((A.drop 4).drop 8).drop 4).take 1) := ⟨_, rfl⟩
  obtain ⟨Z, hZ⟩ : ∃ Z, Z = beN (((((A.drop 4).drop 8).drop 4).drop 1).take 1) := ⟨_, rfl⟩
  have HK := Lib.hid hK
  have HSs := Lib.hid hSs
  have HD := Lib.hid hD
  have HZ := Lib.hid hZ
  have dB : ∀ n (l : List Int), AreB l → AreB (l.drop n) := fun n l h x hx => h x (List.mem_of_mem_drop hx)
  have HDB := Lib.hid dB
  have hws : IntKind.u32.wrap S = S := by
    have := beN_range (l := ((A.drop 4).drop 8).take 4) (fun x hx => dB 8 _ (dB 4 _ HAB.out) x (List.mem_of_mem_take hx))
    rw [← hSs, show (((A.drop 4).drop 8).take 4).length = 4 by simp only [List.length_take, List.length_drop, HL.out]; decide] at this
    rw [IntKind.wrap_u32]; omega
  have hwd : IntKind.u8.wrap D = D := by
    have := beN_range (l := (((A.drop 4).drop 8).drop 4).take 1) (fun x hx => dB 4 _ (dB 8 _ (dB 4 _ HAB.out)) x (List.mem_of_mem_take hx))
    rw [← hD, show ((((A.drop 4).drop 8).drop 4).take 1).length = 1 by simp only [List.length_take, List.length_drop, HL.out]; decide] at this
    rw [IntKind.wrap_u8]; omega
  have hzr : 0 ≤ Z ∧ Z < 256 := by
    have := beN_range (l := ((((A.drop 4).drop 8).drop 4).drop 1).take 1) (fun x hx => dB 1 _ (dB 4 _ (dB 8 _ (dB 4 _ HAB.out))) x (List.mem_of_mem_take hx))
    rw [← hZ, show (((((A.drop 4).drop 8).drop 4).drop 1).take 1).length = 1 by simp only [List.length_take, List.length_drop, HL.out]; decide] at this
    omega
  obtain ⟨zn, rfl⟩ := Int.eq_ofNat_of_zero_le hzr.1
  have hwz : IntKind.i64.wrap (zn : Int) = (zn : Int) := by rw [IntKind.wrap_i64]; omega
  have hznA : zn = (bn X 17).toNat := by
    have e1 : ((((A.drop 4).drop 8).drop 4).drop 1).take 1 = [bn X 17] := by
      rw [hAA]
      apply List.ext_getElem?
      intro j
      simp only [List.getElem?_take, List.getElem?_drop]
      match j with
      | 0 =>
        simp only [show (0 : Nat) < 1 from Nat.zero_lt_one, if_true]
        rw [if_pos (by decide), bn_getD, List.getD_eq_getElem?_getD, List.getElem?_eq_getElem (by omega)]
        rfl
      | j + 1 =>
        rw [if_neg (by omega)]
        rfl
    rw [e1] at hZ
    have : beN [bn X 17] = bn X 17 := by unfold beN; simp
    rw [this] at hZ
    rw [← hZ]; rfl
  have tk0 : True := trivial
  have hbx := bytes_of_mem hA 17
  have hbig : ¬ (zn : Int) > 96 := by omega
  have hzn96 : zn ≤ 96 := by omega
  have e18 : (((((A.drop 4).drop 8).drop 4).drop 1).drop 1).take 10 = ((X.take 124).drop 18).take 10 := by rw [hAA]; simp only [List.drop_drop]
  have e28 : ((((((A.drop 4).drop 8).drop 4).drop 1).drop 1).drop 10).drop zn = ((X.take 124).drop 28).drop (bn X 17).toNat := by rw [hAA, ← hznA]; simp only [List.drop_drop]
  have HZ1 := Lib.hid (show true = decide (∀ x ∈ (((((A.drop 4).drop 8).drop 4).drop 1).drop 1).take 10, x = 0) by rw [e18]; exact (decide_eq_true hq2).symm)
  have HZ2 := Lib.hid (show true = decide (∀ x ∈ ((((((A.drop 4).drop 8).drop 4).drop 1).drop 1).drop 10).drop zn, x = 0) by rw [e28]; exact (decide_eq_true hq3).symm)
  have HQ1 := Lib.hid (show beN (((X.take 124).drop 4).take 8) = K by rw [hK, hAA])
  have HQ2 := Lib.hid (show beN (((X.take 124).drop 12).take 4) = S by rw [hSs, hAA]; simp only [List.drop_drop])
  have HQ3 := Lib.hid (show bn X 16 = D by
    have e1 : (((A.drop 4).drop 8).drop 4).take 1 = [bn X 16] := by
      rw [hAA]
      apply List.ext_getElem?
      intro j
      simp only [List.getElem?_take, List.getElem?_drop]
      match j with
      | 0 =>
        simp only [show (0 : Nat) < 1 from Nat.zero_lt_one, if_true]
        rw [if_pos (by decide), bn_getD, List.getD_eq_getElem?_getD, List.getElem?_eq_getElem (by omega)]
        rfl
      | j + 1 =>
        rw [if_neg (by omega)]
        rfl
    rw [hD, e1]
    unfold beN; simp)
  have HQ4 := Lib.hid (show ((((((A.drop 4).drop 8).drop 4).drop 1).drop 1).drop 10).take zn = ((X.take 124).drop 28).take (bn X 17).toNat by rw [hAA, ← hznA]; simp only [List.drop_drop])
  clear hq hq2 hq3 hbx hznA e18 e28
  clear hM hA h hc hl hS hAA hK hSs hD hZ dB
  go_enter Tryd.func12, Tryd.ntmps12
  go_wp2_with (first
    | (go_at_call 20; go_loud ((with_reducible refine HO.out.mono ?_); rintro e w1 ⟨v, rfl, hv, _, hb1⟩; have hv := hv HS.out; rw [decide_eq_true HS.out]; rw [← HAA.out] at hv; obtain ⟨A2, c2, rfl, hc2, hr2, hab2⟩ := hv.form; rw [HL.out] at hc2; obtain ⟨a2, rfl, hlt2, _⟩ := hr2 (by intro e; have := HL.out; rw [e] at this; cases this); have hn4 : ¬ c2 = 4 := (by omega); have h4c : 4 ≤ c2 := (by omega); have hl124 : A.length = 124 := HL.out; have hst := store_new (P := Tryd.prog) (w1.alloc (.cells #[.slice (some { block := a2.block, off := a2.off + 4 }) 120 (c2 - 4)] TB)) .nilFunc (.func (.func 21) #[] #[.pointer (some ⟨w1.heap.size, 0, none⟩)]) 46 (w1.heap.size + 1) (by simp) rfl; have HP0 := Lib.hid (PP.start (((Below.refl W.heap.size W).alloc (Nat.le_refl _) (.cells BZ TP)).trans (hb1.mono (by simp))) ((hb1.block W.heap.size (by simp)).trans (blk_new W (.cells BZ TP))) hr2 hl124 hc2); have HR2 := Lib.hid hr2; have HLT := Lib.hid hlt2; have HB1 := Lib.hid (((Below.refl W.heap.size W).alloc (Nat.le_refl _) (.cells BZ TP)).trans (hb1.mono (by simp))); have HX1 := Lib.hid ((hb1.block W.heap.size (by simp)).trans (blk_new W (.cells BZ TP))); clear hb1 hv hr2))
    | (go_at_call 22; have _tk := tk0; go_loud ((with_reducible refine (number_at W _ _ _ 8 8 rfl K _ HK.out HP0.out (by simp only [List.length_drop, HL.out]; decide) (by decide) (by simp only [List.length_drop, HL.out]; decide) (HDB.out _ _ HAB.out)).mono ?_); rintro e w3 ⟨rfl, hp⟩; have HP1 := Lib.hid hp; have tk1 : True := trivial; clear hp tk0 _tk))
    | (go_at_call 22; have _tk := tk1; go_loud ((with_reducible refine (number_at W _ _ _ 4 4 rfl S _ HSs.out HP1.out (by simp only [List.length_drop, HL.out]; decide) (by decide) (by simp only [List.length_drop, HL.out]; decide) (HDB.out _ _ (HDB.out _ _ HAB.out))).mono ?_); rintro e w4 ⟨rfl, hp⟩; have HP2 := Lib.hid hp; have tk2 : True := trivial; clear hp tk1 _tk))
    | (go_at_call 22; have _tk := tk2; go_loud ((with_reducible refine (number_at W _ _ _ 1 1 rfl D _ HD.out HP2.out (by simp only [List.length_drop, HL.out]; decide) (by decide) (by simp only [List.length_drop, HL.out]; decide) (HDB.out _ _ (HDB.out _ _ (HDB.out _ _ HAB.out)))).mono ?_); rintro e w5 ⟨rfl, hp⟩; have HP3 := Lib.hid hp; have tk3 : True := trivial; clear hp tk2 _tk))
    | (go_at_call 22; have _tk := tk3; go_loud ((with_reducible refine (number_q #[.int .u64 K, .int .u32 S, .int .u8 D, .slice none 0 0] W _ _ _ _ 1 1 rfl (zn : Int) _ HZ.out (PQ.start HP3.out) (by simp only [List.length_drop, HL.out]; decide) (by decide) (by simp only [List.length_drop, HL.out]; decide) (HDB.out _ _ (HDB.out _ _ (HDB.out _ _ (HDB.out _ _ HAB.out))))).mono ?_); rintro e w6 ⟨rfl, hp⟩; have HP4 := Lib.hid hp; have hcl6 : w6.cell? ⟨w1.heap.size + 1, 0, none⟩ = some (.func (.func 21) #[] #[.pointer (some ⟨w1.heap.size, 0, none⟩)]) := (by rw [blk_cell hp.pp.cl]; rfl); have tk4 : True := trivial; clear hp tk3 _tk))
    | (go_at_call 21; have _tk := tk4; go_loud ((with_reducible refine (next_q _ W _ _ _ _ 10 10 rfl _ HP4.out (by simp only [List.length_drop, HL.out]; decide) (by simp only [List.length_drop, HL.out]; decide) (by simp only [List.length_drop, HL.out]; decide)).mono ?_); rintro e w7 ⟨A7, rfl, hr7, hp⟩; have HR7 := Lib.hid hr7; have HP5 := Lib.hid hp; have tk5 : True := trivial; clear hp hr7 tk4 _tk))
    | (go_at_call 23; have _tk := tk5; go_loud ((with_reducible refine (zero_at A7 10 10 _ true _ (by simp only [List.length_take, List.length_drop, HL.out]; decide) HZ1.out HR7.out (by decide) (by simp only [List.length_take, List.length_drop, HL.out]; decide)).mono ?_); rintro e w8 ⟨rfl, hd8⟩; have HP6 := Lib.hid (HP5.out.drawn hd8); clear hd8; obtain ⟨A5, c5, hb5, hc5, hr5, _⟩ := HP6.out.pp.st; have hl5 : ((((((A.drop 4).drop 8).drop 4).drop 1).drop 1).drop 10).length = 96 := (by simp only [List.length_drop, HL.out]); rw [hl5] at hb5 hc5; obtain ⟨A6, hcut6, hrc6⟩ := run_cutB A5 96 c5 zn (by omega) hc5 (by decide); have hcut7 := hcut6 w8; have HR6 := Lib.hid (hrc6 _ _ hl5.symm hr5); have hx6 : w8.cell? ⟨w1.heap.size, 0, none⟩ = some (.slice A5 96 c5) := (by rw [blk_cell hb5]; rfl); have HC5 := Lib.hid hc5; have HL5 := Lib.hid hl5; have hzc : zn ≤ c5 := (by omega); clear hb5 hc5 hr5 hrc6 hcut6 hl5; have tk6 : True := trivial; clear tk5 _tk))
    | (go_at_call 23; have _tk := tk6; go_loud ((with_reducible refine (zero_at A6 (96 - zn) (c5 - zn) _ true _ (by rw [List.length_drop, HL5.out]) HZ2.out HR6.out (by have := HC5.out; omega) (by rw [List.length_drop, HL5.out]; omega)).mono ?_); rintro e w9 ⟨rfl, hd9⟩; have HP7 := Lib.hid (HP6.out.drawn hd9); clear hd9; have hcl9 : w9.cell? ⟨w1.heap.size + 1, 0, none⟩ = some (.func (.func 21) #[] #[.pointer (some ⟨w1.heap.size, 0, none⟩)]) := (by rw [blk_cell HP7.out.pp.cl]; rfl); have tk7 : True := trivial; clear tk6 _tk))
    | (go_at_call 21; have _tk := tk7; go_loud ((with_reducible refine (next_q _ W _ _ _ _ zn (zn : Int) rfl _ HP7.out (by rw [HL5.out]; omega) (by rw [HL5.out]; decide) (by rw [HL5.out]; decide)).mono ?_); rintro e w10 ⟨A10, rfl, hr10, hp⟩; have HR10 := Lib.hid hr10; have HP8 := Lib.hid hp; have tk8 : True := trivial; clear hp hr10 tk7 _tk))
    | (go_at_call 24; have _tk := tk8; go_loud ((with_reducible refine (clone_at A10 zn zn _ _ (by rw [List.length_take, HL5.out]; omega) HR10.out (Nat.le_refl _) (by rw [List.length_take, HL5.out]; omega)).mono ?_); rintro e w11 ⟨A11, c11, rfl, ho11, hb11⟩; have hbx11 := (hb11.block _ (blk_lt HP8.out.bx)).trans HP8.out.bx; have hou11 := (hb11.block _ (blk_lt HP8.out.pp.out)).trans HP8.out.pp.out; have HW11 := Lib.hid (HP8.out.pp.bel.trans (hb11.mono HP8.out.pp.bel.size)); have HG3 := Lib.hid (blk_lt HP8.out.bx); have HG0 := Lib.hid (blk_lt HP8.out.pp.out); have HO11 := Lib.hid ho11; have HBX := Lib.hid hbx11; have HOU := Lib.hid hou11; have hx11 : w11.cell? ⟨w5.heap.size, 3, none⟩ = some (.slice none 0 0) := (by rw [blk_cell hbx11]; rfl); have hf11 := blk_frozen hbx11 3; have HSET := Lib.hid (show (w11.setCell ⟨w5.heap.size, 3, none⟩ (.slice A11 zn c11)).heap[w5.heap.size]? = some (.cells #[.int .u64 K, .int .u32 S, .int .u8 D, .slice A11 zn c11] TP (0, 0)) from (blk_set hbx11 3 _).trans rfl); have HSTO := Lib.hid (show (w11.setCell ⟨w5.heap.size, 3, none⟩ (.slice A11 zn c11)).heap[W.heap.size]? = some (.cells BZ TP (0, 0)) from (Below.heap_setCell w11 ⟨w5.heap.size, 3, none⟩ _ W.heap.size (by have := HP8.out.ord; have := HP8.out.pp.ord; show W.heap.size ≠ w5.heap.size; omega)).trans hou11); have HORD := Lib.hid (show W.heap.size < w5.heap.size by have := HP8.out.ord; have := HP8.out.pp.ord; omega); have tk9 : True := trivial; clear ho11 hb11 hbx11 hou11 tk8 _tk))
    | ((with_reducible refine gate_dst (N := 64) rfl ?_); refine wpList_load_row rfl TP (.tmp 8) rfl w5.heap.size rfl TP _ (0, 0) _ HSET.out Tryd.underlying26 rfl (by kernel_rfl) ?_)
    | (refine store_blk rfl TP (.tmp 2) (.tmp 64) rfl W.heap.size #[.int .u64 K, .int .u32 S, .int .u8 D, .slice A11 zn c11] BZ rfl rfl TP HSTO.out (by kernel_rfl) rfl (four_one _ _ _ _ _ _) ?_; go_loud (intro w12 h12 hw12; have HH12 := Lib.hid h12; have HW12 := Lib.hid hw12; clear h12 hw12)))
  (try simp only [Exit.inBlock, Exit.then])
  refine bodyPost_ret (results_row_tmp (P := Tryd.prog) rfl _ _ W.heap.size TP _ (0, 0) _ (by rfl) HH12.out Tryd.underlying26 rfl (by kernel_rfl)) rfl ?_
  rw [HQ1.out, HQ2.out, HQ3.out, ← HQ4.out]
  have hb1 := below_set (j := 3) (v := .slice A11 zn c11) HW11.out (Nat.le_of_lt HORD.out)
  exact ⟨.slice A11 zn c11, rfl, Kd.R_lower (own_wrote (own_wrote HO11.out (wrote_setCell (Wrote.refl w5.heap.size w11) 3 _) HG3.out) HW12.out HG0.out) (Nat.le_of_lt HG0.out), hb1.trans (HW12.out.below (Nat.le_refl _) hb1.size)⟩
theorem parse_calls (A0 : Option Addr) (c0 : Nat) (l0 : List Int) (r1 r2 r3 : Int) (r4 : List Int) (r5 : Int) (w : World) (hr0 : Kd.C (Kd.int .u8) w A0 l0.length l0) (hc0 : l0.length ≤ c0) (h : parseF l0 = some (r1, r2, r3, r4, r5)) :
    Calls Tryd.prog 12 #[.slice A0 l0.length c0] w fun e w' => ∃ v3_ : Value, e = .returned (.tuple #[.agg #[.int .u64 r1, .int .u32 r2, .int .u8 r3, v3_], .int .i64 r5]) ∧ Kd.R (Kd.int .u8) 5 w' w.heap.size (fun _ => True) v3_ r4 ∧ Below w.heap.size w w' := by
  unfold parseF at h
  by_cases hA : AreB l0
  case neg => rw [if_neg hA] at h; cases h
  rw [if_pos hA] at h
  have h := Option.some.inj h
  have hr := RC.of_C hr0
  have fin : ∀ {E : Int}, (Calls Tryd.prog 12 #[.slice A0 l0.length c0] w fun e w' => e = .returned (.tuple #[.agg BZ, .int .i64 E]) ∧ Below w.heap.size w w') → (0, 0, 0, [], E) = (r1, r2, r3, r4, r5) → Calls Tryd.prog 12 #[.slice A0 l0.length c0] w fun e w' => ∃ v3_ : Value, e = .returned (.tuple #[.agg #[.int .u64 r1, .int .u32 r2, .int .u8 r3, v3_], .int .i64 r5]) ∧ Kd.R (Kd.int .u8) 5 w' w.heap.size (fun _ => True) v3_ r4 ∧ Below w.heap.size w w' := by
    intro E hc he
    simp only [Prod.mk.injEq] at he
    obtain ⟨rfl, rfl, rfl, rfl, rfl⟩ := he
    refine hc.mono ?_
    rintro e w' ⟨rfl, hb⟩
    exact ⟨_, rfl, Kd.R_nil _ _ _ _ _, hb⟩
  by_cases hl : l0.length = 128
  · rw [if_pos hl] at h
    by_cases hM : l0.take 4 = MARK
    · rw [if_pos hM] at h
      by_cases hS : l0 = sealI (l0.take 124)
      · rw [if_pos hS] at h
        by_cases hf : fineS l0
        · rw [if_pos hf] at h
          simp only [Prod.mk.injEq] at h
          obtain ⟨rfl, rfl, rfl, rfl, rfl⟩ := h
          have := fine A0 c0 l0 w hr hc0 hl hA hM hS hf.1 hf.2.1 hf.2.2
          rw [hl]
          exact this
        · rw [if_neg hf] at h
          refine fin ?_ h
          rw [hl]
          by_cases q1 : bn l0 17 ≤ 96
          · by_cases q2 : ∀ x ∈ ((l0.take 124).drop 18).take 10, x = 0
            · exact dirtier A0 c0 l0 w hr hc0 hl hA hM hS q1 q2 (fun q3 => hf ⟨q1, q2, q3⟩)
            · exact dirty A0 c0 l0 w hr hc0 hl hA hM hS q1 q2
          · exact many A0 c0 l0 w hr hc0 hl hA hM hS q1
      · rw [if_neg hS] at h
        refine fin ?_ h
        rw [hl]
        exact unsealed A0 c0 l0 w hr hc0 hl hA hM hS
    · rw [if_neg hM] at h
      refine fin ?_ h
      rw [hl]
      exact unmarked A0 c0 l0 w hr hc0 hl hA hM
  · rw [if_neg hl] at h
    exact fin (short A0 c0 l0 w hl) h
end Go.Proofs.YthmcigdkopadjaaDoor.Parse6w
end

/- Pack and Parse in one word each. -/
section
namespace Go.Proofs.YthmcigdkopadjaaDoor.ParseC
open Go.Proofs.YthmcigdkopadjaaDoor Go.RowKit Go.Proofs.YthmcigdkopadjaaDoorW.PrintWords Go.Proofs.YthmcigdkopadjaaDoorW.PrintLast Go.Proofs.YthmcigdkopadjaaDoorW.PrintMore
set_option linter.unusedVariables false
def packF (key stripe shard : Int) (data : List Int) : Option (List Int × Int) := Pack6.packF key stripe shard data
def parseF (X : List Int) : Option (Int × Int × Int × List Int × Int) := Parse6.parseF X
theorem pack_calls (a0_0 a0_1 a0_2 : Int) (A0_3 : Option Addr) (c0_3 : Nat) (l0_3 : List Int) (r1 : List Int) (r2 : Int) (w : World) (hr : Kd.C (Kd.int .u8) w A0_3 l0_3.length l0_3) (hc : l0_3.length ≤ c0_3) (h : packF a0_0 a0_1 a0_2 l0_3 = some (r1, r2)) :
    Calls Tryd.prog 9 #[.agg #[.int .u64 a0_0, .int .u32 a0_1, .int .u8 a0_2, .slice A0_3 l0_3.length c0_3]] w fun e w' => ∃ v0_ : Value, e = .returned (.tuple #[v0_, .int .i64 r2]) ∧ Kd.R (Kd.int .u8) 5 w' w.heap.size (fun _ => True) v0_ r1 ∧ Below w.heap.size w w' := Pack6.pack_calls a0_0 a0_1 a0_2 A0_3 c0_3 l0_3 r1 r2 w hr hc h
theorem parse_calls (A0 : Option Addr) (c0 : Nat) (l0 : List Int) (r1 r2 r3 : Int) (r4 : List Int) (r5 : Int) (w : World) (hr0 : Kd.C (Kd.int .u8) w A0 l0.length l0) (hc0 : l0.length ≤ c0) (h : parseF l0 = some (r1, r2, r3, r4, r5)) :
    Calls Tryd.prog 12 #[.slice A0 l0.length c0] w fun e w' => ∃ v3_ : Value, e = .returned (.tuple #[.agg #[.int .u64 r1, .int .u32 r2, .int .u8 r3, v3_], .int .i64 r5]) ∧ Kd.R (Kd.int .u8) 5 w' w.heap.size (fun _ => True) v3_ r4 ∧ Below w.heap.size w w' := Parse6w.parse_calls A0 c0 l0 r1 r2 r3 r4 r5 w hr0 hc0 h
end Go.Proofs.YthmcigdkopadjaaDoor.ParseC
end

-- Written by wip/tools/myprint.py, a program of this session over the print tool: not a printed text of the kit's
section
namespace Go.Proofs.YthmcigdkopadjaaDoor.PIs
open Go.RowKit Go.Proofs.YthmcigdkopadjaaDoorW.PrintWords Go.Proofs.YthmcigdkopadjaaDoorW.PrintLast Go.Proofs.YthmcigdkopadjaaDoorW.PrintMore
attribute [local go_sem] max2_int min2_int max_two min_two max_three min_three max_four min_four   -- for this text's walks alone
set_option linter.unusedVariables false
set_option linter.unusedSimpArgs false
set_option maxRecDepth 20000



def errW : Option Int → Value
  | none => .nilIface
  | some c => .iface 0 (.int .i64 c)
theorem errW_none : errW none = .nilIface := rfl
theorem errW_some (c : Int) : errW (some c) = .iface 0 (.int .i64 c) := rfl

-- the values' own types

end Go.Proofs.YthmcigdkopadjaaDoor.PIs
end

-- Written by wip/tools/myprint.py, a program of this session over the print tool: not a printed text of the kit's
section
namespace Go.Proofs.YthmcigdkopadjaaDoor.PIs
open Go.RowKit Go.Proofs.YthmcigdkopadjaaDoorW.PrintWords Go.Proofs.YthmcigdkopadjaaDoorW.PrintLast Go.Proofs.YthmcigdkopadjaaDoorW.PrintMore
attribute [local go_sem] max2_int min2_int max_two min_two max_three min_three max_four min_four   -- for this text's walks alone
set_option linter.unusedVariables false
set_option linter.unusedSimpArgs false
set_option maxRecDepth 20000

/-! ### block_Parse: function 12 (proved by hand: ParseC.parse_calls) -/
def block_Parse.f (l0 : List Int) : Option (Int × Int × Int × List Int × Int) := Go.Proofs.YthmcigdkopadjaaDoor.ParseC.parseF l0
theorem block_Parse.calls (A0 : Option Addr) (c0 : Nat) (l0 : List Int) (r1 : Int) (r2 : Int) (r3 : Int) (r4 : List Int) (r5 : Int) (w : World) (hr0 : Kd.C (Kd.int .u8) w A0 l0.length l0) (hc0 : l0.length ≤ c0) (h : block_Parse.f l0 = some (r1, r2, r3, r4, r5)) :
    Calls Tryd.prog 12 #[.slice A0 l0.length c0] w fun e w' => ∃ v3_ : Value, e = .returned (.tuple #[.agg #[.int .u64 r1, .int .u32 r2, .int .u8 r3, v3_], .int .i64 r5]) ∧ Kd.R (Kd.int .u8) 5 w' w.heap.size (fun _ => True) v3_ r4 ∧ Below w.heap.size w w' :=
  Go.Proofs.YthmcigdkopadjaaDoor.ParseC.parse_calls A0 c0 l0 r1 r2 r3 r4 r5 w hr0 hc0 h

/-! ### block_Is: function 13 -/
def block_Is.f (l0 : List Int) (a1 : Int) (a2 : Int) (a3 : Int) : Option (Bool) := (block_Parse.f l0).bind fun bt101 => (if bt101.2.2.2.2 = 0 then (if bt101.1 = a1 then (if bt101.2.1 = a2 then (some (bt101.2.2.1 == a3)) else (some false)) else (some false)) else (some false))
set_option maxHeartbeats 8000000 in
set_option maxRecDepth 100000 in
theorem block_Is.calls (A0 : Option Addr) (c0 : Nat) (l0 : List Int) (a1 : Int) (a2 : Int) (a3 : Int) (r : Bool) (w : World) (hr0 : Kd.C (Kd.int .u8) w A0 l0.length l0) (hc0 : l0.length ≤ c0) (h : block_Is.f l0 a1 a2 a3 = some r) :
    Calls Tryd.prog 13 #[.slice A0 l0.length c0, .int .u64 a1, .int .u32 a2, .int .u8 a3] w fun e w' => e = .returned (.bool r) ∧ Below w.heap.size w w' := by
  have hu26 := Tryd.underlying26
  have HR0 := Aside0.mk hr0
  have HC0 := Aside0.mk hc0
  clear hr0 hc0
  have HB := Aside0.mk (Below.refl w.heap.size w)
  have H : ((block_Parse.f l0).bind fun bt101 => (if bt101.2.2.2.2 = 0 then (if bt101.1 = a1 then (if bt101.2.1 = a2 then (some (bt101.2.2.1 == a3)) else (some false)) else (some false)) else (some false))) = some r := h
  clear h
  replace H := Option.bind_eq_some_iff.mp H
  obtain ⟨⟨t101, t102, t103, t104, t107⟩, A50, H⟩ := H
  replace H : (if t107 = 0 then (if t101 = a1 then (if t102 = a2 then (some (t103 == a3)) else (some false)) else (some false)) else (some false)) = some r := H
  have A5 := Aside0.mk A50
  clear A50
  by_cases c6 : t107 = 0
  · rw [if_pos c6] at H
    have c6b0 : (t107 == 0) = true := beq_iff_eq.mpr c6
    have c6b1 : (t107 != 0) = false := bne_eq_false_iff_eq.mpr c6
    clear c6
    by_cases c7 : t101 = a1
    · rw [if_pos c7] at H
      have c7b0 : (t101 == a1) = true := beq_iff_eq.mpr c7
      have c7b1 : (t101 != a1) = false := bne_eq_false_iff_eq.mpr c7
      clear c7
      by_cases c8 : t102 = a2
      · rw [if_pos c8] at H
        have c8b0 : (t102 == a2) = true := beq_iff_eq.mpr c8
        have c8b1 : (t102 != a2) = false := bne_eq_false_iff_eq.mpr c8
        clear c8
        obtain rfl := Option.some.inj H
        go_enter Tryd.func13, Tryd.ntmps13
        go_wp2_with (first | ((with_reducible refine gate_callee (f := 12) rfl ?_); refine goesL_ (some 13) rfl rfl Tryd.func12 (by kernel_rfl) rfl #[.slice A0 l0.length c0] rfl (by (try simp only [List.map_toArray, List.map_cons, List.map_nil]); first | done | rfl | (simp only [List.length_drop, List.length_take]; rfl)) ?_; (with_reducible refine (block_Parse.calls _ _ l0 t101 t102 t103 t104 t107 _ ?side1 ?side2 A5.out).mono ?_); (case side1 => repeat (first | exact HR0.out | (with_reducible refine Kd.C_alloc ?_ _) | (with_reducible refine Kd.C_drewN ?_ _) | (with_reducible refine Kd.C_drew ?_))); (case side2 => exact HC0.out); rintro e w9 ⟨v105, rfl, ho0, hb⟩; refine ⟨_, rfl, ?_⟩; have n0_ := Aside0.mk (Kd.R_lower ho0 (below_size (by repeat (first | (with_reducible first | exact HB.out | apply below_alloc | apply pw_below_drewN | apply below_drew1) | exact HB.out)))); have n1_ := Aside0.mk (below_step (by repeat (first | (with_reducible first | exact HB.out | apply below_alloc | apply pw_below_drewN | apply below_drew1) | exact HB.out)) hb); clear HB; have HO106 := n0_; have HB := n1_; clear n0_ n1_; (try clear hb); (try clear hb2); (try clear hk); (try clear hi); (try clear ho0)) | ((with_reducible refine gate_dst (N := 9) rfl ?_); refine box_event ?hg (N := 9) ?hd (cs := #[.int .u64 0, .int .u32 0, .int .u8 0, .slice none 0 0]) (t := 26) ?hr ?_; (case hd => rfl); (case hg => rfl); (case hr => first | (go_simp; done) | (go_simp; rfl)); intro gb108 hg w10 hbox hb; have n0_ := Aside0.mk (Kd.R_below (by (with_reducible repeat (first | apply Kd.R_alloc | apply Kd.R_drewN | apply Kd.R_drew)); exact HO106.out) hb); have n1_ := Aside0.mk (below_step (by repeat (first | (with_reducible first | exact HB.out | apply below_alloc | apply pw_below_drewN | apply below_drew1) | exact HB.out)) hb); have n2_ := Aside0.mk (hbox); have n3_ := Aside0.mk ((by rw [hg]; exact (below_size (by repeat (first | (with_reducible first | exact HB.out | apply below_alloc | apply pw_below_drewN | apply below_drew1) | exact HB.out))) : w.heap.size ≤ gb108)); have n4_ := Aside0.mk ((by rw [hg]; exact (below_size (by repeat (first | (with_reducible first | exact HB.out | apply below_alloc | apply pw_below_drewN | apply below_drew1) | exact HB.out))) : w.heap.size ≤ gb108)); clear HO106; clear HB; have HO106 := n0_; have HB := n1_; have BK108 := n2_; have GW108 := n3_; have GE108 := n4_; clear n0_ n1_ n2_ n3_ n4_; clear hb hbox hg; have hcz11_0 : w10.cell? ⟨gb108, 0, none⟩ = some (.int .u64 0) := (blk_cell BK108.out 0).trans rfl; have hcz11_1 : w10.cell? ⟨gb108, 1, none⟩ = some (.int .u32 0) := (blk_cell BK108.out 1).trans rfl; have hcz11_2 : w10.cell? ⟨gb108, 2, none⟩ = some (.int .u8 0) := (blk_cell BK108.out 2).trans rfl; have hcz11_3 : w10.cell? ⟨gb108, 3, none⟩ = some (.slice none 0 0) := (blk_cell BK108.out 3).trans rfl; have hfz11_0 := blk_frozen BK108.out 0; have hfz11_1 := blk_frozen BK108.out 1; have hfz11_2 := blk_frozen BK108.out 2; have hfz11_3 := blk_frozen BK108.out 3; obtain ⟨Ao12, co12, eo12⟩ := Kd.R_slice HO106.out; subst eo12))
        go_ret
        exact ⟨by first | rfl | (simp [errW_none, errW_some] <;> rfl) | (simp [*, errW_none, errW_some] <;> rfl), by repeat (first | (with_reducible first | exact HB.out | apply below_alloc | apply pw_below_drewN | apply below_drew1 | refine below_set ?_ GE108.out) | exact HB.out)⟩
      · rw [if_neg c8] at H
        have c8b0 : (t102 == a2) = false := beq_eq_false_iff_ne.mpr c8
        have c8b1 : (t102 != a2) = true := bne_iff_ne.mpr c8
        obtain rfl := Option.some.inj H
        go_enter Tryd.func13, Tryd.ntmps13
        go_wp2_with (first | ((with_reducible refine gate_callee (f := 12) rfl ?_); refine goesL_ (some 13) rfl rfl Tryd.func12 (by kernel_rfl) rfl #[.slice A0 l0.length c0] rfl (by (try simp only [List.map_toArray, List.map_cons, List.map_nil]); first | done | rfl | (simp only [List.length_drop, List.length_take]; rfl)) ?_; (with_reducible refine (block_Parse.calls _ _ l0 t101 t102 t103 t104 t107 _ ?side1 ?side2 A5.out).mono ?_); (case side1 => repeat (first | exact HR0.out | (with_reducible refine Kd.C_alloc ?_ _) | (with_reducible refine Kd.C_drewN ?_ _) | (with_reducible refine Kd.C_drew ?_))); (case side2 => exact HC0.out); rintro e w13 ⟨v105, rfl, ho0, hb⟩; refine ⟨_, rfl, ?_⟩; have n0_ := Aside0.mk (Kd.R_lower ho0 (below_size (by repeat (first | (with_reducible first | exact HB.out | apply below_alloc | apply pw_below_drewN | apply below_drew1) | exact HB.out)))); have n1_ := Aside0.mk (below_step (by repeat (first | (with_reducible first | exact HB.out | apply below_alloc | apply pw_below_drewN | apply below_drew1) | exact HB.out)) hb); clear HB; have HO106 := n0_; have HB := n1_; clear n0_ n1_; (try clear hb); (try clear hb2); (try clear hk); (try clear hi); (try clear ho0)) | ((with_reducible refine gate_dst (N := 9) rfl ?_); refine box_event ?hg (N := 9) ?hd (cs := #[.int .u64 0, .int .u32 0, .int .u8 0, .slice none 0 0]) (t := 26) ?hr ?_; (case hd => rfl); (case hg => rfl); (case hr => first | (go_simp; done) | (go_simp; rfl)); intro gb108 hg w14 hbox hb; have n0_ := Aside0.mk (Kd.R_below (by (with_reducible repeat (first | apply Kd.R_alloc | apply Kd.R_drewN | apply Kd.R_drew)); exact HO106.out) hb); have n1_ := Aside0.mk (below_step (by repeat (first | (with_reducible first | exact HB.out | apply below_alloc | apply pw_below_drewN | apply below_drew1) | exact HB.out)) hb); have n2_ := Aside0.mk (hbox); have n3_ := Aside0.mk ((by rw [hg]; exact (below_size (by repeat (first | (with_reducible first | exact HB.out | apply below_alloc | apply pw_below_drewN | apply below_drew1) | exact HB.out))) : w.heap.size ≤ gb108)); have n4_ := Aside0.mk ((by rw [hg]; exact (below_size (by repeat (first | (with_reducible first | exact HB.out | apply below_alloc | apply pw_below_drewN | apply below_drew1) | exact HB.out))) : w.heap.size ≤ gb108)); clear HO106; clear HB; have HO106 := n0_; have HB := n1_; have BK108 := n2_; have GW108 := n3_; have GE108 := n4_; clear n0_ n1_ n2_ n3_ n4_; clear hb hbox hg; have hcz15_0 : w14.cell? ⟨gb108, 0, none⟩ = some (.int .u64 0) := (blk_cell BK108.out 0).trans rfl; have hcz15_1 : w14.cell? ⟨gb108, 1, none⟩ = some (.int .u32 0) := (blk_cell BK108.out 1).trans rfl; have hcz15_2 : w14.cell? ⟨gb108, 2, none⟩ = some (.int .u8 0) := (blk_cell BK108.out 2).trans rfl; have hcz15_3 : w14.cell? ⟨gb108, 3, none⟩ = some (.slice none 0 0) := (blk_cell BK108.out 3).trans rfl; have hfz15_0 := blk_frozen BK108.out 0; have hfz15_1 := blk_frozen BK108.out 1; have hfz15_2 := blk_frozen BK108.out 2; have hfz15_3 := blk_frozen BK108.out 3; obtain ⟨Ao16, co16, eo16⟩ := Kd.R_slice HO106.out; subst eo16))
        go_ret
        exact ⟨by first | rfl | (simp [errW_none, errW_some] <;> rfl) | (simp [*, errW_none, errW_some] <;> rfl), by repeat (first | (with_reducible first | exact HB.out | apply below_alloc | apply pw_below_drewN | apply below_drew1 | refine below_set ?_ GE108.out) | exact HB.out)⟩
    · rw [if_neg c7] at H
      have c7b0 : (t101 == a1) = false := beq_eq_false_iff_ne.mpr c7
      have c7b1 : (t101 != a1) = true := bne_iff_ne.mpr c7
      obtain rfl := Option.some.inj H
      go_enter Tryd.func13, Tryd.ntmps13
      go_wp2_with (first | ((with_reducible refine gate_callee (f := 12) rfl ?_); refine goesL_ (some 13) rfl rfl Tryd.func12 (by kernel_rfl) rfl #[.slice A0 l0.length c0] rfl (by (try simp only [List.map_toArray, List.map_cons, List.map_nil]); first | done | rfl | (simp only [List.length_drop, List.length_take]; rfl)) ?_; (with_reducible refine (block_Parse.calls _ _ l0 t101 t102 t103 t104 t107 _ ?side1 ?side2 A5.out).mono ?_); (case side1 => repeat (first | exact HR0.out | (with_reducible refine Kd.C_alloc ?_ _) | (with_reducible refine Kd.C_drewN ?_ _) | (with_reducible refine Kd.C_drew ?_))); (case side2 => exact HC0.out); rintro e w17 ⟨v105, rfl, ho0, hb⟩; refine ⟨_, rfl, ?_⟩; have n0_ := Aside0.mk (Kd.R_lower ho0 (below_size (by repeat (first | (with_reducible first | exact HB.out | apply below_alloc | apply pw_below_drewN | apply below_drew1) | exact HB.out)))); have n1_ := Aside0.mk (below_step (by repeat (first | (with_reducible first | exact HB.out | apply below_alloc | apply pw_below_drewN | apply below_drew1) | exact HB.out)) hb); clear HB; have HO106 := n0_; have HB := n1_; clear n0_ n1_; (try clear hb); (try clear hb2); (try clear hk); (try clear hi); (try clear ho0)) | ((with_reducible refine gate_dst (N := 9) rfl ?_); refine box_event ?hg (N := 9) ?hd (cs := #[.int .u64 0, .int .u32 0, .int .u8 0, .slice none 0 0]) (t := 26) ?hr ?_; (case hd => rfl); (case hg => rfl); (case hr => first | (go_simp; done) | (go_simp; rfl)); intro gb108 hg w18 hbox hb; have n0_ := Aside0.mk (Kd.R_below (by (with_reducible repeat (first | apply Kd.R_alloc | apply Kd.R_drewN | apply Kd.R_drew)); exact HO106.out) hb); have n1_ := Aside0.mk (below_step (by repeat (first | (with_reducible first | exact HB.out | apply below_alloc | apply pw_below_drewN | apply below_drew1) | exact HB.out)) hb); have n2_ := Aside0.mk (hbox); have n3_ := Aside0.mk ((by rw [hg]; exact (below_size (by repeat (first | (with_reducible first | exact HB.out | apply below_alloc | apply pw_below_drewN | apply below_drew1) | exact HB.out))) : w.heap.size ≤ gb108)); have n4_ := Aside0.mk ((by rw [hg]; exact (below_size (by repeat (first | (with_reducible first | exact HB.out | apply below_alloc | apply pw_below_drewN | apply below_drew1) | exact HB.out))) : w.heap.size ≤ gb108)); clear HO106; clear HB; have HO106 := n0_; have HB := n1_; have BK108 := n2_; have GW108 := n3_; have GE108 := n4_; clear n0_ n1_ n2_ n3_ n4_; clear hb hbox hg; have hcz19_0 : w18.cell? ⟨gb108, 0, none⟩ = some (.int .u64 0) := (blk_cell BK108.out 0).trans rfl; have hcz19_1 : w18.cell? ⟨gb108, 1, none⟩ = some (.int .u32 0) := (blk_cell BK108.out 1).trans rfl; have hcz19_2 : w18.cell? ⟨gb108, 2, none⟩ = some (.int .u8 0) := (blk_cell BK108.out 2).trans rfl; have hcz19_3 : w18.cell? ⟨gb108, 3, none⟩ = some (.slice none 0 0) := (blk_cell BK108.out 3).trans rfl; have hfz19_0 := blk_frozen BK108.out 0; have hfz19_1 := blk_frozen BK108.out 1; have hfz19_2 := blk_frozen BK108.out 2; have hfz19_3 := blk_frozen BK108.out 3; obtain ⟨Ao20, co20, eo20⟩ := Kd.R_slice HO106.out; subst eo20))
      go_ret
      exact ⟨by first | rfl | (simp [errW_none, errW_some] <;> rfl) | (simp [*, errW_none, errW_some] <;> rfl), by repeat (first | (with_reducible first | exact HB.out | apply below_alloc | apply pw_below_drewN | apply below_drew1 | refine below_set ?_ GE108.out) | exact HB.out)⟩
  · rw [if_neg c6] at H
    have c6b0 : (t107 == 0) = false := beq_eq_false_iff_ne.mpr c6
    have c6b1 : (t107 != 0) = true := bne_iff_ne.mpr c6
    obtain rfl := Option.some.inj H
    go_enter Tryd.func13, Tryd.ntmps13
    go_wp2_with (first | ((with_reducible refine gate_callee (f := 12) rfl ?_); refine goesL_ (some 13) rfl rfl Tryd.func12 (by kernel_rfl) rfl #[.slice A0 l0.length c0] rfl (by (try simp only [List.map_toArray, List.map_cons, List.map_nil]); first | done | rfl | (simp only [List.length_drop, List.length_take]; rfl)) ?_; (with_reducible refine (block_Parse.calls _ _ l0 t101 t102 t103 t104 t107 _ ?side1 ?side2 A5.out).mono ?_); (case side1 => repeat (first | exact HR0.out | (with_reducible refine Kd.C_alloc ?_ _) | (with_reducible refine Kd.C_drewN ?_ _) | (with_reducible refine Kd.C_drew ?_))); (case side2 => exact HC0.out); rintro e w21 ⟨v105, rfl, ho0, hb⟩; refine ⟨_, rfl, ?_⟩; have n0_ := Aside0.mk (Kd.R_lower ho0 (below_size (by repeat (first | (with_reducible first | exact HB.out | apply below_alloc | apply pw_below_drewN | apply below_drew1) | exact HB.out)))); have n1_ := Aside0.mk (below_step (by repeat (first | (with_reducible first | exact HB.out | apply below_alloc | apply pw_below_drewN | apply below_drew1) | exact HB.out)) hb); clear HB; have HO106 := n0_; have HB := n1_; clear n0_ n1_; (try clear hb); (try clear hb2); (try clear hk); (try clear hi); (try clear ho0)) | ((with_reducible refine gate_dst (N := 9) rfl ?_); refine box_event ?hg (N := 9) ?hd (cs := #[.int .u64 0, .int .u32 0, .int .u8 0, .slice none 0 0]) (t := 26) ?hr ?_; (case hd => rfl); (case hg => rfl); (case hr => first | (go_simp; done) | (go_simp; rfl)); intro gb108 hg w22 hbox hb; have n0_ := Aside0.mk (Kd.R_below (by (with_reducible repeat (first | apply Kd.R_alloc | apply Kd.R_drewN | apply Kd.R_drew)); exact HO106.out) hb); have n1_ := Aside0.mk (below_step (by repeat (first | (with_reducible first | exact HB.out | apply below_alloc | apply pw_below_drewN | apply below_drew1) | exact HB.out)) hb); have n2_ := Aside0.mk (hbox); have n3_ := Aside0.mk ((by rw [hg]; exact (below_size (by repeat (first | (with_reducible first | exact HB.out | apply below_alloc | apply pw_below_drewN | apply below_drew1) | exact HB.out))) : w.heap.size ≤ gb108)); have n4_ := Aside0.mk ((by rw [hg]; exact (below_size (by repeat (first | (with_reducible first | exact HB.out | apply below_alloc | apply pw_below_drewN | apply below_drew1) | exact HB.out))) : w.heap.size ≤ gb108)); clear HO106; clear HB; have HO106 := n0_; have HB := n1_; have BK108 := n2_; have GW108 := n3_; have GE108 := n4_; clear n0_ n1_ n2_ n3_ n4_; clear hb hbox hg; have hcz23_0 : w22.cell? ⟨gb108, 0, none⟩ = some (.int .u64 0) := (blk_cell BK108.out 0).trans rfl; have hcz23_1 : w22.cell? ⟨gb108, 1, none⟩ = some (.int .u32 0) := (blk_cell BK108.out 1).trans rfl; have hcz23_2 : w22.cell? ⟨gb108, 2, none⟩ = some (.int .u8 0) := (blk_cell BK108.out 2).trans rfl; have hcz23_3 : w22.cell? ⟨gb108, 3, none⟩ = some (.slice none 0 0) := (blk_cell BK108.out 3).trans rfl; have hfz23_0 := blk_frozen BK108.out 0; have hfz23_1 := blk_frozen BK108.out 1; have hfz23_2 := blk_frozen BK108.out 2; have hfz23_3 := blk_frozen BK108.out 3; obtain ⟨Ao24, co24, eo24⟩ := Kd.R_slice HO106.out; subst eo24))
    go_ret
    exact ⟨by first | rfl | (simp [errW_none, errW_some] <;> rfl) | (simp [*, errW_none, errW_some] <;> rfl), by repeat (first | (with_reducible first | exact HB.out | apply below_alloc | apply pw_below_drewN | apply below_drew1 | refine below_set ?_ GE108.out) | exact HB.out)⟩

/-- THE ONE PURE STATEMENT of block_Is: yours. -/
def block_Is.Pure : Prop := ∀ (l0 : List Int) (a1 : Int) (a2 : Int) (a3 : Int), l0.length ≤ maxLen → l0.length * 1 ≤ 140737488351232 → (∀ x ∈ l0, (Lit.int .u8 x).wf = true) → (Lit.int .u64 a1).wf = true → (Lit.int .u32 a2).wf = true → (Lit.int .u8 a3).wf = true → block_Is.f l0 a1 a2 a3 = some true
theorem block_Is.walk (P : block_Is.Pure) (a0 : Option Addr) (len0 cap0 : Nat) (z0 : List Int) (a1 : Int) (a2 : Int) (a3 : Int) (w : World) (w0 : (a0 = none ∧ len0 = 0 ∧ cap0 = 0 ∧ z0 = []) ∨ ∃ x, a0 = some x ∧ len0 ≤ cap0 ∧ cap0 ≤ maxLen ∧ z0.length = cap0 ∧ (∀ i, i < z0.length → w.cell? (x.add i) = some (.int .u8 (z0.getD i 0))) ∧ ∀ n ∈ z0, (Lit.int .u8 n).wf = true) (y0 : len0 * 1 ≤ 140737488351232) (w1 : (Lit.int .u64 a1).wf = true) (w2 : (Lit.int .u32 a2).wf = true) (w3 : (Lit.int .u8 a3).wf = true) :
    Calls Tryd.prog 13 #[.slice a0 len0 cap0, .int .u64 a1, .int .u32 a2, .int .u8 a3] w fun e w' => e = .returned (.bool true) ∧ Below w.heap.size w w' := by
  obtain ⟨l0, rfl, hr0, hm0, hw0, hc0⟩ := ReadsInt.ofRowC w0
  have h := P l0 a1 a2 a3 hm0 y0 hw0 w1 w2 w3
  refine (block_Is.calls _ _ l0 a1 a2 a3 true w (Kd.C_of_reads (d := (0 : Int)) (h1 := fun _ => rfl) hr0) hc0 h).mono ?_
  rintro e w' ⟨rfl, hd⟩
  exact ⟨rfl, hd⟩

end Go.Proofs.YthmcigdkopadjaaDoor.PIs
end

-- Written by wip/tools/myprint.py, a program of this session over the print tool: not a printed text of the kit's
section
namespace Go.Proofs.YthmcigdkopadjaaDoor.PIs
open Go.RowKit Go.Proofs.YthmcigdkopadjaaDoorW.PrintWords Go.Proofs.YthmcigdkopadjaaDoorW.PrintLast Go.Proofs.YthmcigdkopadjaaDoorW.PrintMore
attribute [local go_sem] max2_int min2_int max_two min_two max_three min_three max_four min_four   -- for this text's walks alone
set_option linter.unusedVariables false
set_option linter.unusedSimpArgs false
set_option maxRecDepth 20000

end Go.Proofs.YthmcigdkopadjaaDoor.PIs
end

/- The laws' wake-up call: what the document says of a small block. -/
section
namespace Go.Proofs.YthmcigdkopadjaaDoor.Wakes6
open Go.Proofs.YthmcigdkopadjaaDoor Go.RowKit Go.Proofs.YthmcigdkopadjaaDoorW.PrintWords Go.Proofs.YthmcigdkopadjaaDoorW.PrintLast Go.Proofs.YthmcigdkopadjaaDoorW.PrintMore Go.Proofs.YthmcigdkopadjaaDoor.Byt Go.Proofs.YthmcigdkopadjaaDoor.Lay6 Go.Proofs.YthmcigdkopadjaaDoor.Pack6 Go.Proofs.YthmcigdkopadjaaDoor.Parse6 Go.Proofs.YthmcigdkopadjaaDoor.Parse6w
set_option linter.unusedVariables false
set_option linter.unusedSimpArgs false
def B : List Int := sealI (bodyP 1 2 3 [97, 98])
def N128 : List Int := List.replicate 128 0
def ZV : Array Value := (nums .u8 N128).toArray
theorem make128 : ∀ w : World, (Instr.makeSlice TB (.int .i64 128) (.int .i64 128)).run Tryd.prog w = .ok (.slice (some ⟨w.heap.size, 0, none⟩) 128 128) (w.alloc (.cells ZV 5 (0, 0))) := fun w => by
  have e : (madeCells #[.int .u8 0] (128 : Nat)) = ZV := by kernel_rfl
  have h := print_make (P := Tryd.prog) TB 5 .u8 1 Tryd.underlying24 Byt.info5 (by decide) 128 (by decide) w
  rw [e] at h
  exact h
theorem own_at {w : World} {base : Nat} {v : Value} {l : List Int} (h : OWN w base v l) (hl : l ≠ []) : ∃ g c, v = .slice (some ⟨g, 0, none⟩) l.length c ∧ l.length ≤ c ∧ RC w (some ⟨g, 0, none⟩) l := by
  obtain ⟨A, c, hv, hc, hr, _⟩ := h.form
  rcases (Kd.own_of_R h).2 with ⟨he, h0⟩ | ⟨g, cap, cur, he, _⟩
  · exact absurd (List.eq_nil_of_length_eq_zero h0) hl
  · rw [hv] at he
    injection he with h1 h2 h3
    subst h1
    exact ⟨g, c, hv, hc, hr⟩
theorem packed : ParseC.packF 1 2 3 [97, 98] = some (B, 0) := by
  show Pack6.packF 1 2 3 [97, 98] = _
  unfold Pack6.packF
  rw [if_pos (by decide), if_neg (by decide)]
  rfl
theorem noughts : ParseC.parseF N128 = some (0, 0, 0, [], 60) := by decide +kernel
theorem is_it : PIs.block_Is.f B 1 2 3 = some true := by decide +kernel
theorem facts : B.length = 128 ∧ bn B 11 = 1 ∧ bn B 15 = 2 ∧ bn B 16 = 3 ∧ bn B 17 = 2 ∧ bn B 28 = 97 := by decide +kernel
theorem is_at (A : Option Addr) (c : Nat) (b : List Int) (w : World) (hl : b.length = 128) (hr : RC w A b) (hc : 128 ≤ c) (h : PIs.block_Is.f b 1 2 3 = some true) :
    Calls Tryd.prog 13 #[.slice A 128 c, .int .u64 1, .int .u32 2, .int .u8 3] w fun e w' => e = .returned (.bool true) ∧ Below w.heap.size w w' := by
  have := PIs.block_Is.calls A c b 1 2 3 true w (hr.to_C (by omega)) (by omega) h
  rw [hl] at this
  exact this
set_option maxRecDepth 100000 in
set_option maxHeartbeats 4000000 in
theorem wakes_at (w : World) : Calls Tryd.prog 8 #[] w fun e w' => e = .returned (.bool true) ∧ Below w.heap.size w w' := by
  have kc : (convert TB TB (.slice (some ⟨w.heap.size, 0, none⟩) 2 2)).run Tryd.prog (w.alloc (.cells #[.int .u8 97, .int .u8 98] 5)) = .ok (.slice (some ⟨w.heap.size, 0, none⟩) 2 2) (w.alloc (.cells #[.int .u8 97, .int .u8 98] 5 (2, 3))) :=
    Lib.run_convert_bytes_const (P := Tryd.prog) w TB 5 #[.int .u8 97, .int .u8 98] 2 2 Tryd.underlying24 Tryd.underlying5
  have hmk := make128
  have HPK := Lib.hid packed
  have HPS := Lib.hid noughts
  have HIS := Lib.hid is_it
  obtain ⟨hl, f11, f15, f16, f17, f28⟩ := facts
  have HL := Lib.hid hl
  have H0 : Hid (RC (w.alloc (.cells #[.int .u8 97, .int .u8 98] 5 (2, 3))) (some ⟨w.heap.size, 0, none⟩) [97, 98]) := Lib.hid (bytes_new w 5 [97, 98] (2, 3))
  have HF := Lib.hid (And.intro f11 (And.intro f15 (And.intro f16 (And.intro f17 f28))))
  have HN : B ≠ [] := by intro e; rw [e] at hl; cases hl
  clear f11 f15 f16 f17 f28 hl
  generalize B = b at HPK HIS HL HF HN
  go_enter Tryd.func8, Tryd.ntmps8
  go_wp2_with (first
    | (go_at_call 9; go_loud ((refine Calls.mono (show Calls Tryd.prog 9 #[.agg #[.int .u64 1, .int .u32 2, .int .u8 3, .slice (some ⟨w.heap.size, 0, none⟩) 2 2]] (w.alloc (.cells #[.int .u8 97, .int .u8 98] 5 (2, 3))) _ from ParseC.pack_calls 1 2 3 (some ⟨w.heap.size, 0, none⟩) 2 [97, 98] b 0 _ (H0.out.to_C (by decide)) (by decide) HPK.out) ?_); rintro e w1 ⟨v1, rfl, ho1, hb1⟩; obtain ⟨g1, c1, rfl, hc1, hr1⟩ := own_at ho1 HN; rw [HL.out]; have HW1 := Lib.hid (((Below.refl w.heap.size w).alloc (Nat.le_refl _) (.cells #[.int .u8 97, .int .u8 98] 5 (2, 3))).trans (hb1.mono (by simp))); have HR1 := Lib.hid hr1; have HC1 := Lib.hid (show 128 ≤ c1 by rw [← HL.out]; exact hc1); clear ho1 hb1 hr1 hc1))
    | (go_at_call 12; go_loud ((refine Calls.mono (show Calls Tryd.prog 12 #[.slice (some ⟨w1.heap.size, 0, none⟩) 128 128] (w1.alloc (.cells ZV 5)) _ from ParseC.parse_calls (some ⟨w1.heap.size, 0, none⟩) 128 N128 0 0 0 [] 60 _ ((bytes_new w1 5 N128 (0, 0)).to_C (by decide)) (by decide) HPS.out) ?_); rintro e w2 ⟨v2, rfl, ho2, hb2⟩; obtain ⟨A3, c3, rfl, _⟩ := OWN.form (w := w2) (v := v2) (l := []) ho2; have hw2 := (HW1.out.alloc HW1.out.size (.cells ZV 5)).trans (hb2.mono (by have := HW1.out.size; simp; omega)); have hr3 := HR1.out.below (((Below.refl w1.heap.size w1).alloc (Nat.le_refl _) (.cells ZV 5)).trans (hb2.mono (by simp))); have hr3 := hr3.below ((Below.refl w2.heap.size w2).alloc (Nat.le_refl _) (.cells #[.int .u64 0, .int .u32 0, .int .u8 0, .slice A3 0 c3] 26)); have hx11 : (w2.alloc (.cells #[.int .u64 0, .int .u32 0, .int .u8 0, .slice A3 0 c3] 26)).cell? ⟨g1, 11, none⟩ = some (.int .u8 1) := (by have := (hr3 (by intro e; have := HL.out; rw [e] at this; cases this)); obtain ⟨a3, e3, _, hce⟩ := this; cases e3; have h4 := hce 11 (by rw [HL.out]; decide); rw [show bn b 11 = 1 from HF.out.1, add_plain] at h4; exact h4); have hx15 : (w2.alloc (.cells #[.int .u64 0, .int .u32 0, .int .u8 0, .slice A3 0 c3] 26)).cell? ⟨g1, 15, none⟩ = some (.int .u8 2) := (by have := (hr3 (by intro e; have := HL.out; rw [e] at this; cases this)); obtain ⟨a3, e3, _, hce⟩ := this; cases e3; have h4 := hce 15 (by rw [HL.out]; decide); rw [show bn b 15 = 2 from HF.out.2.1, add_plain] at h4; exact h4); have hx16 : (w2.alloc (.cells #[.int .u64 0, .int .u32 0, .int .u8 0, .slice A3 0 c3] 26)).cell? ⟨g1, 16, none⟩ = some (.int .u8 3) := (by have := (hr3 (by intro e; have := HL.out; rw [e] at this; cases this)); obtain ⟨a3, e3, _, hce⟩ := this; cases e3; have h4 := hce 16 (by rw [HL.out]; decide); rw [show bn b 16 = 3 from HF.out.2.2.1, add_plain] at h4; exact h4); have hx17 : (w2.alloc (.cells #[.int .u64 0, .int .u32 0, .int .u8 0, .slice A3 0 c3] 26)).cell? ⟨g1, 17, none⟩ = some (.int .u8 2) := (by have := (hr3 (by intro e; have := HL.out; rw [e] at this; cases this)); obtain ⟨a3, e3, _, hce⟩ := this; cases e3; have h4 := hce 17 (by rw [HL.out]; decide); rw [show bn b 17 = 2 from HF.out.2.2.2.1, add_plain] at h4; exact h4); have hx28 : (w2.alloc (.cells #[.int .u64 0, .int .u32 0, .int .u8 0, .slice A3 0 c3] 26)).cell? ⟨g1, 28, none⟩ = some (.int .u8 97) := (by have := (hr3 (by intro e; have := HL.out; rw [e] at this; cases this)); obtain ⟨a3, e3, _, hce⟩ := this; cases e3; have h4 := hce 28 (by rw [HL.out]; decide); rw [show bn b 28 = 97 from HF.out.2.2.2.2, add_plain] at h4; exact h4); have hl3 : ([] : List Int).length = 0 := rfl; rw [hl3]; have hc128 := HC1.out; have HW2 := Lib.hid hw2; have HR3 := Lib.hid hr3; clear ho2 hb2 hw2 hr3))
    | (go_at_call 13; go_loud ((with_reducible refine (is_at (some ⟨g1, 0, none⟩) c1 b _ HL.out HR3.out hc128 HIS.out).mono ?_); rintro e w5 ⟨rfl, hb5⟩; have HB5 := Lib.hid hb5; clear hb5)))
  go_ret
  have h5 := HW2.out.alloc HW2.out.size (.cells #[.int .u64 0, .int .u32 0, .int .u8 0, .slice A3 0 c3] 26)
  exact ⟨rfl, h5.trans (HB5.out.mono h5.size)⟩
def wakesF : Option Bool := some true
theorem wakes_calls (r : Bool) (w : World) (h : wakesF = some r) : Calls Tryd.prog 8 #[] w fun e w' => e = .returned (.bool r) ∧ Below w.heap.size w w' := by
  cases h
  exact wakes_at w
end Go.Proofs.YthmcigdkopadjaaDoor.Wakes6
end
