/- Texts of this claim, laid together by wip/tools/squash.py: WalkBlockParses, Opn. -/
import Derived.Test.YthmcigdkopadjaaDoorQBlockParses4
import Derived.BigQuiet
import Derived.Deep.QuietTactic
import Derived.Test.YthmcigdkopadjaaDoorWMore
import Derived.Test.YthmcigdkopadjaaDoorWArr
import Derived.ChangeArms
import Derived.DataElems
import Derived.DataReads
import Derived.OpenShut
import Derived.SizedLaws

/- BlockParses walked: any bytes, and the same with their sum made right, are read as the document says. -/
section
namespace Go.Proofs.YthmcigdkopadjaaDoor.WalkBlockParses
open Go.Proofs.YthmcigdkopadjaaDoor Go.RowKit Go.Proofs.YthmcigdkopadjaaDoorW.PrintWords Go.Proofs.YthmcigdkopadjaaDoorW.PrintLast Go.Proofs.YthmcigdkopadjaaDoorW.PrintMore Go.Proofs.YthmcigdkopadjaaDoor.Byt Go.Proofs.YthmcigdkopadjaaDoor.Lay6 Go.Proofs.YthmcigdkopadjaaDoor.Pack6 Go.Proofs.YthmcigdkopadjaaDoor.Parse6 Go.Proofs.YthmcigdkopadjaaDoor.Block6 Go.Proofs.YthmcigdkopadjaaDoor.Back6 Go.Proofs.YthmcigdkopadjaaDoor.RSeal6 Go.Proofs.YthmcigdkopadjaaDoor.Own3 Go.Proofs.YthmcigdkopadjaaDoor.RParse6
set_option linter.unusedVariables false
set_option linter.unusedSimpArgs false
theorem rparse_at (A : Option Addr) (n c : Nat) (l : List Int) (w : World) (hA : AreB l) (h : RC w A l) (e : n = l.length) (hc : n ≤ c) (hm : l.length ≤ 100000) (r1 r2 r3 : Int) (r4 : List Int) (r5 : Int) (hp : ParseC.parseF l = some (r1, r2, r3, r4, r5)) :
    Calls Tryd.prog 14 #[.slice A n c] w fun e w' => ∃ A' c', e = .returned (.tuple #[.agg (BX r1 r2 r3 A' r4.length c'), .int .i64 r5]) ∧ r4.length ≤ c' ∧ RC w' A' r4 ∧ Below w.heap.size w w' := by
  subst e
  refine (PBlockParses.tabularyref06_Parse.calls 2000 A c l r1 r2 r3 r4 r5 w (h.to_C (by omega)) hc (by rw [rparse hA hm 2000 (by decide)]; exact hp)).mono ?_
  rintro e w' ⟨v, he, ho, hb⟩
  obtain ⟨A', c', rfl, hc', hr, _⟩ := OWN.form (w := w') (v := v) ho
  exact ⟨A', c', he, hc', hr, hb⟩
theorem is_any (A : Option Addr) (n c : Nat) (b : List Int) (k s d : Int) (w : World) (hr : RC w A b) (e : n = b.length) (hc : n ≤ c) (hm : b.length ≤ 100000) (I : Bool) (h : PIs.block_Is.f b k s d = some I) :
    Calls Tryd.prog 13 #[.slice A n c, .int .u64 k, .int .u32 s, .int .u8 d] w fun e w' => e = .returned (.bool I) ∧ Below w.heap.size w w' := by
  subst e
  exact PIs.block_Is.calls A c b k s d I w (hr.to_C (by omega)) hc h
theorem ris_any (A : Option Addr) (n c : Nat) (b : List Int) (k s d : Int) (w : World) (hA : AreB b) (hr : RC w A b) (e : n = b.length) (hc : n ≤ c) (hm : b.length ≤ 100000) (I : Bool) (h : PIs.block_Is.f b k s d = some I) :
    Calls Tryd.prog 16 #[.slice A n c, .int .u64 k, .int .u32 s, .int .u8 d] w fun e w' => e = .returned (.bool I) ∧ Below w.heap.size w w' := by
  subst e
  exact PBlockParses.tabularyref06_Is.calls 2000 A c b k s d I w (hr.to_C (by omega)) hc (by rw [ris hA hm 2000 (by decide)]; exact h)
theorem is_some (b : List Int) (k s d : Int) {r1 r2 r3 : Int} {r4 : List Int} {r5 : Int} (hp : ParseC.parseF b = some (r1, r2, r3, r4, r5)) : ∃ I, PIs.block_Is.f b k s d = some I := by
  unfold PIs.block_Is.f
  rw [show PIs.block_Parse.f b = some (r1, r2, r3, r4, r5) from hp]
  simp only [Option.bind_some]
  repeat' split
  all_goals exact ⟨_, rfl⟩
/-- A copy: its bytes, and that its cells may be written. -/
theorem mine_of {w : World} {base : Nat} {v : Value} {l : List Int} {n : Nat} (h : OWN w base v l) (hn : n = l.length) : ∃ A c, v = .slice A n c ∧ n ≤ c ∧ RC w A l ∧ (∀ x, A = some x → base ≤ x.block ∧ x.block < w.heap.size) ∧ (0 < n → ∃ g cap, A = some ⟨g, 0, none⟩ ∧ base ≤ g ∧ ROOM w g cap ∧ PART w g n 0 0) := by
  subst hn
  obtain ⟨A, c, rfl, hc, hr, ha⟩ := h.form
  refine ⟨A, c, rfl, hc, hr, ha, fun h0 => ?_⟩
  obtain ⟨g, cap, e, h1, h2, h3, h4⟩ := part_of_row h h0
  injection e with e1 e2 e3
  exact ⟨g, cap, e1, h1, h3, h4⟩
def pick2 {α : Type} (a b : α) (k : Nat) : α := if k = 0 then a else b
/-- The two rows, where they lie. -/
structure TWO (w : World) (h n : Nat) (A : Nat → Option Addr) (c : Nat → Nat) (X : Nat → List Int) : Prop where
  row : w.heap[h]? = some (.cells #[.slice (A 0) n (c 0), .slice (A 1) n (c 1)] TB (0, 0))
  bytes : ∀ k, k < 2 → RC w (A k) (X k) ∧ AreB (X k) ∧ (X k).length = n ∧ n ≤ c k
theorem TWO.at {w : World} {h n : Nat} {A : Nat → Option Addr} {c : Nat → Nat} {X : Nat → List Int} (H : TWO w h n A c X) (k : Nat) (hk : k < 2) : w.cell? ⟨h, k, none⟩ = some (.slice (A k) n (c k)) := by
  rw [blk_cell H.row]
  have : k = 0 ∨ k = 1 := by omega
  rcases this with rfl | rfl <;> rfl
theorem TWO.below {w w' : World} {h n : Nat} {A : Nat → Option Addr} {c : Nat → Nat} {X : Nat → List Int} (H : TWO w h n A c X) (hb : Below w.heap.size w w') : TWO w' h n A c X :=
  ⟨blk_below H.row hb, fun k hk => ⟨(H.bytes k hk).1.below hb, (H.bytes k hk).2⟩⟩
theorem parse_all {X : List Int} (hA : AreB X) : ∃ r1 r2 r3 r4 r5, ParseC.parseF X = some (r1, r2, r3, r4, r5) ∧ AreB r4 ∧ r4.length ≤ 1000 := by
  rcases parse_any hA with ⟨e, _, h⟩ | ⟨k, s, d, l, h, ok, hl, _⟩
  · exact ⟨0, 0, 0, [], e, h, areB_nil, by decide⟩
  · exact ⟨k, s, d, l, 0, h, ok.data, by omega⟩
theorem str_n {A : Option Addr} {n c : Nat} {l : List Int} {w : World} (h : RC w A l) (e : n = l.length) (hm : l.length ≤ 100000) : (convert TB 9 (.slice A n c)).run Tryd.prog w = .ok (.string (strOfNums l)) w := by
  subst e
  exact Kd.C_string (P := Tryd.prog) (c := c) Tryd.underlying24 Tryd.underlying5 Tryd.underlying9 (h.to_C (by omega))
theorem exec_convert {P : Program} {o : Oper} {a : Act} {w : World} {s t : TypeId} {x : Operand} {v u : Value} (ho : o.op = .convert s t x) (hx : a.eval x = v) (h : (convert s t v).run P w = .ok u w) : (execOp a.eval o).run P w = .ok (.value u) w := by
  simp only [execOp, ho, hx, Sem.run_bind, h, Result.andThen]
  rfl
theorem part_any {w : World} {g n k : Nat} (h : PART w g n 0 0) (hk : k < n) (y : Int) : PART (w.setCell ⟨g, k, none⟩ (.int .u8 y)) g n 0 0 := fun j hj => by
  by_cases e : j = k
  · subst e
    obtain ⟨z, h1, _⟩ := h j hj
    exact ⟨y, World.cell?_setCell_same _ _ _ h1, fun h => absurd h (Nat.not_lt_zero _)⟩
  · obtain ⟨z, h1, h2⟩ := h j hj
    exact ⟨z, (World.cell?_setCell_other _ _ _ _ (by intro e'; injection e' with _ e' _; exact e e'.symm)).trans h1, h2⟩
theorem grown_refl (w : World) (row : Option Nat) : w.grownBy w row := ⟨rfl, rfl, rfl, Nat.le_refl _, fun _ _ _ => rfl⟩
theorem grown_set {a b : World} {g : Nat} (h : a.grownBy b (some g)) (j : Nat) (u : Value) : a.grownBy (b.setCell ⟨g, j, none⟩ u) (some g) :=
  ⟨h.os, h.tape, h.output, by have := h.size; simp [World.setCell]; omega, fun k hk hne => (Below.heap_setCell b ⟨g, j, none⟩ u k (fun e => hne (by rw [e]))).trans (h.block k hk hne)⟩
theorem rc_grown {a b : World} {row : Option Nat} {A : Option Addr} {l : List Int} (h : RC a A l) (hg : a.grownBy b row) (hA : ∀ x, A = some x → some x.block ≠ row) : RC b A l := fun hl => by
  obtain ⟨x, e, hlt, hc⟩ := h hl
  refine ⟨x, e, Nat.lt_of_lt_of_le hlt hg.size, fun j hj => ?_⟩
  rw [World.cell?_of_block (w := a) (a := x.add j) (by rw [Byt.add_block]; exact hg.block _ hlt (hA x e))]
  exact hc j hj
theorem parse_own (A : Option Addr) (n c : Nat) (l : List Int) (w : World) (h : RC w A l) (e : n = l.length) (hc : n ≤ c) (hm : l.length ≤ 1000000) (r1 r2 r3 : Int) (r4 : List Int) (r5 : Int) (hp : ParseC.parseF l = some (r1, r2, r3, r4, r5)) :
    Calls Tryd.prog 12 #[.slice A n c] w fun e w' => ∃ A' c', e = .returned (.tuple #[.agg (BX r1 r2 r3 A' r4.length c'), .int .i64 r5]) ∧ r4.length ≤ c' ∧ RC w' A' r4 ∧ (∀ x, A' = some x → w.heap.size ≤ x.block) ∧ Below w.heap.size w w' := by
  subst e
  refine (ParseC.parse_calls A c l r1 r2 r3 r4 r5 w (h.to_C (by omega)) hc hp).mono ?_
  rintro e w' ⟨v, he, ho, hb⟩
  obtain ⟨A', c', rfl, hc', hr, ha⟩ := OWN.form (w := w') (v := v) ho
  exact ⟨A', c', he, hc', hr, fun x e => (ha x e).1, hb⟩
theorem load_box {w : World} {g : Nat} {k s d : Int} {A : Option Addr} {n c : Nat} (h : w.heap[g]? = some (.cells (BX k s d A n c) TP (0, 0))) : (loadVar TP ⟨g, 0, none⟩).run Tryd.prog w = .ok (.agg (BX k s d A n c)) w :=
  run_loadVar_row (P := Tryd.prog) w g TP TP (BX k s d A n c) (0, 0) _ h Tryd.underlying26 rfl (by kernel_rfl)
theorem row_from {A : Option Addr} {n c : Nat} {row : Option Nat} {w8 : World} {base : Nat} (hr : row = (Value.slice A n c).ownBlock) (hm : 0 < n → ∃ g cap, A = some ⟨g, 0, none⟩ ∧ base ≤ g ∧ ROOM w8 g cap ∧ PART w8 g n 0 0) (hs : base ≤ w8.heap.size) (hA : ∀ x, A = some x → base ≤ x.block ∧ x.block < w8.heap.size) : ∀ k, row = some k → base ≤ k ∧ k < w8.heap.size := fun k hk => by
  rw [hr] at hk
  rcases A with _ | x
  · cases hk
  · have e : x.block = k := by simpa [Value.ownBlock] using hk
    exact e ▸ hA x rfl
/- WALK -/
set_option maxRecDepth 100000 in
set_option maxHeartbeats 8000000 in
theorem short (A0 : Option Addr) (c0 : Nat) (l0 : List Int) (k s d : Int) (A1 : Option Addr) (n1 c1 : Nat) (W : World) (hr : RC W A0 l0) (hc : l0.length ≤ c0) (hA : AreB l0) (hl : l0.length ≤ 4096) :
    Calls Tryd.prog 4 #[.slice A0 l0.length c0, .agg (BX k s d A1 n1 c1)] W fun e w' => e = .returned (.bool true) ∧ Below W.heap.size W w' := by
  have hb0 := (Below.refl W.heap.size W).alloc (Nat.le_refl _) (.cells (BX k s d A1 n1 c1) TP)
  obtain ⟨n, hn⟩ : ∃ n, n = l0.length := ⟨_, rfl⟩
  have hg : ¬ (n : Int) > 4096 := by omega
  have HN := Lib.hid hn
  have HA := Lib.hid hA
  have HR0 := Lib.hid (hr.below hb0)
  have HB0 := Lib.hid hb0
  have HC := Lib.hid hc
  have HL := Lib.hid hl
  have HBX := Lib.hid (blk_new W (.cells (BX k s d A1 n1 c1) TP))
  rw [← hn]
  clear hn hr hc hb0 hA hl
  by_cases h128 : n = 128
  · have hn128 : ((n : Int) == 128) = true := by simp; omega
    have H128 := Lib.hid h128
    obtain ⟨Y, hY⟩ : ∃ Y, Y = sealI (l0.take 124) := ⟨_, rfl⟩
    have HT := Lib.hid (show (l0.take 124).length = 124 by rw [List.length_take, ← HN.out]; omega)
    have HTA := Lib.hid (show AreB (l0.take 124) from fun x hx => HA.out x (List.mem_of_mem_take hx))
    have HYL := Lib.hid (show Y.length = 128 by rw [hY, seal_len, HT.out])
    have HYA := Lib.hid (show AreB Y by rw [hY]; exact seal_bytes HTA.out)
    have HY := Lib.hid hY
    clear h128 hY
    go_enter Tryd.func4, Tryd.ntmps4
    go_wp2_with (first
      | ((with_reducible refine gate_dst (N := 19) rfl ?_); refine own_lit (w0 := (W.alloc (.cells (BX k s d A1 n1 c1) TP))) (W.alloc (.cells (BX k s d A1 n1 c1) TP)).heap.size rfl (N := 19) rfl [] ?hrun (Below.refl _ _) (Nat.le_refl _) (by decide) ?_; (case hrun => first | (go_simp; done) | (go_simp; rfl)); intro v2 w2 ho2 hb2 hg2; have HO2 := Lib.hid ho2; have HB2 := Lib.hid hb2; clear ho2 hb2 hg2)
      | ((with_reducible refine gate_builtin (b := .append) (xs := #[.tmp 19, .tmp 20]) rfl ?_); refine own_append (w0 := (W.alloc (.cells (BX k s d A1 n1 c1) TP))) rfl (.tmp 19) (.tmp 20) rfl (W.alloc (.cells (BX k s d A1 n1 c1) TP)).heap.size v2 [] l0 A0 c0 rfl (by rw [← HN.out]; rfl) HO2.out (HR0.out.below HB2.out) HB2.out HB2.out.size (by simp; have := HL.out; omega) ?_; intro v3 w3 ho3 hb3 hg3; obtain ⟨A3, c3, rfl, hc3, hr3, _⟩ := mine_of (show OWN w3 (W.alloc (.cells (BX k s d A1 n1 c1) TP)).heap.size v3 l0 from ho3) HN.out; have HBW3 := Lib.hid hb3; have HB3 := Lib.hid (HB0.out.trans (hb3.mono HB0.out.size)); have HC3 := Lib.hid hc3; have HR3 := Lib.hid hr3; have hc124 : 124 ≤ c3 := (by have := H128.out; omega); clear ho3 hb3 hg3 hc3 hr3)
      | (go_at_call 11; go_loud ((with_reducible refine (seal_at A3 c3 (l0.take 124) _ HT.out (HR3.out.take 124) hc124 HTA.out Y HY.out).mono ?_); rintro e w4 ⟨A4, c4, rfl, hc4, hr4, hb⟩; have HB4 := Lib.hid (HB3.out.trans (hb.mono HB3.out.size)); have HBW4 := Lib.hid (HBW3.out.trans (hb.mono HBW3.out.size)); have HR4 := Lib.hid hr4; have HC4 := Lib.hid hc4; clear hb hr4 hc4)))
    clear HR3 HC3 HB3 HO2 HB2 hc124
    obtain ⟨A, hAA⟩ : ∃ A : Nat → Option Addr, A = pick2 A0 A4 := ⟨_, rfl⟩
    obtain ⟨c, hcc⟩ : ∃ c : Nat → Nat, c = pick2 c0 c4 := ⟨_, rfl⟩
    obtain ⟨X, hXX⟩ : ∃ X : Nat → List Int, X = pick2 l0 Y := ⟨_, rfl⟩
    have HT2 := Lib.hid (show TWO (w4.alloc (.cells #[.slice A0 n c0, .slice A4 128 c4] 24)) w4.heap.size n A c X from by
      subst hAA hcc hXX
      refine ⟨(by rw [show (Value.slice (pick2 A0 A4 0) n (pick2 c0 c4 0)) = .slice A0 n c0 from rfl, show (Value.slice (pick2 A0 A4 1) n (pick2 c0 c4 1)) = .slice A4 128 c4 by rw [H128.out]; rfl]; exact blk_new _ _), fun q hq => ?_⟩
      have hq2 : q = 0 ∨ q = 1 := by omega
      have hbn := (Below.refl w4.heap.size w4).alloc (Nat.le_refl _) (.cells #[.slice A0 n c0, .slice A4 128 c4] 24)
      rcases hq2 with rfl | rfl
      · exact ⟨(HR0.out.below (show Below (W.alloc (.cells (BX k s d A1 n1 c1) TP)).heap.size _ w4 from HBW4.out)).below hbn, HA.out, HN.out.symm, by rw [HN.out]; exact HC.out⟩
      · exact ⟨HR4.out.below hbn, HYA.out, by rw [H128.out]; exact HYL.out, by rw [H128.out]; exact HC4.out⟩)
    have HB5 := Lib.hid (HB4.out.alloc HB4.out.size (.cells #[.slice A0 n c0, .slice A4 128 c4] 24))
    have HBX5 := Lib.hid (blk_alloc (blk_below HBX.out HBW4.out) (.cells #[.slice A0 n c0, .slice A4 128 c4] 24))
    clear hAA hcc hXX
    go_loopw [7] (fun v7 w => ∃ q : Nat, q ≤ 2 ∧ v7 = .int .i64 q ∧ TWO w w4.heap.size n A c X ∧ Aside0 (w.heap[W.heap.size]? = some (.cells (BX k s d A1 n1 c1) TP (0, 0))) ∧ Below W.heap.size W w) (fun v7 _ => 2 - (intOf v7).toNat)
    case atStart => exact ⟨0, by omega, rfl, HT2.out, ⟨HBX5.out⟩, HB5.out⟩
    case round =>
      obtain ⟨q, hq2, rfl, ht, hbx, hb⟩ := hrel
      have HTW := Lib.hid ht
      have HBW := Lib.hid hb
      have HBXW := Lib.hid hbx.out
      clear ht hb hbx HT2 HB5 HBX5
      by_cases hq : q < 2
      · have hqb : decide ((q : Int) < 2) = true := decide_eq_true (by omega)
        obtain ⟨hRq, hAq, hLq, hCq⟩ := HTW.out.bytes q hq
        have HRQ := Lib.hid hRq
        have HAQ := Lib.hid hAq
        have HLQ := Lib.hid hLq
        have HCQ := Lib.hid hCq
        obtain ⟨r1, r2, r3, r4, r5, hp, hd, hdl⟩ := parse_all hAq
        obtain ⟨I, hI⟩ := is_some (X q) k s d hp
        have HP := Lib.hid hp
        have HD := Lib.hid hd
        have HDL := Lib.hid hdl
        have HI := Lib.hid hI
        have HXM := Lib.hid (show (X q).length ≤ 100000 by have := HL.out; have := HN.out; omega)
        clear hRq hAq hLq hCq hp hd hdl hI
        go_wp2_with (first
          | ((with_reducible refine gate_dst (N := 37) rfl ?_); refine own_lit (w0 := wr) wr.heap.size rfl (N := 37) rfl [] ?hrun (Below.refl _ _) (Nat.le_refl _) (by decide) ?_; (case hrun => first | (go_simp; done) | (go_simp; rfl)); intro v2 w2 ho2 hb2 hg2; have HO2 := Lib.hid ho2; have HB2 := Lib.hid hb2; have hx2 := (HTW.out.below hb2).at q hq; clear ho2 hb2 hg2)
          | ((with_reducible refine gate_builtin (b := .append) (xs := #[.tmp 37, .tmp 41]) rfl ?_); refine own_append (w0 := wr) rfl (.tmp 37) (.tmp 41) rfl wr.heap.size v2 [] (X q) (A q) (c q) rfl (by rw [HLQ.out]; rfl) HO2.out (HRQ.out.below HB2.out) HB2.out HB2.out.size (by have := HXM.out; simp; omega) ?_; intro v8 w8 ho8 hb8 hg8; obtain ⟨A8, c8, rfl, hc8, hr8, hx8, hm8⟩ := mine_of (show OWN w8 wr.heap.size v8 (X q) from ho8) HLQ.out.symm; have HB8 := Lib.hid hb8; have HC8 := Lib.hid hc8; have HR8 := Lib.hid hr8; have HM8 := Lib.hid hm8; have HX8 := Lib.hid hx8; clear ho8 hb8 hg8 hc8 hr8 hm8 hx8 hx2)
          | (go_at_call 12; go_loud ((with_reducible refine (parse_own A8 n c8 (X q) _ HR8.out HLQ.out.symm HC8.out (by have := HXM.out; omega) r1 r2 r3 r4 r5 HP.out).mono ?_); rintro e w9 ⟨A9, c9, rfl, hc9, hr9, hf9, hb⟩; have HF9 := Lib.hid hf9; have HL9 := Lib.hid hb.size; have HU9 := Lib.hid (hb.alloc hb.size (.cells (BX r1 r2 r3 A9 r4.length c9) TP)); have HB9 := Lib.hid (HB8.out.trans (hb.mono HB8.out.size)); have HB9q := Lib.hid (HB9.out.alloc HB9.out.size (.cells (BX r1 r2 r3 A9 r4.length c9) TP)); have hq9 := (Below.refl w9.heap.size w9).alloc (Nat.le_refl _) (.cells (BX r1 r2 r3 A9 r4.length c9) TP); have HC9 := Lib.hid hc9; have HR9 := Lib.hid (hr9.below hq9); have HR89 := Lib.hid ((HR8.out.below hb).below hq9); have bx9 := blk_alloc (blk_below (blk_below HBXW.out HB8.out) hb) (.cells (BX r1 r2 r3 A9 r4.length c9) TP); have HBX9 := Lib.hid bx9; have hk0 := (blk_cell bx9 0).trans (show (BX k s d A1 n1 c1)[0]? = some (.int .u64 k) from rfl); have hk1 := (blk_cell bx9 1).trans (show (BX k s d A1 n1 c1)[1]? = some (.int .u32 s) from rfl); have hk2 := (blk_cell bx9 2).trans (show (BX k s d A1 n1 c1)[2]? = some (.int .u8 d) from rfl); have HBY9 := Lib.hid (blk_new w9 (.cells (BX r1 r2 r3 A9 r4.length c9) TP)); clear hb hc9 hr9 hq9 bx9 hf9))
          | (go_at_call 13; go_loud ((with_reducible refine (is_any A8 n c8 (X q) k s d _ HR89.out HLQ.out.symm HC8.out HXM.out I HI.out).mono ?_); rintro e w10 ⟨rfl, hb⟩; have HB10 := Lib.hid (HB9q.out.trans (hb.mono HB9q.out.size)); have HR8x := Lib.hid (HR89.out.below hb); have HR9x := Lib.hid (HR9.out.below hb); have HL10 := Lib.hid hb.size; have HU10 := Lib.hid (HU9.out.trans (hb.mono HU9.out.size)); have HBX10 := Lib.hid (blk_below HBX9.out hb); have HBY10 := Lib.hid (blk_below HBY9.out hb); clear hb hk0 hk1 hk2)))
        have HTW10 := Lib.hid (HTW.out.below HB10.out)
        have HCV1 := Lib.hid (str_n (c := c8) (HR8x.out.below (below_drew1 (Below.refl _ w10))) HLQ.out.symm HXM.out)
        have HCV2 := Lib.hid (str_n (c := c q) ((HTW10.out.bytes q hq).1.below (below_drew1 (Below.refl _ w10))) HLQ.out.symm HXM.out)
        have hqI : (q : Int) < 2 := by omega
        have hsn : ((strOfNums (X q)).toList != (strOfNums (X q)).toList) = false := by simp
        have hse : ((strOfNums (X q)).toList == (strOfNums (X q)).toList) = true := by simp
        refine start_ (n := 8) (S := fun w' => w'.cell? ⟨w4.heap.size, q, none⟩ = some (.slice (A q) n (c q)) ∧ (convert 24 9 (.slice A8 n c8)).run Tryd.prog w' = .ok (.string (strOfNums (X q))) w' ∧ (convert 24 9 (.slice (A q) n (c q))).run Tryd.prog w' = .ok (.string (strOfNums (X q))) w') (ds := []) #[false, false, false, false, false, false, false, false] (by kernel_rfl) rfl rfl ⟨HTW10.out.at q hq, HCV1.out, HCV2.out⟩ (fun hHeld => ?_)
        refine pure_ (i := 0) (N := some 56) (v := ?_) (a' := ?_) #[true, false, false, false, false, false, false, false] rfl rfl (by kernel_rfl) (fun _ _ _ h => h) (Or.inl ⟨by rfl, ?_⟩) ?_ ?_
        rotate_left
        · intro w'
          go_simp
          (first | (with_reducible rfl) | ((try simp only [*]); (with_reducible rfl)))
        rotate_left
        · simp only [Act.put, List.setIfInBounds_toArray, List.set_cons_zero, List.set_cons_succ, i64_w, i32_w]
          rfl
        refine pure_ (i := 2) (N := some 58) (v := ?_) (a' := ?_) #[true, false, true, false, false, false, false, false] rfl rfl (by kernel_rfl) (fun _ _ _ h => h) (Or.inl ⟨by rfl, ?_⟩) ?_ ?_
        rotate_left
        · intro w'
          go_simp
          (first | (with_reducible rfl) | ((try simp only [*]); (with_reducible rfl)))
        rotate_left
        · simp only [Act.put, List.setIfInBounds_toArray, List.set_cons_zero, List.set_cons_succ, i64_w, i32_w]
          rfl
        refine pure_ (i := 3) (N := some 59) (v := ?_) (a' := ?_) #[true, false, true, true, false, false, false, false] rfl rfl (by kernel_rfl) (fun _ _ _ h => h) (Or.inl ⟨by rfl, ?_⟩) ?_ ?_
        rotate_left
        · intro w'
          go_simp
          (first | (with_reducible rfl) | ((try simp only [*]); (with_reducible rfl)))
        rotate_left
        · simp only [Act.put, List.setIfInBounds_toArray, List.set_cons_zero, List.set_cons_succ, i64_w, i32_w]
          rfl
        refine pure_ (i := 4) (N := some 60) (v := ?_) (a' := ?_) #[true, false, true, true, true, false, false, false] rfl rfl (by kernel_rfl) (fun _ _ _ h => h) (Or.inl ⟨by rfl, ?_⟩) ?_ ?_
        rotate_left
        · intro w'
          go_simp
          (first | (with_reducible rfl) | ((try simp only [*]); (with_reducible rfl)))
        rotate_left
        · simp only [Act.put, List.setIfInBounds_toArray, List.set_cons_zero, List.set_cons_succ, i64_w, i32_w]
          rfl
        refine take_ (i := 1) (N := some 57) (v := ?_) (a' := ?_) #[true, true, true, true, true, false, false, false] rfl rfl (by kernel_rfl) (fun _ _ _ h => h) (Or.inl ⟨by rfl, ?_⟩) hHeld ?_ ?_
        rotate_left
        · rintro w' ⟨s0, s1, s2⟩
          go_simp
          (first | (with_reducible rfl) | ((try simp only [*]); (with_reducible rfl)))
        rotate_left
        · simp only [Act.put, List.setIfInBounds_toArray, List.set_cons_zero, List.set_cons_succ, i64_w, i32_w]
          rfl
        refine take_ (i := 5) (N := some 61) (v := ?_) (a' := ?_) #[true, true, true, true, true, true, false, false] rfl rfl (by kernel_rfl) (fun _ _ _ h => h) (Or.inl ⟨by rfl, ?_⟩) hHeld ?_ ?_
        rotate_left
        · rintro w' ⟨s0, s1, s2⟩
          go_simp
          (first | (with_reducible rfl) | ((try simp only [*]); (with_reducible rfl)))
        rotate_left
        · simp only [Act.put, List.setIfInBounds_toArray, List.set_cons_zero, List.set_cons_succ, i64_w, i32_w]
          rfl
        refine take_ (i := 6) (N := some 62) (v := ?_) (a' := ?_) #[true, true, true, true, true, true, true, false] rfl rfl (by kernel_rfl) (fun _ _ _ h => h) (Or.inl ⟨by rfl, ?_⟩) hHeld ?_ ?_
        rotate_left
        · rintro w' ⟨s0, s1, s2⟩
          go_simp
          (first | (with_reducible rfl) | ((try simp only [*]); (with_reducible rfl)))
        rotate_left
        · simp only [Act.put, List.setIfInBounds_toArray, List.set_cons_zero, List.set_cons_succ, i64_w, i32_w]
          rfl
        refine pure_ (i := 7) (N := some 63) (v := ?_) (a' := ?_) #[true, true, true, true, true, true, true, true] rfl rfl (by kernel_rfl) (fun _ _ _ h => h) (Or.inl ⟨by rfl, ?_⟩) ?_ ?_
        rotate_left
        · intro w'
          go_simp
          (first | (with_reducible rfl) | ((try simp only [*]); (with_reducible rfl)))
        rotate_left
        · simp only [Act.put, List.setIfInBounds_toArray, List.set_cons_zero, List.set_cons_succ, i64_w, i32_w]
          rfl
        refine done_ (by kernel_rfl) ?_
        go_wp2
        obtain ⟨row, hrow⟩ : ∃ row, row = (Value.slice A8 n c8).ownBlock := ⟨_, rfl⟩
        have HROW := Lib.hid hrow
        have HRB := Lib.hid (row_from HROW.out HM8.out HB8.out.size HX8.out)
        clear hrow hsn hse
        go_loopw [12] (fun v12 w => ∃ i : Nat, i ≤ n ∧ v12 = .int .i64 i ∧ w10.drew.grownBy w row ∧ (0 < n → ∃ g cap, A8 = some ⟨g, 0, none⟩ ∧ row = some g ∧ ROOM w g cap ∧ PART w g n 0 0)) (fun v12 _ => n - (intOf v12).toNat)
        case atStart => exact ⟨0, by omega, rfl, grown_refl _ _, fun h0 => by
          obtain ⟨g, cap, e1, e2, e3, e4⟩ := HM8.out h0
          have hb := (HB10.out).drew
          have h9 : w10.drew.heap[g]? = w8.heap[g]? := HU10.out.block g e3.lt
          exact ⟨g, cap, e1, by rw [HROW.out, e1]; rfl, e3.of h9, e4.of h9⟩⟩
        case round =>
          obtain ⟨i, hi, rfl, hgr, hm⟩ := hrel
          have HGR := Lib.hid hgr
          have HM := Lib.hid hm
          clear hgr hm
          by_cases hlt : i < n
          · obtain ⟨g, cap, e1, e2, e3, e4⟩ := HM.out (by omega)
            obtain ⟨y, hy, _⟩ := e4 i hlt
            have hf := e3.frozen i
            have HE2 := Lib.hid e2
            have HE3 := Lib.hid e3
            have HE4 := Lib.hid e4
            subst e1
            clear e2 e3 e4
            go_wp2
            go_roundw
            case rel => exact ⟨i + 1, hlt, by go_num, by rw [HE2.out]; exact grown_set (by have := HGR.out; rw [HE2.out] at this; exact this) _ _, fun _ => ⟨g, cap, rfl, HE2.out, HE3.out.set _ _ _, part_any HE4.out hlt _⟩⟩
            case measure => simp [intOf]; omega
          · have HBL := Lib.hid ((HB10.out.drew).grown HGR.out HB10.out.size (fun k_ e => (HRB.out k_ e).1))
            have HTWL := Lib.hid (HTW.out.below HBL.out)
            have HBXL := Lib.hid (blk_below HBXW.out HBL.out)
            have HBYL := Lib.hid (blk_grown (w := w10.drew) HBY10.out HGR.out (fun e => by have := (HRB.out _ e.symm).2; have := HL9.out; omega))
            have HRL := Lib.hid (rc_grown (HR9x.out.below (below_drew1 (Below.refl _ w10))) HGR.out (fun x e h => by have := (HRB.out _ h.symm).2; have := HF9.out x e; omega))
            have hx19 := HTWL.out.at q hq
            go_wp2_with (go_at_call 14; go_loud ((with_reducible refine (rparse_at (A q) n (c q) (X q) _ HAQ.out (HTWL.out.bytes q hq).1 HLQ.out.symm HCQ.out HXM.out r1 r2 r3 r4 r5 HP.out).mono ?_); rintro e w20 ⟨A20, c20, rfl, hc20, hr20, hb⟩; have hq20 := (Below.refl w20.heap.size w20).alloc (Nat.le_refl _) (.cells (BX r1 r2 r3 A20 r4.length c20) TP); have HB20 := Lib.hid (below_drew1 ((HBL.out.trans (hb.mono HBL.out.size)).alloc (HBL.out.trans (hb.mono HBL.out.size)).size (.cells (BX r1 r2 r3 A20 r4.length c20) TP))); have HC20 := Lib.hid hc20; have HR20 := Lib.hid (hr20.below (below_drew1 hq20)); have HR920 := Lib.hid ((HRL.out.below hb).below (below_drew1 hq20)); have HTW20 := Lib.hid ((HTWL.out.below hb).below (below_drew1 hq20)); have HBX20 := Lib.hid (blk_drew (blk_alloc (blk_below HBXL.out hb) (.cells (BX r1 r2 r3 A20 r4.length c20) TP))); have HBY20 := Lib.hid (blk_drew (blk_alloc (blk_below HBYL.out hb) (.cells (BX r1 r2 r3 A20 r4.length c20) TP))); have HBZ20 := Lib.hid (blk_drew (blk_new w20 (.cells (BX r1 r2 r3 A20 r4.length c20) TP))); clear hb hc20 hr20 hq20))
            have hne5 : (r5 != r5) = false := by simp
            have hneI : (I != I) = false := by simp
            refine start_ (n := 24) (S := fun w' => (loadVar 26 ⟨w9.heap.size, 0, none⟩).run Tryd.prog w' = .ok (.agg (BX r1 r2 r3 A9 r4.length c9)) w' ∧ (loadVar 26 ⟨w20.heap.size, 0, none⟩).run Tryd.prog w' = .ok (.agg (BX r1 r2 r3 A20 r4.length c20)) w' ∧ w'.cell? ⟨w4.heap.size, q, none⟩ = some (.slice (A q) n (c q)) ∧ w'.cell? ⟨W.heap.size, 0, none⟩ = some (.int .u64 k) ∧ w'.cell? ⟨W.heap.size, 1, none⟩ = some (.int .u32 s) ∧ w'.cell? ⟨W.heap.size, 2, none⟩ = some (.int .u8 d)) (ds := []) #[false, false, false, false, false, false, false, false, false, false, false, false, false, false, false, false, false, false, false, false, false, false, false, false] (by kernel_rfl) rfl rfl ⟨load_box HBY20.out, load_box HBZ20.out, HTW20.out.at q hq, (blk_cell HBX20.out 0).trans rfl, (blk_cell HBX20.out 1).trans rfl, (blk_cell HBX20.out 2).trans rfl⟩ (fun hHeld => ?_)
            refine pure_ (i := 0) (N := some 86) (v := ?_) (a' := ?_) #[true, false, false, false, false, false, false, false, false, false, false, false, false, false, false, false, false, false, false, false, false, false, false, false] rfl rfl (by kernel_rfl) (fun _ _ _ h => h) (Or.inl ⟨by rfl, ?_⟩) ?_ ?_
            rotate_left
            · intro w'
              go_simp
              (first | (with_reducible rfl) | ((try simp only [*]); (with_reducible rfl)))
            rotate_left
            · simp only [Act.put, List.setIfInBounds_toArray, List.set_cons_zero, List.set_cons_succ, i64_w, i32_w]
              rfl
            refine pure_ (i := 1) (N := some 87) (v := ?_) (a' := ?_) #[true, true, false, false, false, false, false, false, false, false, false, false, false, false, false, false, false, false, false, false, false, false, false, false] rfl rfl (by kernel_rfl) (fun _ _ _ h => h) (Or.inl ⟨by rfl, ?_⟩) ?_ ?_
            rotate_left
            · intro w'
              go_simp
              (first | (with_reducible rfl) | ((try simp only [*]); (with_reducible rfl)))
            rotate_left
            · simp only [Act.put, List.setIfInBounds_toArray, List.set_cons_zero, List.set_cons_succ, i64_w, i32_w]
              rfl
            refine pure_ (i := 2) (N := some 88) (v := ?_) (a' := ?_) #[true, true, true, false, false, false, false, false, false, false, false, false, false, false, false, false, false, false, false, false, false, false, false, false] rfl rfl (by kernel_rfl) (fun _ _ _ h => h) (Or.inl ⟨by rfl, ?_⟩) ?_ ?_
            rotate_left
            · intro w'
              go_simp
              (first | (with_reducible rfl) | ((try simp only [*]); (with_reducible rfl)))
            rotate_left
            · simp only [Act.put, List.setIfInBounds_toArray, List.set_cons_zero, List.set_cons_succ, i64_w, i32_w]
              rfl
            refine pure_ (i := 3) (N := some 89) (v := ?_) (a' := ?_) #[true, true, true, true, false, false, false, false, false, false, false, false, false, false, false, false, false, false, false, false, false, false, false, false] rfl rfl (by kernel_rfl) (fun _ _ _ h => h) (Or.inl ⟨by rfl, ?_⟩) ?_ ?_
            rotate_left
            · intro w'
              go_simp
              (first | (with_reducible rfl) | ((try simp only [*]); (with_reducible rfl)))
            rotate_left
            · simp only [Act.put, List.setIfInBounds_toArray, List.set_cons_zero, List.set_cons_succ, i64_w, i32_w]
              rfl
            refine take_ (i := 4) (N := some 90) (v := ?_) (a' := ?_) #[true, true, true, true, true, false, false, false, false, false, false, false, false, false, false, false, false, false, false, false, false, false, false, false] rfl rfl (by kernel_rfl) (fun _ _ _ h => h) (Or.inl ⟨by rfl, ?_⟩) hHeld ?_ ?_
            rotate_left
            · rintro w' ⟨s0, s1, s2, s3, s4, s5⟩
              refine (exec_load (ty := 26) (g := ⟨w9.heap.size, 0, none⟩) rfl rfl s0).trans ?_; with_reducible rfl
            rotate_left
            · simp only [Act.put, List.setIfInBounds_toArray, List.set_cons_zero, List.set_cons_succ, i64_w, i32_w]
              rfl
            refine take_ (i := 5) (N := some 91) (v := ?_) (a' := ?_) #[true, true, true, true, true, true, false, false, false, false, false, false, false, false, false, false, false, false, false, false, false, false, false, false] rfl rfl (by kernel_rfl) (fun _ _ _ h => h) (Or.inl ⟨by rfl, ?_⟩) hHeld ?_ ?_
            rotate_left
            · rintro w' ⟨s0, s1, s2, s3, s4, s5⟩
              refine (exec_load (ty := 26) (g := ⟨w20.heap.size, 0, none⟩) rfl rfl s1).trans ?_; with_reducible rfl
            rotate_left
            · simp only [Act.put, List.setIfInBounds_toArray, List.set_cons_zero, List.set_cons_succ, i64_w, i32_w]
              rfl
            refine one_ (i := 6) (N := some 92) #[true, true, true, true, true, true, true, false, false, false, false, false, false, false, false, false, false, false, false, false, false, false, false, false] rfl rfl (by kernel_rfl) (by decide) (fun K hK => ?_)
            refine goes_ Tryd.func15 (by kernel_rfl) rfl #[.agg (BX r1 r2 r3 A9 r4.length c9), .agg (BX r1 r2 r3 A20 r4.length c20)] (by rfl) rfl rfl (by simp only [List.map_toArray, List.map_cons, List.map_nil]; rfl) ?_
            with_reducible refine (same_at r1 r2 r3 A9 r4.length c9 r4 r1 r2 r3 A20 r4.length c20 r4 _ HR920.out rfl HC9.out HD.out HR20.out rfl HC20.out HD.out (by have := HDL.out; omega) (by have := HDL.out; omega) true (by simp)).mono ?_
            rintro e w21 ⟨rfl, hb⟩
            refine ⟨_, rfl, ?_⟩
            have HB21 := Lib.hid (HB20.out.trans (hb.mono HB20.out.size))
            have HTW21 := Lib.hid (HTW20.out.below hb)
            have HBX21 := Lib.hid (blk_below HBX20.out hb)
            have HBY21 := Lib.hid (blk_below HBY20.out hb)
            have HBZ21 := Lib.hid (blk_below HBZ20.out hb)
            clear hb
            refine hK.out _ _ ⟨load_box HBY21.out, load_box HBZ21.out, HTW21.out.at q hq, (blk_cell HBX21.out 0).trans rfl, (blk_cell HBX21.out 1).trans rfl, (blk_cell HBX21.out 2).trans rfl⟩ (fun hHeld => ?_)
            clear hK K
            refine norm_ (a' := ?_) ?_ ?_
            rotate_left
            · show Act.put _ (some 92) _ = _
              simp only [Act.put, List.setIfInBounds_toArray, List.set_cons_zero, List.set_cons_succ, i64_w, i32_w]
              rfl
            refine pure_ (i := 7) (N := some 93) (v := ?_) (a' := ?_) #[true, true, true, true, true, true, true, true, false, false, false, false, false, false, false, false, false, false, false, false, false, false, false, false] rfl rfl (by kernel_rfl) (fun _ _ _ h => h) (Or.inl ⟨by rfl, ?_⟩) ?_ ?_
            rotate_left
            · intro w'
              go_simp
              (first | (with_reducible rfl) | ((try simp only [*]); (with_reducible rfl)))
            rotate_left
            · simp only [Act.put, List.setIfInBounds_toArray, List.set_cons_zero, List.set_cons_succ, i64_w, i32_w]
              rfl
            refine pure_ (i := 8) (N := some 94) (v := ?_) (a' := ?_) #[true, true, true, true, true, true, true, true, true, false, false, false, false, false, false, false, false, false, false, false, false, false, false, false] rfl rfl (by kernel_rfl) (fun _ _ _ h => h) (Or.inl ⟨by rfl, ?_⟩) ?_ ?_
            rotate_left
            · intro w'
              go_simp
              (first | (with_reducible rfl) | ((try simp only [*]); (with_reducible rfl)))
            rotate_left
            · simp only [Act.put, List.setIfInBounds_toArray, List.set_cons_zero, List.set_cons_succ, i64_w, i32_w]
              rfl
            refine pure_ (i := 9) (N := some 95) (v := ?_) (a' := ?_) #[true, true, true, true, true, true, true, true, true, true, false, false, false, false, false, false, false, false, false, false, false, false, false, false] rfl rfl (by kernel_rfl) (fun _ _ _ h => h) (Or.inl ⟨by rfl, ?_⟩) ?_ ?_
            rotate_left
            · intro w'
              go_simp
              (first | (with_reducible rfl) | ((try simp only [*]); (with_reducible rfl)))
            rotate_left
            · simp only [Act.put, List.setIfInBounds_toArray, List.set_cons_zero, List.set_cons_succ, i64_w, i32_w]
              rfl
            refine pure_ (i := 10) (N := some 96) (v := ?_) (a' := ?_) #[true, true, true, true, true, true, true, true, true, true, true, false, false, false, false, false, false, false, false, false, false, false, false, false] rfl rfl (by kernel_rfl) (fun _ _ _ h => h) (Or.inl ⟨by rfl, ?_⟩) ?_ ?_
            rotate_left
            · intro w'
              go_simp
              (first | (with_reducible rfl) | ((try simp only [*]); (with_reducible rfl)))
            rotate_left
            · simp only [Act.put, List.setIfInBounds_toArray, List.set_cons_zero, List.set_cons_succ, i64_w, i32_w]
              rfl
            refine pure_ (i := 11) (N := some 97) (v := ?_) (a' := ?_) #[true, true, true, true, true, true, true, true, true, true, true, true, false, false, false, false, false, false, false, false, false, false, false, false] rfl rfl (by kernel_rfl) (fun _ _ _ h => h) (Or.inl ⟨by rfl, ?_⟩) ?_ ?_
            rotate_left
            · intro w'
              go_simp
              (first | (with_reducible rfl) | ((try simp only [*]); (with_reducible rfl)))
            rotate_left
            · simp only [Act.put, List.setIfInBounds_toArray, List.set_cons_zero, List.set_cons_succ, i64_w, i32_w]
              rfl
            refine pure_ (i := 12) (N := some 98) (v := ?_) (a' := ?_) #[true, true, true, true, true, true, true, true, true, true, true, true, true, false, false, false, false, false, false, false, false, false, false, false] rfl rfl (by kernel_rfl) (fun _ _ _ h => h) (Or.inl ⟨by rfl, ?_⟩) ?_ ?_
            rotate_left
            · intro w'
              go_simp
              (first | (with_reducible rfl) | ((try simp only [*]); (with_reducible rfl)))
            rotate_left
            · simp only [Act.put, List.setIfInBounds_toArray, List.set_cons_zero, List.set_cons_succ, i64_w, i32_w]
              rfl
            refine pure_ (i := 13) (N := some 99) (v := ?_) (a' := ?_) #[true, true, true, true, true, true, true, true, true, true, true, true, true, true, false, false, false, false, false, false, false, false, false, false] rfl rfl (by kernel_rfl) (fun _ _ _ h => h) (Or.inl ⟨by rfl, ?_⟩) ?_ ?_
            rotate_left
            · intro w'
              go_simp
              (first | (with_reducible rfl) | ((try simp only [*]); (with_reducible rfl)))
            rotate_left
            · simp only [Act.put, List.setIfInBounds_toArray, List.set_cons_zero, List.set_cons_succ, i64_w, i32_w]
              rfl
            refine pure_ (i := 15) (N := some 101) (v := ?_) (a' := ?_) #[true, true, true, true, true, true, true, true, true, true, true, true, true, true, false, true, false, false, false, false, false, false, false, false] rfl rfl (by kernel_rfl) (fun _ _ _ h => h) (Or.inl ⟨by rfl, ?_⟩) ?_ ?_
            rotate_left
            · intro w'
              go_simp
              (first | (with_reducible rfl) | ((try simp only [*]); (with_reducible rfl)))
            rotate_left
            · simp only [Act.put, List.setIfInBounds_toArray, List.set_cons_zero, List.set_cons_succ, i64_w, i32_w]
              rfl
            refine pure_ (i := 17) (N := some 103) (v := ?_) (a' := ?_) #[true, true, true, true, true, true, true, true, true, true, true, true, true, true, false, true, false, true, false, false, false, false, false, false] rfl rfl (by kernel_rfl) (fun _ _ _ h => h) (Or.inl ⟨by rfl, ?_⟩) ?_ ?_
            rotate_left
            · intro w'
              go_simp
              (first | (with_reducible rfl) | ((try simp only [*]); (with_reducible rfl)))
            rotate_left
            · simp only [Act.put, List.setIfInBounds_toArray, List.set_cons_zero, List.set_cons_succ, i64_w, i32_w]
              rfl
            refine pure_ (i := 19) (N := some 105) (v := ?_) (a' := ?_) #[true, true, true, true, true, true, true, true, true, true, true, true, true, true, false, true, false, true, false, true, false, false, false, false] rfl rfl (by kernel_rfl) (fun _ _ _ h => h) (Or.inl ⟨by rfl, ?_⟩) ?_ ?_
            rotate_left
            · intro w'
              go_simp
              (first | (with_reducible rfl) | ((try simp only [*]); (with_reducible rfl)))
            rotate_left
            · simp only [Act.put, List.setIfInBounds_toArray, List.set_cons_zero, List.set_cons_succ, i64_w, i32_w]
              rfl
            refine take_ (i := 14) (N := some 100) (v := ?_) (a' := ?_) #[true, true, true, true, true, true, true, true, true, true, true, true, true, true, true, true, false, true, false, true, false, false, false, false] rfl rfl (by kernel_rfl) (fun _ _ _ h => h) (Or.inl ⟨by rfl, ?_⟩) hHeld ?_ ?_
            rotate_left
            · rintro w' ⟨s0, s1, s2, s3, s4, s5⟩
              go_simp
              (first | (with_reducible rfl) | ((try simp only [*]); (with_reducible rfl)))
            rotate_left
            · simp only [Act.put, List.setIfInBounds_toArray, List.set_cons_zero, List.set_cons_succ, i64_w, i32_w]
              rfl
            refine take_ (i := 16) (N := some 102) (v := ?_) (a' := ?_) #[true, true, true, true, true, true, true, true, true, true, true, true, true, true, true, true, true, true, false, true, false, false, false, false] rfl rfl (by kernel_rfl) (fun _ _ _ h => h) (Or.inl ⟨by rfl, ?_⟩) hHeld ?_ ?_
            rotate_left
            · rintro w' ⟨s0, s1, s2, s3, s4, s5⟩
              go_simp
              (first | (with_reducible rfl) | ((try simp only [*]); (with_reducible rfl)))
            rotate_left
            · simp only [Act.put, List.setIfInBounds_toArray, List.set_cons_zero, List.set_cons_succ, i64_w, i32_w]
              rfl
            refine take_ (i := 18) (N := some 104) (v := ?_) (a' := ?_) #[true, true, true, true, true, true, true, true, true, true, true, true, true, true, true, true, true, true, true, true, false, false, false, false] rfl rfl (by kernel_rfl) (fun _ _ _ h => h) (Or.inl ⟨by rfl, ?_⟩) hHeld ?_ ?_
            rotate_left
            · rintro w' ⟨s0, s1, s2, s3, s4, s5⟩
              go_simp
              (first | (with_reducible rfl) | ((try simp only [*]); (with_reducible rfl)))
            rotate_left
            · simp only [Act.put, List.setIfInBounds_toArray, List.set_cons_zero, List.set_cons_succ, i64_w, i32_w]
              rfl
            refine take_ (i := 20) (N := some 106) (v := ?_) (a' := ?_) #[true, true, true, true, true, true, true, true, true, true, true, true, true, true, true, true, true, true, true, true, true, false, false, false] rfl rfl (by kernel_rfl) (fun _ _ _ h => h) (Or.inl ⟨by rfl, ?_⟩) hHeld ?_ ?_
            rotate_left
            · rintro w' ⟨s0, s1, s2, s3, s4, s5⟩
              go_simp
              (first | (with_reducible rfl) | ((try simp only [*]); (with_reducible rfl)))
            rotate_left
            · simp only [Act.put, List.setIfInBounds_toArray, List.set_cons_zero, List.set_cons_succ, i64_w, i32_w]
              rfl
            refine one_ (i := 21) (N := some 107) #[true, true, true, true, true, true, true, true, true, true, true, true, true, true, true, true, true, true, true, true, true, true, false, false] rfl rfl (by kernel_rfl) (by decide) (fun K hK => ?_)
            refine goes_ Tryd.func16 (by kernel_rfl) rfl #[.slice (A q) n (c q), .int .u64 k, .int .u32 s, .int .u8 d] (by rfl) rfl rfl (by simp only [List.map_toArray, List.map_cons, List.map_nil]; rfl) ?_
            with_reducible refine (ris_any (A q) n (c q) (X q) k s d _ HAQ.out (HTW21.out.bytes q hq).1 HLQ.out.symm HCQ.out HXM.out I HI.out).mono ?_
            rintro e w22 ⟨rfl, hb⟩
            refine ⟨_, rfl, ?_⟩
            have HB22 := Lib.hid (HB21.out.trans (hb.mono HB21.out.size))
            have HTW22 := Lib.hid (HTW21.out.below hb)
            have HBX22 := Lib.hid (blk_below HBX21.out hb)
            have HBY22 := Lib.hid (blk_below HBY21.out hb)
            have HBZ22 := Lib.hid (blk_below HBZ21.out hb)
            clear hb
            refine hK.out _ _ ⟨load_box HBY22.out, load_box HBZ22.out, HTW22.out.at q hq, (blk_cell HBX22.out 0).trans rfl, (blk_cell HBX22.out 1).trans rfl, (blk_cell HBX22.out 2).trans rfl⟩ (fun hHeld => ?_)
            clear hK K
            refine norm_ (a' := ?_) ?_ ?_
            rotate_left
            · show Act.put _ (some 107) _ = _
              simp only [Act.put, List.setIfInBounds_toArray, List.set_cons_zero, List.set_cons_succ, i64_w, i32_w]
              rfl
            refine pure_ (i := 22) (N := some 108) (v := ?_) (a' := ?_) #[true, true, true, true, true, true, true, true, true, true, true, true, true, true, true, true, true, true, true, true, true, true, true, false] rfl rfl (by kernel_rfl) (fun _ _ _ h => h) (Or.inl ⟨by rfl, ?_⟩) ?_ ?_
            rotate_left
            · intro w'
              go_simp
              (first | (with_reducible rfl) | ((try simp only [*]); (with_reducible rfl)))
            rotate_left
            · simp only [Act.put, List.setIfInBounds_toArray, List.set_cons_zero, List.set_cons_succ, i64_w, i32_w]
              rfl
            refine pure_ (i := 23) (N := some 109) (v := ?_) (a' := ?_) #[true, true, true, true, true, true, true, true, true, true, true, true, true, true, true, true, true, true, true, true, true, true, true, true] rfl rfl (by kernel_rfl) (fun _ _ _ h => h) (Or.inl ⟨by rfl, ?_⟩) ?_ ?_
            rotate_left
            · intro w'
              go_simp
              (first | (with_reducible rfl) | ((try simp only [*]); (with_reducible rfl)))
            rotate_left
            · simp only [Act.put, List.setIfInBounds_toArray, List.set_cons_zero, List.set_cons_succ, i64_w, i32_w]
              rfl
            refine done_ (by kernel_rfl) ?_
            go_wp2
            go_roundw
            case rel => exact ⟨q + 1, hq, by go_num, HTW22.out, ⟨HBX22.out⟩, HBW.out.trans (HB22.out.mono HBW.out.size)⟩
            case measure => simp [intOf]; omega
      · go_wp2_with (go_at_call 8; go_loud ((with_reducible refine (Wakes6.wakes_at _).mono ?_); rintro e w8 ⟨rfl, hb⟩; have HB8 := Lib.hid (HBW.out.trans (hb.mono HBW.out.size)); clear hb))
        go_ret
        exact ⟨rfl, HB8.out⟩
  · have hn128 : ((n : Int) == 128) = false := by simp; omega
    obtain ⟨Y, hY⟩ : ∃ Y, Y = l0 := ⟨_, rfl⟩
    have HY := Lib.hid hY
    have HYA := Lib.hid (show AreB Y by rw [hY]; exact HA.out)
    clear h128 hY
    go_enter Tryd.func4, Tryd.ntmps4
    go_wp2_with (first
      | ((with_reducible refine gate_dst (N := 19) rfl ?_); refine own_lit (w0 := (W.alloc (.cells (BX k s d A1 n1 c1) TP))) (W.alloc (.cells (BX k s d A1 n1 c1) TP)).heap.size rfl (N := 19) rfl [] ?hrun (Below.refl _ _) (Nat.le_refl _) (by decide) ?_; (case hrun => first | (go_simp; done) | (go_simp; rfl)); intro v2 w2 ho2 hb2 hg2; have HO2 := Lib.hid ho2; have HB2 := Lib.hid hb2; clear ho2 hb2 hg2)
      | ((with_reducible refine gate_builtin (b := .append) (xs := #[.tmp 19, .tmp 20]) rfl ?_); refine own_append (w0 := (W.alloc (.cells (BX k s d A1 n1 c1) TP))) rfl (.tmp 19) (.tmp 20) rfl (W.alloc (.cells (BX k s d A1 n1 c1) TP)).heap.size v2 [] l0 A0 c0 rfl (by rw [← HN.out]; rfl) HO2.out (HR0.out.below HB2.out) HB2.out HB2.out.size (by simp; have := HL.out; omega) ?_; intro v3 w4 ho3 hb3 hg3; obtain ⟨A4, c4, rfl, hc4, hr4, _⟩ := mine_of (show OWN w4 (W.alloc (.cells (BX k s d A1 n1 c1) TP)).heap.size v3 l0 from ho3) HN.out; have HBW4 := Lib.hid hb3; have HB4 := Lib.hid (HB0.out.trans (hb3.mono HB0.out.size)); have HC4 := Lib.hid hc4; have HR4 := Lib.hid (show RC w4 A4 Y by rw [HY.out]; exact hr4); clear ho3 hb3 hg3 hc4 hr4))
    clear HO2 HB2
    obtain ⟨A, hAA⟩ : ∃ A : Nat → Option Addr, A = pick2 A0 A4 := ⟨_, rfl⟩
    obtain ⟨c, hcc⟩ : ∃ c : Nat → Nat, c = pick2 c0 c4 := ⟨_, rfl⟩
    obtain ⟨X, hXX⟩ : ∃ X : Nat → List Int, X = pick2 l0 Y := ⟨_, rfl⟩
    have HT2 := Lib.hid (show TWO (w4.alloc (.cells #[.slice A0 n c0, .slice A4 n c4] 24)) w4.heap.size n A c X from by
      subst hAA hcc hXX
      refine ⟨blk_new _ _, fun q hq => ?_⟩
      have hq2 : q = 0 ∨ q = 1 := by omega
      have hbn := (Below.refl w4.heap.size w4).alloc (Nat.le_refl _) (.cells #[.slice A0 n c0, .slice A4 n c4] 24)
      rcases hq2 with rfl | rfl
      · exact ⟨(HR0.out.below (show Below (W.alloc (.cells (BX k s d A1 n1 c1) TP)).heap.size _ w4 from HBW4.out)).below hbn, HA.out, HN.out.symm, by rw [HN.out]; exact HC.out⟩
      · exact ⟨HR4.out.below hbn, HYA.out, by rw [show pick2 l0 Y 1 = Y from rfl, HY.out]; exact HN.out.symm, HC4.out⟩)
    have HB5 := Lib.hid (HB4.out.alloc HB4.out.size (.cells #[.slice A0 n c0, .slice A4 n c4] 24))
    have HBX5 := Lib.hid (blk_alloc (blk_below HBX.out HBW4.out) (.cells #[.slice A0 n c0, .slice A4 n c4] 24))
    clear hAA hcc hXX
    go_loopw [7] (fun v7 w => ∃ q : Nat, q ≤ 2 ∧ v7 = .int .i64 q ∧ TWO w w4.heap.size n A c X ∧ Aside0 (w.heap[W.heap.size]? = some (.cells (BX k s d A1 n1 c1) TP (0, 0))) ∧ Below W.heap.size W w) (fun v7 _ => 2 - (intOf v7).toNat)
    case atStart => exact ⟨0, by omega, rfl, HT2.out, ⟨HBX5.out⟩, HB5.out⟩
    case round =>
      obtain ⟨q, hq2, rfl, ht, hbx, hb⟩ := hrel
      have HTW := Lib.hid ht
      have HBW := Lib.hid hb
      have HBXW := Lib.hid hbx.out
      clear ht hb hbx HT2 HB5 HBX5
      by_cases hq : q < 2
      · have hqb : decide ((q : Int) < 2) = true := decide_eq_true (by omega)
        obtain ⟨hRq, hAq, hLq, hCq⟩ := HTW.out.bytes q hq
        have HRQ := Lib.hid hRq
        have HAQ := Lib.hid hAq
        have HLQ := Lib.hid hLq
        have HCQ := Lib.hid hCq
        obtain ⟨r1, r2, r3, r4, r5, hp, hd, hdl⟩ := parse_all hAq
        obtain ⟨I, hI⟩ := is_some (X q) k s d hp
        have HP := Lib.hid hp
        have HD := Lib.hid hd
        have HDL := Lib.hid hdl
        have HI := Lib.hid hI
        have HXM := Lib.hid (show (X q).length ≤ 100000 by have := HL.out; have := HN.out; omega)
        clear hRq hAq hLq hCq hp hd hdl hI
        go_wp2_with (first
          | ((with_reducible refine gate_dst (N := 37) rfl ?_); refine own_lit (w0 := wr) wr.heap.size rfl (N := 37) rfl [] ?hrun (Below.refl _ _) (Nat.le_refl _) (by decide) ?_; (case hrun => first | (go_simp; done) | (go_simp; rfl)); intro v2 w2 ho2 hb2 hg2; have HO2 := Lib.hid ho2; have HB2 := Lib.hid hb2; have hx2 := (HTW.out.below hb2).at q hq; clear ho2 hb2 hg2)
          | ((with_reducible refine gate_builtin (b := .append) (xs := #[.tmp 37, .tmp 41]) rfl ?_); refine own_append (w0 := wr) rfl (.tmp 37) (.tmp 41) rfl wr.heap.size v2 [] (X q) (A q) (c q) rfl (by rw [HLQ.out]; rfl) HO2.out (HRQ.out.below HB2.out) HB2.out HB2.out.size (by have := HXM.out; simp; omega) ?_; intro v8 w8 ho8 hb8 hg8; obtain ⟨A8, c8, rfl, hc8, hr8, hx8, hm8⟩ := mine_of (show OWN w8 wr.heap.size v8 (X q) from ho8) HLQ.out.symm; have HB8 := Lib.hid hb8; have HC8 := Lib.hid hc8; have HR8 := Lib.hid hr8; have HM8 := Lib.hid hm8; have HX8 := Lib.hid hx8; clear ho8 hb8 hg8 hc8 hr8 hm8 hx8 hx2)
          | (go_at_call 12; go_loud ((with_reducible refine (parse_own A8 n c8 (X q) _ HR8.out HLQ.out.symm HC8.out (by have := HXM.out; omega) r1 r2 r3 r4 r5 HP.out).mono ?_); rintro e w9 ⟨A9, c9, rfl, hc9, hr9, hf9, hb⟩; have HF9 := Lib.hid hf9; have HL9 := Lib.hid hb.size; have HU9 := Lib.hid (hb.alloc hb.size (.cells (BX r1 r2 r3 A9 r4.length c9) TP)); have HB9 := Lib.hid (HB8.out.trans (hb.mono HB8.out.size)); have HB9q := Lib.hid (HB9.out.alloc HB9.out.size (.cells (BX r1 r2 r3 A9 r4.length c9) TP)); have hq9 := (Below.refl w9.heap.size w9).alloc (Nat.le_refl _) (.cells (BX r1 r2 r3 A9 r4.length c9) TP); have HC9 := Lib.hid hc9; have HR9 := Lib.hid (hr9.below hq9); have HR89 := Lib.hid ((HR8.out.below hb).below hq9); have bx9 := blk_alloc (blk_below (blk_below HBXW.out HB8.out) hb) (.cells (BX r1 r2 r3 A9 r4.length c9) TP); have HBX9 := Lib.hid bx9; have hk0 := (blk_cell bx9 0).trans (show (BX k s d A1 n1 c1)[0]? = some (.int .u64 k) from rfl); have hk1 := (blk_cell bx9 1).trans (show (BX k s d A1 n1 c1)[1]? = some (.int .u32 s) from rfl); have hk2 := (blk_cell bx9 2).trans (show (BX k s d A1 n1 c1)[2]? = some (.int .u8 d) from rfl); have HBY9 := Lib.hid (blk_new w9 (.cells (BX r1 r2 r3 A9 r4.length c9) TP)); clear hb hc9 hr9 hq9 bx9 hf9))
          | (go_at_call 13; go_loud ((with_reducible refine (is_any A8 n c8 (X q) k s d _ HR89.out HLQ.out.symm HC8.out HXM.out I HI.out).mono ?_); rintro e w10 ⟨rfl, hb⟩; have HB10 := Lib.hid (HB9q.out.trans (hb.mono HB9q.out.size)); have HR8x := Lib.hid (HR89.out.below hb); have HR9x := Lib.hid (HR9.out.below hb); have HL10 := Lib.hid hb.size; have HU10 := Lib.hid (HU9.out.trans (hb.mono HU9.out.size)); have HBX10 := Lib.hid (blk_below HBX9.out hb); have HBY10 := Lib.hid (blk_below HBY9.out hb); clear hb hk0 hk1 hk2)))
        have HTW10 := Lib.hid (HTW.out.below HB10.out)
        have HCV1 := Lib.hid (str_n (c := c8) (HR8x.out.below (below_drew1 (Below.refl _ w10))) HLQ.out.symm HXM.out)
        have HCV2 := Lib.hid (str_n (c := c q) ((HTW10.out.bytes q hq).1.below (below_drew1 (Below.refl _ w10))) HLQ.out.symm HXM.out)
        have hqI : (q : Int) < 2 := by omega
        have hsn : ((strOfNums (X q)).toList != (strOfNums (X q)).toList) = false := by simp
        have hse : ((strOfNums (X q)).toList == (strOfNums (X q)).toList) = true := by simp
        refine start_ (n := 8) (S := fun w' => w'.cell? ⟨w4.heap.size, q, none⟩ = some (.slice (A q) n (c q)) ∧ (convert 24 9 (.slice A8 n c8)).run Tryd.prog w' = .ok (.string (strOfNums (X q))) w' ∧ (convert 24 9 (.slice (A q) n (c q))).run Tryd.prog w' = .ok (.string (strOfNums (X q))) w') (ds := []) #[false, false, false, false, false, false, false, false] (by kernel_rfl) rfl rfl ⟨HTW10.out.at q hq, HCV1.out, HCV2.out⟩ (fun hHeld => ?_)
        refine pure_ (i := 0) (N := some 56) (v := ?_) (a' := ?_) #[true, false, false, false, false, false, false, false] rfl rfl (by kernel_rfl) (fun _ _ _ h => h) (Or.inl ⟨by rfl, ?_⟩) ?_ ?_
        rotate_left
        · intro w'
          go_simp
          (first | (with_reducible rfl) | ((try simp only [*]); (with_reducible rfl)))
        rotate_left
        · simp only [Act.put, List.setIfInBounds_toArray, List.set_cons_zero, List.set_cons_succ, i64_w, i32_w]
          rfl
        refine pure_ (i := 2) (N := some 58) (v := ?_) (a' := ?_) #[true, false, true, false, false, false, false, false] rfl rfl (by kernel_rfl) (fun _ _ _ h => h) (Or.inl ⟨by rfl, ?_⟩) ?_ ?_
        rotate_left
        · intro w'
          go_simp
          (first | (with_reducible rfl) | ((try simp only [*]); (with_reducible rfl)))
        rotate_left
        · simp only [Act.put, List.setIfInBounds_toArray, List.set_cons_zero, List.set_cons_succ, i64_w, i32_w]
          rfl
        refine pure_ (i := 3) (N := some 59) (v := ?_) (a' := ?_) #[true, false, true, true, false, false, false, false] rfl rfl (by kernel_rfl) (fun _ _ _ h => h) (Or.inl ⟨by rfl, ?_⟩) ?_ ?_
        rotate_left
        · intro w'
          go_simp
          (first | (with_reducible rfl) | ((try simp only [*]); (with_reducible rfl)))
        rotate_left
        · simp only [Act.put, List.setIfInBounds_toArray, List.set_cons_zero, List.set_cons_succ, i64_w, i32_w]
          rfl
        refine pure_ (i := 4) (N := some 60) (v := ?_) (a' := ?_) #[true, false, true, true, true, false, false, false] rfl rfl (by kernel_rfl) (fun _ _ _ h => h) (Or.inl ⟨by rfl, ?_⟩) ?_ ?_
        rotate_left
        · intro w'
          go_simp
          (first | (with_reducible rfl) | ((try simp only [*]); (with_reducible rfl)))
        rotate_left
        · simp only [Act.put, List.setIfInBounds_toArray, List.set_cons_zero, List.set_cons_succ, i64_w, i32_w]
          rfl
        refine take_ (i := 1) (N := some 57) (v := ?_) (a' := ?_) #[true, true, true, true, true, false, false, false] rfl rfl (by kernel_rfl) (fun _ _ _ h => h) (Or.inl ⟨by rfl, ?_⟩) hHeld ?_ ?_
        rotate_left
        · rintro w' ⟨s0, s1, s2⟩
          go_simp
          (first | (with_reducible rfl) | ((try simp only [*]); (with_reducible rfl)))
        rotate_left
        · simp only [Act.put, List.setIfInBounds_toArray, List.set_cons_zero, List.set_cons_succ, i64_w, i32_w]
          rfl
        refine take_ (i := 5) (N := some 61) (v := ?_) (a' := ?_) #[true, true, true, true, true, true, false, false] rfl rfl (by kernel_rfl) (fun _ _ _ h => h) (Or.inl ⟨by rfl, ?_⟩) hHeld ?_ ?_
        rotate_left
        · rintro w' ⟨s0, s1, s2⟩
          go_simp
          (first | (with_reducible rfl) | ((try simp only [*]); (with_reducible rfl)))
        rotate_left
        · simp only [Act.put, List.setIfInBounds_toArray, List.set_cons_zero, List.set_cons_succ, i64_w, i32_w]
          rfl
        refine take_ (i := 6) (N := some 62) (v := ?_) (a' := ?_) #[true, true, true, true, true, true, true, false] rfl rfl (by kernel_rfl) (fun _ _ _ h => h) (Or.inl ⟨by rfl, ?_⟩) hHeld ?_ ?_
        rotate_left
        · rintro w' ⟨s0, s1, s2⟩
          go_simp
          (first | (with_reducible rfl) | ((try simp only [*]); (with_reducible rfl)))
        rotate_left
        · simp only [Act.put, List.setIfInBounds_toArray, List.set_cons_zero, List.set_cons_succ, i64_w, i32_w]
          rfl
        refine pure_ (i := 7) (N := some 63) (v := ?_) (a' := ?_) #[true, true, true, true, true, true, true, true] rfl rfl (by kernel_rfl) (fun _ _ _ h => h) (Or.inl ⟨by rfl, ?_⟩) ?_ ?_
        rotate_left
        · intro w'
          go_simp
          (first | (with_reducible rfl) | ((try simp only [*]); (with_reducible rfl)))
        rotate_left
        · simp only [Act.put, List.setIfInBounds_toArray, List.set_cons_zero, List.set_cons_succ, i64_w, i32_w]
          rfl
        refine done_ (by kernel_rfl) ?_
        go_wp2
        obtain ⟨row, hrow⟩ : ∃ row, row = (Value.slice A8 n c8).ownBlock := ⟨_, rfl⟩
        have HROW := Lib.hid hrow
        have HRB := Lib.hid (row_from HROW.out HM8.out HB8.out.size HX8.out)
        clear hrow hsn hse
        go_loopw [12] (fun v12 w => ∃ i : Nat, i ≤ n ∧ v12 = .int .i64 i ∧ w10.drew.grownBy w row ∧ (0 < n → ∃ g cap, A8 = some ⟨g, 0, none⟩ ∧ row = some g ∧ ROOM w g cap ∧ PART w g n 0 0)) (fun v12 _ => n - (intOf v12).toNat)
        case atStart => exact ⟨0, by omega, rfl, grown_refl _ _, fun h0 => by
          obtain ⟨g, cap, e1, e2, e3, e4⟩ := HM8.out h0
          have hb := (HB10.out).drew
          have h9 : w10.drew.heap[g]? = w8.heap[g]? := HU10.out.block g e3.lt
          exact ⟨g, cap, e1, by rw [HROW.out, e1]; rfl, e3.of h9, e4.of h9⟩⟩
        case round =>
          obtain ⟨i, hi, rfl, hgr, hm⟩ := hrel
          have HGR := Lib.hid hgr
          have HM := Lib.hid hm
          clear hgr hm
          by_cases hlt : i < n
          · obtain ⟨g, cap, e1, e2, e3, e4⟩ := HM.out (by omega)
            obtain ⟨y, hy, _⟩ := e4 i hlt
            have hf := e3.frozen i
            have HE2 := Lib.hid e2
            have HE3 := Lib.hid e3
            have HE4 := Lib.hid e4
            subst e1
            clear e2 e3 e4
            go_wp2
            go_roundw
            case rel => exact ⟨i + 1, hlt, by go_num, by rw [HE2.out]; exact grown_set (by have := HGR.out; rw [HE2.out] at this; exact this) _ _, fun _ => ⟨g, cap, rfl, HE2.out, HE3.out.set _ _ _, part_any HE4.out hlt _⟩⟩
            case measure => simp [intOf]; omega
          · have HBL := Lib.hid ((HB10.out.drew).grown HGR.out HB10.out.size (fun k_ e => (HRB.out k_ e).1))
            have HTWL := Lib.hid (HTW.out.below HBL.out)
            have HBXL := Lib.hid (blk_below HBXW.out HBL.out)
            have HBYL := Lib.hid (blk_grown (w := w10.drew) HBY10.out HGR.out (fun e => by have := (HRB.out _ e.symm).2; have := HL9.out; omega))
            have HRL := Lib.hid (rc_grown (HR9x.out.below (below_drew1 (Below.refl _ w10))) HGR.out (fun x e h => by have := (HRB.out _ h.symm).2; have := HF9.out x e; omega))
            have hx19 := HTWL.out.at q hq
            go_wp2_with (go_at_call 14; go_loud ((with_reducible refine (rparse_at (A q) n (c q) (X q) _ HAQ.out (HTWL.out.bytes q hq).1 HLQ.out.symm HCQ.out HXM.out r1 r2 r3 r4 r5 HP.out).mono ?_); rintro e w20 ⟨A20, c20, rfl, hc20, hr20, hb⟩; have hq20 := (Below.refl w20.heap.size w20).alloc (Nat.le_refl _) (.cells (BX r1 r2 r3 A20 r4.length c20) TP); have HB20 := Lib.hid (below_drew1 ((HBL.out.trans (hb.mono HBL.out.size)).alloc (HBL.out.trans (hb.mono HBL.out.size)).size (.cells (BX r1 r2 r3 A20 r4.length c20) TP))); have HC20 := Lib.hid hc20; have HR20 := Lib.hid (hr20.below (below_drew1 hq20)); have HR920 := Lib.hid ((HRL.out.below hb).below (below_drew1 hq20)); have HTW20 := Lib.hid ((HTWL.out.below hb).below (below_drew1 hq20)); have HBX20 := Lib.hid (blk_drew (blk_alloc (blk_below HBXL.out hb) (.cells (BX r1 r2 r3 A20 r4.length c20) TP))); have HBY20 := Lib.hid (blk_drew (blk_alloc (blk_below HBYL.out hb) (.cells (BX r1 r2 r3 A20 r4.length c20) TP))); have HBZ20 := Lib.hid (blk_drew (blk_new w20 (.cells (BX r1 r2 r3 A20 r4.length c20) TP))); clear hb hc20 hr20 hq20))
            have hne5 : (r5 != r5) = false := by simp
            have hneI : (I != I) = false := by simp
            refine start_ (n := 24) (S := fun w' => (loadVar 26 ⟨w9.heap.size, 0, none⟩).run Tryd.prog w' = .ok (.agg (BX r1 r2 r3 A9 r4.length c9)) w' ∧ (loadVar 26 ⟨w20.heap.size, 0, none⟩).run Tryd.prog w' = .ok (.agg (BX r1 r2 r3 A20 r4.length c20)) w' ∧ w'.cell? ⟨w4.heap.size, q, none⟩ = some (.slice (A q) n (c q)) ∧ w'.cell? ⟨W.heap.size, 0, none⟩ = some (.int .u64 k) ∧ w'.cell? ⟨W.heap.size, 1, none⟩ = some (.int .u32 s) ∧ w'.cell? ⟨W.heap.size, 2, none⟩ = some (.int .u8 d)) (ds := []) #[false, false, false, false, false, false, false, false, false, false, false, false, false, false, false, false, false, false, false, false, false, false, false, false] (by kernel_rfl) rfl rfl ⟨load_box HBY20.out, load_box HBZ20.out, HTW20.out.at q hq, (blk_cell HBX20.out 0).trans rfl, (blk_cell HBX20.out 1).trans rfl, (blk_cell HBX20.out 2).trans rfl⟩ (fun hHeld => ?_)
            refine pure_ (i := 0) (N := some 86) (v := ?_) (a' := ?_) #[true, false, false, false, false, false, false, false, false, false, false, false, false, false, false, false, false, false, false, false, false, false, false, false] rfl rfl (by kernel_rfl) (fun _ _ _ h => h) (Or.inl ⟨by rfl, ?_⟩) ?_ ?_
            rotate_left
            · intro w'
              go_simp
              (first | (with_reducible rfl) | ((try simp only [*]); (with_reducible rfl)))
            rotate_left
            · simp only [Act.put, List.setIfInBounds_toArray, List.set_cons_zero, List.set_cons_succ, i64_w, i32_w]
              rfl
            refine pure_ (i := 1) (N := some 87) (v := ?_) (a' := ?_) #[true, true, false, false, false, false, false, false, false, false, false, false, false, false, false, false, false, false, false, false, false, false, false, false] rfl rfl (by kernel_rfl) (fun _ _ _ h => h) (Or.inl ⟨by rfl, ?_⟩) ?_ ?_
            rotate_left
            · intro w'
              go_simp
              (first | (with_reducible rfl) | ((try simp only [*]); (with_reducible rfl)))
            rotate_left
            · simp only [Act.put, List.setIfInBounds_toArray, List.set_cons_zero, List.set_cons_succ, i64_w, i32_w]
              rfl
            refine pure_ (i := 2) (N := some 88) (v := ?_) (a' := ?_) #[true, true, true, false, false, false, false, false, false, false, false, false, false, false, false, false, false, false, false, false, false, false, false, false] rfl rfl (by kernel_rfl) (fun _ _ _ h => h) (Or.inl ⟨by rfl, ?_⟩) ?_ ?_
            rotate_left
            · intro w'
              go_simp
              (first | (with_reducible rfl) | ((try simp only [*]); (with_reducible rfl)))
            rotate_left
            · simp only [Act.put, List.setIfInBounds_toArray, List.set_cons_zero, List.set_cons_succ, i64_w, i32_w]
              rfl
            refine pure_ (i := 3) (N := some 89) (v := ?_) (a' := ?_) #[true, true, true, true, false, false, false, false, false, false, false, false, false, false, false, false, false, false, false, false, false, false, false, false] rfl rfl (by kernel_rfl) (fun _ _ _ h => h) (Or.inl ⟨by rfl, ?_⟩) ?_ ?_
            rotate_left
            · intro w'
              go_simp
              (first | (with_reducible rfl) | ((try simp only [*]); (with_reducible rfl)))
            rotate_left
            · simp only [Act.put, List.setIfInBounds_toArray, List.set_cons_zero, List.set_cons_succ, i64_w, i32_w]
              rfl
            refine take_ (i := 4) (N := some 90) (v := ?_) (a' := ?_) #[true, true, true, true, true, false, false, false, false, false, false, false, false, false, false, false, false, false, false, false, false, false, false, false] rfl rfl (by kernel_rfl) (fun _ _ _ h => h) (Or.inl ⟨by rfl, ?_⟩) hHeld ?_ ?_
            rotate_left
            · rintro w' ⟨s0, s1, s2, s3, s4, s5⟩
              refine (exec_load (ty := 26) (g := ⟨w9.heap.size, 0, none⟩) rfl rfl s0).trans ?_; with_reducible rfl
            rotate_left
            · simp only [Act.put, List.setIfInBounds_toArray, List.set_cons_zero, List.set_cons_succ, i64_w, i32_w]
              rfl
            refine take_ (i := 5) (N := some 91) (v := ?_) (a' := ?_) #[true, true, true, true, true, true, false, false, false, false, false, false, false, false, false, false, false, false, false, false, false, false, false, false] rfl rfl (by kernel_rfl) (fun _ _ _ h => h) (Or.inl ⟨by rfl, ?_⟩) hHeld ?_ ?_
            rotate_left
            · rintro w' ⟨s0, s1, s2, s3, s4, s5⟩
              refine (exec_load (ty := 26) (g := ⟨w20.heap.size, 0, none⟩) rfl rfl s1).trans ?_; with_reducible rfl
            rotate_left
            · simp only [Act.put, List.setIfInBounds_toArray, List.set_cons_zero, List.set_cons_succ, i64_w, i32_w]
              rfl
            refine one_ (i := 6) (N := some 92) #[true, true, true, true, true, true, true, false, false, false, false, false, false, false, false, false, false, false, false, false, false, false, false, false] rfl rfl (by kernel_rfl) (by decide) (fun K hK => ?_)
            refine goes_ Tryd.func15 (by kernel_rfl) rfl #[.agg (BX r1 r2 r3 A9 r4.length c9), .agg (BX r1 r2 r3 A20 r4.length c20)] (by rfl) rfl rfl (by simp only [List.map_toArray, List.map_cons, List.map_nil]; rfl) ?_
            with_reducible refine (same_at r1 r2 r3 A9 r4.length c9 r4 r1 r2 r3 A20 r4.length c20 r4 _ HR920.out rfl HC9.out HD.out HR20.out rfl HC20.out HD.out (by have := HDL.out; omega) (by have := HDL.out; omega) true (by simp)).mono ?_
            rintro e w21 ⟨rfl, hb⟩
            refine ⟨_, rfl, ?_⟩
            have HB21 := Lib.hid (HB20.out.trans (hb.mono HB20.out.size))
            have HTW21 := Lib.hid (HTW20.out.below hb)
            have HBX21 := Lib.hid (blk_below HBX20.out hb)
            have HBY21 := Lib.hid (blk_below HBY20.out hb)
            have HBZ21 := Lib.hid (blk_below HBZ20.out hb)
            clear hb
            refine hK.out _ _ ⟨load_box HBY21.out, load_box HBZ21.out, HTW21.out.at q hq, (blk_cell HBX21.out 0).trans rfl, (blk_cell HBX21.out 1).trans rfl, (blk_cell HBX21.out 2).trans rfl⟩ (fun hHeld => ?_)
            clear hK K
            refine norm_ (a' := ?_) ?_ ?_
            rotate_left
            · show Act.put _ (some 92) _ = _
              simp only [Act.put, List.setIfInBounds_toArray, List.set_cons_zero, List.set_cons_succ, i64_w, i32_w]
              rfl
            refine pure_ (i := 7) (N := some 93) (v := ?_) (a' := ?_) #[true, true, true, true, true, true, true, true, false, false, false, false, false, false, false, false, false, false, false, false, false, false, false, false] rfl rfl (by kernel_rfl) (fun _ _ _ h => h) (Or.inl ⟨by rfl, ?_⟩) ?_ ?_
            rotate_left
            · intro w'
              go_simp
              (first | (with_reducible rfl) | ((try simp only [*]); (with_reducible rfl)))
            rotate_left
            · simp only [Act.put, List.setIfInBounds_toArray, List.set_cons_zero, List.set_cons_succ, i64_w, i32_w]
              rfl
            refine pure_ (i := 8) (N := some 94) (v := ?_) (a' := ?_) #[true, true, true, true, true, true, true, true, true, false, false, false, false, false, false, false, false, false, false, false, false, false, false, false] rfl rfl (by kernel_rfl) (fun _ _ _ h => h) (Or.inl ⟨by rfl, ?_⟩) ?_ ?_
            rotate_left
            · intro w'
              go_simp
              (first | (with_reducible rfl) | ((try simp only [*]); (with_reducible rfl)))
            rotate_left
            · simp only [Act.put, List.setIfInBounds_toArray, List.set_cons_zero, List.set_cons_succ, i64_w, i32_w]
              rfl
            refine pure_ (i := 9) (N := some 95) (v := ?_) (a' := ?_) #[true, true, true, true, true, true, true, true, true, true, false, false, false, false, false, false, false, false, false, false, false, false, false, false] rfl rfl (by kernel_rfl) (fun _ _ _ h => h) (Or.inl ⟨by rfl, ?_⟩) ?_ ?_
            rotate_left
            · intro w'
              go_simp
              (first | (with_reducible rfl) | ((try simp only [*]); (with_reducible rfl)))
            rotate_left
            · simp only [Act.put, List.setIfInBounds_toArray, List.set_cons_zero, List.set_cons_succ, i64_w, i32_w]
              rfl
            refine pure_ (i := 10) (N := some 96) (v := ?_) (a' := ?_) #[true, true, true, true, true, true, true, true, true, true, true, false, false, false, false, false, false, false, false, false, false, false, false, false] rfl rfl (by kernel_rfl) (fun _ _ _ h => h) (Or.inl ⟨by rfl, ?_⟩) ?_ ?_
            rotate_left
            · intro w'
              go_simp
              (first | (with_reducible rfl) | ((try simp only [*]); (with_reducible rfl)))
            rotate_left
            · simp only [Act.put, List.setIfInBounds_toArray, List.set_cons_zero, List.set_cons_succ, i64_w, i32_w]
              rfl
            refine pure_ (i := 11) (N := some 97) (v := ?_) (a' := ?_) #[true, true, true, true, true, true, true, true, true, true, true, true, false, false, false, false, false, false, false, false, false, false, false, false] rfl rfl (by kernel_rfl) (fun _ _ _ h => h) (Or.inl ⟨by rfl, ?_⟩) ?_ ?_
            rotate_left
            · intro w'
              go_simp
              (first | (with_reducible rfl) | ((try simp only [*]); (with_reducible rfl)))
            rotate_left
            · simp only [Act.put, List.setIfInBounds_toArray, List.set_cons_zero, List.set_cons_succ, i64_w, i32_w]
              rfl
            refine pure_ (i := 12) (N := some 98) (v := ?_) (a' := ?_) #[true, true, true, true, true, true, true, true, true, true, true, true, true, false, false, false, false, false, false, false, false, false, false, false] rfl rfl (by kernel_rfl) (fun _ _ _ h => h) (Or.inl ⟨by rfl, ?_⟩) ?_ ?_
            rotate_left
            · intro w'
              go_simp
              (first | (with_reducible rfl) | ((try simp only [*]); (with_reducible rfl)))
            rotate_left
            · simp only [Act.put, List.setIfInBounds_toArray, List.set_cons_zero, List.set_cons_succ, i64_w, i32_w]
              rfl
            refine pure_ (i := 13) (N := some 99) (v := ?_) (a' := ?_) #[true, true, true, true, true, true, true, true, true, true, true, true, true, true, false, false, false, false, false, false, false, false, false, false] rfl rfl (by kernel_rfl) (fun _ _ _ h => h) (Or.inl ⟨by rfl, ?_⟩) ?_ ?_
            rotate_left
            · intro w'
              go_simp
              (first | (with_reducible rfl) | ((try simp only [*]); (with_reducible rfl)))
            rotate_left
            · simp only [Act.put, List.setIfInBounds_toArray, List.set_cons_zero, List.set_cons_succ, i64_w, i32_w]
              rfl
            refine pure_ (i := 15) (N := some 101) (v := ?_) (a' := ?_) #[true, true, true, true, true, true, true, true, true, true, true, true, true, true, false, true, false, false, false, false, false, false, false, false] rfl rfl (by kernel_rfl) (fun _ _ _ h => h) (Or.inl ⟨by rfl, ?_⟩) ?_ ?_
            rotate_left
            · intro w'
              go_simp
              (first | (with_reducible rfl) | ((try simp only [*]); (with_reducible rfl)))
            rotate_left
            · simp only [Act.put, List.setIfInBounds_toArray, List.set_cons_zero, List.set_cons_succ, i64_w, i32_w]
              rfl
            refine pure_ (i := 17) (N := some 103) (v := ?_) (a' := ?_) #[true, true, true, true, true, true, true, true, true, true, true, true, true, true, false, true, false, true, false, false, false, false, false, false] rfl rfl (by kernel_rfl) (fun _ _ _ h => h) (Or.inl ⟨by rfl, ?_⟩) ?_ ?_
            rotate_left
            · intro w'
              go_simp
              (first | (with_reducible rfl) | ((try simp only [*]); (with_reducible rfl)))
            rotate_left
            · simp only [Act.put, List.setIfInBounds_toArray, List.set_cons_zero, List.set_cons_succ, i64_w, i32_w]
              rfl
            refine pure_ (i := 19) (N := some 105) (v := ?_) (a' := ?_) #[true, true, true, true, true, true, true, true, true, true, true, true, true, true, false, true, false, true, false, true, false, false, false, false] rfl rfl (by kernel_rfl) (fun _ _ _ h => h) (Or.inl ⟨by rfl, ?_⟩) ?_ ?_
            rotate_left
            · intro w'
              go_simp
              (first | (with_reducible rfl) | ((try simp only [*]); (with_reducible rfl)))
            rotate_left
            · simp only [Act.put, List.setIfInBounds_toArray, List.set_cons_zero, List.set_cons_succ, i64_w, i32_w]
              rfl
            refine take_ (i := 14) (N := some 100) (v := ?_) (a' := ?_) #[true, true, true, true, true, true, true, true, true, true, true, true, true, true, true, true, false, true, false, true, false, false, false, false] rfl rfl (by kernel_rfl) (fun _ _ _ h => h) (Or.inl ⟨by rfl, ?_⟩) hHeld ?_ ?_
            rotate_left
            · rintro w' ⟨s0, s1, s2, s3, s4, s5⟩
              go_simp
              (first | (with_reducible rfl) | ((try simp only [*]); (with_reducible rfl)))
            rotate_left
            · simp only [Act.put, List.setIfInBounds_toArray, List.set_cons_zero, List.set_cons_succ, i64_w, i32_w]
              rfl
            refine take_ (i := 16) (N := some 102) (v := ?_) (a' := ?_) #[true, true, true, true, true, true, true, true, true, true, true, true, true, true, true, true, true, true, false, true, false, false, false, false] rfl rfl (by kernel_rfl) (fun _ _ _ h => h) (Or.inl ⟨by rfl, ?_⟩) hHeld ?_ ?_
            rotate_left
            · rintro w' ⟨s0, s1, s2, s3, s4, s5⟩
              go_simp
              (first | (with_reducible rfl) | ((try simp only [*]); (with_reducible rfl)))
            rotate_left
            · simp only [Act.put, List.setIfInBounds_toArray, List.set_cons_zero, List.set_cons_succ, i64_w, i32_w]
              rfl
            refine take_ (i := 18) (N := some 104) (v := ?_) (a' := ?_) #[true, true, true, true, true, true, true, true, true, true, true, true, true, true, true, true, true, true, true, true, false, false, false, false] rfl rfl (by kernel_rfl) (fun _ _ _ h => h) (Or.inl ⟨by rfl, ?_⟩) hHeld ?_ ?_
            rotate_left
            · rintro w' ⟨s0, s1, s2, s3, s4, s5⟩
              go_simp
              (first | (with_reducible rfl) | ((try simp only [*]); (with_reducible rfl)))
            rotate_left
            · simp only [Act.put, List.setIfInBounds_toArray, List.set_cons_zero, List.set_cons_succ, i64_w, i32_w]
              rfl
            refine take_ (i := 20) (N := some 106) (v := ?_) (a' := ?_) #[true, true, true, true, true, true, true, true, true, true, true, true, true, true, true, true, true, true, true, true, true, false, false, false] rfl rfl (by kernel_rfl) (fun _ _ _ h => h) (Or.inl ⟨by rfl, ?_⟩) hHeld ?_ ?_
            rotate_left
            · rintro w' ⟨s0, s1, s2, s3, s4, s5⟩
              go_simp
              (first | (with_reducible rfl) | ((try simp only [*]); (with_reducible rfl)))
            rotate_left
            · simp only [Act.put, List.setIfInBounds_toArray, List.set_cons_zero, List.set_cons_succ, i64_w, i32_w]
              rfl
            refine one_ (i := 21) (N := some 107) #[true, true, true, true, true, true, true, true, true, true, true, true, true, true, true, true, true, true, true, true, true, true, false, false] rfl rfl (by kernel_rfl) (by decide) (fun K hK => ?_)
            refine goes_ Tryd.func16 (by kernel_rfl) rfl #[.slice (A q) n (c q), .int .u64 k, .int .u32 s, .int .u8 d] (by rfl) rfl rfl (by simp only [List.map_toArray, List.map_cons, List.map_nil]; rfl) ?_
            with_reducible refine (ris_any (A q) n (c q) (X q) k s d _ HAQ.out (HTW21.out.bytes q hq).1 HLQ.out.symm HCQ.out HXM.out I HI.out).mono ?_
            rintro e w22 ⟨rfl, hb⟩
            refine ⟨_, rfl, ?_⟩
            have HB22 := Lib.hid (HB21.out.trans (hb.mono HB21.out.size))
            have HTW22 := Lib.hid (HTW21.out.below hb)
            have HBX22 := Lib.hid (blk_below HBX21.out hb)
            have HBY22 := Lib.hid (blk_below HBY21.out hb)
            have HBZ22 := Lib.hid (blk_below HBZ21.out hb)
            clear hb
            refine hK.out _ _ ⟨load_box HBY22.out, load_box HBZ22.out, HTW22.out.at q hq, (blk_cell HBX22.out 0).trans rfl, (blk_cell HBX22.out 1).trans rfl, (blk_cell HBX22.out 2).trans rfl⟩ (fun hHeld => ?_)
            clear hK K
            refine norm_ (a' := ?_) ?_ ?_
            rotate_left
            · show Act.put _ (some 107) _ = _
              simp only [Act.put, List.setIfInBounds_toArray, List.set_cons_zero, List.set_cons_succ, i64_w, i32_w]
              rfl
            refine pure_ (i := 22) (N := some 108) (v := ?_) (a' := ?_) #[true, true, true, true, true, true, true, true, true, true, true, true, true, true, true, true, true, true, true, true, true, true, true, false] rfl rfl (by kernel_rfl) (fun _ _ _ h => h) (Or.inl ⟨by rfl, ?_⟩) ?_ ?_
            rotate_left
            · intro w'
              go_simp
              (first | (with_reducible rfl) | ((try simp only [*]); (with_reducible rfl)))
            rotate_left
            · simp only [Act.put, List.setIfInBounds_toArray, List.set_cons_zero, List.set_cons_succ, i64_w, i32_w]
              rfl
            refine pure_ (i := 23) (N := some 109) (v := ?_) (a' := ?_) #[true, true, true, true, true, true, true, true, true, true, true, true, true, true, true, true, true, true, true, true, true, true, true, true] rfl rfl (by kernel_rfl) (fun _ _ _ h => h) (Or.inl ⟨by rfl, ?_⟩) ?_ ?_
            rotate_left
            · intro w'
              go_simp
              (first | (with_reducible rfl) | ((try simp only [*]); (with_reducible rfl)))
            rotate_left
            · simp only [Act.put, List.setIfInBounds_toArray, List.set_cons_zero, List.set_cons_succ, i64_w, i32_w]
              rfl
            refine done_ (by kernel_rfl) ?_
            go_wp2
            go_roundw
            case rel => exact ⟨q + 1, hq, by go_num, HTW22.out, ⟨HBX22.out⟩, HBW.out.trans (HB22.out.mono HBW.out.size)⟩
            case measure => simp [intOf]; omega
      · go_wp2_with (go_at_call 8; go_loud ((with_reducible refine (Wakes6.wakes_at _).mono ?_); rintro e w8 ⟨rfl, hb⟩; have HB8 := Lib.hid (HBW.out.trans (hb.mono HBW.out.size)); clear hb))
        go_ret
        exact ⟨rfl, HB8.out⟩
set_option maxRecDepth 100000 in
set_option maxHeartbeats 4000000 in
theorem long (A0 : Option Addr) (n c0 : Nat) (k s d : Int) (A1 : Option Addr) (n1 c1 : Nat) (W : World) (h : 4096 < n) :
    Calls Tryd.prog 4 #[.slice A0 n c0, .agg (BX k s d A1 n1 c1)] W fun e w' => e = .returned (.bool true) ∧ Below W.heap.size W w' := by
  have hg : (n : Int) > 4096 := by omega
  clear h
  go_enter Tryd.func4, Tryd.ntmps4
  go_wp2_with (go_at_call 8; go_loud ((with_reducible refine (Wakes6.wakes_at _).mono ?_); rintro e w1 ⟨rfl, hb⟩; have HB := Lib.hid (((Below.refl W.heap.size W).alloc (Nat.le_refl _) (.cells (BX k s d A1 n1 c1) TP)).trans (hb.mono (by simp))); clear hb))
  go_ret
  exact ⟨rfl, HB.out⟩
theorem walk (A0 : Option Addr) (c0 : Nat) (l0 : List Int) (k s d : Int) (A1 : Option Addr) (n1 c1 : Nat) (W : World) (hr : RC W A0 l0) (hc : l0.length ≤ c0) (hA : AreB l0) :
    Calls Tryd.prog 4 #[.slice A0 l0.length c0, .agg #[.int .u64 k, .int .u32 s, .int .u8 d, .slice A1 n1 c1]] W fun e w' => e = .returned (.bool true) ∧ Below W.heap.size W w' := by
  by_cases h : 4096 < l0.length
  · exact long A0 _ c0 k s d A1 n1 c1 W h
  · exact short A0 c0 l0 k s d A1 n1 c1 W hr hc hA (by omega)
end Go.Proofs.YthmcigdkopadjaaDoor.WalkBlockParses
end

/- What came in, laid open, with how much it is: whole numbers, bools, texts, rows, arrays, in whatever nesting. -/
section
namespace Go.Proofs.YthmcigdkopadjaaDoor.Opn
open Go Go.RowKit Go.Proofs.YthmcigdkopadjaaDoorW.PrintWords Go.Proofs.YthmcigdkopadjaaDoorW.PrintLast Go.Proofs.YthmcigdkopadjaaDoorW.PrintMore
set_option linter.unusedVariables false

/-- Each reading at the type t that is no more than there may be gives a value of which K and W hold. -/
def Opn (P : Program) {α : Type} (K : World → α → List Value → Prop) (t : TypeId) (W : α → Prop) : Prop :=
  ∀ (H : Type) (enc : TypeId × Value → H) (w : World) (sp : Nat → Bool) (held : Bool) (fuel : Nat) (cs : List Value) (x : DataW H × List MemPlace),
    DataW.trod enc P w 0 sp held fuel t cs = some x → (x.1.weights P t).all (· ≤ reachBytes) = true → ∃ a, K w a cs ∧ W a

theorem Opn.weak {P : Program} {α : Type} {K : World → α → List Value → Prop} {t : TypeId} {W W' : α → Prop} (h : Opn P K t W) (hw : ∀ a, W a → W' a) : Opn P K t W' := fun H enc w sp held fuel cs x h1 h2 => by
  obtain ⟨a, ha, hb⟩ := h H enc w sp held fuel cs x h1 h2
  exact ⟨a, ha, hw a hb⟩
theorem of_int {P : Program} {t : TypeId} {k : IntKind} (ht : P.underlying t = some (.int k)) : Opn P (Kd.int k).K t (fun n => (Lit.int k n).wf = true) := by
  intro H enc w sp held fuel cs x h _
  obtain ⟨n, rfl, _, hw⟩ := DataW.trod_int ht h
  exact ⟨n, rfl, hw⟩
theorem of_bool {P : Program} {t : TypeId} (ht : P.underlying t = some .bool) : Opn P Kd.bool.K t (fun _ => True) := by
  intro H enc w sp held fuel cs x h _
  cases fuel with
  | zero => simp [DataW.trod] at h
  | succ n =>
    unfold DataW.trod at h
    rw [ht] at h
    split at h <;> first | (exact ⟨_, rfl, trivial⟩) | simp_all
theorem of_string {P : Program} {t : TypeId} (ht : P.underlying t = some .string) : Opn P Kd.string.K t (fun s => s.size ≤ 140737488351232) := by
  intro H enc w sp held fuel cs x h hw
  obtain ⟨s, rfl, rfl, _⟩ := DataW.trod_string ht h
  refine ⟨s, rfl, ?_⟩
  simp only [DataW.weights, List.all_cons, List.all_nil, Bool.and_true, decide_eq_true_eq] at hw
  simpa [reachBytes] using hw

theorem cells_at {w : World} {a : Addr} {n : Nat} {cs : List Value} (h : w.cells? 0 a n = some cs) : cs.length = n ∧ ∀ i u, cs[i]? = some u → w.cell? (a.add i) = some u := by
  obtain ⟨_, hl, hc⟩ := World.cells?_some h
  refine ⟨hl, fun i u hu => ?_⟩
  have hi : i < n := by rw [← hl]; exact (List.getElem?_eq_some_iff.1 hu).1
  rw [hc i hi, hu]
/-- One value for each place. -/
theorem choose_row {α : Type} {p : Nat → α → Prop} (n : Nat) (h : ∀ i, i < n → ∃ x, p i x) : ∃ xs : List α, xs.length = n ∧ ∀ i x, xs[i]? = some x → p i x := by
  induction n with
  | zero => exact ⟨[], rfl, fun i x hx => by simp at hx⟩
  | succ n ih =>
    obtain ⟨xs, hl, hp⟩ := ih (fun i hi => h i (by omega))
    obtain ⟨x, hx⟩ := h n (by omega)
    refine ⟨xs ++ [x], by simp [hl], fun i y hy => ?_⟩
    by_cases hi : i < xs.length
    · rw [List.getElem?_append_left hi] at hy
      exact hp i y hy
    · rw [List.getElem?_append_right (by omega)] at hy
      have : i = n := by
        have := (List.getElem?_eq_some_iff.1 hy).1
        simp at this; omega
      subst this
      rw [hl, Nat.sub_self] at hy
      simp at hy
      rw [← hy]; exact hx
theorem weights_all {H : Type} {P : Program} {e : TypeId} : ∀ {ds : List (DataW H)} {d : DataW H}, d ∈ ds → ∀ n ∈ d.weights P e, n ∈ DataW.weightsAll P e ds
  | d0 :: ds, d, hd, n, hn => by
    simp only [DataW.weightsAll, List.mem_append]
    rcases List.mem_cons.1 hd with rfl | hd
    · exact .inl hn
    · exact .inr (weights_all hd n hn)

theorem of_slice {P : Program} {α : Type} {d : Kd α} {t e : TypeId} {W : α → Prop} (ht : P.underlying t = some (.slice e)) (hc : P.cellsOf e = d.sz) {B : Nat} (hB : P.bytesOf e = B) (he : Opn P d.K e W) :
    Opn P (Kd.slice e d).K t (fun l => l.length * B ≤ 140737488351232 ∧ l.length ≤ maxLen ∧ ∀ x ∈ l, W x) := by
  intro H enc w sp held fuel cs x h hw
  rcases DataW.trod_slice ht h with ⟨rfl, _⟩ | ⟨a, len, cap, elems, rest, n, _, rfl, hx, _, hlc, hcm, hlen, hel, _⟩
  · exact ⟨[], ⟨none, 0, rfl, Nat.le_refl _, rfl, Nat.zero_le _, fun h => absurd h (by simp)⟩, by simp, by simp [maxLen], fun x hx => by simp at hx⟩
  · subst hx
    have hall := List.all_eq_true.1 hw
    simp only [DataW.weights, ht] at hall
    have h0 : (elems.length + rest.length) * B ≤ 140737488351232 := by
      have := hall ((elems.length + rest.length) * P.bytesOf e) (by simp)
      rw [hB] at this
      have h2 := of_decide_eq_true this
      simpa [reachBytes] using h2
    have hx : ∀ i, i < len → ∃ y, (∃ c, c.length = d.sz ∧ d.K w y c ∧ ∀ j u, c[j]? = some u → w.cell? (a.add (i * d.sz + j)) = some u) ∧ W y := by
      intro i hi
      have hE := hel i hi
      rw [List.getElem?_eq_getElem (by omega)] at hE
      obtain ⟨c, hcc, hy⟩ := Option.bind_eq_some_iff.mp hE
      have hwt : ((elems[i]'(by omega)).1.weights P e).all (· ≤ reachBytes) = true := List.all_eq_true.2 fun n hn => hall n (by
        refine List.mem_cons_of_mem _ (List.mem_append_left _ (weights_all (d := (elems[i]'(by omega)).1) ?_ n hn))
        exact List.mem_map_of_mem (List.getElem_mem _))
      obtain ⟨y, hy, hw⟩ := he H enc w sp held n c _ hy hwt
      obtain ⟨hl, hcell⟩ := cells_at hcc
      refine ⟨y, ⟨c, by rw [hl, hc], hy, fun j u hu => ?_⟩, hw⟩
      have := hcell j u hu
      rw [Addr.add_add, hc] at this
      exact this
    obtain ⟨xs, hl, hp⟩ := choose_row len hx
    have hmx : maxLen ≤ 9223372036854775807 := by decide
    refine ⟨xs, ⟨some a, cap, by rw [hl], by omega, rfl, by omega, fun _ => ⟨a, rfl, fun j p hj => (hp j p hj).1⟩⟩, ?_, by omega, fun x hx => ?_⟩
    · have : len * B ≤ (elems.length + rest.length) * B := Nat.mul_le_mul_right _ (by omega)
      rw [hl]; omega
    · obtain ⟨i, hi, rfl⟩ := List.mem_iff_getElem.mp hx
      exact (hp i _ (List.getElem?_eq_getElem hi)).2

/-- An array's cells are one behind the other. -/
theorem of_ints_array {P : Program} {n : Nat} {t e : TypeId} {k : IntKind} (ht : P.underlying t = some (.array n e)) (he : P.underlying e = some (.int k)) (hc : P.cellsOf e = 1) (hn : P.cellsOf t = n) :
    Opn P (fun _ (l : List Int) cs => l.length = n ∧ cs = l.map (Value.int k)) t (fun l => ∀ m ∈ l, (Lit.int k m).wf = true) := by
  intro H enc w sp held fuel cs x h _
  obtain ⟨xs, m, _, _, hl, hxl, hel⟩ := DataW.trod_array ht h
  have hx : ∀ i, i < n → ∃ y, cs[i]? = some (.int k y) ∧ (Lit.int k y).wf = true := by
    intro i hi
    have hE := hel i hi
    rw [List.getElem?_eq_getElem (by omega), hc, Nat.mul_one] at hE
    obtain ⟨y, hy, _, hw⟩ := DataW.trod_int he hE
    refine ⟨y, ?_, hw⟩
    have hlt : i < cs.length := by omega
    have h0 := congrArg (fun z => z[0]?) hy
    simp only [List.getElem?_take, List.getElem?_drop, Nat.add_zero, List.getElem?_cons_zero] at h0
    simpa using h0
  obtain ⟨l, hll, hp⟩ := choose_row n hx
  refine ⟨l, ⟨hll, ?_⟩, fun m hm => ?_⟩
  · apply List.ext_getElem?
    intro i
    rw [List.getElem?_map]
    cases hi : l[i]? with
    | none =>
      have : l.length ≤ i := List.getElem?_eq_none_iff.mp hi
      rw [List.getElem?_eq_none (by omega)]; rfl
    | some y => rw [(hp i y hi).1]; rfl
  · obtain ⟨i, hi, rfl⟩ := List.mem_iff_getElem.mp hm
    exact (hp i _ (List.getElem?_eq_getElem hi)).2

/-- A state's fields, each read where it lies. -/
theorem fields {P : Program} {H : Type} {enc : TypeId × Value → H} {w : World} {sp : Nat → Bool} {held : Bool} {fuel : Nat} {t : TypeId} {fs : Array Field} {cs : List Value} {x : DataW H × List MemPlace} (ht : P.underlying t = some (.struct fs))
    (h : DataW.trod enc P w 0 sp held fuel t cs = some x) (hw : (x.1.weights P t).all (· ≤ reachBytes) = true) :
    cs.length = P.cellsOf t ∧ ∀ (i : Nat) (f : Field) {α : Type} (K : World → α → List Value → Prop) (W : α → Prop), fs[i]? = some f → Opn P K f.type W → ∃ a, K w a ((cs.drop f.offset).take (P.cellsOf f.type)) ∧ W a := by
  obtain ⟨xs, n, _, rfl, hl, hxl, hf⟩ := DataW.trod_struct ht h
  refine ⟨hl, fun i f α K W hi ho => ?_⟩
  have hif : i < fs.size := (Array.getElem?_eq_some_iff.1 hi).1
  have hq := hf i f hi
  rw [List.getElem?_eq_getElem (by omega)] at hq
  refine ho H enc w sp held n _ _ hq ?_
  have hall := List.all_eq_true.1 hw
  simp only [DataW.weights, ht] at hall
  refine List.all_eq_true.2 fun m hm => hall m ?_
  refine DataW.weights_mem_each (j := i) (t := f.type) (d := (xs[i]'(by omega)).1) ?_ ?_ m hm
  · simp [hi]
  · simp [List.getElem?_eq_getElem (show i < xs.length by omega)]
theorem split_at (cs : List Value) (o s : Nat) : (cs.drop o).take s ++ cs.drop (o + s) = cs.drop o := by
  have := List.take_append_drop s (cs.drop o)
  rwa [List.drop_drop] at this
theorem split_end (cs : List Value) (o s : Nat) (h : cs.length = o + s) : (cs.drop o).take s = cs.drop o := List.take_of_length_le (by rw [List.length_drop]; omega)
/-- A row's data, each no more than there may be. -/
theorem sized_at {H : Type} {P : Program} {ts : List TypeId} {ds : List (DataW H)} (h : (DataW.weightsEach P ts ds).all (· ≤ reachBytes) = true) (j : Nat) {t : TypeId} {d : DataW H} (ht : ts[j]? = some t) (hd : ds[j]? = some d) : (d.weights P t).all (· ≤ reachBytes) = true :=
  List.all_eq_true.2 fun n hn => List.all_eq_true.1 h n (DataW.weights_mem_each ht hd n hn)
end Go.Proofs.YthmcigdkopadjaaDoor.Opn
end
