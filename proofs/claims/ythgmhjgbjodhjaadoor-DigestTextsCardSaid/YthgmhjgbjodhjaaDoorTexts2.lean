/- DigestTexts walked. -/
import Derived.Test.YthgmhjgbjodhjaaDoorTexts
import Derived.Lib.Bytes
namespace Go.Proofs.YthgmhjgbjodhjaaDoor.Texts2
open Go.Proofs.YthgmhjgbjodhjaaDoor Go.RowKit Go.Proofs.YthgmhjgbjodhjaaDoorW.PrintWords Go.Proofs.YthgmhjgbjodhjaaDoorW.PrintLast Go.Proofs.YthgmhjgbjodhjaaDoorW.PrintMore Go.Proofs.YthgmhjgbjodhjaaDoor.Sha Go.Proofs.YthgmhjgbjodhjaaDoor.Sha2 Go.Proofs.YthgmhjgbjodhjaaDoor.Sha3 Go.Proofs.YthgmhjgbjodhjaaDoor.Own Go.Proofs.YthgmhjgbjodhjaaDoor.Sha4 Go.Proofs.YthgmhjgbjodhjaaDoor.Sha5 Go.Proofs.YthgmhjgbjodhjaaDoor.Sha6 Go.Proofs.YthgmhjgbjodhjaaDoor.Sha7 Go.Proofs.YthgmhjgbjodhjaaDoor.ShaPure Go.Proofs.YthgmhjgbjodhjaaDoor.Sha8 Go.Proofs.YthgmhjgbjodhjaaDoor.Texts
set_option linter.unusedVariables false
set_option linter.unusedSimpArgs false
/-- What was there stands, and the two digests that came in lie boxed. -/
def FE (W : World) (d e : List Int) (w : World) : Prop := Below W.heap.size W w ∧ w.heap[W.heap.size]? = some (.cells (nums .u8 d).toArray T32 (0, 0)) ∧ w.heap[W.heap.size + 1]? = some (.cells (nums .u8 e).toArray T32 (0, 0))
theorem FE.below {W w w' : World} {d e : List Int} (h : FE W d e w) (hb : Below w.heap.size w w') : FE W d e w' := ⟨h.1.trans (hb.mono h.1.size), blk_below h.2.1 hb, blk_below h.2.2 hb⟩
theorem FE.bel {W w : World} {d e : List Int} (h : FE W d e w) : Below W.heap.size W w := h.1
theorem FE.load1 {W w : World} {d e : List Int} (h : FE W d e w) (hd : d.length = 32) : (loadVar T32 ⟨W.heap.size, 0, none⟩).run Tryd.prog w = .ok (.agg (nums .u8 d).toArray) w :=
  run_loadVar_row (P := Tryd.prog) w W.heap.size T32 T32 (nums .u8 d).toArray (0, 0) _ h.2.1 Tryd.underlying23 rfl (by rw [show (nums .u8 d).toArray.size = 32 by simp [nums, hd]]; exact info32)
theorem FE.load2 {W w : World} {d e : List Int} (h : FE W d e w) (hd : e.length = 32) : (loadVar T32 ⟨W.heap.size + 1, 0, none⟩).run Tryd.prog w = .ok (.agg (nums .u8 e).toArray) w :=
  run_loadVar_row (P := Tryd.prog) w (W.heap.size + 1) T32 T32 (nums .u8 e).toArray (0, 0) _ h.2.2 Tryd.underlying23 rfl (by rw [show (nums .u8 e).toArray.size = 32 by simp [nums, hd]]; exact info32)
theorem ba_inj {T U : ByteArray} (h : T.toList = U.toList) : T = U := by
  rw [Go.Lib.toList_data, Go.Lib.toList_data] at h
  exact ByteArray.ext (Array.toList_inj.1 h)
/-- A load of a whole array under a guard that holds. -/
theorem wpList_load_rowg {P : Program} {ops : Array Oper} {rest : List Oper} {o : Oper} {a : Act} {w : World} {Q : Exit → Act → World → Prop} {N : Tmp} (hN : o.dst = some N) (hw : Region.wanted o (yielded ops a.tmps) = true) (ty : TypeId) (x : Operand) (ho : o.op = .load ty x)
    (g : Nat) (hx : a.eval x = .pointer (some ⟨g, 0, none⟩)) (t : TypeId) (cs : Array Value) (fr : Nat × Nat) (d : TypeDesc) (hg : w.heap[g]? = some (.cells cs t fr))
    (hu : P.underlying ty = some d) (hd : (match d with | .struct _ | .array _ _ => true | _ => false) = true) (hi : (P.info? ty).map (·.size) = some cs.size)
    (h : wpList P ops Q rest (a.put o.dst (.agg cs)) w) : wpList P ops Q (o :: rest) a w := by
  simp only [wpList, hw, if_true]
  exact Or.inl (wp_load_row ty x ho g hx t cs fr d hg hu hd hi h)
set_option maxHeartbeats 8000000 in
set_option maxRecDepth 100000 in
theorem texts_walk (d e : List Int) (W : World) (hdl : d.length = 32) (hdb : Bytes d) (hel : e.length = 32) (heb : Bytes e) (hK : KB W) :
    Calls Tryd.prog 4 #[.agg (nums .u8 d).toArray, .agg (nums .u8 e).toArray] W fun x w' => x = .returned (.bool true) ∧ Below W.heap.size W w' := by
  obtain ⟨T, hT⟩ : ∃ T : ByteArray, T = strOfNums (texts d 32) := ⟨_, rfl⟩
  obtain ⟨U, hU⟩ : ∃ U : ByteArray, U = strOfNums (texts e 32) := ⟨_, rfl⟩
  have hTs : T.size = 64 := by rw [hT, strOfNums_size, texts_len]
  have hUs : U.size = 64 := by rw [hU, strOfNums_size, texts_len]
  have HX := Lib.hid (show ∀ k : Nat, k < 64 → ∃ x, Hex x ∧ ∀ w : World, (Instr.index 9 (.string T) (.int .i64 (k : Int))).run Tryd.prog w = .ok (.int .u8 x) w from fun k hk => run_text T (texts d 32) hT (texts_hex d hdb 32) k (by rw [texts_len]; exact hk))
  have HTU := Lib.hid (show T = U → d = e from fun h => digest_inj d e hdb heb hdl hel (strOf_inj _ _ (texts_hex d hdb 32) (texts_hex e heb 32) (by rw [← hT, ← hU, h])))
  have HT := Lib.hid hT
  have HU := Lib.hid hU
  have HK := Lib.hid hK
  have HDL := Lib.hid hdl
  have HDB := Lib.hid hdb
  have HEL := Lib.hid hel
  have HEB := Lib.hid heb
  have HI := Lib.hid (show (Tryd.prog.info? T32).map (·.size) = some (nums .u8 d).toArray.size by rw [show (nums .u8 d).toArray.size = 32 by simp [nums, hdl]]; exact info32)
  have HJ := Lib.hid (show (Tryd.prog.info? T32).map (·.size) = some (nums .u8 e).toArray.size by rw [show (nums .u8 e).toArray.size = 32 by simp [nums, hel]]; exact info32)
  have hq : ∀ w, (binOp .eql T32 (.agg (nums .u8 d).toArray) (.agg (nums .u8 e).toArray)).run Tryd.prog w = .ok (.bool (d == e)) w := fun w => run_eql32 w d e hdl hel
  obtain ⟨W1, hW1⟩ : ∃ W1, W1 = (W.alloc (.cells (nums .u8 d).toArray T32)).alloc (.cells (nums .u8 e).toArray T32) := ⟨_, rfl⟩
  have HF0 := Lib.hid (show FE W d e W1 by
    rw [hW1]
    exact ⟨((Below.refl _ _).alloc (Nat.le_refl _) _).alloc (by simp) _, blk_alloc (blk_new _ _) _, by simpa using blk_new (W.alloc (.cells (nums .u8 d).toArray T32)) (.cells (nums .u8 e).toArray T32)⟩)
  have HW1 := Lib.hid hW1
  clear hT hU hK hdl hdb hel heb hW1
  go_enter Tryd.func4, Tryd.ntmps4
  go_wp2_with (first
    | ((with_reducible refine gate_dst (N := 8) rfl ?_); rw [← HW1.out]; refine wpList_load_row rfl T32 (.tmp 2) rfl W.heap.size rfl T32 _ (0, 0) _ HF0.out.2.1 Tryd.underlying23 rfl HI.out ?_)
    | (go_at_call 12; (with_reducible refine (text_gen d T _ HDL.out HDB.out HT.out).mono ?_); rintro x w2 ⟨rfl, hb2⟩; have HF2 := Lib.hid (HF0.out.below hb2); clear hb2)
    | ((with_reducible refine gate_dst (N := 10) rfl ?_); refine wpList_load_row rfl T32 (.tmp 3) rfl (W.heap.size + 1) rfl T32 _ (0, 0) _ HF2.out.2.2 Tryd.underlying23 rfl HJ.out ?_)
    | (go_at_call 12; (with_reducible refine (text_gen e U _ HEL.out HEB.out HU.out).mono ?_); rintro x w4 ⟨rfl, hb4⟩; have HF4 := Lib.hid (HF2.out.below hb4); clear hb4))
  go_loop [7] (fun v7 => ∃ k : Nat, k ≤ 64 ∧ v7 = .int .i64 k) (fun v7 => 64 - (intOf v7).toNat)
  case atStart => exact ⟨0, by omega, rfl⟩
  case round =>
    obtain ⟨k, hk, rfl⟩ := hrel
    by_cases hlt : k < 64
    · obtain ⟨x, hx, hix⟩ := HX.out k hlt
      rcases hx with ⟨h0, h1⟩ | ⟨h0, h1⟩
      · go_wp2
        go_round
        case rel => exact ⟨k + 1, by omega, by go_num⟩
        case measure => simp [intOf]; omega
      · go_wp2
        go_round
        case rel => exact ⟨k + 1, by omega, by go_num⟩
        case measure => simp [intOf]; omega
    · obtain ⟨B, hB⟩ : ∃ B : Bool, B = (d == e) := ⟨_, rfl⟩
      have hTU : (T == U) = B := by
        have hbe : ∀ a b : ByteArray, (a == b) = (a.data == b.data) := fun a b => by cases a; cases b; rfl
        rw [hB, hbe]
        by_cases hde : d = e
        · rw [HT.out, HU.out, hde, beq_self_eq_true, beq_self_eq_true]
        · rw [beq_eq_false_iff_ne.2 hde, beq_eq_false_iff_ne.2 (fun h => hde (HTU.out (ByteArray.ext h)))]
      have hBB : (B == B) = true := beq_self_eq_true B
      have h64 : ((64 : Int) == 64) = true := rfl
      have hT64 : ((T.size : Int)) = 64 := by omega
      have hU64 : ((U.size : Int)) = 64 := by omega
      have HBB := Lib.hid hB
      have HQ := Lib.hid hq
      clear hB hq
      have hq2 : ∀ w, (binOp .eql T32 (.agg (nums .u8 d).toArray) (.agg (nums .u8 e).toArray)).run Tryd.prog w = .ok (.bool B) w := fun w => by rw [HQ.out, HBB.out]
      clear hTs hUs
      clear hBB
      cases B
      · have hdT : ¬ T = U := fun h => by
          have h2 := HBB.out
          rw [HTU.out h, beq_self_eq_true] at h2
          cases h2
        have hdD : decide (T = U) = false := decide_eq_false hdT
        have hdL : ¬ T.toList = U.toList := fun h => hdT (ba_inj h)
        clear hdT
        go_wp2_with (first
          | (refine wpList_load_rowg (N := 52) (by with_reducible rfl) (by rfl) T32 (.tmp 2) rfl W.heap.size rfl T32 _ (0, 0) _ HF4.out.2.1 Tryd.underlying23 rfl HI.out ?_)
          | (refine wpList_load_rowg (N := 53) (by with_reducible rfl) (by rfl) T32 (.tmp 3) rfl (W.heap.size + 1) rfl T32 _ (0, 0) _ HF4.out.2.2 Tryd.underlying23 rfl HJ.out ?_)
          | (go_at_call 9; (with_reducible refine (wakes_any _ (HK.out.below HF4.out.bel)).mono ?_); rintro x w7 ⟨rfl, hb7⟩; have HF7 := Lib.hid (HF4.out.below hb7); clear hb7))
        go_ret
        refine ⟨?_, HF7.out.1⟩
        show Ending.returned (.bool (!(T.toList == U.toList))) = _
        rw [beq_eq_false_iff_ne.2 hdL]
        rfl
      · have hdT : T = U := by rw [HT.out, HU.out, eq_of_beq HBB.out.symm]
        have hdD : decide (T = U) = true := decide_eq_true hdT
        go_wp2_with (first
          | (refine wpList_load_rowg (N := 52) (by with_reducible rfl) (by rfl) T32 (.tmp 2) rfl W.heap.size rfl T32 _ (0, 0) _ HF4.out.2.1 Tryd.underlying23 rfl HI.out ?_)
          | (refine wpList_load_rowg (N := 53) (by with_reducible rfl) (by rfl) T32 (.tmp 3) rfl (W.heap.size + 1) rfl T32 _ (0, 0) _ HF4.out.2.2 Tryd.underlying23 rfl HJ.out ?_)
          | (go_at_call 9; (with_reducible refine (wakes_any _ (HK.out.below HF4.out.bel)).mono ?_); rintro x w7 ⟨rfl, hb7⟩; have HF7 := Lib.hid (HF4.out.below hb7); clear hb7))
        go_ret
        exact ⟨rfl, HF7.out.1⟩
#print axioms texts_walk
end Go.Proofs.YthgmhjgbjodhjaaDoor.Texts2
