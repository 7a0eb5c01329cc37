/- A head put: its bytes, or what may not be. -/
import Derived.Test.YtdmpbfhbjklajaaLay
namespace Go.Proofs.Ytdmpbfhbjklajaa.HeadPut
open Go.Proofs.Ytdmpbfhbjklajaa Go.RowKit Go.Proofs.YtdmpbfhbjklajaaW.PrintWords Go.Proofs.YtdmpbfhbjklajaaW.PrintLast Go.Proofs.YtdmpbfhbjklajaaW.PrintMore Go.Proofs.Ytdmpbfhbjklajaa.Byt Go.Proofs.Ytdmpbfhbjklajaa.OctPure Go.Proofs.Ytdmpbfhbjklajaa.Img Go.Proofs.Ytdmpbfhbjklajaa.Head Go.Proofs.Ytdmpbfhbjklajaa.Lay
set_option linter.unusedVariables false
set_option linter.unusedSimpArgs false

/-- A number of the kinds' bounds. -/
def Fit (m s t y : Int) : Prop := (0 ≤ y ∧ y ≤ 255) ∧ (-9223372036854775808 ≤ m ∧ m ≤ 9223372036854775807) ∧ (-9223372036854775808 ≤ s ∧ s ≤ 9223372036854775807) ∧ (-9223372036854775808 ≤ t ∧ t ≤ 9223372036854775807)
instance (m s t y : Int) : Decidable (Fit m s t y) := by unfold Fit; exact inferInstance
def putF (n p : ByteArray) (m s t y : Int) (k : ByteArray) : Option (List Int × Int) :=
  if Fit m s t y then (if mayS n p m s t y k = 0 then some (layS n p m s t y k, 0) else some ([], mayS n p m s t y k)) else none

/-- Bytes that lie in an array of one's own, told by their place alone. -/
theorem V_of_im {w w' : World} {g : Nat} {l : List Int} (hi : IM w' g l) (hg : w.heap.size ≤ g) (hl : l.length ≤ 1000) : Kd.V (Kd.int .u8) 5 w' w.heap.size (fun k_ => w.heap.size ≤ k_) (.slice (some ⟨g, 0, none⟩) l.length l.length) l := by
  refine ⟨some ⟨g, 0, none⟩, l.length, rfl, Nat.le_refl _, ?_⟩
  intro w2 h2
  have h3 : w2.heap[g]? = some (.cells (nums .u8 l).toArray TI (0, 0)) := (h2 g hg (blk_lt hi)).trans hi
  have h4 : RC w2 (some ⟨g, 0, none⟩) l := RC.row (g := g) (rest := #[]) (t := TI) (fr := (0, 0)) (by rw [Array.append_empty]; exact h3)
  exact h4.to_C (by omega)
theorem may_sizes {n p : ByteArray} {m s t y : Int} {k : ByteArray} (h : mayS n p m s t y k = 0) : n.size ≤ 100 ∧ k.size ≤ 100 ∧ p.size ≤ 155 := by
  unfold mayS at h
  split at h
  · split at h
    · cases h
    · omega
  · cases h

theorem may_at (n p : ByteArray) (m s t y : Int) (k : ByteArray) (R : Int) (W : World) (hR : R = mayS n p m s t y k) :
    Calls Try.prog 34 #[.agg #[.string n, .string p, .int .i64 m, .int .i64 s, .int .i64 t, .int .u8 y, .string k]] W fun e w' => e = .returned (.int .i64 R) ∧ Below W.heap.size W w' := may_gen n p m s t y k R W hR
theorem lay_at (n p : ByteArray) (m s t y : Int) (k : ByteArray) (R : List Int) (W : World) (hR : R = layS n p m s t y k) (hS : n.size ≤ 100 ∧ k.size ≤ 100 ∧ p.size ≤ 155) (hF : Fit m s t y) :
    Calls Try.prog 35 #[.agg #[.string n, .string p, .int .i64 m, .int .i64 s, .int .i64 t, .int .u8 y, .string k]] W fun e w' => e = .returned (.agg (nums .u8 R).toArray) ∧ Below W.heap.size W w' :=
  lay_gen n p m s t y k R W hR hS.1 hS.2.2 hS.2.1 hF.1 hF.2.1 hF.2.2.1 hF.2.2.2

set_option maxRecDepth 100000 in
set_option maxHeartbeats 16000000 in
theorem put_calls (n p : ByteArray) (m s t y : Int) (k : ByteArray) (r1 : List Int) (r2 : Int) (w : World) (h : putF n p m s t y k = some (r1, r2)) :
    Calls Try.prog 21 #[.agg #[.string n, .string p, .int .i64 m, .int .i64 s, .int .i64 t, .int .u8 y, .string k]] w fun e w' => ∃ v0_ : Value, e = .returned (.tuple #[v0_, .int .i64 r2]) ∧ Kd.V (Kd.int .u8) 5 w' w.heap.size (fun k_ => (w.heap.size ≤ k_)) v0_ r1 ∧ Below w.heap.size w w' := by
  unfold putF at h
  by_cases hF : Fit m s t y
  · rw [if_pos hF] at h
    obtain ⟨R, hR⟩ : ∃ R : List Int, R = layS n p m s t y k := ⟨_, rfl⟩
    obtain ⟨E, hE⟩ : ∃ E : Int, E = mayS n p m s t y k := ⟨_, rfl⟩
    have HE := Lib.hid hE
    have HR := Lib.hid hR
    have HF := Lib.hid hF
    rw [← hR, ← hE] at h
    have hz := zI
    by_cases h0 : E = 0
    · rw [if_pos h0] at h
      simp only [Option.some.injEq, Prod.mk.injEq] at h
      obtain ⟨rfl, rfl⟩ := h
      subst h0
      have HS := Lib.hid (may_sizes hE.symm)
      have hRl : R.length = 512 := by rw [hR]; exact (seal_ok (body_ok n p m s t y k hF.1)).1
      have HRL := Lib.hid hRl
      have HI := Lib.hid (show (Try.prog.info? TI).map (·.size) = some (nums .u8 R).toArray.size by rw [show (nums .u8 R).toArray.size = 512 by simp [nums, hRl]]; exact infoI)
      have HT := Lib.hid (show ZV.size = (nums .u8 R).toArray.size by rw [show (nums .u8 R).toArray.size = 512 by simp [nums, hRl]]; rfl)
      clear hE hR hF hRl
      go_enter Try.func21, Try.ntmps21
      go_wp2_with (first
        | (go_at_call 34; go_loud ((with_reducible refine (may_at n p m s t y k 0 _ HE.out).mono ?_); rintro e w1 ⟨rfl, hb1⟩; have HB1 := Lib.hid (below_then ((Below.refl w.heap.size w).alloc (Nat.le_refl _) _) (by simp) hb1); have HX1 := Lib.hid (blk_below (blk_new w (.cells #[.string n, .string p, .int .i64 m, .int .i64 s, .int .i64 t, .int .u8 y, .string k] TH)) hb1); clear hb1))
        | (go_at_call 35; go_loud ((with_reducible refine (lay_at n p m s t y k R _ HR.out HS.out HF.out).mono ?_); rintro e w2 ⟨rfl, hb2⟩; have HB2 := Lib.hid (HB1.out.trans (hb2.mono HB1.out.size)); clear hb2))
        | ((with_reducible refine gate_dst (N := 11) rfl ?_); refine wpList_load_row rfl TH (.tmp 1) rfl w.heap.size rfl TH _ (0, 0) _ HX1.out Try.underlying24 rfl (by kernel_rfl) ?_)
        | (refine wpList_store_row rfl TI (.tmp 5) (.tmp 12) rfl w2.heap.size (nums .u8 R).toArray rfl rfl TI ZV (blk_new w2 (.cells ZV TI)) HI.out HT.out (bytes_one R) ?_))
      go_ret2
      refine ⟨_, rfl, ?_, below_setRow (HB2.out.alloc HB2.out.size _) HB2.out.size _⟩
      have hi : IM ((w2.alloc (.cells ZV TI)).setRow w2.heap.size (nums .u8 R).toArray) w2.heap.size R := setRow_heap _ w2.heap.size ZV (nums .u8 R).toArray TI (0, 0) (blk_new w2 (.cells ZV TI))
      have := V_of_im hi HB2.out.size (by rw [HRL.out]; decide)
      rw [HRL.out] at this
      exact this
    · rw [if_neg h0] at h
      simp only [Option.some.injEq, Prod.mk.injEq] at h
      obtain ⟨rfl, rfl⟩ := h
      have hne : (E == 0) = false := by simpa using h0
      clear hE hR hF h0
      go_enter Try.func21, Try.ntmps21
      go_wp2_with (go_at_call 34; go_loud ((with_reducible refine (may_at n p m s t y k E _ HE.out).mono ?_); rintro e w1 ⟨rfl, hb1⟩; have HB1 := Lib.hid (below_then ((Below.refl w.heap.size w).alloc (Nat.le_refl _) _) (by simp) hb1); clear hb1))
      go_ret2
      exact ⟨_, rfl, Kd.V_nil _ _ _ _ _, HB1.out⟩
  · rw [if_neg hF] at h
    cases h
end Go.Proofs.Ytdmpbfhbjklajaa.HeadPut
