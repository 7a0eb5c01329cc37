/- The law's own helpers: 'lent' lays bytes in memory of its own with two marks behind them; 'kept' tells whether they and the marks are as they were. Contracts of both, with what lies behind the lent bytes. -/
import Derived.Test.YtheloepdhnfmaaaProg
import Derived.Test.YtheloepdhnfmaaaWMore
import Derived.WalkKit
import Derived.KernelRfl
import Derived.Lib.Hide
import Derived.Test.YtheloepdhnfmaaaPOctalExactsx
namespace Go.Proofs.Ytheloepdhnfmaaa.OctLent
open Go.Proofs.Ytheloepdhnfmaaa Go.RowKit Go.Proofs.YtheloepdhnfmaaaW.PrintWords Go.Proofs.YtheloepdhnfmaaaW.PrintLast Go.Proofs.YtheloepdhnfmaaaW.PrintMore Go.Proofs.Ytheloepdhnfmaaa.POctalExacts
set_option linter.unusedVariables false
set_option linter.unusedSimpArgs false

/-- The two marks. -/
def marks : List Int := [201, 202]

set_option maxHeartbeats 8000000 in
set_option maxRecDepth 100000 in
theorem lent_any (A0 : Option Addr) (c0 : Nat) (l0 : List Int) (w : World) (hr0 : Kd.C (Kd.int .u8) w A0 l0.length l0) (hc0 : l0.length ≤ c0) (hl : l0.length ≤ 140737488351232) :
    Calls Try.prog 16 #[.slice A0 l0.length c0] w fun e w' => ∃ (Ao : Option Addr) (co : Nat), e = .returned (.slice Ao l0.length co) ∧ Kd.R (Kd.int .u8) 5 w' w.heap.size (fun _ => True) (.slice Ao (l0 ++ marks).length co) (l0 ++ marks) ∧ Below w.heap.size w w' := by
  have HR0 := Aside0.mk hr0
  have HC0 := Aside0.mk hc0
  have HL := Aside0.mk hl
  clear hr0 hc0 hl
  have HB := Aside0.mk (Below.refl w.heap.size w)
  obtain ⟨y104, hy104⟩ : ∃ y_ : List Int, y_ = (([201, 202] : List Int)) := ⟨_, rfl⟩
  have Ny104 := Aside0.mk hy104
  have hl4 : y104.length = 2 := by rw [hy104]; rfl
  have HL4 := Aside0.mk hl4
  clear hy104 hl4
  obtain ⟨y107, hy107⟩ : ∃ y_ : List Int, y_ = (l0 ++ y104) := ⟨_, rfl⟩
  have hl7 : l0.length ≤ y107.length := by rw [hy107, List.length_append]; omega
  have Ny107 := Aside0.mk hy107
  have HL7 := Aside0.mk hl7
  have c5b1 : decide ((l0.length : Int) ≤ (y107.length : Int)) = true := decide_eq_true (by omega)
  have c4b1 : decide (0 ≤ (l0.length : Int)) = true := decide_eq_true (by omega)
  clear hy107 hl7
  go_enter Try.func16, Try.ntmps16
  go_wp2_with (first
    | ((with_reducible refine gate_builtin (b := .append) (xs := #[.tmp 4, .tmp 5]) rfl ?_); at_builtin; refine Kd.R_append_rows (Kd.int .u8) (w0 := w) w.heap.size rfl (.tmp 4) (.tmp 5) 22 5 (.int .u8 0) 1 rfl Try.underlying22 info5 rfl (by decide) (by omega) (.slice none 0 0) ([] : List Int) l0 _ _ _ (fun _ => True) (fun _ => False) rfl rfl ?aO ?aR (fun _ _ h => h) (fun _ h => h.elim) ?aF ?aB ?aS ?aL ?_; (case aR => repeat (first | exact HR0.out | (with_reducible refine Kd.C_alloc ?_ _) | (with_reducible refine Kd.C_drewN ?_ _) | (with_reducible refine Kd.C_drew ?_))); (case aB => exact (by repeat (first | (with_reducible first | exact HB.out | apply below_alloc | apply pw_below_drewN | apply below_drew1) | exact HB.out))); (case aF => exact (fun _ _ => trivial)); (case aO => exact ((Kd.R_nil _ _ _ _ (fun _ => True)))); (case aS => exact (below_size (by repeat (first | (with_reducible first | exact HB.out | apply below_alloc | apply pw_below_drewN | apply below_drew1) | exact HB.out)))); (case aL => have := HL.out; simp; omega); intro v102 w6 ho hb hg hat; rw [List.nil_append] at ho; have n0_ := Aside0.mk (hb); have n1_ := Aside0.mk (ho); clear HB; have HB := n0_; have HO103 := n1_; clear n0_ n1_; clear ho hb hg hat)
    | ((with_reducible refine gate_dst (N := 8) rfl ?_); refine Kd.R_lit (Kd.int .u8) _ 5 ?hg (N := 8) ?hd (xs := ([201, 202] : List Int)) (inner := [.int .u8 201, .int .u8 202]) (ok := fun _ => True) (okp := fun _ => True) ?hr ?hp (fun _ hk => hk) trivial (Below.refl _ _) (Nat.le_refl _) (by simp) ?_; (case hd => rfl); (case hg => rfl); (case hr => first | (go_simp; done) | (go_simp; rfl)); (case hp => exact (Reps.one (show Kd.M (Kd.int .u8) _ _ _ 201 [.int .u8 201] from rfl) (Reps.one (show Kd.M (Kd.int .u8) _ _ _ 202 [.int .u8 202] from rfl) (Reps.none _ _)))); intro v105 w7 ho8 hb hg_ hnew_; clear hg_ hnew_; (first | rw [← Ny104.out] at ho8 | (simp only [Int.reduceToNat] at ho8; rw [← Ny104.out] at ho8)); have n0_ := Aside0.mk (Kd.R_elder' (by (with_reducible repeat (first | apply Kd.R_alloc | apply Kd.R_drewN | apply Kd.R_drew)); exact HO103.out) (Kd.R_base ho8) hb); have n1_ := Aside0.mk (Kd.R_lower (Kd.R_new' ho8 (Kd.R_lt (by (with_reducible repeat (first | apply Kd.R_alloc | apply Kd.R_drewN | apply Kd.R_drew)); exact HO103.out))) (below_size (by repeat (first | (with_reducible first | exact HB.out | apply below_alloc | apply pw_below_drewN | apply below_drew1) | exact HB.out)))); have n2_ := Aside0.mk (below_step (by repeat (first | (with_reducible first | exact HB.out | apply below_alloc | apply pw_below_drewN | apply below_drew1) | exact HB.out)) hb); clear HO103; clear HB; have HO103 := n0_; have HO106 := n1_; have HB := n2_; clear n0_ n1_ n2_; clear hb ho8; obtain ⟨Ao10, co10, eo10⟩ := Kd.R_slice HO106.out; subst eo10)
    | ((with_reducible refine gate_builtin (b := .append) (xs := #[.tmp 7, .tmp 8]) rfl ?_); at_builtin; refine Kd.R_append_rows (Kd.int .u8) (w0 := w) w.heap.size rfl (.tmp 7) (.tmp 8) 22 5 (.int .u8 0) 1 rfl Try.underlying22 info5 rfl (by decide) (by omega) v102 l0 y104 _ _ _ (fun k_ => some k_ ≠ (.slice Ao10 y104.length co10 : Value).ownBlock) (fun _ => False) rfl rfl ?aO ?aR (fun _ _ h => h) (fun _ h => h.elim) ?aF ?aB ?aS ?aL ?_; (case aR => repeat (first | exact (Kd.R_reads' HO106.out).2.2 | (with_reducible refine Kd.C_alloc ?_ _) | (with_reducible refine Kd.C_drewN ?_ _) | (with_reducible refine Kd.C_drew ?_))); (case aB => exact (by repeat (first | (with_reducible first | exact HB.out | apply below_alloc | apply pw_below_drewN | apply below_drew1) | exact HB.out))); (case aF => exact (fun k_ hk => Kd.fresh' (Kd.R_lt (by (with_reducible repeat (first | apply Kd.R_alloc | apply Kd.R_drewN | apply Kd.R_drew)); exact HO106.out)) k_ hk)); (case aO => exact (by (with_reducible repeat (first | apply Kd.R_alloc | apply Kd.R_drewN | apply Kd.R_drew)); exact Kd.R_mono HO103.out (fun _ hk => hk.2))); (case aS => exact (below_size (by repeat (first | (with_reducible first | exact HB.out | apply below_alloc | apply pw_below_drewN | apply below_drew1) | exact HB.out)))); (case aL => have := HL.out; have := HL4.out; omega); intro v108 w9 ho hb hg hat; rw [← Ny107.out] at ho; have n1_ := Aside0.mk (hb); have n2_ := Aside0.mk (ho); clear HO106; clear HB; clear HO103; have HB := n1_; have HO109 := n2_; clear n1_ n2_; clear ho hb hg hat; obtain ⟨Ao11, co11, eo11⟩ := Kd.R_slice HO109.out; subst eo11; have q12 : ((l0.length : Int) : Int) ≤ ((y107.length : Int) : Int) := of_decide_eq_true (by first | (with_reducible assumption) | assumption); obtain ⟨i012, hi012, _, hsz12, _⟩ := info_parts info5; have hcut12 := cut_to (P := Try.prog) 22 5 .i64 Try.underlying22 hi012 Ao11 y107.length co11 (l0.length : Int) (of_decide_eq_true (by first | (with_reducible assumption) | assumption)) q12 (Kd.R_reads' HO109.out).2.1; rw [Int.toNat_natCast] at hcut12; clear hi012 hsz12; replace q12 := eq_true q12))
  go_ret
  have e7 : y107 = l0 ++ marks := by rw [Ny107.out, Ny104.out]; rfl
  rw [← e7]
  exact ⟨_, _, rfl, Kd.R_mono HO109.out (fun _ _ => trivial), HB.out⟩

set_option maxHeartbeats 8000000 in
set_option maxRecDepth 100000 in
theorem kept_any (Ao : Option Addr) (co : Nat) (l : List Int) (A1 : Option Addr) (c1 : Nat) (w : World) (base : Nat)
    (ho : Kd.R (Kd.int .u8) 5 w base (fun _ => True) (.slice Ao (l ++ marks).length co) (l ++ marks)) (hr1 : Kd.C (Kd.int .u8) w A1 l.length l) (hc1 : l.length ≤ c1) (hl : l.length ≤ 140737488351232)
    (k : Nat) (hs : tabularylaw07_same.f k l l = some true) :
    Calls Try.prog 19 #[.slice Ao l.length co, .slice A1 l.length c1] w fun e w' => e = .returned (.bool true) ∧ Below w.heap.size w w' := by
  have hlen : (l ++ marks).length = l.length + 2 := by simp [marks]
  have hro := Kd.R_reads' ho
  have hco : l.length + 2 ≤ co := by have := hro.2.1; omega
  have hC := hro.2.2
  have hCl := Kd.C_take (m := l.length) hC (by omega)
  rw [List.take_left] at hCl
  rw [hlen] at hC
  obtain ⟨ad, ea, hm1⟩ := Kd.at_int hC (l.length : Int) (by omega) (by omega)
  obtain ⟨ad', ea', hm2⟩ := Kd.at_int hC ((l.length + 1 : Nat) : Int) (by omega) (by omega)
  rw [ea] at ea'
  injection ea' with ea'
  subst ea'
  subst ea
  rw [Int.toNat_natCast] at hm1 hm2
  have e1 : rd (l ++ marks) (l.length : Int) = 201 := by unfold rd marks; simp
  have e2 : rd (l ++ marks) ((l.length + 1 : Nat) : Int) = 202 := by unfold rd marks; simp
  rw [e1] at hm1
  rw [e2] at hm2
  have hm3 : w.cell? ⟨ad.block, ad.off + (l.length + 1), none⟩ = some (.int .u8 202) := by
    rw [← hm2, Addr.add, if_neg (by omega)]
  clear hm2
  have HC := Lib.hid hCl
  have HR := Lib.hid hr1
  clear hro hC hCl hr1 ho hlen e1 e2
  go_enter Try.func19, Try.ntmps19
  go_wp2_with (go_at_call 13; (with_reducible refine (tabularylaw07_same.calls k _ _ l _ _ l true _ HC.out (by omega) HR.out hc1 hs).mono ?_); rintro e w' ⟨rfl, ⟨nd, rfl⟩⟩)
  go_ret
  exact ⟨rfl, pw_below_drewN (Below.refl _ _) _⟩
end Go.Proofs.Ytheloepdhnfmaaa.OctLent
