/- The law's wake-up call: what the document says of nine bytes holds of the Go program's Seal, Open and Sum. -/
import Derived.Test.YtfiklobfdacbbaaCrcPure
import Derived.Test.YtfiklobfdacbbaaPOpenx
import Derived.Test.YtfiklobfdacbbaaPSealx
import Derived.Lib.SlBytesConst
namespace Go.Proofs.Ytfiklobfdacbbaa.CrcWakes
open Go.Proofs.Ytfiklobfdacbbaa Go.RowKit Go.Proofs.YtfiklobfdacbbaaW.PrintWords Go.Proofs.YtfiklobfdacbbaaW.PrintLast Go.Proofs.YtfiklobfdacbbaaW.PrintMore
set_option linter.unusedVariables false

def nine : List Int := [49, 50, 51, 52, 53, 54, 55, 56, 57]
def nineCells : Array Value := (nums .u8 nine).toArray

/-- A constant's bytes, with the mark behind them, are read. -/
theorem const_reads (W : World) (e : TypeId) (l : List Int) (fz : Nat × Nat) (hl : l.length ≤ 9223372036854775807) : Kd.C (Kd.int .u8) (W.alloc (.cells (nums .u8 l).toArray e fz)) (some ⟨W.heap.size, 0, none⟩) l.length l := by
  refine Kd.C_of_reads (d := (0 : Int)) (h1 := fun _ => rfl) ?_
  refine ⟨rfl, hl, fun h => ⟨_, rfl, fun j hj => ?_⟩⟩
  rw [add_plain]
  have hb : (W.alloc (.cells (nums .u8 l).toArray e fz)).heap[W.heap.size]? = some (.cells (nums .u8 l).toArray e fz) := blk_new _ _
  rw [cell_of_row _ _ _ _ _ _ hb]
  simp [nums, List.getElem?_eq_getElem hj, List.getD_eq_getElem?_getD]

def sealed : List Int := [49, 50, 51, 52, 53, 54, 55, 56, 57, 131, 146, 6, 227]

theorem seal9 (A : Option Addr) (c : Nat) (w : World) (hr : Kd.C (Kd.int .u8) w A 9 nine) (hc : 9 ≤ c) :
    Calls Try.prog 14 #[.slice A 9 c] w fun e w' => ∃ (Ao : Option Addr) (co : Nat), e = .returned (.slice Ao 13 co) ∧ Kd.C (Kd.int .u8) w' Ao 13 sealed ∧ 13 ≤ co ∧ Below w.heap.size w w' := by
  refine (PSeal.crc_Seal.calls A c nine sealed w hr hc (by decide +kernel)).mono ?_
  rintro e w' ⟨v, rfl, ho, hb⟩
  obtain ⟨Ao, co, rfl⟩ := Kd.R_slice ho
  have hro := Kd.R_reads' ho
  exact ⟨Ao, co, rfl, hro.2.2, hro.2.1, hb⟩

theorem open13 (A : Option Addr) (c : Nat) (w : World) (hr : Kd.C (Kd.int .u8) w A 13 sealed) (hc : 13 ≤ c) :
    Calls Try.prog 15 #[.slice A 13 c] w fun e w' => ∃ (Ao : Option Addr) (co : Nat), e = .returned (.tuple #[.slice Ao 9 co, .bool true]) ∧ Kd.C (Kd.int .u8) w' Ao 9 nine ∧ Below w.heap.size w w' := by
  refine (POpen.crc_Open.calls 100 A c sealed nine true w hr hc (by decide +kernel)).mono ?_
  rintro e w' ⟨v, rfl, ho, hb⟩
  obtain ⟨Ao, co, rfl⟩ := Kd.R_slice ho
  exact ⟨Ao, co, rfl, (Kd.R_reads' ho).2.2, hb⟩

theorem sum9 (A : Option Addr) (c : Nat) (w : World) (hr : Kd.C (Kd.int .u8) w A 9 nine) (hc : 9 ≤ c) :
    Calls Try.prog 10 #[.slice A 9 c] w fun e w' => e = .returned (.int .u32 3808858755) ∧ Below w.heap.size w w' :=
  POpen.crc_Sum.calls A c nine 3808858755 w hr hc (by decide +kernel)

def wakesF : Option Bool := some true

set_option maxRecDepth 100000 in
theorem wakes_calls (r : Bool) (w : World) (h : wakesF = some r) :
    Calls Try.prog 9 #[] w fun e w' => e = .returned (.bool r) ∧ Below w.heap.size w w' := by
  obtain rfl := Option.some.inj h
  have kc := fun (w : World) (C : Array Value) (n c : Nat) => Lib.run_convert_bytes_const (P := Try.prog) w 23 5 C n c Try.underlying23 Try.underlying5
  have hn1 : ∀ W : World, Kd.C (Kd.int .u8) (W.alloc (.cells #[.int .u8 49, .int .u8 50, .int .u8 51, .int .u8 52, .int .u8 53, .int .u8 54, .int .u8 55, .int .u8 56, .int .u8 57] 5 (9, 10))) (some ⟨W.heap.size, 0, none⟩) 9 nine := fun W => const_reads W 5 nine (9, 10) (by decide)
  have HN := Lib.hid hn1
  clear hn1
  go_enter Try.func9, Try.ntmps9
  go_wp2_with (go_at_call 14; (with_reducible refine (seal9 _ _ _ (HN.out _) (by decide)).mono ?_); rintro e w1 ⟨A1, co1, rfl, hc1, hl1, hb1⟩; have HC1 := Lib.hid hc1; have HB1 := Lib.hid (below_then ((Below.refl w.heap.size w).alloc (Nat.le_refl _) _) (by simp) hb1); clear hc1 hb1)
  go_wp2_with (go_at_call 15; (with_reducible refine (open13 _ _ _ HC1.out hl1).mono ?_); rintro e w2 ⟨A2, co2, rfl, hc2, hb2⟩; have HC2 := Lib.hid hc2; have HC1b := Lib.hid (Kd.C_below HC1.out hb2); have HB2 := Lib.hid (below_then HB1.out HB1.out.size hb2); clear hc2 hb2)
  go_wp2_with (go_at_call 10; go_loud ((with_reducible refine (sum9 _ _ _ (HN.out _) (by decide)).mono ?_); rintro e w3 ⟨rfl, hb3⟩; have HC3 := Lib.hid (Kd.C_below (Kd.C_alloc HC1b.out _) hb3); have HD3 := Lib.hid (Kd.C_below (Kd.C_alloc HC2.out _) hb3); have HB3 := Lib.hid (below_then (HB2.out.alloc HB2.out.size _) (by have := HB2.out.size; simp; omega) hb3); clear hb3; obtain ⟨ad, ea, hx⟩ := Kd.at_int HC3.out 9 (by decide) (by decide); cases ea; have hcv := Kd.C_string (P := Try.prog) Try.underlying23 Try.underlying5 Try.underlying9 (c := co2) HD3.out; rw [show strOfNums nine = ⟨#[49, 50, 51, 52, 53, 54, 55, 56, 57]⟩ from rfl] at hcv; (simp only [show (9 : Int).toNat = 9 from rfl, Go.Addr.add, Nat.reduceEqDiff, ↓reduceIte] at hx)))
  go_ret
  exact ⟨rfl, HB3.out⟩
end Go.Proofs.Ytfiklobfdacbbaa.CrcWakes
