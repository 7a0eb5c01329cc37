/- The table of sums that the Go program makes, and what More answers off it, for every sum and every row of bytes. -/
import Derived.Test.YtfiklobfdacbbaaProg
import Derived.Test.YtfiklobfdacbbaaWMore
import Derived.WalkKit
import Derived.KernelRfl
import Derived.Lib.Hide
namespace Go.Proofs.Ytfiklobfdacbbaa.Crc
open Go.Proofs.Ytfiklobfdacbbaa Go.RowKit Go.Proofs.YtfiklobfdacbbaaW.PrintWords Go.Proofs.YtfiklobfdacbbaaW.PrintLast Go.Proofs.YtfiklobfdacbbaaW.PrintMore
set_option linter.unusedVariables false

/-- A register shifted by one bit. -/
def sh (x : Int) : Int := Go.bits .xor .u32 (x / 2) (2197175160 * Go.bits .and .u32 x 1 % 4294967296)
def shs : Nat → Int → Int
  | 0, x => x
  | n + 1, x => sh (shs n x)

def T0 : Array Value := (nums .u32 (List.replicate 256 0)).toArray
/-- The table behind k rounds. -/
def tab : Nat → List Int
  | 0 => List.replicate 256 0
  | k + 1 => (tab k).set k (shs 8 (k : Int))

theorem tab_len (k : Nat) : (tab k).length = 256 := by
  induction k with
  | zero => exact List.length_replicate
  | succ k ih => show ((tab k).set _ _).length = 256; simp [ih]

theorem nums_set' (k : IntKind) (l : List Int) (i : Nat) (v : Int) : (nums k l).toArray.setIfInBounds i (.int k v) = (nums k (l.set i v)).toArray := by
  simp [nums, List.map_set]

def TabPost (W : World) (e : Ending) (w' : World) : Prop :=
  e = .returned (.pointer (some ⟨W.heap.size, 0, none⟩)) ∧ w'.heap[W.heap.size]? = some (.cells (nums .u32 (tab 256)).toArray 46 (0, 0)) ∧ Below W.heap.size W w'

set_option maxRecDepth 100000 in
theorem table_any (W : World) : Calls Try.prog 20 #[] W (TabPost W) := by
  have hz : ∀ w, (zeroValue 46).run Try.prog w = .ok (.agg T0) w := fun _ => by kernel_rfl
  go_enter Try.func20, Try.ntmps20
  go_wp2
  go_loopw [6] (fun v6 wr => ∃ k : Nat, k ≤ 256 ∧ v6 = .int .i64 k ∧ wr.heap[W.heap.size]? = some (.cells (nums .u32 (tab k)).toArray 46 (0, 0)) ∧ Below W.heap.size W wr) (fun v6 _ => 256 - (intOf v6).toNat)
  case atStart =>
    exact ⟨0, by omega, rfl, blk_new _ _, (Below.refl _ _).alloc (Nat.le_refl _) _⟩
  case round =>
    obtain ⟨k, hk, rfl, hm, hb⟩ := hrel
    have HM := Lib.hid hm
    have HB := Lib.hid hb
    clear hm hb
    by_cases hlt : k < 256
    · have hlen := tab_len k
      have hS := Lib.hid (show tab (k + 1) = (tab k).set k (shs 8 (k : Int)) from rfl)
      obtain ⟨cv, hc⟩ : ∃ cv, wr.cell? ⟨W.heap.size, k, none⟩ = some (.int .u32 cv) := ⟨(tab k)[k]'(by omega), by rw [blk_cell HM.out]; simp [nums]⟩
      have hf := blk_frozen HM.out k
      have hk2 : (k : Int) < 256 := by omega
      clear hlen
      go_wp2
      obtain ⟨wo, rfl⟩ : ∃ wo : World, wo = wr := ⟨_, rfl⟩
      go_loop [3, 11] (fun v3 v11 => ∃ j : Nat, j ≤ 8 ∧ v3 = .int .u32 (shs j (k : Int)) ∧ v11 = .int .i64 j) (fun _ v11 => 8 - (intOf v11).toNat)
      case atStart => exact ⟨0, by omega, rfl, rfl⟩
      case round =>
        obtain ⟨j, hj, rfl, rfl⟩ := hrel
        by_cases hj8 : j < 8
        · have hS2 := Lib.hid (show shs (j + 1) (k : Int) = sh (shs j (k : Int)) from rfl)
          go_wp2
          go_round
          case rel => exact ⟨j + 1, by omega, by rw [hS2.out]; unfold sh; rfl, by go_num⟩
          case measure => simp [intOf]; omega
        · obtain rfl : j = 8 := by omega
          go_wp2
          go_roundw
          case rel =>
            refine ⟨k + 1, by omega, by go_num, ?_, HB.out.setCell (by simp) _⟩
            rw [blk_set HM.out, nums_set', hS.out]
          case measure => simp [intOf]; omega
    · go_wp2
      go_ret
      obtain rfl : k = 256 := by omega
      exact ⟨rfl, HM.out, HB.out⟩

/-- The table's number of a byte. -/
def tb (i : Int) : Int := rd (tab 256) i

theorem tb_cell {w' : World} {b : Nat} (h : w'.heap[b]? = some (.cells (nums .u32 (tab 256)).toArray 46 (0, 0))) (i : Int) (h0 : 0 ≤ i) (hi : i < 256) : w'.cell? ⟨b, i.toNat, none⟩ = some (.int .u32 (tb i)) := by
  rw [blk_cell h]
  have hl := tab_len 256
  unfold tb rd
  rw [List.getElem?_toArray]
  simp only [nums, List.getElem?_map]
  rw [List.getElem?_eq_getElem (by omega), List.getD_eq_getElem?_getD, List.getElem?_eq_getElem (by omega)]
  rfl

/-- The register behind one byte more. -/
def reg1 (x c : Int) : Int := Go.bits .xor .u32 (x / 256) (tb (Go.bits .xor .u8 (x % 256) c))
def regs : List Int → Int → Int
  | [], x => x
  | c :: r, x => regs r (reg1 x c)

def moreF (s : Int) (l : List Int) : Option Int := if l.length ≤ 140737488355328 then some (Go.bits .xor .u32 4294967295 (regs l (Go.bits .xor .u32 4294967295 s))) else none

theorem bits8_range (op : BinOp) (x y : Int) : 0 ≤ Go.bits op .u8 x y ∧ Go.bits op .u8 x y < 256 := by
  unfold Go.bits
  rw [IntKind.wrap_u8]
  omega

set_option maxRecDepth 100000 in
theorem more_calls (a0 : Int) (A1 : Option Addr) (c1 : Nat) (l1 : List Int) (r : Int) (w : World) (hr1 : Kd.C (Kd.int .u8) w A1 l1.length l1) (hc1 : l1.length ≤ c1) (h : moreF a0 l1 = some r) :
    Calls Try.prog 12 #[.int .u32 a0, .slice A1 l1.length c1] w fun e w' => e = .returned (.int .u32 r) ∧ Below w.heap.size w w' := by
  unfold moreF at h
  by_cases hL : l1.length ≤ 140737488355328
  case neg => rw [if_neg hL] at h; exact absurd h (by simp)
  rw [if_pos hL] at h
  obtain rfl := Option.some.inj h
  have HR := Lib.hid hr1
  clear hr1 h
  go_enter Try.func12, Try.ntmps12
  go_wp2_with (go_at_call 20; refine (table_any _).mono ?_; rintro e w1 ⟨rfl, hh, hb1⟩; have HH := Lib.hid hh; have HB := Lib.hid hb1; have HC := Lib.hid (Kd.C_below HR.out hb1); clear hh hb1)
  go_loop [6, 14] (fun v6 v14 => ∃ (k : Nat) (x : Int), k ≤ l1.length ∧ v6 = .int .u32 x ∧ v14 = .int .i64 k ∧ Aside0 (regs (l1.drop k) x = regs l1 (Go.bits .xor .u32 4294967295 a0))) (fun _ v14 => l1.length - (intOf v14).toNat)
  case atStart => exact ⟨0, _, by omega, rfl, rfl, ⟨rfl⟩⟩
  case round =>
    obtain ⟨k, x, hk, rfl, rfl, HA⟩ := hrel
    by_cases hlt : k < l1.length
    · obtain ⟨ad, e, hcell⟩ := Kd.at_int HC.out (k : Int) (by omega) (by omega)
      cases e
      rw [Int.toNat_natCast] at hcell
      have hix := bits8_range .xor (x % 256) (rd l1 (k : Int))
      obtain ⟨hi0, hi1⟩ := hix
      have ht := tb_cell HH.out (Go.bits .xor .u8 (x % 256) (rd l1 (k : Int))) hi0 hi1
      have hd : l1.drop k = rd l1 (k : Int) :: l1.drop (k + 1) := by
        rw [List.drop_eq_getElem_cons hlt]
        congr 1
        unfold rd; simp [List.getD_eq_getElem?_getD, List.getElem?_eq_getElem hlt]
      have HD := Lib.hid hd
      clear hd
      go_wp2
      go_round
      case rel => exact ⟨k + 1, reg1 x (rd l1 (k : Int)), by omega, rfl, by go_num, ⟨by have h := HA.out; rw [HD.out] at h; exact h⟩⟩
      case measure => simp [intOf]; omega
    · go_wp2
      go_ret
      have e : l1.drop k = [] := List.drop_eq_nil_of_le (by omega)
      have h := HA.out
      rw [e] at h
      exact ⟨by rw [← h]; rfl, HB.out⟩
end Go.Proofs.Ytfiklobfdacbbaa.Crc
