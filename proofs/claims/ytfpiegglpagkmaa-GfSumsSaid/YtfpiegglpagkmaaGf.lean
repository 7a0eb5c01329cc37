/- The tables of the field's powers, made by the Go program, and what Inverse, Log, Exp and Pow answer off them: contracts of these functions for every argument. -/
import Derived.Test.YtfpiegglpagkmaaProg
import Derived.Test.YtfpiegglpagkmaaWMore
import Derived.WalkKit
import Derived.KernelRfl
import Derived.Lib.Hide
import Derived.Test.YtfpiegglpagkmaaGfMath
namespace Go.Proofs.Ytfpiegglpagkmaa.Gf
open Go.Proofs.Ytfpiegglpagkmaa Go.RowKit Go.Proofs.YtfpiegglpagkmaaW.PrintWords Go.Proofs.YtfpiegglpagkmaaW.PrintLast Go.Proofs.YtfpiegglpagkmaaW.PrintMore

/-- The closure's captured variables, and the table, as they stand. -/
def Mem (b0 b1 b2 : Nat) (l : List Int) (x : Int) (W : World) : Prop :=
  W.heap[b0]? = some (.cells (nums .u8 l).toArray 43 (0, 0)) ∧ W.heap[b1]? = some (.cells #[.pointer (some ⟨b0, 0, none⟩)] 44 (0, 0)) ∧ W.heap[b2]? = some (.cells #[.int .i64 x] 3 (0, 0))

def next (l : List Int) (x k : Int) : List Int := (l.set k.toNat (x % 256)).set (255 + x.toNat) (k % 256)
def xnext (x : Int) : Int := if 255 < x * 2 then Go.bits .xor .i64 (x * 2) 285 else x * 2

def Post (B b0 b1 b2 : Nat) (l : List Int) (x : Int) (W : World) (e : Ending) (w' : World) : Prop := e = .returned (.tuple #[]) ∧ Mem b0 b1 b2 l x w' ∧ Below B W w'

theorem nums_set (k : IntKind) (l : List Int) (i : Nat) (v : Int) : (nums k l).toArray.setIfInBounds i (.int k v) = (nums k (l.set i v)).toArray := by
  simp [nums, List.map_set]

theorem mem_set0 {b0 b1 b2 : Nat} {l : List Int} {x : Int} {W : World} (h : Mem b0 b1 b2 l x W) (h01 : b0 ≠ b1) (h02 : b0 ≠ b2) (i : Nat) (v : Int) :
    Mem b0 b1 b2 (l.set i v) x (W.setCell ⟨b0, i, none⟩ (.int .u8 v)) :=
  ⟨by rw [blk_set h.1, nums_set], blk_far h.2.1 (fun e => h01 e.symm) _, blk_far h.2.2 (fun e => h02 e.symm) _⟩
theorem mem_set2 {b0 b1 b2 : Nat} {l : List Int} {x : Int} {W : World} (h : Mem b0 b1 b2 l x W) (h02 : b0 ≠ b2) (h12 : b1 ≠ b2) (v : Int) :
    Mem b0 b1 b2 l v (W.setCell ⟨b2, 0, none⟩ (.int .i64 v)) :=
  ⟨blk_far h.1 h02 _, blk_far h.2.1 h12 _, by rw [blk_set h.2.2]; rfl⟩
theorem mem_drew {b0 b1 b2 : Nat} {l : List Int} {x : Int} {W : World} (h : Mem b0 b1 b2 l x W) : Mem b0 b1 b2 l x W.drew := h

theorem made1 (W : World) (B b0 b1 b2 : Nat) (l : List Int) (k x : Int) (hm : Mem b0 b1 b2 l x W) (hl : l.length = 511)
    (hk0 : 0 ≤ k) (hk1 : k < 255) (hx0 : 1 ≤ x) (hx1 : x ≤ 255) (h01 : b0 ≠ b1) (h02 : b0 ≠ b2) (h12 : b1 ≠ b2) (hB0 : B ≤ b0) (hB2 : B ≤ b2) :
    Calls Try.prog 26 #[.int .i64 k, .pointer (some ⟨b2, 0, none⟩), .pointer (some ⟨b1, 0, none⟩)] W (Post B b0 b1 b2 (next l x k) (xnext x) W) := by
  obtain ⟨H0, H1, H2⟩ := hm
  have M0 := Lib.hid H0
  have M1 := Lib.hid H1
  have M2 := Lib.hid H2
  have h1 : W.cell? ⟨b1, 0, none⟩ = some (.pointer (some ⟨b0, 0, none⟩)) := by rw [blk_cell H1]; rfl
  have h2 : W.cell? ⟨b2, 0, none⟩ = some (.int .i64 x) := by rw [blk_cell H2]; rfl
  have c1 : W.cell? ⟨b0, k.toNat, none⟩ = some (.int .u8 (l[k.toNat]'(by omega))) := by rw [blk_cell H0]; simp [nums]
  have c2 : W.cell? ⟨b0, 255 + x.toNat, none⟩ = some (.int .u8 (l[255 + x.toNat]'(by omega))) := by rw [blk_cell H0]; simp [nums]
  have f1 : W.frozen? ⟨b0, k.toNat, none⟩ = false := blk_frozen H0 _
  have f2 : W.frozen? ⟨b0, 255 + x.toNat, none⟩ = false := blk_frozen H0 _
  have f3 : W.frozen? ⟨b2, 0, none⟩ = false := blk_frozen H2 _
  clear H0 H1 H2
  go_enter Try.func26, Try.ntmps26
  go_wp2
  go_region
  all_goals (try go_wp2)
  all_goals go_end0
  · refine ⟨rfl, ?_, (((((Below.refl _ _).setCell (by simpa using hB0) _).setCell (by simpa using hB0) _).setCell (by simpa using hB2) _).setCell (by simpa using hB2) _).drew⟩
    have hx : xnext x = bits .xor .i64 (x * 2) 285 := by unfold xnext; rw [if_pos (by assumption)]
    rw [hx, next, Int.emod_eq_of_lt hk0 (show k < 256 by omega), Int.emod_eq_of_lt (show 0 ≤ x by omega) (show x < 256 by omega)]
    exact mem_drew (mem_set2 (mem_set2 (mem_set0 (mem_set0 ⟨M0.out, M1.out, M2.out⟩ h01 h02 _ _) h01 h02 _ _) h02 h12 _) h02 h12 _)
  · refine ⟨rfl, ?_, ((((Below.refl _ _).setCell (by simpa using hB0) _).setCell (by simpa using hB0) _).setCell (by simpa using hB2) _).drew⟩
    have hx : xnext x = x * 2 := by unfold xnext; rw [if_neg (by omega)]
    rw [hx, next, Int.emod_eq_of_lt hk0 (show k < 256 by omega), Int.emod_eq_of_lt (show 0 ≤ x by omega) (show x < 256 by omega)]
    exact mem_drew (mem_set2 (mem_set0 (mem_set0 ⟨M0.out, M1.out, M2.out⟩ h01 h02 _ _) h01 h02 _ _) h02 h12 _)


/-- The table and x behind k rounds. -/
def tabs : Nat → List Int × Int
  | 0 => (List.replicate 511 0, 1)
  | k + 1 => (next (tabs k).1 (tabs k).2 k, xnext (tabs k).2)

theorem tabs_len (k : Nat) : (tabs k).1.length = 511 := by
  induction k with
  | zero => exact List.length_replicate
  | succ k ih => show (next (tabs k).1 (tabs k).2 k).length = 511; simp [next, ih]

theorem xs_ok : (List.range 256).all (fun k => decide (1 ≤ (Nat.rec 1 (fun _ x => xnext x) k : Int) ∧ (Nat.rec 1 (fun _ x => xnext x) k : Int) ≤ 255)) = true := by kernel_rfl

theorem tabs_rec (k : Nat) : (tabs k).2 = (Nat.rec 1 (fun _ x => xnext x) k : Int) := by
  induction k with
  | zero => rfl
  | succ k ih => show xnext (tabs k).2 = _; rw [ih]

theorem tabs_x (k : Nat) (h : k ≤ 255) : 1 ≤ (tabs k).2 ∧ (tabs k).2 ≤ 255 := by
  rw [tabs_rec]
  have := List.all_eq_true.mp xs_ok k (List.mem_range.mpr (by omega))
  exact of_decide_eq_true this

/-- The table's cells at first. -/
def Z0 : Array Value := (nums .u8 (List.replicate 511 0)).toArray

def MadePost (W : World) (e : Ending) (w' : World) : Prop :=
  e = .returned (.pointer (some ⟨W.heap.size, 0, none⟩)) ∧ w'.heap[W.heap.size]? = some (.cells (nums .u8 (tabs 255).1).toArray 43 (0, 0)) ∧ Below W.heap.size W w'

set_option maxRecDepth 100000 in
theorem made_any (W : World) : Calls Try.prog 23 #[] W (MadePost W) := by
  have hz : ∀ w, (zeroValue 43).run Try.prog w = .ok (.agg Z0) w := fun _ => by kernel_rfl
  go_enter Try.func23, Try.ntmps23
  go_wp2
  go_loopw [8] (fun v8 wr => ∃ k : Nat, k ≤ 255 ∧ v8 = .int .i64 k ∧ Mem W.heap.size (W.heap.size + 1) (W.heap.size + 1 + 1) (tabs k).1 (tabs k).2 wr ∧ Below W.heap.size W wr) (fun v8 _ => 255 - (intOf v8).toNat)
  case atStart =>
    refine ⟨0, by omega, rfl, ⟨?_, ?_, ?_⟩, (((Below.refl _ _).alloc (Nat.le_refl _) _).alloc (by simp) _).alloc (by simp; omega) _⟩
    · exact blk_alloc (blk_alloc (blk_new _ _) _) _
    · have h := blk_new (W.alloc (Obj.cells Z0 43)) (Obj.cells #[Value.pointer (some { block := W.heap.size, off := 0 })] 44)
      simp only [World.size_alloc] at h
      exact blk_alloc h _
    · have h := blk_new ((W.alloc (Obj.cells Z0 43)).alloc (Obj.cells #[Value.pointer (some { block := W.heap.size, off := 0 })] 44)) (Obj.cells #[Value.int IntKind.i64 1] 3)
      simp only [World.size_alloc] at h
      exact h
  case round =>
    obtain ⟨k, hk, rfl, hm, hb⟩ := hrel
    have hx := tabs_x k hk
    have hxa := hx.1
    have hxb := hx.2
    have hc1 : wr.cell? ⟨W.heap.size + 1, 0, none⟩ = some (.pointer (some ⟨W.heap.size, 0, none⟩)) := by rw [blk_cell hm.2.1]; rfl
    have MM := Lib.hid hm
    have m0 := Lib.hid hm.1
    have BB := Lib.hid hb
    clear hm hb hx
    by_cases hlt : k < 255
    · go_wp2_with (go_at_call 26; refine (made1 _ W.heap.size _ _ _ _ _ _ MM.out (tabs_len k) (by omega) (by omega) hxa hxb (by omega) (by omega) (by omega) (by omega) (by omega)).mono ?_; rintro e w' ⟨rfl, hm', hb'⟩)
      go_roundw
      case rel => exact ⟨k + 1, by omega, by go_num, hm', BB.out.trans hb'⟩
      case measure => simp [intOf]; omega
    · go_wp2
      go_ret
      obtain rfl : k = 255 := by omega
      exact ⟨rfl, m0.out, BB.out⟩

/-- The table as it stands at the end. -/
def TBL : List Int := GfMath.tabN.map Int.ofNat
theorem tabs_lit : (tabs 255).1 = TBL := by kernel_rfl

theorem tbl_len : TBL.length = 511 := by kernel_rfl

/-- The table's number at a place. -/
def tb (i : Int) : Int := rd TBL i

theorem tb_cell {w' : World} {b : Nat} (h : w'.heap[b]? = some (.cells (nums .u8 (tabs 255).1).toArray 43 (0, 0))) (i : Int) (h0 : 0 ≤ i) (hi : i < 511) : w'.cell? ⟨b, i.toNat, none⟩ = some (.int .u8 (tb i)) := by
  rw [blk_cell h, tabs_lit]
  have hl : TBL.length = 511 := tbl_len
  unfold tb rd
  rw [List.getElem?_toArray]
  simp only [nums, List.getElem?_map]
  rw [List.getElem?_eq_getElem (by omega), List.getD_eq_getElem?_getD, List.getElem?_eq_getElem (by omega)]
  rfl

theorem tb_range_all : TBL.all (fun x => decide (0 ≤ x ∧ x ≤ 255)) = true := by kernel_rfl
theorem tb_range (i : Int) : 0 ≤ tb i ∧ tb i ≤ 255 := by
  unfold tb rd
  rw [List.getD_eq_getElem?_getD]
  cases h : TBL[i.toNat]? with
  | none => simp
  | some v => exact of_decide_eq_true (List.all_eq_true.mp tb_range_all v (List.mem_of_getElem? h))
theorem log_range_all : (TBL.drop 255).all (fun x => decide (x ≤ 254)) = true := by kernel_rfl
theorem log_range (a : Int) (h0 : 0 ≤ a) (h1 : a ≤ 255) : tb (255 + a) ≤ 254 := by
  unfold tb rd
  have hl : TBL.length = 511 := tbl_len
  rw [List.getD_eq_getElem?_getD, List.getElem?_eq_getElem (by omega)]
  refine of_decide_eq_true (List.all_eq_true.mp log_range_all _ ?_)
  have e : (255 + a).toNat = 255 + a.toNat := by omega
  simp only [Option.getD_some]
  have h2 : (TBL.drop 255)[a.toNat]? = some (TBL[(255 + a).toNat]'(by omega)) := by
    rw [List.getElem?_drop, ← e, List.getElem?_eq_getElem (by omega)]
  exact List.mem_of_getElem? h2

def invF (a0 : Int) : Option (Int × Int) := if 0 ≤ a0 ∧ a0 ≤ 255 then (if a0 = 0 then some (0, 1) else some (tb (-tb (255 + a0) % 255), 0)) else none

set_option maxRecDepth 100000 in
theorem inv_calls (a0 : Int) (r1 : Int) (r2 : Int) (w : World) (h : invF a0 = some (r1, r2)) :
    Calls Try.prog 15 #[.int .u8 a0] w fun e w' => e = .returned (.tuple #[.int .u8 r1, .int .i64 r2]) ∧ Below w.heap.size w w' := by
  unfold invF at h
  by_cases hr : 0 ≤ a0 ∧ a0 ≤ 255
  · rw [if_pos hr] at h
    by_cases h0 : a0 = 0
    · subst h0
      rw [if_pos rfl] at h
      simp only [Option.some.injEq, Prod.mk.injEq] at h
      obtain ⟨rfl, rfl⟩ := h
      go_enter Try.func15, Try.ntmps15
      go_wp2
      go_ret2
      exact ⟨rfl, Below.refl _ _⟩
    · rw [if_neg h0] at h
      simp only [Option.some.injEq, Prod.mk.injEq] at h
      obtain ⟨rfl, rfl⟩ := h
      have hb : (a0 == 0) = false := by simpa using h0
      obtain ⟨ha0, ha1⟩ := hr
      have hlr := log_range a0 ha0 ha1
      have hlr0 := (tb_range (255 + a0)).1
      have e1 : (255 + a0).toNat = 255 + a0.toNat := by omega
      have E1 := Lib.hid e1
      clear e1
      go_enter Try.func15, Try.ntmps15
      go_wp2_with (go_at_call 23; refine (made_any _).mono ?_; rintro e w' ⟨rfl, hh, hbel⟩)
      have c1 := tb_cell hh (255 + a0) (by omega) (by omega)
      rw [E1.out] at c1
      have c2 := tb_cell hh (-tb (255 + a0) % 255) (by omega) (by omega)
      have b1 : a0 < 256 := by omega
      go_region
      all_goals (go_wp2; go_ret2)
      all_goals exact ⟨rfl, hbel.drew⟩
  · rw [if_neg hr] at h; exact absurd h (by simp)

def logF (a0 : Int) : Option (Int × Int) := if 0 ≤ a0 ∧ a0 ≤ 255 then (if a0 = 0 then some (0, 1) else some (tb (255 + a0), 0)) else none

set_option maxRecDepth 100000 in
theorem log_calls (a0 : Int) (r1 : Int) (r2 : Int) (w : World) (h : logF a0 = some (r1, r2)) :
    Calls Try.prog 14 #[.int .u8 a0] w fun e w' => e = .returned (.tuple #[.int .i64 r1, .int .i64 r2]) ∧ Below w.heap.size w w' := by
  unfold logF at h
  by_cases hr : 0 ≤ a0 ∧ a0 ≤ 255
  · rw [if_pos hr] at h
    by_cases h0 : a0 = 0
    · subst h0
      rw [if_pos rfl] at h
      simp only [Option.some.injEq, Prod.mk.injEq] at h
      obtain ⟨rfl, rfl⟩ := h
      go_enter Try.func14, Try.ntmps14
      go_wp2
      go_ret2
      exact ⟨rfl, Below.refl _ _⟩
    · rw [if_neg h0] at h
      simp only [Option.some.injEq, Prod.mk.injEq] at h
      obtain ⟨rfl, rfl⟩ := h
      have hb : (a0 == 0) = false := by simpa using h0
      obtain ⟨ha0, ha1⟩ := hr
      have hlr := log_range a0 ha0 ha1
      have hlr0 := (tb_range (255 + a0)).1
      have e1 : (255 + a0).toNat = 255 + a0.toNat := by omega
      have E1 := Lib.hid e1
      clear e1
      go_enter Try.func14, Try.ntmps14
      go_wp2_with (go_at_call 23; refine (made_any _).mono ?_; rintro e w' ⟨rfl, hh, hbel⟩; have c1 := tb_cell hh (255 + a0) (by omega) (by omega); rw [E1.out] at c1)
      go_ret2
      exact ⟨rfl, hbel⟩
  · rw [if_neg hr] at h; exact absurd h (by simp)

/-- A whole number modulo 255. -/
def mod255 (n : Int) : Int := (Int.tmod n 255 + 255) % 255
theorem mod255_range (n : Int) : 0 ≤ mod255 n ∧ mod255 n ≤ 254 := by unfold mod255; omega
theorem tmod_range (n : Int) : -254 ≤ Int.tmod n 255 ∧ Int.tmod n 255 ≤ 254 := by
  rcases Int.le_total 0 n with h | h
  · have := Int.tmod_eq_emod_of_nonneg h (b := 255); omega
  · have h1 : Int.tmod (-n) 255 = -Int.tmod n 255 := Int.neg_tmod n 255
    have := Int.tmod_eq_emod_of_nonneg (a := -n) (by omega) (b := 255); omega

theorem modulo_any (n : Int) (w : World) : Calls Try.prog 24 #[.int .i64 n] w fun e w' => e = .returned (.int .i64 (mod255 n)) ∧ w = w' := by
  have h := tmod_range n
  obtain ⟨h1, h2⟩ := h
  unfold mod255
  go_enter Try.func24, Try.ntmps24
  go_wp2
  go_ret
  exact ⟨rfl, rfl⟩

def expF (n : Int) : Option Int := some (tb (mod255 n))

set_option maxRecDepth 100000 in
theorem exp_calls (a0 : Int) (r : Int) (w : World) (h : expF a0 = some r) :
    Calls Try.prog 13 #[.int .i64 a0] w fun e w' => e = .returned (.int .u8 r) ∧ Below w.heap.size w w' := by
  obtain rfl := Option.some.inj h
  have hm := mod255_range a0
  obtain ⟨hm0, hm1⟩ := hm
  have hm2 : mod255 a0 < 255 := by omega
  have hm3 : mod255 a0 < 511 := by omega
  go_enter Try.func13, Try.ntmps13
  go_wp2
  go_region_with (first
    | (go_at_call 23; refine (made_any _).mono ?_; rintro e w' ⟨rfl, hh, hbel⟩; have c2 : w'.cell? ⟨w.heap.size, (mod255 a0).toNat, none⟩ = some (.int .u8 (tb (mod255 a0))) := tb_cell hh (mod255 a0) hm0 hm3; clear hh)
    | (go_at_call 24; refine (modulo_any _ _).mono ?_; rintro e w' ⟨rfl, rfl⟩))
  all_goals go_wp2
  all_goals go_ret
  all_goals exact ⟨rfl, ⟨hbel.os, hbel.tape, hbel.output, hbel.size, hbel.block⟩⟩

def powF (a0 n : Int) : Option Int := if 0 ≤ a0 ∧ a0 ≤ 255 then (if n = 0 then some 1 else if a0 = 0 then some 0 else some (tb (tb (255 + a0) * mod255 n % 255))) else none

set_option maxRecDepth 100000 in
theorem pow_calls (a0 n : Int) (r : Int) (w : World) (h : powF a0 n = some r) :
    Calls Try.prog 21 #[.int .u8 a0, .int .i64 n] w fun e w' => e = .returned (.int .u8 r) ∧ Below w.heap.size w w' := by
  unfold powF at h
  by_cases hr : 0 ≤ a0 ∧ a0 ≤ 255
  · rw [if_pos hr] at h
    by_cases hn : n = 0
    · subst hn
      rw [if_pos rfl] at h
      obtain rfl := Option.some.inj h
      go_enter Try.func21, Try.ntmps21
      go_wp2
      go_ret
      exact ⟨rfl, Below.refl _ _⟩
    · rw [if_neg hn] at h
      have hnb : (n == 0) = false := by simpa using hn
      by_cases h0 : a0 = 0
      · subst h0
        rw [if_pos rfl] at h
        obtain rfl := Option.some.inj h
        go_enter Try.func21, Try.ntmps21
        go_wp2
        go_ret
        exact ⟨rfl, Below.refl _ _⟩
      · rw [if_neg h0] at h
        obtain rfl := Option.some.inj h
        have hb : (a0 == 0) = false := by simpa using h0
        obtain ⟨ha0, ha1⟩ := hr
        have hlr := log_range a0 ha0 ha1
        have hlr0 := (tb_range (255 + a0)).1
        have e1 : (255 + a0).toNat = 255 + a0.toNat := by omega
        have E1 := Lib.hid e1
        clear e1
        have hm := mod255_range n
        obtain ⟨hm0, hm1⟩ := hm
        have hp0 : 0 ≤ tb (255 + a0) * mod255 n := Int.mul_nonneg hlr0 hm0
        have hp1 : tb (255 + a0) * mod255 n ≤ 254 * 254 := Int.mul_le_mul hlr hm1 hm0 (by decide)
        go_enter Try.func21, Try.ntmps21
        go_wp2_with (go_at_call 23; refine (made_any _).mono ?_; rintro e w' ⟨rfl, hh, hbel⟩)
        have c1 := tb_cell hh (255 + a0) (by omega) (by omega)
        rw [E1.out] at c1
        have c2 := tb_cell hh (tb (255 + a0) * mod255 n % 255) (by omega) (by omega)
        have b1 : a0 < 256 := by omega
        have b2 : tb (255 + a0) * mod255 n % 255 < 255 := by omega
        have b3 : 0 ≤ tb (255 + a0) * mod255 n % 255 := by omega
        have x1 : IntKind.i64.wrap (tb (255 + a0) * mod255 n) = tb (255 + a0) * mod255 n := IntWalk.i64_in _ (by omega)
        have x2 : IntKind.i64.wrap (tb (255 + a0)) = tb (255 + a0) := IntWalk.i64_in _ (by omega)
        have x3 : Int.tmod (tb (255 + a0) * mod255 n) 255 = tb (255 + a0) * mod255 n % 255 := Int.tmod_eq_emod_of_nonneg hp0
        go_region_with (go_at_call 24; refine (modulo_any _ _).mono ?_; rintro e w' ⟨rfl, rfl⟩)
        all_goals go_wp2
        all_goals go_ret
        all_goals exact ⟨rfl, hbel.drew⟩
  · rw [if_neg hr] at h; exact absurd h (by simp)
end Go.Proofs.Ytfpiegglpagkmaa.Gf
