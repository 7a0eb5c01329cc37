/- Texts of this claim, laid together by wip/tools/squash.py: Tab, MBad, MAdd, MTable, MMul, MOne, MTurned, MClear, MSteps. -/
import Derived.Test.YtjkmaobfpgfdnaaQB3
import Derived.Deep.OwnRows
import Derived.Deep.MidRow
import Derived.Deep.LoopGhost

/- Tables of bytes in memory, and numbers of the field in blocks. -/
section
namespace Go.Proofs.Ytjkmaobfpgfdnaa.Tab
open Go.Proofs.Ytjkmaobfpgfdnaa Go.RowKit Go.Proofs.YtjkmaobfpgfdnaaW.PrintWords Go.Proofs.YtjkmaobfpgfdnaaW.PrintLast Go.Proofs.YtjkmaobfpgfdnaaW.PrintMore Go.Proofs.Ytjkmaobfpgfdnaa.Byt Go.Proofs.Ytjkmaobfpgfdnaa.Lin Go.Proofs.Ytjkmaobfpgfdnaa.Lin.G
set_option linter.unusedVariables false
set_option linter.unusedSimpArgs false

theorem infoR : (Try.prog.info? 38).map (fun i => (i.zero, i.size, i.bytes)) = some (some (.slice none 0 0), 1, 24) := by kernel_rfl

/-- A whole number as a number of the field. -/
def gv (x : Int) : G := ⟨x.toNat % 256, Nat.mod_lt _ (by decide)⟩
theorem gv_v {x : Int} (h : 0 ≤ x ∧ x ≤ 255) : (((gv x).v : Nat) : Int) = x := by
  show ((x.toNat % 256 : Nat) : Int) = x
  omega
theorem gv_val (a : G) : gv (a.v : Int) = a := ext (by
  show ((a.v : Int)).toNat % 256 = a.v
  have := a.lt
  omega)
theorem v_range (a : G) : 0 ≤ (a.v : Int) ∧ (a.v : Int) ≤ 255 := by have := a.lt; omega
abbrev U (a : G) : Value := .int .u8 (a.v : Int)
theorem v_inj {a b : G} (h : (a.v : Int) = (b.v : Int)) : a = b := ext (by omega)

/-- A row of m numbers. -/
def row (m : Nat) (f : Nat → G) : List Int := (List.range m).map fun j => ((f j).v : Int)
theorem row_len (m : Nat) (f : Nat → G) : (row m f).length = m := by simp [row]
theorem row_bn {m : Nat} {f : Nat → G} {j : Nat} (h : j < m) : bn (row m f) j = ((f j).v : Int) := by
  rw [bn_getD, List.getD_eq_getElem?_getD]
  simp [row, h]
theorem row_bytes (m : Nat) (f : Nat → G) : Bytes (row m f) := bytes_of_mem fun x hx => by
  obtain ⟨j, _, rfl⟩ := List.mem_map.1 hx
  exact v_range _
theorem row_ext {m : Nat} {f g : Nat → G} (h : ∀ j, j < m → f j = g j) : row m f = row m g := List.map_congr_left fun j hj => by rw [h j (List.mem_range.1 hj)]
theorem row_take {m : Nat} (f : Nat → G) {k : Nat} (h : k ≤ m) : (row m f).take k = row k f := by
  unfold row
  rw [← List.map_take, List.take_range, Nat.min_eq_left h]
/-- Bytes as a row. -/
theorem row_of {l : List Int} (h : Bytes l) : l = row l.length (fun j => gv (bn l j)) := by
  refine List.ext_getElem (by rw [row_len]) fun j h1 h2 => ?_
  have e : l[j] = bn l j := by rw [bn_getD, List.getD_eq_getElem?_getD, List.getElem?_eq_getElem h1]; rfl
  rw [e]
  simp only [row, List.getElem_map, List.getElem_range]
  rw [gv_v (h j)]
def tabl (n m : Nat) (T : Tb) : List (List Int) := (List.range n).map fun i => row m (T i)
theorem tabl_len (n m : Nat) (T : Tb) : (tabl n m T).length = n := by simp [tabl]
theorem tabl_ext {n m : Nat} {T T' : Tb} (h : ∀ i j, i < n → j < m → T i j = T' i j) : tabl n m T = tabl n m T' := List.map_congr_left fun i hi => row_ext fun j hj => h i j (List.mem_range.1 hi) hj

/-- A block of numbers. -/
def BLK (w : World) (g N : Nat) (D : Nat → G) : Prop := w.rowIs g 5 N (fun j => U (D j))
section
variable {w w' : World} {g N : Nat} {D D' : Nat → G}
theorem BLK.lt (h : BLK w g N D) : g < w.heap.size := World.rowIs.lt h
theorem BLK.cell (h : BLK w g N D) {i : Nat} (hi : i < N) : w.cell? ⟨g, i, none⟩ = some (U (D i)) := World.rowIs.cell h hi
theorem BLK.frozen (h : BLK w g N D) (i : Nat) : w.frozen? ⟨g, i, none⟩ = false := World.rowIs.frozen h i
theorem BLK.congr (h : BLK w g N D) (e : ∀ i, i < N → D i = D' i) : BLK w g N D' := World.rowIs.congr h fun i hi => by rw [e i hi]
theorem BLK.of_block (h : BLK w g N D) (e : w'.heap[g]? = w.heap[g]?) : BLK w' g N D := World.rowIs.of_block h e
theorem BLK.below (h : BLK w g N D) (hb : Below w.heap.size w w') : BLK w' g N D := h.of_block (hb.block g h.lt)
theorem BLK.drew (h : BLK w g N D) : BLK w.drew g N D := h
theorem BLK.drewN (h : BLK w g N D) (m : Nat) : BLK (w.drewN m) g N D := h.below (pw_below_drewN (Below.refl _ _) m)
theorem BLK.set (h : BLK w g N D) (i : Nat) (x : G) : BLK (w.setCell ⟨g, i, none⟩ (U x)) g N (fun j => if j = i then x else D j) :=
  World.rowIs.congr (World.rowIs.set h i (U x)) fun j _ => by
    by_cases e : j = i
    · simp only [if_pos e]
    · simp only [if_neg e]
theorem BLK.wrote {g' : Nat} (h : BLK w g N D) (hw : Wrote g' w w') (hg : g ≠ g') : BLK w' g N D := h.of_block (hw.block g h.lt hg)
theorem BLK.rc (h : BLK w g N D) {o m : Nat} (hb : o + m ≤ N) : RC w (some ⟨g, o, none⟩) (row m fun j => D (o + j)) := by
  intro _
  refine ⟨_, rfl, h.lt, fun j hj => ?_⟩
  rw [row_len] at hj
  rw [Addr.add_mid, h.cell (by omega), row_bn hj]
end

theorem mul_g (a b : G) (w : World) : Calls Try.prog 40 #[U a, U b] w fun e w' => e = .returned (U (a * b)) ∧ Drawn0 w w' :=
  PMatrixInverses.gf_Mul.calls 50 _ _ _ w (GfPure.mul_gf a.v b.v a.lt b.lt 50 (by decide))
theorem inv_g (a : G) (h : a ≠ 0) (w : World) : Calls Try.prog 46 #[U a] w fun e w' => e = .returned (.tuple #[U (inv a), .int .i64 0]) ∧ Below w.heap.size w w' :=
  Gf.inv_calls _ _ _ w (GfPure.inv_gf a.v a.lt (ne_v h))
theorem xor_g (a b : G) : Go.bits .xor .u8 (a.v : Int) (b.v : Int) = ((a + b).v : Int) := GfPure.xor8 a.v b.v a.lt b.lt
/-- Rows of m numbers each lie apart in n times m places. -/
structure SHP (n m : Nat) (off : Nat → Nat) : Prop where
  inn : ∀ i, i < n → off i + m ≤ n * m
  apart : ∀ i k, i < n → k < n → i ≠ k → off i + m ≤ off k ∨ off k + m ≤ off i
theorem SHP.one {n m : Nat} {off : Nat → Nat} (h : SHP n m off) {i j a b : Nat} (hi : i < n) (hj : j < m) (ha : a < n) (hb : b < m) (e : off i + j = off a + b) : i = a ∧ j = b := by
  by_cases hia : i = a
  · subst hia
    exact ⟨rfl, by omega⟩
  · rcases h.apart i a hi ha hia with h1 | h1 <;> omega
theorem shp_rows (n m : Nat) : SHP n m (fun i => i * m) := by
  refine ⟨fun i hi => ?_, fun i k hi hk hne => ?_⟩
  · have := Nat.mul_le_mul_right m (show i + 1 ≤ n by omega)
    rw [Nat.succ_mul] at this
    exact this
  · rcases Nat.lt_or_gt_of_ne hne with h | h
    · have := Nat.mul_le_mul_right m (show i + 1 ≤ k by omega)
      rw [Nat.succ_mul] at this
      exact .inl this
    · have := Nat.mul_le_mul_right m (show k + 1 ≤ i by omega)
      rw [Nat.succ_mul] at this
      exact .inr this
/-- The rows' heads. -/
def HDS (w : World) (h g n m : Nat) (off : Nat → Nat) : Prop := w.rowIs h 38 n (fun i => .slice (some ⟨g, off i, none⟩) m m)
/-- A table: block h has the rows' heads, block g their numbers. -/
structure TAB (w : World) (h g n m : Nat) (off : Nat → Nat) (T : Tb) : Prop where
  ne : h ≠ g
  head : HDS w h g n m off
  shp : SHP n m off
  data : ∃ D, BLK w g (n * m) D ∧ ∀ i j, i < n → j < m → D (off i + j) = T i j
section
variable {w w' : World} {h g n m : Nat} {off : Nat → Nat} {T T' : Tb}
theorem TAB.hlt (t : TAB w h g n m off T) : h < w.heap.size := World.rowIs.lt t.head
theorem TAB.glt (t : TAB w h g n m off T) : g < w.heap.size := by obtain ⟨D, hD, _⟩ := t.data; exact hD.lt
theorem TAB.hcell (t : TAB w h g n m off T) {i : Nat} (hi : i < n) : w.cell? ⟨h, i, none⟩ = some (.slice (some ⟨g, off i, none⟩) m m) := World.rowIs.cell t.head hi
theorem TAB.hfrozen (t : TAB w h g n m off T) (i : Nat) : w.frozen? ⟨h, i, none⟩ = false := World.rowIs.frozen t.head i
theorem TAB.gfrozen (t : TAB w h g n m off T) (i : Nat) : w.frozen? ⟨g, i, none⟩ = false := by obtain ⟨D, hD, _⟩ := t.data; exact hD.frozen i
theorem TAB.cell (t : TAB w h g n m off T) {i j : Nat} (hi : i < n) (hj : j < m) : w.cell? ⟨g, off i + j, none⟩ = some (U (T i j)) := by
  obtain ⟨D, hD, e⟩ := t.data
  have := t.shp.inn i hi
  rw [hD.cell (by omega), e i j hi hj]
theorem TAB.congr (t : TAB w h g n m off T) (e : ∀ i j, i < n → j < m → T i j = T' i j) : TAB w h g n m off T' := by
  obtain ⟨D, hD, e0⟩ := t.data
  exact ⟨t.ne, t.head, t.shp, D, hD, fun i j hi hj => (e0 i j hi hj).trans (e i j hi hj)⟩
theorem TAB.of_blocks (t : TAB w h g n m off T) (eh : w'.heap[h]? = w.heap[h]?) (eg : w'.heap[g]? = w.heap[g]?) : TAB w' h g n m off T := by
  obtain ⟨D, hD, e0⟩ := t.data
  exact ⟨t.ne, World.rowIs.of_block t.head eh, t.shp, D, hD.of_block eg, e0⟩
theorem TAB.below (t : TAB w h g n m off T) (hb : Below w.heap.size w w') : TAB w' h g n m off T := t.of_blocks (hb.block h t.hlt) (hb.block g t.glt)
theorem TAB.drew (t : TAB w h g n m off T) : TAB w.drew h g n m off T := t.of_blocks rfl rfl
theorem TAB.drewN (t : TAB w h g n m off T) (k : Nat) : TAB (w.drewN k) h g n m off T := t.below (pw_below_drewN (Below.refl _ _) k)
theorem TAB.alloc (t : TAB w h g n m off T) (o : Obj) : TAB (w.alloc o) h g n m off T := t.below ((Below.refl _ _).alloc (Nat.le_refl _) o)
theorem TAB.set (t : TAB w h g n m off T) {i j : Nat} (hi : i < n) (hj : j < m) (x : G) : TAB (w.setCell ⟨g, off i + j, none⟩ (U x)) h g n m off (fun a b => if a = i ∧ b = j then x else T a b) := by
  obtain ⟨D, hD, e0⟩ := t.data
  refine ⟨t.ne, World.rowIs.setOther t.head t.ne _, t.shp, _, hD.set (off i + j) x, fun a b ha hb => ?_⟩
  by_cases e : off a + b = off i + j
  · have := t.shp.one ha hb hi hj e
    rw [if_pos e, if_pos this]
  · rw [if_neg e, if_neg (fun hh => e (by rw [hh.1, hh.2])), e0 a b ha hb]
theorem TAB.rc (t : TAB w h g n m off T) {i : Nat} (hi : i < n) : RC w (some ⟨g, off i, none⟩) (row m (T i)) := by
  obtain ⟨D, hD, e0⟩ := t.data
  have := hD.rc (t.shp.inn i hi)
  rw [row_ext (g := T i) fun j hj => e0 i j hi hj] at this
  exact this
theorem TAB.zero_n (t : TAB w h g n m off T) (hn : n = 0) (T' : Tb) : TAB w h g n m off T' := t.congr fun i j hi _ => by omega
end
theorem made_zero (e : TypeId) (N : Nat) (w : World) : BLK (w.alloc (.cells (madeCells #[.int .u8 0] N) 5)) w.heap.size N (fun _ => 0) := World.rowIs_made w _ N 5
end Go.Proofs.Ytjkmaobfpgfdnaa.Tab
end

/- matrix.bad, over the library's ContainsFunc and IndexFunc. -/
section
namespace Go.Proofs.Ytjkmaobfpgfdnaa.MBad
open Go.Proofs.Ytjkmaobfpgfdnaa Go.RowKit Go.Proofs.YtjkmaobfpgfdnaaW.PrintWords Go.Proofs.YtjkmaobfpgfdnaaW.PrintLast Go.Proofs.YtjkmaobfpgfdnaaW.PrintMore Go.Proofs.Ytjkmaobfpgfdnaa.Byt Go.Proofs.Ytjkmaobfpgfdnaa.Lin Go.Proofs.Ytjkmaobfpgfdnaa.Lin.G Go.Proofs.Ytjkmaobfpgfdnaa.Tab
set_option linter.unusedVariables false
set_option linter.unusedSimpArgs false
/-- Rows of bytes as they are read. -/
abbrev KM : Kd (List Int) := Kd.slice 5 (Kd.int .u8)
def rw_ (X : List (List Int)) (i : Nat) : List Int := X.getD i []
theorem mrow {w : World} {A : Option Addr} {n : Nat} {X : List (List Int)} (h : KM.C w A n X) {i : Nat} (hi : i < n) : ∃ ad Ai ci, A = some ad ∧ w.cell? (ad.add i) = some (.slice Ai (rw_ X i).length ci) ∧ (rw_ X i).length ≤ ci ∧ Kd.C (Kd.int .u8) w Ai (rw_ X i).length (rw_ X i) :=
  PMatrixInverses.at_L1 h (i : Int) (by omega) (by omega)
def iOf : Value → Int
  | .int _ x => x
  | _ => 0
set_option maxRecDepth 100000 in
set_option maxHeartbeats 8000000 in
theorem long_at (A : Option Addr) (n c : Nat) (hn : n ≤ 9223372036854775807) (W : World) : Calls Try.prog 43 #[.slice A n c] W fun e w' => e = .returned (.bool (decide (131072 < n))) ∧ w' = W := by
  by_cases h : 131072 < n
  · have h1 : (131072 : Int) < n := by omega
    go_enter Try.func43, Try.ntmps43
    go_wp2
    go_ret
    exact ⟨by simp [h], rfl⟩
  · have h1 : ¬ (131072 : Int) < n := by omega
    go_enter Try.func43, Try.ntmps43
    go_wp2
    go_ret
    exact ⟨by simp [h], rfl⟩
set_option maxRecDepth 100000 in
set_option maxHeartbeats 8000000 in
theorem other_at (A A0 : Option Addr) (n c n0 c0 g : Nat) (X : List (List Int)) (hn0 : 0 < n0) (W : World) (hg : W.heap[g]? = some (.cells #[.slice A0 n0 c0] 22 (0, 0))) (hX : KM.C W A0 n0 X) :
    Calls Try.prog 44 #[.slice A n c, .pointer (some ⟨g, 0, none⟩)] W fun e w' => e = .returned (.bool (decide (n ≠ (rw_ X 0).length))) ∧ w' = W := by
  obtain ⟨ad, Ai, ci, rfl, hx, _, _⟩ := mrow hX hn0
  have hx0 : W.cell? ad = some (.slice Ai (rw_ X 0).length ci) := by
    have e : ad.add 0 = ad := by obtain ⟨b, o, s⟩ := ad; cases s <;> simp [Addr.add]
    rwa [e] at hx
  have hc : W.cell? ⟨g, 0, none⟩ = some (.slice (some ad) n0 c0) := by rw [blk_cell hg]; rfl
  clear hX hg
  go_enter Try.func44, Try.ntmps44
  go_wp2
  go_ret
  refine ⟨?_, rfl⟩
  by_cases e : n = (rw_ X 0).length
  · rw [e]; simp
  · have e2 : ((n : Int) != ((rw_ X 0).length : Int)) = true := by simp; omega
    rw [e2]; simp [e]
set_option maxRecDepth 100000 in
set_option maxHeartbeats 8000000 in
theorem index_long (p : Nat → Bool) (A : Option Addr) (n c : Nat) (X : List (List Int)) (hn : n ≤ 9223372036854775807) (W : World) (hX : KM.C W A n X)
    (hp : ∀ i, i < n → ∀ Ai ci, Calls Try.prog 43 #[.slice Ai (rw_ X i).length ci] W fun e w' => e = .returned (.bool (p i)) ∧ w' = W) :
    Calls Try.prog 49 #[.slice A n c, .func (Fn.func 43) #[] #[]] W fun e w' => ∃ r : Int, e = .returned (.int .i64 r) ∧ ((r = -1 ∧ ∀ i, i < n → p i = false) ∨ ∃ i : Nat, i < n ∧ r = i ∧ p i = true) ∧ w' = W := by
  have HX := Lib.hid hX
  have HP := Lib.hid hp
  clear hX hp
  go_enter Try.func49, Try.ntmps49
  go_wp2
  go_loopw [8] (fun v8 wr => ∃ k : Nat, k ≤ n ∧ v8 = .int .i64 k ∧ (∀ i, i < k → p i = false) ∧ wr = W) (fun v8 _ => n - (iOf v8).toNat)
  case atStart => exact ⟨0, by omega, rfl, fun i hi => by omega, rfl⟩
  case round =>
    obtain ⟨k, hk, rfl, hf, rfl⟩ := hrel
    by_cases hlt : k < n
    · obtain ⟨ad, Ai, ci, rfl, hx, _, _⟩ := mrow HX.out hlt
      cases hpk : p k with
      | true =>
        have hpc := HP.out k hlt Ai ci
        rw [hpk] at hpc
        go_wp2_with (go_at_call 43; with_reducible refine hpc.mono ?_; rintro e w' ⟨rfl, rfl⟩)
        go_ret
        exact ⟨_, rfl, .inr ⟨k, hlt, rfl, hpk⟩, rfl⟩
      | false =>
        have hpc := HP.out k hlt Ai ci
        rw [hpk] at hpc
        go_wp2_with (go_at_call 43; with_reducible refine hpc.mono ?_; rintro e w' ⟨rfl, rfl⟩)
        go_roundw
        case rel =>
          refine ⟨k + 1, by omega, by go_num, fun i hi => ?_, by trivial⟩
          by_cases hik : i = k
          · rw [hik]; exact hpk
          · exact hf i (by omega)
        case measure => simp [iOf]; omega
    · go_wp2
      go_ret
      exact ⟨_, rfl, .inl ⟨rfl, fun i hi => hf i (by omega)⟩, rfl⟩
set_option maxRecDepth 100000 in
set_option maxHeartbeats 8000000 in
theorem contains_long (p : Nat → Bool) (A : Option Addr) (n c : Nat) (X : List (List Int)) (hn : n ≤ 9223372036854775807) (W : World) (hX : KM.C W A n X)
    (hp : ∀ i, i < n → ∀ Ai ci, Calls Try.prog 43 #[.slice Ai (rw_ X i).length ci] W fun e w' => e = .returned (.bool (p i)) ∧ w' = W) :
    Calls Try.prog 42 #[.slice A n c, .func (Fn.func 43) #[] #[]] W fun e w' => e = .returned (.bool ((List.range n).any p)) ∧ w' = W := by
  have hc := index_long p A n c X hn W hX hp
  clear hX hp
  go_enter Try.func42, Try.ntmps42
  go_wp2_with (go_at_call 49; with_reducible refine hc.mono ?_; rintro e w' ⟨r, rfl, hr, rfl⟩; rcases hr with ⟨rfl, hf⟩ | ⟨i, hi, rfl, ht⟩)
  · go_ret
    refine ⟨?_, rfl⟩
    have : (List.range n).any p = false := by
      rw [List.any_eq_false]
      intro i hi
      rw [hf i (List.mem_range.1 hi)]
      decide
    rw [this]
    simp
  · go_ret
    refine ⟨?_, rfl⟩
    have : (List.range n).any p = true := List.any_eq_true.2 ⟨i, List.mem_range.2 hi, ht⟩
    rw [this]
    simp
set_option maxRecDepth 100000 in
set_option maxHeartbeats 8000000 in
theorem index_other (g : Nat) (p : Nat → Bool) (A : Option Addr) (n c : Nat) (X : List (List Int)) (hn : n ≤ 9223372036854775807) (W : World) (hX : KM.C W A n X)
    (hp : ∀ i, i < n → ∀ Ai ci, Calls Try.prog 44 #[.slice Ai (rw_ X i).length ci, .pointer (some ⟨g, 0, none⟩)] W fun e w' => e = .returned (.bool (p i)) ∧ w' = W) :
    Calls Try.prog 49 #[.slice A n c, .func (Fn.func 44) #[] #[.pointer (some ⟨g, 0, none⟩)]] W fun e w' => ∃ r : Int, e = .returned (.int .i64 r) ∧ ((r = -1 ∧ ∀ i, i < n → p i = false) ∨ ∃ i : Nat, i < n ∧ r = i ∧ p i = true) ∧ w' = W := by
  have HX := Lib.hid hX
  have HP := Lib.hid hp
  clear hX hp
  go_enter Try.func49, Try.ntmps49
  go_wp2
  go_loopw [8] (fun v8 wr => ∃ k : Nat, k ≤ n ∧ v8 = .int .i64 k ∧ (∀ i, i < k → p i = false) ∧ wr = W) (fun v8 _ => n - (iOf v8).toNat)
  case atStart => exact ⟨0, by omega, rfl, fun i hi => by omega, rfl⟩
  case round =>
    obtain ⟨k, hk, rfl, hf, rfl⟩ := hrel
    by_cases hlt : k < n
    · obtain ⟨ad, Ai, ci, rfl, hx, _, _⟩ := mrow HX.out hlt
      cases hpk : p k with
      | true =>
        have hpc := HP.out k hlt Ai ci
        rw [hpk] at hpc
        go_wp2_with (go_at_call 44; with_reducible refine hpc.mono ?_; rintro e w' ⟨rfl, rfl⟩)
        go_ret
        exact ⟨_, rfl, .inr ⟨k, hlt, rfl, hpk⟩, rfl⟩
      | false =>
        have hpc := HP.out k hlt Ai ci
        rw [hpk] at hpc
        go_wp2_with (go_at_call 44; with_reducible refine hpc.mono ?_; rintro e w' ⟨rfl, rfl⟩)
        go_roundw
        case rel =>
          refine ⟨k + 1, by omega, by go_num, fun i hi => ?_, by trivial⟩
          by_cases hik : i = k
          · rw [hik]; exact hpk
          · exact hf i (by omega)
        case measure => simp [iOf]; omega
    · go_wp2
      go_ret
      exact ⟨_, rfl, .inl ⟨rfl, fun i hi => hf i (by omega)⟩, rfl⟩
set_option maxRecDepth 100000 in
set_option maxHeartbeats 8000000 in
theorem contains_other (g : Nat) (p : Nat → Bool) (A : Option Addr) (n c : Nat) (X : List (List Int)) (hn : n ≤ 9223372036854775807) (W : World) (hX : KM.C W A n X)
    (hp : ∀ i, i < n → ∀ Ai ci, Calls Try.prog 44 #[.slice Ai (rw_ X i).length ci, .pointer (some ⟨g, 0, none⟩)] W fun e w' => e = .returned (.bool (p i)) ∧ w' = W) :
    Calls Try.prog 42 #[.slice A n c, .func (Fn.func 44) #[] #[.pointer (some ⟨g, 0, none⟩)]] W fun e w' => e = .returned (.bool ((List.range n).any p)) ∧ w' = W := by
  have hc := index_other g p A n c X hn W hX hp
  clear hX hp
  go_enter Try.func42, Try.ntmps42
  go_wp2_with (go_at_call 49; with_reducible refine hc.mono ?_; rintro e w' ⟨r, rfl, hr, rfl⟩; rcases hr with ⟨rfl, hf⟩ | ⟨i, hi, rfl, ht⟩)
  · go_ret
    refine ⟨?_, rfl⟩
    have : (List.range n).any p = false := by
      rw [List.any_eq_false]
      intro i hi
      rw [hf i (List.mem_range.1 hi)]
      decide
    rw [this]
    simp
  · go_ret
    refine ⟨?_, rfl⟩
    have : (List.range n).any p = true := List.any_eq_true.2 ⟨i, List.mem_range.2 hi, ht⟩
    rw [this]
    simp
/-- What is wrong with a matrix. -/
def badS (X : List (List Int)) : Int :=
  if 32 < X.length then 2 else if (List.range X.length).any (fun i => decide (131072 < (rw_ X i).length)) then 2 else if (List.range X.length).any (fun i => decide ((rw_ X i).length ≠ (rw_ X 0).length)) then 6 else 0
theorem C_mx {w : World} {A : Option Addr} {n : Nat} {X : List (List Int)} (h : KM.C w A n X) : X.length = n := h.1
set_option maxRecDepth 100000 in
set_option maxHeartbeats 8000000 in
theorem bad_any (A : Option Addr) (c : Nat) (X : List (List Int)) (W : World) (hX : KM.C W A X.length X) (hn : X.length ≤ 9223372036854775807) (hm : ∀ i, i < X.length → (rw_ X i).length ≤ 9223372036854775807) :
    Calls Try.prog 30 #[.slice A X.length c] W fun e w' => e = .returned (.int .i64 (badS X)) ∧ Below W.heap.size W w' := by
  obtain ⟨n, hnn⟩ : ∃ n, n = X.length := ⟨_, rfl⟩
  have HX := Lib.hid (Kd.C_alloc hX (.cells #[.slice A X.length c] 22))
  have HG := Lib.hid (blk_new W (.cells #[.slice A X.length c] 22))
  have HB := Lib.hid ((Below.refl W.heap.size W).alloc (Nat.le_refl _) (.cells #[.slice A X.length c] 22))
  have HM := Lib.hid hm
  obtain ⟨r, hr⟩ : ∃ r, r = badS X := ⟨_, rfl⟩
  rw [← hr]
  unfold badS at hr
  rw [← hnn] at hn hr HX HG HB HM ⊢
  clear hnn hX hm
  by_cases h32 : 32 < n
  · rw [if_pos h32] at hr
    subst hr
    have h1 : (32 : Int) < n := by omega
    go_enter Try.func30, Try.ntmps30
    go_wp2
    go_ret
    exact ⟨rfl, HB.out⟩
  · rw [if_neg h32] at hr
    have h1 : ¬ (32 : Int) < n := by omega
    have H1 := Lib.hid (contains_long (fun i => decide (131072 < (rw_ X i).length)) A n c X hn _ HX.out fun i hi Ai ci => long_at Ai (rw_ X i).length ci (HM.out i hi) _)
    by_cases hl : (List.range n).any (fun i => decide (131072 < (rw_ X i).length)) = true
    · rw [if_pos hl] at hr
      rw [hl] at H1
      subst hr
      go_enter Try.func30, Try.ntmps30
      go_wp2_with (go_at_call 42; with_reducible refine H1.out.mono ?_; rintro e w' ⟨rfl, rfl⟩)
      go_ret
      exact ⟨rfl, HB.out⟩
    · rw [if_neg hl] at hr
      have hl' := Bool.eq_false_iff.2 hl
      rw [hl'] at H1
      by_cases h0 : n = 0
      · subst h0
        rw [if_neg (by simp)] at hr
        subst hr
        have H2 := Lib.hid (contains_other W.heap.size (fun _ => true) A 0 c X hn _ HX.out fun i hi Ai ci => absurd hi (by omega))
        go_enter Try.func30, Try.ntmps30
        go_wp2_with (first
          | (go_at_call 42; with_reducible refine H1.out.mono ?_; rintro e w' ⟨rfl, rfl⟩)
          | (go_at_call 42; with_reducible refine H2.out.mono ?_; rintro e w' ⟨rfl, rfl⟩))
        go_ret
        exact ⟨rfl, HB.out⟩
      · have H2 := Lib.hid (contains_other W.heap.size (fun i => decide ((rw_ X i).length ≠ (rw_ X 0).length)) A n c X hn _ HX.out fun i hi Ai ci => other_at Ai A (rw_ X i).length ci n c W.heap.size X (by omega) _ HG.out HX.out)
        obtain ⟨q, hq⟩ : ∃ q, q = (List.range n).any (fun i => decide ((rw_ X i).length ≠ (rw_ X 0).length)) := ⟨_, rfl⟩
        rw [← hq] at hr H2
        clear hq
        cases q with
        | true =>
          rw [if_pos rfl] at hr
          subst hr
          go_enter Try.func30, Try.ntmps30
          go_wp2_with (first
            | (go_at_call 42; with_reducible refine H1.out.mono ?_; rintro e w' ⟨rfl, rfl⟩)
            | (go_at_call 42; with_reducible refine H2.out.mono ?_; rintro e w' ⟨rfl, rfl⟩))
          go_ret
          exact ⟨rfl, HB.out⟩
        | false =>
          rw [if_neg (by decide)] at hr
          subst hr
          go_enter Try.func30, Try.ntmps30
          go_wp2_with (first
            | (go_at_call 42; with_reducible refine H1.out.mono ?_; rintro e w' ⟨rfl, rfl⟩)
            | (go_at_call 42; with_reducible refine H2.out.mono ?_; rintro e w' ⟨rfl, rfl⟩))
          go_ret
          exact ⟨rfl, HB.out⟩
end Go.Proofs.Ytjkmaobfpgfdnaa.MBad
end

/- matrix.add: c times a row put to a row that lies anywhere in a block of numbers. -/
section
namespace Go.Proofs.Ytjkmaobfpgfdnaa.MAdd
open Go.Proofs.Ytjkmaobfpgfdnaa Go.RowKit Go.Proofs.YtjkmaobfpgfdnaaW.PrintWords Go.Proofs.YtjkmaobfpgfdnaaW.PrintLast Go.Proofs.YtjkmaobfpgfdnaaW.PrintMore Go.Proofs.Ytjkmaobfpgfdnaa.Byt Go.Proofs.Ytjkmaobfpgfdnaa.Lin Go.Proofs.Ytjkmaobfpgfdnaa.Lin.G Go.Proofs.Ytjkmaobfpgfdnaa.Tab
set_option linter.unusedVariables false
set_option linter.unusedSimpArgs false

/-- What lies in the block when k numbers of b, c times each, have been put to the row at o. -/
def addD (D : Nat → G) (o : Nat) (c : G) (b : Nat → G) (k : Nat) : Nat → G := fun x => if o ≤ x ∧ x < o + k then D x + c * b (x - o) else D x
theorem addD_zero (D : Nat → G) (o : Nat) (c : G) (b : Nat → G) : addD D o c b 0 = D := by
  funext x; unfold addD; rw [if_neg (by omega)]
theorem addD_at (D : Nat → G) (o : Nat) (c : G) (b : Nat → G) (k : Nat) : addD D o c b k (o + k) = D (o + k) := if_neg (by omega)
theorem addD_succ (D : Nat → G) (o : Nat) (c : G) (b : Nat → G) (k : Nat) : addD D o c b (k + 1) = fun x => if x = o + k then D (o + k) + c * b k else addD D o c b k x := by
  funext x
  unfold addD
  by_cases h : x = o + k
  · subst h
    rw [if_pos (by omega), if_pos rfl, show o + k - o = k by omega]
  · rw [if_neg h]
    by_cases h2 : o ≤ x ∧ x < o + k
    · rw [if_pos (by omega), if_pos h2]
    · rw [if_neg (by omega), if_neg h2]
theorem addD_nought (D : Nat → G) (o : Nat) (b : Nat → G) (k : Nat) : addD D o 0 b k = D := by
  funext x
  unfold addD
  split
  · rw [zero_mul, add_zero]
  · rfl
/-- The row that is added lies elsewhere: it stays as it is while the other one grows. -/
def Away (B : Option Addr) (n g o : Nat) : Prop := ∀ ad, B = some ad → ad.block ≠ g ∨ ∃ o', ad = ⟨g, o', none⟩ ∧ (o' + n ≤ o ∨ o + n ≤ o')
theorem rc_away {w w' : World} {B : Option Addr} {l : List Int} {g N o : Nat} {D : Nat → G} {c : G} {b : Nat → G} {k : Nat} (h : RC w B l) (ha : l ≠ [] → Away B l.length g o) (hD : BLK w g N D) (hw : Wrote g w w') (hD' : BLK w' g N (addD D o c b k)) (hk : k ≤ l.length)
    (hN : l ≠ [] → ∀ o', B = some ⟨g, o', none⟩ → o' + l.length ≤ N) : RC w' B l := by
  intro hl
  obtain ⟨a, rfl, hs, hc⟩ := h hl
  refine ⟨a, rfl, Nat.lt_of_lt_of_le hs hw.size, fun j hj => ?_⟩
  rcases ha hl a rfl with hb | ⟨o', rfl, ho⟩
  · rw [World.cell?_of_block (w := w) (by rw [Byt.add_block]; exact hw.block _ hs hb)]
    exact hc j hj
  · have hn := hN hl o' rfl
    have h1 := hc j hj
    rw [Addr.add_mid] at h1 ⊢
    rw [hD.cell (by omega)] at h1
    rw [hD'.cell (by omega), ← h1]
    unfold addD
    rw [if_neg (by omega)]
def iOf : Value → Int
  | .int _ x => x
  | _ => 0
set_option maxRecDepth 100000 in
set_option maxHeartbeats 8000000 in
theorem add_any (g N o la ca cb : Nat) (D : Nat → G) (B : Option Addr) (l : List Int) (c : G) (W : World) (hD : BLK W g N D) (hB : RC W B l) (hby : Bytes l) (hl : l.length ≤ la) (ho : o + la ≤ N) (hla : la ≤ ca) (hlb : l.length ≤ cb)
    (hap : l ≠ [] → Away B l.length g o) (hN : l ≠ [] → ∀ o', B = some ⟨g, o', none⟩ → o' + l.length ≤ N) (hmx : N ≤ 4611686018427387904) :
    Calls Try.prog 33 #[.slice (some ⟨g, o, none⟩) la ca, .slice B l.length cb, U c] W fun e w' => e = .returned (.tuple #[]) ∧ BLK w' g N (addD D o c (fun j => gv (bn l j)) l.length) ∧ Wrote g W w' := by
  obtain ⟨b, hb⟩ : ∃ b, b = fun j => gv (bn l j) := ⟨_, rfl⟩
  rw [← hb]
  obtain ⟨n, hn⟩ : ∃ n, n = l.length := ⟨_, rfl⟩
  have HD := Lib.hid hD
  have HB := Lib.hid hB
  have HY := Lib.hid hby
  have HA := Lib.hid hap
  have HN := Lib.hid hN
  have Hb := Lib.hid hb
  have Hn := Lib.hid hn
  rw [← hn] at hl hlb ⊢
  clear hD hB hby hap hN hb hn
  by_cases c0 : c = 0
  · subst c0
    go_enter Try.func33, Try.ntmps33
    go_wp2
    go_end0
    exact ⟨rfl, by rw [addD_nought]; exact HD.out, Wrote.refl _ _⟩
  · have c0b : ((c.v : Int) == 0) = false := by
      have := ne_v c0
      simp; omega
    by_cases c1 : c = 1
    · subst c1
      go_enter Try.func33, Try.ntmps33
      go_wp2
      go_loopw [34] (fun v34 wr => ∃ k : Nat, k ≤ n ∧ v34 = .int .i64 k ∧ BLK wr g N (addD D o 1 b k) ∧ Wrote g W wr) (fun v34 _ => n - (iOf v34).toNat)
      case atStart => exact ⟨0, by omega, rfl, by rw [addD_zero]; exact HD.out, Wrote.refl _ _⟩
      case round =>
        obtain ⟨k, hk, rfl, hd, hw⟩ := hrel
        have HDr := Lib.hid hd
        have HW := Lib.hid hw
        clear hd hw
        by_cases hlt : k < n
        · have hrc := rc_away HB.out HA.out HD.out HW.out HDr.out (by rw [← Hn.out]; omega) HN.out
          obtain ⟨ad, eB, hx⟩ := byte_at (hrc.to_C (by rw [← Hn.out]; omega)) k (by rw [← Hn.out]; omega)
          have hxb : bn l k = ((b k).v : Int) := by rw [Hb.out]; exact (gv_v (HY.out k)).symm
          rw [hxb] at hx
          subst eB
          have hy := HDr.out.cell (i := o + k) (by omega)
          rw [addD_at] at hy
          have hf := HDr.out.frozen (o + k)
          have hxr := xor_g (D (o + k)) (b k)
          clear hrc hxb
          have hkla : k < la := by omega
          go_wp2
          go_roundw
          case rel =>
            refine ⟨k + 1, by omega, by go_num, ?_, wrote_setCell HW.out (o + k) _⟩
            rw [addD_succ, one_mul]
            exact HDr.out.set (o + k) _
          case measure => simp [iOf]; omega
        · obtain rfl : k = n := by omega
          go_wp2
          go_end0
          exact ⟨rfl, HDr.out, HW.out⟩
    · have c1b : ((c.v : Int) == 1) = false := by
        have : c.v ≠ 1 := fun h => c1 (ext h)
        simp; omega
      go_enter Try.func33, Try.ntmps33
      go_wp2
      go_loopw [13] (fun v13 wr => ∃ k : Nat, k ≤ n ∧ v13 = .int .i64 k ∧ BLK wr g N (addD D o c b k) ∧ Wrote g W wr) (fun v13 _ => n - (iOf v13).toNat)
      case atStart => exact ⟨0, by omega, rfl, by rw [addD_zero]; exact HD.out, Wrote.refl _ _⟩
      case round =>
        obtain ⟨k, hk, rfl, hd, hw⟩ := hrel
        have HDr := Lib.hid hd
        have HW := Lib.hid hw
        clear hd hw
        by_cases hlt : k < n
        · have hrc := rc_away HB.out HA.out HD.out HW.out HDr.out (by rw [← Hn.out]; omega) HN.out
          obtain ⟨ad, eB, hx⟩ := byte_at (hrc.to_C (by rw [← Hn.out]; omega)) k (by rw [← Hn.out]; omega)
          have hxb : bn l k = ((b k).v : Int) := by rw [Hb.out]; exact (gv_v (HY.out k)).symm
          rw [hxb] at hx
          subst eB
          have hy := HDr.out.cell (i := o + k) (by omega)
          rw [addD_at] at hy
          have hf := HDr.out.frozen (o + k)
          have hxr := xor_g (D (o + k)) (c * b k)
          clear hrc hxb
          have hkla : k < la := by omega
          go_wp2
          refine start_ (n := 10) (S := fun w' => w'.cell? ⟨g, o + k, none⟩ = some (.int .u8 ((D (o + k)).v : Int))) (ds := [9]) #[false, false, false, false, false, false, false, false, false, false] (by kernel_rfl) rfl rfl (hy) (fun hHeld => ?_)
          refine pure_ (i := 0) (N := some 18) (v := ?_) (a' := ?_) #[true, false, false, false, false, false, false, false, false, false] rfl rfl (by kernel_rfl) (fun _ _ _ h => h) (Or.inl ⟨by rfl, ?_⟩) ?_ ?_
          rotate_left
          · intro w'
            go_simp
            (first | (with_reducible rfl) | ((try simp only [*]); (with_reducible rfl)))
          rotate_left
          · simp only [Act.put, List.setIfInBounds_toArray, List.set_cons_zero, List.set_cons_succ, i64_w, i32_w]
            rfl
          refine pure_ (i := 1) (N := some 19) (v := ?_) (a' := ?_) #[true, true, false, false, false, false, false, false, false, false] rfl rfl (by kernel_rfl) (fun _ _ _ h => h) (Or.inl ⟨by rfl, ?_⟩) ?_ ?_
          rotate_left
          · intro w'
            go_simp
            (first | (with_reducible rfl) | ((try simp only [*]); (with_reducible rfl)))
          rotate_left
          · simp only [Act.put, List.setIfInBounds_toArray, List.set_cons_zero, List.set_cons_succ, i64_w, i32_w]
            rfl
          refine pure_ (i := 2) (N := some 20) (v := ?_) (a' := ?_) #[true, true, true, false, false, false, false, false, false, false] rfl rfl (by kernel_rfl) (fun _ _ _ h => h) (Or.inl ⟨by rfl, ?_⟩) ?_ ?_
          rotate_left
          · intro w'
            go_simp
            (first | (with_reducible rfl) | ((try simp only [*]); (with_reducible rfl)))
          rotate_left
          · simp only [Act.put, List.setIfInBounds_toArray, List.set_cons_zero, List.set_cons_succ, i64_w, i32_w]
            rfl
          refine pure_ (i := 4) (N := some 22) (v := ?_) (a' := ?_) #[true, true, true, false, true, false, false, false, false, false] rfl rfl (by kernel_rfl) (fun _ _ _ h => h) (Or.inl ⟨by rfl, ?_⟩) ?_ ?_
          rotate_left
          · intro w'
            go_simp
            (first | (with_reducible rfl) | ((try simp only [*]); (with_reducible rfl)))
          rotate_left
          · simp only [Act.put, List.setIfInBounds_toArray, List.set_cons_zero, List.set_cons_succ, i64_w, i32_w]
            rfl
          refine pure_ (i := 5) (N := some 23) (v := ?_) (a' := ?_) #[true, true, true, false, true, true, false, false, false, false] rfl rfl (by kernel_rfl) (fun _ _ _ h => h) (Or.inl ⟨by rfl, ?_⟩) ?_ ?_
          rotate_left
          · intro w'
            go_simp
            (first | (with_reducible rfl) | ((try simp only [*]); (with_reducible rfl)))
          rotate_left
          · simp only [Act.put, List.setIfInBounds_toArray, List.set_cons_zero, List.set_cons_succ, i64_w, i32_w]
            rfl
          refine take_ (i := 3) (N := some 21) (v := ?_) (a' := ?_) #[true, true, true, true, true, true, false, false, false, false] rfl rfl (by kernel_rfl) (fun _ _ _ h => h) (Or.inl ⟨by rfl, ?_⟩) hHeld ?_ ?_
          rotate_left
          · intro w' s0
            go_simp
            (first | (with_reducible rfl) | ((try simp only [*]); (with_reducible rfl)))
          rotate_left
          · simp only [Act.put, List.setIfInBounds_toArray, List.set_cons_zero, List.set_cons_succ, i64_w, i32_w]
            rfl
          refine one_ (i := 6) (N := some 24) #[true, true, true, true, true, true, true, false, false, false] rfl rfl (by kernel_rfl) (by decide) (fun K hK => ?_)
          refine goes_ Try.func40 (by kernel_rfl) rfl #[.int .u8 (c.v : Int), .int .u8 ((b k).v : Int)] (by rfl) rfl rfl (by (try simp only [List.map_toArray, List.map_cons, List.map_nil]); first | done | rfl) ?_
          with_reducible refine (mul_g c (b k) _).mono ?_
          rintro e w' ⟨rfl, ⟨nd, rfl⟩⟩
          refine ⟨_, rfl, ?_⟩
          refine hK.out _ _ (hHeld) (fun hHeld => ?_)
          clear hK K
          refine norm_ (a' := ?_) ?_ ?_
          rotate_left
          · show Act.put _ (some 24) _ = _
            simp only [Act.put, List.setIfInBounds_toArray, List.set_cons_zero, List.set_cons_succ, i64_w, i32_w]
            rfl
          refine pure_ (i := 7) (N := some 25) (v := ?_) (a' := ?_) #[true, true, true, true, true, true, true, true, false, false] rfl rfl (by kernel_rfl) (fun _ _ _ h => h) (Or.inl ⟨by rfl, ?_⟩) ?_ ?_
          rotate_left
          · intro w'
            go_simp
            (first | (with_reducible rfl) | ((try simp only [*]); (with_reducible rfl)))
          rotate_left
          · simp only [Act.put, List.setIfInBounds_toArray, List.set_cons_zero, List.set_cons_succ, i64_w, i32_w]
            rfl
          refine pure_ (i := 8) (N := some 26) (v := ?_) (a' := ?_) #[true, true, true, true, true, true, true, true, true, false] rfl rfl (by kernel_rfl) (fun _ _ _ h => h) (Or.inl ⟨by rfl, ?_⟩) ?_ ?_
          rotate_left
          · intro w'
            go_simp
            (first | (with_reducible rfl) | ((try simp only [*]); (with_reducible rfl)))
          rotate_left
          · simp only [Act.put, List.setIfInBounds_toArray, List.set_cons_zero, List.set_cons_succ, i64_w, i32_w]
            rfl
          refine last_ (i := 9) (N := none) #[true, true, true, true, true, true, true, true, true, true] rfl rfl (by kernel_rfl) (by decide) (fun K hK => ?_)
          refine skip_ (w1 := ?_) (by rfl) rfl ?_ ?_
          rotate_left
          · go_simp
            rfl
          refine hK.out _ _ ?_
          clear hK K
          refine done_ (by kernel_rfl) ?_
          go_wp2
          go_roundw
          case rel =>
            refine ⟨k + 1, by omega, by go_num, ?_, wrote_setCell (HW.out.trans (Wrote.of_below (pw_below_drewN (Below.refl _ _) _))) (o + k) _⟩
            rw [addD_succ]
            exact (HDr.out.drewN _).set (o + k) _
          case measure => simp [iOf]; omega
        · obtain rfl : k = n := by omega
          go_wp2
          go_end0
          exact ⟨rfl, HDr.out, HW.out⟩
/-- The same for a row of a table. -/
theorem tab_add {W : World} {h g n m : Nat} {off : Nat → Nat} {T : Tb} (t : TAB W h g n m off T) (i : Nat) (hi : i < n) (B : Option Addr) (l : List Int) (cb : Nat) (c : G) (hB : RC W B l) (hby : Bytes l) (hl : l.length ≤ m) (hlb : l.length ≤ cb)
    (hap : l ≠ [] → ∀ ad, B = some ad → ad.block ≠ g ∨ ∃ k, k < n ∧ k ≠ i ∧ ad = ⟨g, off k, none⟩) (hmx : n * m ≤ 4611686018427387904) :
    Calls Try.prog 33 #[.slice (some ⟨g, off i, none⟩) m m, .slice B l.length cb, U c] W fun e w' => e = .returned (.tuple #[]) ∧ TAB w' h g n m off (fun a j => if a = i ∧ j < l.length then T a j + c * gv (bn l j) else T a j) ∧ Wrote g W w' := by
  obtain ⟨D, hD, e0⟩ := t.data
  have hin := t.shp.inn
  have hA : l ≠ [] → Away B l.length g (off i) := fun h ad e => by
    rcases hap h ad e with h1 | ⟨k, hk, hki, rfl⟩
    · exact .inl h1
    · rcases t.shp.apart k i hk hi hki with h2 | h2
      · exact .inr ⟨_, rfl, .inl (by omega)⟩
      · exact .inr ⟨_, rfl, .inr (by omega)⟩
  have hN : l ≠ [] → ∀ o', B = some ⟨g, o', none⟩ → o' + l.length ≤ n * m := fun h o' e => by
    rcases hap h _ e with h1 | ⟨k, hk, _, e2⟩
    · exact absurd rfl h1
    · cases e2
      have := hin k hk
      omega
  refine (add_any g (n * m) (off i) m m cb D B l c W hD hB hby hl (hin i hi) (Nat.le_refl _) hlb hA hN hmx).mono fun e w' hh => ?_
  obtain ⟨he, hb, hw⟩ := hh
  refine ⟨he, ⟨t.ne, World.rowIs.of_block t.head (hw.block h t.hlt t.ne), t.shp, _, hb, fun a j ha hj => ?_⟩, hw⟩
  unfold addD
  by_cases hai : a = i
  · subst hai
    by_cases hjl : j < l.length
    · rw [if_pos (by omega), if_pos ⟨rfl, hjl⟩, e0 a j ha hj, show off a + j - off a = j by omega]
    · rw [if_neg (by omega), if_neg (by omega), e0 a j ha hj]
  · have := t.shp.apart a i ha hi hai
    rw [if_neg (by omega), if_neg (by omega), e0 a j ha hj]
/-- The same, the row's numbers and length named. -/
theorem tab_add2 {W : World} {h g n m : Nat} {off : Nat → Nat} {T : Tb} (t : TAB W h g n m off T) (i : Nat) (hi : i < n) (B : Option Addr) (l : List Int) (p cb : Nat) (b : Nat → G) (c : G) (hB : RC W B l) (hlp : l.length = p) (hbn : ∀ j, bn l j = ((b j).v : Int)) (hl : p ≤ m) (hlb : p ≤ cb)
    (hap : l ≠ [] → ∀ ad, B = some ad → ad.block ≠ g ∨ ∃ k, k < n ∧ k ≠ i ∧ ad = ⟨g, off k, none⟩) (hmx : n * m ≤ 4611686018427387904) :
    Calls Try.prog 33 #[.slice (some ⟨g, off i, none⟩) m m, .slice B p cb, U c] W fun e w' => e = .returned (.tuple #[]) ∧ TAB w' h g n m off (fun a j => if a = i ∧ j < p then T a j + c * b j else T a j) ∧ Wrote g W w' := by
  subst hlp
  have hby : Bytes l := fun j => by rw [hbn j]; exact v_range _
  have e : (fun a j => if a = i ∧ j < l.length then T a j + c * gv (bn l j) else T a j) = (fun a j => if a = i ∧ j < l.length then T a j + c * b j else T a j) := by
    funext a j
    rw [hbn j, gv_val]
  rw [← e]
  exact tab_add t i hi B l cb c hB hby hl hlb hap hmx
end Go.Proofs.Ytjkmaobfpgfdnaa.MAdd
end

/- matrix.table: n rows of m numbers, all nought, side by side in new memory. -/
section
namespace Go.Proofs.Ytjkmaobfpgfdnaa.MTable
open Go.Proofs.Ytjkmaobfpgfdnaa Go.RowKit Go.Proofs.YtjkmaobfpgfdnaaW.PrintWords Go.Proofs.YtjkmaobfpgfdnaaW.PrintLast Go.Proofs.YtjkmaobfpgfdnaaW.PrintMore Go.Proofs.Ytjkmaobfpgfdnaa.Byt Go.Proofs.Ytjkmaobfpgfdnaa.Lin Go.Proofs.Ytjkmaobfpgfdnaa.Lin.G Go.Proofs.Ytjkmaobfpgfdnaa.Tab
set_option linter.unusedVariables false
set_option linter.unusedSimpArgs false
def iOf : Value → Int
  | .int _ x => x
  | _ => 0
set_option maxRecDepth 100000 in
set_option maxHeartbeats 8000000 in
theorem table_any (n m : Nat) (hn : n ≤ 1048576) (hm : m ≤ 1048576) (W : World) :
    Calls Try.prog 32 #[.int .i64 n, .int .i64 m] W fun e w' => ∃ h g, e = .returned (.slice (some ⟨h, 0, none⟩) n n) ∧ W.heap.size ≤ h ∧ W.heap.size ≤ g ∧ TAB w' h g n m (fun i => i * m) (fun _ _ => 0) ∧ Below W.heap.size W w' := by
  have hnm : n * m ≤ 1099511627776 := Nat.le_trans (Nat.mul_le_mul hn hm) (by decide)
  obtain ⟨N, hN⟩ : ∃ N, N = n * m := ⟨_, rfl⟩
  rw [← hN] at hnm
  have HN := Lib.hid hN
  have hw1 : IntKind.i64.wrap ((n : Int) * (m : Int)) = ((N : Nat) : Int) := by rw [IntKind.wrap_i64, hN, Int.natCast_mul]; omega
  have hmk1 := print_make_of (P := Try.prog) 38 5 (.int .u8 0) 1 Try.underlying38 Byt.info5 rfl (by decide) N (by omega)
  have hmk2 := print_make_of (P := Try.prog) 22 38 (.slice none 0 0) 24 Try.underlying22 infoR rfl (by decide) n (by omega)
  clear hN
  go_enter Try.func32, Try.ntmps32
  go_wp2
  go_loopw [16] (fun v16 wr => ∃ k : Nat, k ≤ n ∧ v16 = .int .i64 k ∧ wr.rowIs (W.heap.size + 1) 38 n (fun i => if i < k then .slice (some ⟨W.heap.size, i * m, none⟩) m m else .slice none 0 0) ∧ BLK wr W.heap.size N (fun _ => 0) ∧ Below W.heap.size W wr) (fun v16 _ => n - (iOf v16).toNat)
  case atStart =>
    have hb1 := (Below.refl W.heap.size W).alloc (Nat.le_refl _) (.cells (madeCells #[.int .u8 0] N) 5)
    refine ⟨0, by omega, rfl, ?_, (made_zero 5 N W).below ((Below.refl _ _).alloc (Nat.le_refl _) _), hb1.alloc hb1.size _⟩
    have := World.rowIs_made (W.alloc (.cells (madeCells #[.int .u8 0] N) 5)) (.slice none 0 0) n 38
    rw [show (W.alloc (.cells (madeCells #[.int .u8 0] N) 5)).heap.size = W.heap.size + 1 by simp] at this
    exact World.rowIs.congr this fun i hi => by rw [if_neg (by omega)]
  case round =>
    obtain ⟨k, hk, rfl, hh, hd, hb⟩ := hrel
    have HH := Lib.hid hh
    have HD := Lib.hid hd
    have HB := Lib.hid hb
    clear hh hd hb
    by_cases hlt : k < n
    · have hx := World.rowIs.cell HH.out hlt
      have hf := World.rowIs.frozen HH.out k
      rw [if_neg (by omega)] at hx
      have hin := (shp_rows n m).inn k hlt
      rw [← HN.out] at hin
      obtain ⟨o, ho⟩ : ∃ o, o = k * m := ⟨_, rfl⟩
      rw [← ho] at hin
      have HO := Lib.hid ho
      have q1 : IntKind.i64.wrap ((k : Int) * (m : Int)) = ((o : Nat) : Int) := by rw [← Int.natCast_mul, ← ho, IntKind.wrap_i64]; omega
      have q2' : ((k : Int) + 1) * (m : Int) = ((o + m : Nat) : Int) := by rw [Int.add_mul, Int.one_mul, ← Int.natCast_mul, ← ho]; omega
      have q2 : wrap64 (((k : Int) + 1) * (m : Int)) = ((o + m : Nat) : Int) := by rw [q2']; unfold wrap64; omega
      have q3 : IntKind.i64.wrap (((k : Int) + 1) * (m : Int)) = ((o + m : Nat) : Int) := by rw [q2', IntKind.wrap_i64]; omega
      have HMO := Lib.hid (show m = 0 → o = 0 from fun h0 => by rw [ho, h0, Nat.mul_zero])
      clear ho q2'
      go_wp2
      go_roundw
      case rel =>
        have e : (if m = 0 then (some ⟨W.heap.size, 0, none⟩ : Option Addr) else some ⟨W.heap.size, o, none⟩) = some ⟨W.heap.size, k * m, none⟩ := by
          rw [← HO.out]
          split
          · rename_i h0; rw [HMO.out h0]
          · rfl
        refine ⟨k + 1, by omega, by go_num, ?_, World.rowIs.setOther HD.out (show W.heap.size ≠ W.heap.size + 1 by omega) _, HB.out.setCell (show W.heap.size ≤ W.heap.size + 1 by omega) _⟩
        rw [e]
        refine World.rowIs.congr (World.rowIs.set HH.out k _) fun i hi => ?_
        by_cases hik : i = k
        · subst hik
          rw [if_pos rfl, if_pos (by omega)]
        · rw [if_neg hik]
          by_cases hlk : i < k
          · rw [if_pos hlk, if_pos (by omega)]
          · rw [if_neg hlk, if_neg (by omega)]
      case measure => simp [iOf]; omega
    · obtain rfl : k = n := by omega
      go_wp2
      go_ret
      refine ⟨_, _, rfl, by omega, Nat.le_refl _, ⟨by omega, World.rowIs.congr HH.out fun i hi => by rw [if_pos hi], shp_rows k m, _, by rw [← HN.out]; exact HD.out, fun _ _ _ _ => rfl⟩, HB.out⟩
end Go.Proofs.Ytjkmaobfpgfdnaa.MTable
end

/- matrix.Mul. -/
section
namespace Go.Proofs.Ytjkmaobfpgfdnaa.MMul
open Go.Proofs.Ytjkmaobfpgfdnaa Go.RowKit Go.Proofs.YtjkmaobfpgfdnaaW.PrintWords Go.Proofs.YtjkmaobfpgfdnaaW.PrintLast Go.Proofs.YtjkmaobfpgfdnaaW.PrintMore Go.Proofs.Ytjkmaobfpgfdnaa.Byt Go.Proofs.Ytjkmaobfpgfdnaa.Lin Go.Proofs.Ytjkmaobfpgfdnaa.Lin.G Go.Proofs.Ytjkmaobfpgfdnaa.Tab Go.Proofs.Ytjkmaobfpgfdnaa.MBad Go.Proofs.Ytjkmaobfpgfdnaa.MAdd Go.Proofs.Ytjkmaobfpgfdnaa.MTable
set_option linter.unusedVariables false
set_option linter.unusedSimpArgs false
/-- How many columns. -/
def colS (X : List (List Int)) : Nat := if X.length = 0 then 0 else (rw_ X 0).length
theorem columns_any (A : Option Addr) (c : Nat) (X : List (List Int)) (W : World) (hX : KM.C W A X.length X) (hc : X.length ≤ c) :
    Calls Try.prog 31 #[.slice A X.length c] W fun e w' => e = .returned (.int .i64 (colS X)) ∧ Drawn0 W w' := by
  refine PMatrixInverses.matrix_columns.calls A c X _ W hX hc ?_
  unfold PMatrixInverses.matrix_columns.f colS
  by_cases h : X.length = 0
  · rw [if_pos (by omega), if_pos h]; rfl
  · rw [if_neg (by omega), if_neg h, if_pos (by omega)]; rfl
/-- A matrix as a table. -/
def tb (X : List (List Int)) : Tb := fun i j => gv (bn (rw_ X i) j)
/-- All its numbers are bytes. -/
def MB (X : List (List Int)) : Prop := ∀ i, i < X.length → Bytes (rw_ X i)
theorem tb_row {X : List (List Int)} (h : MB X) {i : Nat} (hi : i < X.length) : rw_ X i = row (rw_ X i).length (tb X i) := row_of (h i hi)
theorem bad_ok {X : List (List Int)} (h : badS X = 0) : X.length ≤ 32 ∧ (∀ i, i < X.length → (rw_ X i).length = colS X) ∧ colS X ≤ 131072 := by
  unfold badS at h
  split at h
  · cases h
  · split at h
    · cases h
    · split at h
      · cases h
      · rename_i h1 h2 h3
        have h2' := Bool.eq_false_iff.2 h2
        have h3' := Bool.eq_false_iff.2 h3
        rw [List.any_eq_false] at h2' h3'
        have hr : ∀ i, i < X.length → (rw_ X i).length = colS X := fun i hi => by
          have := h3' i (List.mem_range.2 hi)
          unfold colS
          rw [if_neg (by omega)]
          simpa using this
        refine ⟨by omega, hr, ?_⟩
        by_cases h0 : X.length = 0
        · unfold colS; rw [if_pos h0]; omega
        · have := h2' 0 (List.mem_range.2 (by omega))
          rw [hr 0 (by omega)] at this
          simpa using this
def iOf : Value → Int
  | .int _ x => x
  | _ => 0
/-- A matrix that is as it should be, of n rows of p numbers, as it is read. -/
structure GM (w : World) (A : Option Addr) (n p : Nat) (X : List (List Int)) : Prop where
  C : KM.C w A n X
  bad : badS X = 0
  len : X.length = n
  col : colS X = p
  byt : MB X
theorem GM.below {w w' : World} {A : Option Addr} {n p : Nat} {X : List (List Int)} (h : GM w A n p X) (hb : Below w.heap.size w w') : GM w' A n p X := ⟨Kd.C_below h.C hb, h.bad, h.len, h.col, h.byt⟩
theorem GM.n_le {w : World} {A : Option Addr} {n p : Nat} {X : List (List Int)} (h : GM w A n p X) : n ≤ 32 := by have := (bad_ok h.bad).1; have := h.len; omega
theorem GM.p_le {w : World} {A : Option Addr} {n p : Nat} {X : List (List Int)} (h : GM w A n p X) : p ≤ 131072 := by have := (bad_ok h.bad).2.2; have := h.col; omega
theorem GM.rowlen {w : World} {A : Option Addr} {n p : Nat} {X : List (List Int)} (h : GM w A n p X) {i : Nat} (hi : i < n) : (rw_ X i).length = p := by rw [(bad_ok h.bad).2.1 i (by rw [h.len]; exact hi), h.col]
theorem GM.row {w : World} {A : Option Addr} {n p : Nat} {X : List (List Int)} (h : GM w A n p X) {i : Nat} (hi : i < n) : ∃ ad Ai ci, A = some ad ∧ w.cell? (ad.add i) = some (.slice Ai p ci) ∧ p ≤ ci ∧ RC w Ai (rw_ X i) := by
  obtain ⟨ad, Ai, ci, h1, h2, h3, h4⟩ := mrow h.C hi
  have hl := h.rowlen hi
  have hrc := RC.of_C h4
  rw [hl] at h2 h3
  exact ⟨ad, Ai, ci, h1, h2, h3, hrc⟩
theorem GM.bn {w : World} {A : Option Addr} {n p : Nat} {X : List (List Int)} (h : GM w A n p X) {i : Nat} (hi : i < n) (j : Nat) : Byt.bn (rw_ X i) j = ((tb X i j).v : Int) := (gv_v (h.byt i (by rw [h.len]; exact hi) j)).symm
theorem GM.bad_at {w : World} {A : Option Addr} {n p : Nat} {X : List (List Int)} (h : GM w A n p X) (c : Nat) : Calls Try.prog 30 #[.slice A n c] w fun e w' => e = .returned (.int .i64 0) ∧ Below w.heap.size w w' := by
  have hC := h.C
  have hr := fun i hi => (bad_ok h.bad).2.1 i hi
  have hl := bad_ok h.bad
  rw [← h.len] at hC ⊢
  have := bad_any A c X w hC (by omega) (fun i hi => by rw [hr i hi]; omega)
  rw [h.bad] at this
  exact this
theorem GM.columns_at {w : World} {A : Option Addr} {n p : Nat} {X : List (List Int)} (h : GM w A n p X) {c : Nat} (hc : n ≤ c) : Calls Try.prog 31 #[.slice A n c] w fun e w' => e = .returned (.int .i64 (p : Nat)) ∧ Drawn0 w w' := by
  have hC := h.C
  rw [← h.len] at hC hc ⊢
  have := columns_any A c X w hC hc
  rw [h.col] at this
  exact this
/-- The product, when i rows are done and t products are in the next one. -/
def MP (k : Nat) (A B : Tb) (i t : Nat) : Tb := fun a j => if a < i then mm k A B a j else if a = i then sm t (fun s => A a s * B s j) else 0
theorem mp_zero (k : Nat) (A B : Tb) : MP k A B 0 0 = fun _ _ => 0 := by
  funext a j
  unfold MP
  rw [if_neg (by omega)]
  split <;> rfl
theorem mp_next (k : Nat) (A B : Tb) (i : Nat) : MP k A B i k = MP k A B (i + 1) 0 := by
  funext a j
  unfold MP
  by_cases h : a < i
  · rw [if_pos h, if_pos (by omega)]
  · rw [if_neg h]
    by_cases h2 : a = i
    · rw [if_pos h2, if_pos (by omega)]; rfl
    · rw [if_neg h2, if_neg (by omega)]
      split <;> rfl
theorem mp_step (k : Nat) (A B : Tb) (i t a j : Nat) : MP k A B i (t + 1) a j = if a = i then MP k A B i t a j + A i t * B t j else MP k A B i t a j := by
  unfold MP
  by_cases h2 : a = i
  · subst h2
    have hn : ¬ a < a := Nat.lt_irrefl a
    rw [if_neg hn, if_pos rfl, if_pos rfl, if_neg hn, if_pos rfl]; rfl
  · rw [if_neg h2, if_neg h2, if_neg h2]
set_option maxRecDepth 100000 in
set_option maxHeartbeats 16000000 in
theorem mul_ok (A B : Option Addr) (ca cb n k p : Nat) (X Y : List (List Int)) (W : World) (hX : GM W A n k X) (hca : n ≤ ca) (hY : GM W B k p Y) (hcb : k ≤ cb) :
    Calls Try.prog 13 #[.slice A n ca, .slice B k cb] W fun e w' => ∃ h g, e = .returned (.tuple #[.slice (some ⟨h, 0, none⟩) n n, .int .i64 0]) ∧ W.heap.size ≤ h ∧ W.heap.size ≤ g ∧ TAB w' h g n p (fun i => i * p) (mm k (tb X) (tb Y)) ∧ Below W.heap.size W w' := by
  have HX := Lib.hid hX
  have HY := Lib.hid hY
  have ln := hX.n_le
  have lk := hY.n_le
  have lp := hY.p_le
  clear hX hY
  go_enter Try.func13, Try.ntmps13
  go_wp2_with (first
    | (go_at_call 30; with_reducible refine (HX.out.bad_at ca).mono ?_; rintro e w1 ⟨rfl, hb1⟩; have HB1 := Lib.hid hb1; clear hb1; have HY1 := Lib.hid (HY.out.below HB1.out))
    | (go_at_call 30; with_reducible refine (HY1.out.bad_at cb).mono ?_; rintro e w2 ⟨rfl, hb2⟩; have HB2 := Lib.hid (HB1.out.trans (hb2.mono HB1.out.size)); clear hb2; have HX2 := Lib.hid (HX.out.below HB2.out); have HY2 := Lib.hid (HY.out.below HB2.out))
    | (go_at_call 31; with_reducible refine (HX2.out.columns_at hca).mono ?_; rintro e w3 ⟨rfl, hd3⟩; have HB3 := Lib.hid (HB2.out.trans (hd3.below.mono HB2.out.size)); clear hd3; have HY3 := Lib.hid (HY.out.below HB3.out))
    | (go_at_call 31; with_reducible refine (HY3.out.columns_at hcb).mono ?_; rintro e w4 ⟨rfl, hd4⟩; have HB4 := Lib.hid (HB3.out.trans (hd4.below.mono HB3.out.size)); clear hd4)
    | (go_at_call 32; with_reducible refine (table_any n p (by omega) (by omega) _).mono ?_; rintro e w5 ⟨h, g, rfl, hh, hg, ht, hb⟩; have HT := Lib.hid ht; have HB5 := Lib.hid (HB4.out.trans (hb.mono HB4.out.size)); have HH := Lib.hid (Nat.le_trans HB4.out.size hh); have HG := Lib.hid (Nat.le_trans HB4.out.size hg); clear hb ht hh hg))
  go_loopw [35] (fun v35 wr => ∃ i : Nat, i ≤ n ∧ v35 = .int .i64 i ∧ TAB wr h g n p (fun i => i * p) (MP k (tb X) (tb Y) i 0) ∧ Below W.heap.size W wr) (fun v35 _ => n - (iOf v35).toNat)
  case atStart => exact ⟨0, by omega, rfl, by rw [mp_zero]; exact HT.out, HB5.out⟩
  case round =>
    obtain ⟨i, hi, rfl, ht, hb⟩ := hrel
    have HTi := Lib.hid ht
    have HBi := Lib.hid hb
    clear ht hb
    by_cases hlt : i < n
    · obtain ⟨ad, Ai, ci, rfl, hx0, hci, hrc⟩ := HX.out.row hlt
      have hx := pw_cell_below HBi.out hx0
      have HRC := Lib.hid hrc
      have HXB := Lib.hid (HX.out.bn hlt)
      have HXL := Lib.hid (HX.out.rowlen hlt)
      clear hrc hx0
      go_wp2
      obtain ⟨wi, rfl⟩ : ∃ wi : World, wi = wr := ⟨_, rfl⟩
      go_loopw [42] (fun v42 wq => ∃ t : Nat, t ≤ k ∧ v42 = .int .i64 t ∧ TAB wq h g n p (fun i => i * p) (MP k (tb X) (tb Y) i t) ∧ Below W.heap.size W wq) (fun v42 _ => k - (iOf v42).toNat)
      case atStart => exact ⟨0, by omega, rfl, HTi.out, HBi.out⟩
      case round =>
        obtain ⟨t, htk, rfl, ht, hb⟩ := hrel
        have HTt := Lib.hid ht
        have HBt := Lib.hid hb
        clear ht hb hx
        by_cases hltk : t < k
        · obtain ⟨ai, e1, hxa⟩ := byte_at ((HRC.out.below HBt.out).to_C (by rw [HXL.out]; omega)) t (by rw [HXL.out]; omega)
          rw [HXB.out t] at hxa
          subst e1
          obtain ⟨bd, Bt, cbt, rfl, hxB, hcB, hrcB⟩ := HY.out.row hltk
          have HRB := Lib.hid hrcB
          have HYB := Lib.hid (HY.out.bn hltk)
          have HYL := Lib.hid (HY.out.rowlen hltk)
          have HXB2 := Lib.hid (pw_cell_below HBt.out hxB)
          have HAP := Lib.hid (show rw_ Y t ≠ [] → ∀ ad, Bt = some ad → ad.block ≠ g ∨ ∃ k, k < n ∧ k ≠ i ∧ ad = ⟨g, k * p, none⟩ from fun hne ad e => by
            obtain ⟨a2, e2, hlt2, _⟩ := HRB.out hne
            rw [e] at e2
            cases e2
            have := HG.out
            exact .inl (by omega))
          have hmx : n * p ≤ 4611686018427387904 := Nat.le_trans (Nat.mul_le_mul ln lp) (by decide)
          clear hrcB hxB
          go_wp2
          refine start_ (n := 10) (S := fun w' => w'.cell? ⟨h, i, none⟩ = some (.slice (some ⟨g, i * p, none⟩) p p) ∧ w'.cell? (bd.add t) = some (.slice Bt p cbt)) (ds := [9]) #[false, false, false, false, false, false, false, false, false, false] (by kernel_rfl) rfl rfl ⟨HTt.out.hcell hlt, HXB2.out⟩ (fun hHeld => ?_)
          refine pure_ (i := 0) (N := some 47) (v := ?_) (a' := ?_) #[true, false, false, false, false, false, false, false, false, false] rfl rfl (by kernel_rfl) (fun _ _ _ h => h) (Or.inl ⟨by rfl, ?_⟩) ?_ ?_
          rotate_left
          · intro w'
            go_simp
            (first | (with_reducible rfl) | ((try simp only [*]); (with_reducible rfl)))
          rotate_left
          · simp only [Act.put, List.setIfInBounds_toArray, List.set_cons_zero, List.set_cons_succ, i64_w, i32_w]
            rfl
          refine pure_ (i := 1) (N := some 48) (v := ?_) (a' := ?_) #[true, true, false, false, false, false, false, false, false, false] rfl rfl (by kernel_rfl) (fun _ _ _ h => h) (Or.inl ⟨by rfl, ?_⟩) ?_ ?_
          rotate_left
          · intro w'
            go_simp
            (first | (with_reducible rfl) | ((try simp only [*]); (with_reducible rfl)))
          rotate_left
          · simp only [Act.put, List.setIfInBounds_toArray, List.set_cons_zero, List.set_cons_succ, i64_w, i32_w]
            rfl
          refine pure_ (i := 2) (N := some 49) (v := ?_) (a' := ?_) #[true, true, true, false, false, false, false, false, false, false] rfl rfl (by kernel_rfl) (fun _ _ _ h => h) (Or.inl ⟨by rfl, ?_⟩) ?_ ?_
          rotate_left
          · intro w'
            go_simp
            (first | (with_reducible rfl) | ((try simp only [*]); (with_reducible rfl)))
          rotate_left
          · simp only [Act.put, List.setIfInBounds_toArray, List.set_cons_zero, List.set_cons_succ, i64_w, i32_w]
            rfl
          refine pure_ (i := 4) (N := some 51) (v := ?_) (a' := ?_) #[true, true, true, false, true, false, false, false, false, false] rfl rfl (by kernel_rfl) (fun _ _ _ h => h) (Or.inl ⟨by rfl, ?_⟩) ?_ ?_
          rotate_left
          · intro w'
            go_simp
            (first | (with_reducible rfl) | ((try simp only [*]); (with_reducible rfl)))
          rotate_left
          · simp only [Act.put, List.setIfInBounds_toArray, List.set_cons_zero, List.set_cons_succ, i64_w, i32_w]
            rfl
          refine pure_ (i := 5) (N := some 52) (v := ?_) (a' := ?_) #[true, true, true, false, true, true, false, false, false, false] rfl rfl (by kernel_rfl) (fun _ _ _ h => h) (Or.inl ⟨by rfl, ?_⟩) ?_ ?_
          rotate_left
          · intro w'
            go_simp
            (first | (with_reducible rfl) | ((try simp only [*]); (with_reducible rfl)))
          rotate_left
          · simp only [Act.put, List.setIfInBounds_toArray, List.set_cons_zero, List.set_cons_succ, i64_w, i32_w]
            rfl
          refine pure_ (i := 6) (N := some 53) (v := ?_) (a' := ?_) #[true, true, true, false, true, true, true, false, false, false] rfl rfl (by kernel_rfl) (fun _ _ _ h => h) (Or.inl ⟨by rfl, ?_⟩) ?_ ?_
          rotate_left
          · intro w'
            go_simp
            (first | (with_reducible rfl) | ((try simp only [*]); (with_reducible rfl)))
          rotate_left
          · simp only [Act.put, List.setIfInBounds_toArray, List.set_cons_zero, List.set_cons_succ, i64_w, i32_w]
            rfl
          refine pure_ (i := 8) (N := some 55) (v := ?_) (a' := ?_) #[true, true, true, false, true, true, true, false, true, false] rfl rfl (by kernel_rfl) (fun _ _ _ h => h) (Or.inl ⟨by rfl, ?_⟩) ?_ ?_
          rotate_left
          · intro w'
            go_simp
            (first | (with_reducible rfl) | ((try simp only [*]); (with_reducible rfl)))
          rotate_left
          · simp only [Act.put, List.setIfInBounds_toArray, List.set_cons_zero, List.set_cons_succ, i64_w, i32_w]
            rfl
          refine take_ (i := 3) (N := some 50) (v := ?_) (a' := ?_) #[true, true, true, true, true, true, true, false, true, false] rfl rfl (by kernel_rfl) (fun _ _ _ h => h) (Or.inl ⟨by rfl, ?_⟩) hHeld ?_ ?_
          rotate_left
          · rintro w' ⟨s0, s1⟩
            go_simp
            (first | (with_reducible rfl) | ((try simp only [*]); (with_reducible rfl)))
          rotate_left
          · simp only [Act.put, List.setIfInBounds_toArray, List.set_cons_zero, List.set_cons_succ, i64_w, i32_w]
            rfl
          refine take_ (i := 7) (N := some 54) (v := ?_) (a' := ?_) #[true, true, true, true, true, true, true, true, true, false] rfl rfl (by kernel_rfl) (fun _ _ _ h => h) (Or.inl ⟨by rfl, ?_⟩) hHeld ?_ ?_
          rotate_left
          · rintro w' ⟨s0, s1⟩
            go_simp
            (first | (with_reducible rfl) | ((try simp only [*]); (with_reducible rfl)))
          rotate_left
          · simp only [Act.put, List.setIfInBounds_toArray, List.set_cons_zero, List.set_cons_succ, i64_w, i32_w]
            rfl
          refine last_ (i := 9) (N := some 56) #[true, true, true, true, true, true, true, true, true, true] rfl rfl (by kernel_rfl) (by decide) (fun K hK => ?_)
          refine goes_ Try.func33 (by kernel_rfl) rfl #[.slice (some ⟨g, i * p, none⟩) p p, .slice Bt p cbt, .int .u8 ((tb X i t).v : Int)] (by rfl) rfl rfl (by (try simp only [List.map_toArray, List.map_cons, List.map_nil]); first | done | rfl) ?_
          with_reducible refine (tab_add2 HTt.out.drew i hlt Bt (rw_ Y t) p cbt (tb Y t) (tb X i t) (HRB.out.below (HBt.out.drew)) HYL.out HYB.out (Nat.le_refl _) hcB HAP.out hmx).mono ?_
          rintro e w9 ⟨rfl, ht9, hw9⟩
          refine ⟨_, rfl, ?_⟩
          have HT9 := Lib.hid ht9
          have HB9 := Lib.hid (HBt.out.drew.trans (hw9.below HG.out HBt.out.drew.size))
          clear ht9 hw9
          refine hK.out _ _ ?_
          clear hK K
          refine norm_ (a' := ?_) ?_ ?_
          rotate_left
          · show Act.put _ (some 56) _ = _
            simp only [Act.put, List.setIfInBounds_toArray, List.set_cons_zero, List.set_cons_succ, i64_w, i32_w]
            rfl
          refine done_ (by kernel_rfl) ?_
          go_wp2
          go_roundw
          case rel =>
            refine ⟨t + 1, by omega, by go_num, HT9.out.congr fun a j ha hj => ?_, HB9.out⟩
            rw [mp_step]
            by_cases hai : a = i
            · rw [if_pos ⟨hai, hj⟩, if_pos hai]
            · rw [if_neg (fun hh => hai hh.1), if_neg hai]
          case measure => simp [iOf]; omega
        · obtain rfl : t = k := by omega
          go_wp2
          go_roundw
          case rel => exact ⟨i + 1, by omega, by go_num, by rw [← mp_next]; exact HTt.out, HBt.out⟩
          case measure => simp [iOf]; omega
    · obtain rfl : i = n := by omega
      go_wp2
      go_ret2
      exact ⟨h, g, rfl, HH.out, HG.out, HTi.out.congr fun a j ha hj => if_pos ha, HBi.out⟩
theorem bad_at (A : Option Addr) (c n : Nat) (X : List (List Int)) (W : World) (hX : KM.C W A n X) : Calls Try.prog 30 #[.slice A n c] W fun e w' => e = .returned (.int .i64 (badS X)) ∧ Below W.heap.size W w' := by
  have hn := hX.1
  subst hn
  refine bad_any A c X W hX hX.2.1 fun i hi => ?_
  obtain ⟨_, _, _, _, _, _, h⟩ := mrow hX hi
  exact h.2.1
theorem columns_at (A : Option Addr) (c n : Nat) (X : List (List Int)) (W : World) (hX : KM.C W A n X) (hc : n ≤ c) : Calls Try.prog 31 #[.slice A n c] W fun e w' => e = .returned (.int .i64 (colS X)) ∧ Drawn0 W w' := by
  have hn := hX.1
  subst hn
  exact columns_any A c X W hX hc
/-- What is wrong with two factors. -/
def mulE (X Y : List (List Int)) : Int := if badS X = 0 then (if badS Y = 0 then (if colS X = Y.length then 0 else 6) else badS Y) else badS X
set_option maxRecDepth 100000 in
set_option maxHeartbeats 16000000 in
theorem mul_no (A B : Option Addr) (ca cb n k : Nat) (X Y : List (List Int)) (W : World) (hX : KM.C W A n X) (hca : n ≤ ca) (hY : KM.C W B k Y) (hcb : k ≤ cb) (E : Int) (hE : E = mulE X Y) (h0 : E ≠ 0) :
    Calls Try.prog 13 #[.slice A n ca, .slice B k cb] W fun e w' => e = .returned (.tuple #[.slice none 0 0, .int .i64 E]) ∧ Below W.heap.size W w' := by
  have HX := Lib.hid hX
  have HY := Lib.hid hY
  have hkl : Y.length = k := hY.1
  clear hX hY
  unfold mulE at hE
  obtain ⟨x, hx⟩ : ∃ x, x = badS X := ⟨_, rfl⟩
  obtain ⟨y, hy⟩ : ∃ y, y = badS Y := ⟨_, rfl⟩
  have H1 := Lib.hid (hx ▸ bad_at A ca n X W HX.out : Calls Try.prog 30 #[.slice A n ca] W fun e w' => e = .returned (.int .i64 x) ∧ Below W.heap.size W w')
  have H2 := Lib.hid (fun w (h : KM.C w B k Y) => (hy ▸ bad_at B cb k Y w h : Calls Try.prog 30 #[.slice B k cb] w fun e w' => e = .returned (.int .i64 y) ∧ Below w.heap.size w w'))
  rw [← hx, ← hy] at hE
  clear hx hy
  by_cases hx0 : x = 0
  · subst hx0
    rw [if_pos rfl] at hE
    by_cases hy0 : y = 0
    · subst hy0
      rw [if_pos rfl] at hE
      by_cases hc : colS X = Y.length
      · rw [if_pos hc] at hE
        exact absurd hE h0
      · rw [if_neg hc] at hE
        subst hE
        obtain ⟨q, hq⟩ : ∃ q, q = colS X := ⟨_, rfl⟩
        have H3 := Lib.hid (fun w (h : KM.C w A n X) => (hq ▸ columns_at A ca n X w h hca : Calls Try.prog 31 #[.slice A n ca] w fun e w' => e = .returned (.int .i64 q) ∧ Drawn0 w w'))
        have hqk : q ≠ k := by rw [hq, ← hkl]; exact hc
        clear hq hc
        go_enter Try.func13, Try.ntmps13
        go_wp2_with (first
          | (go_at_call 30; with_reducible refine H1.out.mono ?_; rintro e w1 ⟨rfl, hb1⟩; have HB1 := Lib.hid hb1; clear hb1; have HY1 := Lib.hid (Kd.C_below HY.out HB1.out))
          | (go_at_call 30; with_reducible refine (H2.out _ HY1.out).mono ?_; rintro e w2 ⟨rfl, hb2⟩; have HB2 := Lib.hid (HB1.out.trans (hb2.mono HB1.out.size)); clear hb2; have HX2 := Lib.hid (Kd.C_below HX.out HB2.out))
          | (go_at_call 31; with_reducible refine (H3.out _ HX2.out).mono ?_; rintro e w3 ⟨rfl, hd3⟩; have HB3 := Lib.hid (HB2.out.trans (hd3.below.mono HB2.out.size)); clear hd3))
        go_ret2
        exact ⟨rfl, HB3.out⟩
    · rw [if_neg hy0] at hE
      subst hE
      have hyb : (E == 0) = false := by simpa using hy0
      go_enter Try.func13, Try.ntmps13
      go_wp2_with (first
        | (go_at_call 30; with_reducible refine H1.out.mono ?_; rintro e w1 ⟨rfl, hb1⟩; have HB1 := Lib.hid hb1; clear hb1; have HY1 := Lib.hid (Kd.C_below HY.out HB1.out))
        | (go_at_call 30; with_reducible refine (H2.out _ HY1.out).mono ?_; rintro e w2 ⟨rfl, hb2⟩; have HB2 := Lib.hid (HB1.out.trans (hb2.mono HB1.out.size)); clear hb2))
      go_ret2
      exact ⟨rfl, HB2.out⟩
  · rw [if_neg hx0] at hE
    subst hE
    have hxb : (E == 0) = false := by simpa using hx0
    go_enter Try.func13, Try.ntmps13
    go_wp2_with (go_at_call 30; with_reducible refine H1.out.mono ?_; rintro e w1 ⟨rfl, hb1⟩; have HB1 := Lib.hid hb1; clear hb1)
    go_ret2
    exact ⟨rfl, HB1.out⟩
end Go.Proofs.Ytjkmaobfpgfdnaa.MMul
end

/- matrix.One. -/
section
namespace Go.Proofs.Ytjkmaobfpgfdnaa.MOne
open Go.Proofs.Ytjkmaobfpgfdnaa Go.RowKit Go.Proofs.YtjkmaobfpgfdnaaW.PrintWords Go.Proofs.YtjkmaobfpgfdnaaW.PrintLast Go.Proofs.YtjkmaobfpgfdnaaW.PrintMore Go.Proofs.Ytjkmaobfpgfdnaa.Byt Go.Proofs.Ytjkmaobfpgfdnaa.Lin Go.Proofs.Ytjkmaobfpgfdnaa.Lin.G Go.Proofs.Ytjkmaobfpgfdnaa.Tab Go.Proofs.Ytjkmaobfpgfdnaa.MBad Go.Proofs.Ytjkmaobfpgfdnaa.MAdd Go.Proofs.Ytjkmaobfpgfdnaa.MTable Go.Proofs.Ytjkmaobfpgfdnaa.MMul
set_option linter.unusedVariables false
set_option linter.unusedSimpArgs false
def iOf : Value → Int
  | .int _ x => x
  | _ => 0
theorem v_one' : (.int .u8 1 : Value) = U 1 := rfl
set_option maxRecDepth 100000 in
set_option maxHeartbeats 16000000 in
theorem one_ok (n : Nat) (hn : n ≤ 32) (W : World) :
    Calls Try.prog 18 #[.int .i64 n] W fun e w' => ∃ h g, e = .returned (.tuple #[.slice (some ⟨h, 0, none⟩) n n, .int .i64 0]) ∧ W.heap.size ≤ h ∧ W.heap.size ≤ g ∧ TAB w' h g n n (fun i => i * n) I ∧ Below W.heap.size W w' := by
  have c1 : ¬ ((n : Int) < 0) := by omega
  have c2 : ¬ ((32 : Int) < n) := by omega
  go_enter Try.func18, Try.ntmps18
  go_wp2_with (go_at_call 32; with_reducible refine (table_any n n (by omega) (by omega) _).mono ?_; rintro e w5 ⟨h, g, rfl, hh, hg, ht, hb⟩; have HT := Lib.hid ht; have HB5 := Lib.hid hb; have HH := Lib.hid hh; have HG := Lib.hid hg; clear hb ht hh hg)
  go_loopw [18] (fun v18 wr => ∃ i : Nat, i ≤ n ∧ v18 = .int .i64 i ∧ TAB wr h g n n (fun i => i * n) (fun a j => if a < i then I a j else 0) ∧ Below W.heap.size W wr) (fun v18 _ => n - (iOf v18).toNat)
  case atStart => exact ⟨0, by omega, rfl, HT.out.congr fun a j _ _ => (if_neg (by omega)).symm, HB5.out⟩
  case round =>
    obtain ⟨i, hi, rfl, ht, hb⟩ := hrel
    have HTi := Lib.hid ht
    have HBi := Lib.hid hb
    clear ht hb
    by_cases hlt : i < n
    · have hx := HTi.out.hcell hlt
      have hc := HTi.out.cell hlt hlt
      have hf := HTi.out.gfrozen (i * n + i)
      go_wp2
      go_roundw
      case rel =>
        refine ⟨i + 1, by omega, by go_num, (HTi.out.set hlt hlt 1).congr fun a j ha hj => ?_, HBi.out.setCell HG.out _⟩
        by_cases hai : a = i
        · subst hai
          by_cases hji : j = a
          · subst hji
            rw [if_pos ⟨rfl, rfl⟩, if_pos (by omega), I_same]
          · rw [if_neg (fun hh => hji hh.2), if_neg (by omega), if_pos (by omega), I_diff (fun hh => hji hh.symm)]
        · rw [if_neg (fun hh => hai hh.1)]
          by_cases hl : a < i
          · rw [if_pos hl, if_pos (by omega)]
          · rw [if_neg hl, if_neg (by omega)]
      case measure => simp [iOf]; omega
    · obtain rfl : i = n := by omega
      go_wp2
      go_ret2
      exact ⟨h, g, rfl, HH.out, HG.out, HTi.out.congr fun a j ha hj => if_pos ha, HBi.out⟩
set_option maxRecDepth 100000 in
set_option maxHeartbeats 16000000 in
theorem one_no (n E : Int) (h : (n < 0 ∧ E = 1) ∨ (32 < n ∧ E = 2)) (W : World) :
    Calls Try.prog 18 #[.int .i64 n] W fun e w' => e = .returned (.tuple #[.slice none 0 0, .int .i64 E]) ∧ Below W.heap.size W w' := by
  rcases h with ⟨h1, rfl⟩ | ⟨h1, rfl⟩
  · go_enter Try.func18, Try.ntmps18
    go_wp2
    go_ret2
    exact ⟨rfl, Below.refl _ _⟩
  · have h2 : ¬ n < 0 := by omega
    go_enter Try.func18, Try.ntmps18
    go_wp2
    go_ret2
    exact ⟨rfl, Below.refl _ _⟩
end Go.Proofs.Ytjkmaobfpgfdnaa.MOne
end

/- matrix.Turned. -/
section
namespace Go.Proofs.Ytjkmaobfpgfdnaa.MTurned
open Go.Proofs.Ytjkmaobfpgfdnaa Go.RowKit Go.Proofs.YtjkmaobfpgfdnaaW.PrintWords Go.Proofs.YtjkmaobfpgfdnaaW.PrintLast Go.Proofs.YtjkmaobfpgfdnaaW.PrintMore Go.Proofs.Ytjkmaobfpgfdnaa.Byt Go.Proofs.Ytjkmaobfpgfdnaa.Lin Go.Proofs.Ytjkmaobfpgfdnaa.Lin.G Go.Proofs.Ytjkmaobfpgfdnaa.Tab Go.Proofs.Ytjkmaobfpgfdnaa.MBad Go.Proofs.Ytjkmaobfpgfdnaa.MAdd Go.Proofs.Ytjkmaobfpgfdnaa.MTable Go.Proofs.Ytjkmaobfpgfdnaa.MMul
set_option linter.unusedVariables false
set_option linter.unusedSimpArgs false
def iOf : Value → Int
  | .int _ x => x
  | _ => 0
/-- Rows and columns changed about, i rows and j numbers of the next one being done. -/
def TP (A : Tb) (i j : Nat) : Tb := fun a b => if b < i ∨ (b = i ∧ a < j) then A b a else 0
set_option maxRecDepth 100000 in
set_option maxHeartbeats 16000000 in
theorem turned_ok (A : Option Addr) (ca n p : Nat) (X : List (List Int)) (W : World) (hX : GM W A n p X) (hca : n ≤ ca) (hp : p ≤ 32) :
    Calls Try.prog 22 #[.slice A n ca] W fun e w' => ∃ h g, e = .returned (.tuple #[.slice (some ⟨h, 0, none⟩) p p, .int .i64 0]) ∧ W.heap.size ≤ h ∧ W.heap.size ≤ g ∧ TAB w' h g p n (fun i => i * n) (fun a b => tb X b a) ∧ Below W.heap.size W w' := by
  have HX := Lib.hid hX
  have ln := hX.n_le
  have c2 : ¬ ((32 : Int) < p) := by omega
  clear hX
  go_enter Try.func22, Try.ntmps22
  go_wp2_with (first
    | (go_at_call 30; with_reducible refine (HX.out.bad_at ca).mono ?_; rintro e w1 ⟨rfl, hb1⟩; have HB1 := Lib.hid hb1; clear hb1; have HX1 := Lib.hid (HX.out.below HB1.out))
    | (go_at_call 31; with_reducible refine (HX1.out.columns_at hca).mono ?_; rintro e w3 ⟨rfl, hd3⟩; have HB3 := Lib.hid (HB1.out.trans (hd3.below.mono HB1.out.size)); clear hd3; have HX3 := Lib.hid (HX.out.below HB3.out))
    | (go_at_call 31; with_reducible refine (HX3.out.columns_at hca).mono ?_; rintro e w4 ⟨rfl, hd4⟩; have HB4 := Lib.hid (HB3.out.trans (hd4.below.mono HB3.out.size)); clear hd4)
    | (go_at_call 32; with_reducible refine (table_any p n (by omega) (by omega) _).mono ?_; rintro e w5 ⟨h, g, rfl, hh, hg, ht, hb⟩; have HT := Lib.hid ht; have HB5 := Lib.hid (HB4.out.trans (hb.mono HB4.out.size)); have HH := Lib.hid (Nat.le_trans HB4.out.size hh); have HG := Lib.hid (Nat.le_trans HB4.out.size hg); clear hb ht hh hg))
  go_loopw [25] (fun v25 wr => ∃ i : Nat, i ≤ n ∧ v25 = .int .i64 i ∧ TAB wr h g p n (fun i => i * n) (TP (tb X) i 0) ∧ Below W.heap.size W wr) (fun v25 _ => n - (iOf v25).toNat)
  case atStart => exact ⟨0, by omega, rfl, HT.out.congr fun a b _ _ => (if_neg (by omega)).symm, HB5.out⟩
  case round =>
    obtain ⟨i, hi, rfl, ht, hb⟩ := hrel
    have HTi := Lib.hid ht
    have HBi := Lib.hid hb
    clear ht hb
    by_cases hlt : i < n
    · obtain ⟨ad, Ai, ci, rfl, hx0, hci, hrc⟩ := HX.out.row hlt
      have hx := pw_cell_below HBi.out hx0
      have HRC := Lib.hid hrc
      have HXB := Lib.hid (HX.out.bn hlt)
      have HXL := Lib.hid (HX.out.rowlen hlt)
      clear hrc hx0
      go_wp2
      obtain ⟨wi, rfl⟩ : ∃ wi : World, wi = wr := ⟨_, rfl⟩
      go_loopw [32] (fun v32 wq => ∃ j : Nat, j ≤ p ∧ v32 = .int .i64 j ∧ TAB wq h g p n (fun i => i * n) (TP (tb X) i j) ∧ Below W.heap.size W wq) (fun v32 _ => p - (iOf v32).toNat)
      case atStart => exact ⟨0, by omega, rfl, HTi.out, HBi.out⟩
      case round =>
        obtain ⟨j, hj, rfl, ht, hb⟩ := hrel
        have HTt := Lib.hid ht
        have HBt := Lib.hid hb
        clear ht hb hx
        by_cases hltj : j < p
        · obtain ⟨ai, e1, hxa⟩ := byte_at ((HRC.out.below HBt.out).to_C (by rw [HXL.out]; omega)) j (by rw [HXL.out]; omega)
          rw [HXB.out j] at hxa
          subst e1
          have hx := HTt.out.hcell hltj
          have hc := HTt.out.cell hltj hlt
          have hf := HTt.out.gfrozen (j * n + i)
          go_wp2
          go_roundw
          case rel =>
            refine ⟨j + 1, by omega, by go_num, (HTt.out.set hltj hlt (tb X i j)).congr fun a b ha hb => ?_, HBt.out.setCell HG.out _⟩
            unfold TP
            by_cases hab : a = j ∧ b = i
            · obtain ⟨rfl, rfl⟩ := hab
              rw [if_pos ⟨rfl, rfl⟩, if_pos (by omega)]
            · rw [if_neg hab]
              by_cases h1 : b < i ∨ (b = i ∧ a < j)
              · rw [if_pos h1, if_pos (by omega)]
              · rw [if_neg h1, if_neg (by omega)]
          case measure => simp [iOf]; omega
        · obtain rfl : j = p := by omega
          go_wp2
          go_roundw
          case rel =>
            refine ⟨i + 1, by omega, by go_num, HTt.out.congr fun a b ha hb => ?_, HBt.out⟩
            unfold TP
            by_cases h1 : b < i ∨ (b = i ∧ a < j)
            · rw [if_pos h1, if_pos (by omega)]
            · rw [if_neg h1, if_neg (by omega)]
          case measure => simp [iOf]; omega
    · obtain rfl : i = n := by omega
      go_wp2
      go_ret2
      exact ⟨h, g, rfl, HH.out, HG.out, HTi.out.congr fun a b ha hb => if_pos (.inl hb), HBi.out⟩
/-- What is wrong with a matrix that is to be turned. -/
def turnE (X : List (List Int)) : Int := if badS X = 0 then (if 32 < colS X then 2 else 0) else badS X
set_option maxRecDepth 100000 in
set_option maxHeartbeats 16000000 in
theorem turned_no (A : Option Addr) (ca n : Nat) (X : List (List Int)) (W : World) (hX : KM.C W A n X) (hca : n ≤ ca) (E : Int) (hE : E = turnE X) (h0 : E ≠ 0) :
    Calls Try.prog 22 #[.slice A n ca] W fun e w' => e = .returned (.tuple #[.slice none 0 0, .int .i64 E]) ∧ Below W.heap.size W w' := by
  have HX := Lib.hid hX
  clear hX
  unfold turnE at hE
  obtain ⟨x, hx⟩ : ∃ x, x = badS X := ⟨_, rfl⟩
  have H1 := Lib.hid (hx ▸ bad_at A ca n X W HX.out : Calls Try.prog 30 #[.slice A n ca] W fun e w' => e = .returned (.int .i64 x) ∧ Below W.heap.size W w')
  rw [← hx] at hE
  clear hx
  by_cases hx0 : x = 0
  · subst hx0
    rw [if_pos rfl] at hE
    obtain ⟨q, hq⟩ : ∃ q, q = colS X := ⟨_, rfl⟩
    have H3 := Lib.hid (fun w (h : KM.C w A n X) => (hq ▸ columns_at A ca n X w h hca : Calls Try.prog 31 #[.slice A n ca] w fun e w' => e = .returned (.int .i64 q) ∧ Drawn0 w w'))
    rw [← hq] at hE
    clear hq
    by_cases hc : 32 < q
    · rw [if_pos hc] at hE
      subst hE
      have c2 : (32 : Int) < q := by omega
      go_enter Try.func22, Try.ntmps22
      go_wp2_with (first
        | (go_at_call 30; with_reducible refine H1.out.mono ?_; rintro e w1 ⟨rfl, hb1⟩; have HB1 := Lib.hid hb1; clear hb1; have HX1 := Lib.hid (Kd.C_below HX.out HB1.out))
        | (go_at_call 31; with_reducible refine (H3.out _ HX1.out).mono ?_; rintro e w3 ⟨rfl, hd3⟩; have HB3 := Lib.hid (HB1.out.trans (hd3.below.mono HB1.out.size)); clear hd3))
      go_ret2
      exact ⟨rfl, HB3.out⟩
    · rw [if_neg hc] at hE
      exact absurd hE h0
  · rw [if_neg hx0] at hE
    subst hE
    have hxb : (E == 0) = false := by simpa using hx0
    go_enter Try.func22, Try.ntmps22
    go_wp2_with (go_at_call 30; with_reducible refine H1.out.mono ?_; rintro e w1 ⟨rfl, hb1⟩; have HB1 := Lib.hid hb1; clear hb1)
    go_ret2
    exact ⟨rfl, HB1.out⟩
end Go.Proofs.Ytjkmaobfpgfdnaa.MTurned
end

/- The closure in matrix.steps. -/
section
namespace Go.Proofs.Ytjkmaobfpgfdnaa.MClear
open Go.Proofs.Ytjkmaobfpgfdnaa Go.RowKit Go.Proofs.YtjkmaobfpgfdnaaW.PrintWords Go.Proofs.YtjkmaobfpgfdnaaW.PrintLast Go.Proofs.YtjkmaobfpgfdnaaW.PrintMore Go.Proofs.Ytjkmaobfpgfdnaa.Byt Go.Proofs.Ytjkmaobfpgfdnaa.Lin Go.Proofs.Ytjkmaobfpgfdnaa.Lin.G Go.Proofs.Ytjkmaobfpgfdnaa.Elim Go.Proofs.Ytjkmaobfpgfdnaa.Tab Go.Proofs.Ytjkmaobfpgfdnaa.MBad Go.Proofs.Ytjkmaobfpgfdnaa.MAdd Go.Proofs.Ytjkmaobfpgfdnaa.MTable
set_option linter.unusedVariables false
set_option linter.unusedSimpArgs false
def iOf : Value → Int
  | .int _ x => x
  | _ => 0
/-- The row itself, q numbers being done. -/
def CR (T : Tb) (r : Nat) (c : G) (q : Nat) : Tb := fun a b => if a = r ∧ b < q then c * T a b else T a b
/-- The other rows, i rows being done. -/
def CO (T : Tb) (r j : Nat) (c : G) (i : Nat) : Tb := fun a b => if a = r then c * T a b else if a < i then T a b + T a j * (c * T r b) else T a b
theorem co_zero (T : Tb) (r j : Nat) (c : G) (m : Nat) {a b : Nat} (hb : b < m) : CR T r c m a b = CO T r j c 0 a b := by
  unfold CR CO
  by_cases h : a = r
  · rw [if_pos ⟨h, hb⟩, if_pos h]
  · rw [if_neg (fun hh => h hh.1), if_neg h, if_neg (by omega)]
theorem co_all (T : Tb) (r j : Nat) (n : Nat) {a b : Nat} (ha : a < n) : CO T r j (inv (T r j)) n a b = clr T r j a b := by
  unfold CO clr
  by_cases h : a = r
  · rw [if_pos h, if_pos h, h]
  · rw [if_neg h, if_neg h, if_pos ha]
theorem wrote_block {g b : Nat} {w w' : World} {o : Obj} (hw : Wrote g w w') (h : w.heap[b]? = some o) (hb : b ≠ g) : w'.heap[b]? = some o := (hw.block b (blk_lt h) hb).trans h
theorem tab_wrote_new {g' g h n m : Nat} {off : Nat → Nat} {T : Tb} {w w' : World} (t : TAB w h g n m off T) (hb : Below w.heap.size w w') : TAB w' h g n m off T := t.below hb
set_option maxRecDepth 100000 in
set_option maxHeartbeats 16000000 in
theorem clear_any (h g n m ba bv r j : Nat) (off : Nat → Nat) (T : Tb) (W : World) (t : TAB W h g n m off T) (ha : W.heap[ba]? = some (.cells #[.slice (some ⟨h, 0, none⟩) n n] 22 (0, 0))) (hb : W.heap[bv]? = some (.cells #[.int .i64 r] 3 (0, 0)))
    (hr : r < n) (hj : j < m) (hne : T r j ≠ 0) (ag : ba ≠ g) (bg : bv ≠ g) (ln : n ≤ 1048576) (lm : m ≤ 1048576) :
    Calls Try.prog 45 #[.int .i64 j, .pointer (some ⟨ba, 0, none⟩), .pointer (some ⟨bv, 0, none⟩)] W fun e w' => e = .returned (.tuple #[]) ∧ TAB w' h g n m off (clr T r j) ∧ Wrote g W w' := by
  obtain ⟨c, hc⟩ : ∃ c, c = inv (T r j) := ⟨_, rfl⟩
  have HC := Lib.hid hc
  have HI := Lib.hid (fun w => hc ▸ inv_g (T r j) hne w : ∀ w, Calls Try.prog 46 #[U (T r j)] w fun e w' => e = .returned (.tuple #[U c, .int .i64 0]) ∧ Below w.heap.size w w')
  have HT := Lib.hid t
  have HA := Lib.hid ha
  have HB := Lib.hid hb
  have c1 : W.cell? ⟨ba, 0, none⟩ = some (.slice (some ⟨h, 0, none⟩) n n) := by rw [blk_cell ha]; rfl
  have c2 : W.cell? ⟨bv, 0, none⟩ = some (.int .i64 r) := by rw [blk_cell hb]; rfl
  have c3 := t.hcell hr
  have c4 := t.cell hr hj
  clear t ha hb hc
  go_enter Try.func45, Try.ntmps45
  go_wp2_with (go_at_call 46; with_reducible refine (HI.out _).mono ?_; rintro e w1 ⟨rfl, hb1⟩; have HB1 := Lib.hid hb1; clear hb1; have c5 := pw_cell_below HB1.out c1; have c6 := pw_cell_below HB1.out c2; have c7 := pw_cell_below HB1.out c3)
  clear c1 c2 c3 c4 c5 c6 c7
  go_loopw [26] (fun v26 wr => ∃ q : Nat, q ≤ m ∧ v26 = .int .i64 q ∧ TAB wr h g n m off (CR T r c q) ∧ Wrote g W wr) (fun v26 _ => m - (iOf v26).toNat)
  case atStart => exact ⟨0, by omega, rfl, (HT.out.below HB1.out).congr fun a b _ _ => (if_neg (by omega)).symm, Wrote.of_below HB1.out⟩
  case round =>
    obtain ⟨q, hq, rfl, ht, hw⟩ := hrel
    have HTq := Lib.hid ht
    have HWq := Lib.hid hw
    clear ht hw
    by_cases hlt : q < m
    · have hx := HTq.out.cell hr hlt
      rw [show CR T r c q r q = T r q from if_neg (by omega)] at hx
      have k1 : wr.cell? ⟨ba, 0, none⟩ = some (.slice (some ⟨h, 0, none⟩) n n) := by rw [blk_cell (wrote_block HWq.out HA.out ag)]; rfl
      have k2 : wr.cell? ⟨bv, 0, none⟩ = some (.int .i64 r) := by rw [blk_cell (wrote_block HWq.out HB.out bg)]; rfl
      have k3 := HTq.out.hcell hr
      have k4 := HTq.out.gfrozen (off r + q)
      have k5 := HTq.out.cell hr hlt
      go_wp2
      refine start_ (n := 10) (S := fun w' => w'.cell? ⟨ba, 0, none⟩ = some (.slice (some ⟨h, 0, none⟩) n n) ∧ w'.cell? ⟨bv, 0, none⟩ = some (.int .i64 r) ∧ w'.cell? ⟨h, r, none⟩ = some (.slice (some ⟨g, off r, none⟩) m m)) (ds := [9]) #[false, false, false, false, false, false, false, false, false, false] (by kernel_rfl) rfl rfl ⟨k1, k2, k3⟩ (fun hHeld => ?_)
      refine pure_ (i := 4) (N := some 35) (v := ?_) (a' := ?_) #[false, false, false, false, true, false, false, false, false, false] rfl rfl (by kernel_rfl) (fun _ _ _ h => h) (Or.inl ⟨by rfl, ?_⟩) ?_ ?_
      rotate_left
      · intro w'
        go_simp
        (first | (with_reducible rfl) | ((try simp only [*]); (with_reducible rfl)))
      rotate_left
      · simp only [Act.put, List.setIfInBounds_toArray, List.set_cons_zero, List.set_cons_succ, i64_w, i32_w]
        rfl
      refine pure_ (i := 5) (N := some 36) (v := ?_) (a' := ?_) #[false, false, false, false, true, true, false, false, false, false] rfl rfl (by kernel_rfl) (fun _ _ _ h => h) (Or.inl ⟨by rfl, ?_⟩) ?_ ?_
      rotate_left
      · intro w'
        go_simp
        (first | (with_reducible rfl) | ((try simp only [*]); (with_reducible rfl)))
      rotate_left
      · simp only [Act.put, List.setIfInBounds_toArray, List.set_cons_zero, List.set_cons_succ, i64_w, i32_w]
        rfl
      refine pure_ (i := 6) (N := some 37) (v := ?_) (a' := ?_) #[false, false, false, false, true, true, true, false, false, false] rfl rfl (by kernel_rfl) (fun _ _ _ h => h) (Or.inl ⟨by rfl, ?_⟩) ?_ ?_
      rotate_left
      · intro w'
        go_simp
        (first | (with_reducible rfl) | ((try simp only [*]); (with_reducible rfl)))
      rotate_left
      · simp only [Act.put, List.setIfInBounds_toArray, List.set_cons_zero, List.set_cons_succ, i64_w, i32_w]
        rfl
      refine take_ (i := 0) (N := some 31) (v := ?_) (a' := ?_) #[true, false, false, false, true, true, true, false, false, false] rfl rfl (by kernel_rfl) (fun _ _ _ h => h) (Or.inl ⟨by rfl, ?_⟩) hHeld ?_ ?_
      rotate_left
      · rintro w' ⟨s0, s1, s2⟩
        go_simp
        (first | (with_reducible rfl) | ((try simp only [*]); (with_reducible rfl)))
      rotate_left
      · simp only [Act.put, List.setIfInBounds_toArray, List.set_cons_zero, List.set_cons_succ, i64_w, i32_w]
        rfl
      refine take_ (i := 1) (N := some 32) (v := ?_) (a' := ?_) #[true, true, false, false, true, true, true, false, false, false] rfl rfl (by kernel_rfl) (fun _ _ _ h => h) (Or.inl ⟨by rfl, ?_⟩) hHeld ?_ ?_
      rotate_left
      · rintro w' ⟨s0, s1, s2⟩
        go_simp
        (first | (with_reducible rfl) | ((try simp only [*]); (with_reducible rfl)))
      rotate_left
      · simp only [Act.put, List.setIfInBounds_toArray, List.set_cons_zero, List.set_cons_succ, i64_w, i32_w]
        rfl
      refine pure_ (i := 2) (N := some 33) (v := ?_) (a' := ?_) #[true, true, true, false, true, true, true, false, false, false] rfl rfl (by kernel_rfl) (fun _ _ _ h => h) (Or.inl ⟨by rfl, ?_⟩) ?_ ?_
      rotate_left
      · intro w'
        go_simp
        (first | (with_reducible rfl) | ((try simp only [*]); (with_reducible rfl)))
      rotate_left
      · simp only [Act.put, List.setIfInBounds_toArray, List.set_cons_zero, List.set_cons_succ, i64_w, i32_w]
        rfl
      refine take_ (i := 3) (N := some 34) (v := ?_) (a' := ?_) #[true, true, true, true, true, true, true, false, false, false] rfl rfl (by kernel_rfl) (fun _ _ _ h => h) (Or.inl ⟨by rfl, ?_⟩) hHeld ?_ ?_
      rotate_left
      · rintro w' ⟨s0, s1, s2⟩
        go_simp
        (first | (with_reducible rfl) | ((try simp only [*]); (with_reducible rfl)))
      rotate_left
      · simp only [Act.put, List.setIfInBounds_toArray, List.set_cons_zero, List.set_cons_succ, i64_w, i32_w]
        rfl
      refine one_ (i := 7) (N := some 38) #[true, true, true, true, true, true, true, true, false, false] rfl rfl (by kernel_rfl) (by decide) (fun K hK => ?_)
      refine goes_ Try.func40 (by kernel_rfl) rfl #[.int .u8 (c.v : Int), .int .u8 ((T r q).v : Int)] (by rfl) rfl rfl (by (try simp only [List.map_toArray, List.map_cons, List.map_nil]); first | done | rfl) ?_
      with_reducible refine (mul_g c (T r q) _).mono ?_
      rintro e w' ⟨rfl, ⟨nd, rfl⟩⟩
      refine ⟨_, rfl, ?_⟩
      refine hK.out _ _ ⟨k1, k2, k3⟩ (fun hHeld => ?_)
      clear hK K
      refine norm_ (a' := ?_) ?_ ?_
      rotate_left
      · show Act.put _ (some 38) _ = _
        simp only [Act.put, List.setIfInBounds_toArray, List.set_cons_zero, List.set_cons_succ, i64_w, i32_w]
        rfl
      refine pure_ (i := 8) (N := some 39) (v := ?_) (a' := ?_) #[true, true, true, true, true, true, true, true, true, false] rfl rfl (by kernel_rfl) (fun _ _ _ h => h) (Or.inl ⟨by rfl, ?_⟩) ?_ ?_
      rotate_left
      · intro w'
        go_simp
        (first | (with_reducible rfl) | ((try simp only [*]); (with_reducible rfl)))
      rotate_left
      · simp only [Act.put, List.setIfInBounds_toArray, List.set_cons_zero, List.set_cons_succ, i64_w, i32_w]
        rfl
      refine last_ (i := 9) (N := none) #[true, true, true, true, true, true, true, true, true, true] rfl rfl (by kernel_rfl) (by decide) (fun K hK => ?_)
      refine skip_ (w1 := ?_) (by rfl) rfl ?_ ?_
      rotate_left
      · go_simp
        rfl
      refine hK.out _ _ ?_
      clear hK K
      refine done_ (by kernel_rfl) ?_
      go_wp2
      go_roundw
      case rel =>
        refine ⟨q + 1, by omega, by go_num, ((HTq.out.drewN _).set hr hlt (c * T r q)).congr fun a b ha hb => ?_, wrote_setCell (HWq.out.trans (Wrote.of_below (pw_below_drewN (Below.refl _ _) _))) _ _⟩
        unfold CR
        by_cases hab : a = r ∧ b = q
        · obtain ⟨rfl, rfl⟩ := hab
          rw [if_pos ⟨rfl, rfl⟩, if_pos ⟨rfl, by omega⟩]
        · rw [if_neg hab]
          by_cases h2 : a = r ∧ b < q
          · rw [if_pos h2, if_pos ⟨h2.1, by omega⟩]
          · rw [if_neg h2, if_neg (by omega)]
      case measure => simp [iOf]; omega
    · obtain rfl : q = m := by omega
      have k1 : wr.cell? ⟨ba, 0, none⟩ = some (.slice (some ⟨h, 0, none⟩) n n) := by rw [blk_cell (wrote_block HWq.out HA.out ag)]; rfl
      go_wp2
      clear k1
      obtain ⟨wi, rfl⟩ : ∃ wi : World, wi = wr := ⟨_, rfl⟩
      go_loopw [43] (fun v43 wq => ∃ i : Nat, i ≤ n ∧ v43 = .int .i64 i ∧ TAB wq h g n q off (CO T r j c i) ∧ Wrote g W wq) (fun v43 _ => n - (iOf v43).toNat)
      case atStart => exact ⟨0, by omega, rfl, HTq.out.congr fun a b ha hb => co_zero T r j c q hb, HWq.out⟩
      case round =>
        obtain ⟨i, hi, rfl, ht, hw⟩ := hrel
        have HTi := Lib.hid ht
        have HWi := Lib.hid hw
        clear ht hw
        by_cases hlt2 : i < n
        · have hx := HTi.out.hcell hlt2
          have k2 : wr.cell? ⟨bv, 0, none⟩ = some (.int .i64 r) := by rw [blk_cell (wrote_block HWi.out HB.out bg)]; rfl
          by_cases hir : i = r
          · subst hir
            go_wp2
            go_roundw
            case rel =>
              refine ⟨i + 1, by omega, by go_num, HTi.out.congr fun a b ha hb => ?_, HWi.out⟩
              unfold CO
              by_cases hai : a = i
              · rw [if_pos hai, if_pos hai]
              · rw [if_neg hai, if_neg hai]
                by_cases h3 : a < i
                · rw [if_pos h3, if_pos (by omega)]
                · rw [if_neg h3, if_neg (by omega)]
            case measure => simp [iOf]; omega
          · have hiI : ((i : Int) == (r : Int)) = false := by simp; omega
            have k1 : wr.cell? ⟨ba, 0, none⟩ = some (.slice (some ⟨h, 0, none⟩) n n) := by rw [blk_cell (wrote_block HWi.out HA.out ag)]; rfl
            have k3 := HTi.out.hcell hr
            have k5 := HTi.out.cell hlt2 hj
            rw [show CO T r j c i i j = T i j by unfold CO; rw [if_neg hir, if_neg (Nat.lt_irrefl i)]] at k5
            have hmx : n * q ≤ 4611686018427387904 := Nat.le_trans (Nat.mul_le_mul ln lm) (by decide)
            have HRR := Lib.hid (HTi.out.rc hr)
            obtain ⟨l, hl⟩ : ∃ l, l = row q (CO T r j c i r) := ⟨_, rfl⟩
            rw [← hl] at HRR
            have HLL := Lib.hid (show l.length = q by rw [hl, row_len])
            have HLB := Lib.hid (show ∀ jj, bn l jj = ((gv (bn l jj)).v : Int) from fun jj => by rw [hl]; exact (gv_v (row_bytes _ _ jj)).symm)
            have HLV := Lib.hid (show ∀ b, b < q → gv (bn l b) = c * T r b from fun b hb => by
              rw [hl, row_bn hb, gv_val]
              exact if_pos rfl)
            have HAP := Lib.hid (show l ≠ [] → ∀ ad, some (⟨g, off r, none⟩ : Addr) = some ad → ad.block ≠ g ∨ ∃ k, k < n ∧ k ≠ i ∧ ad = ⟨g, off k, none⟩ from fun _ ad e => .inr ⟨r, hr, fun e2 => hir e2.symm, by cases e; rfl⟩)
            clear hl
            go_wp2
            refine start_ (n := 10) (S := fun w' => w'.cell? ⟨ba, 0, none⟩ = some (.slice (some ⟨h, 0, none⟩) n n) ∧ w'.cell? ⟨bv, 0, none⟩ = some (.int .i64 r) ∧ w'.cell? ⟨h, r, none⟩ = some (.slice (some ⟨g, off r, none⟩) q q) ∧ w'.cell? ⟨g, off i + j, none⟩ = some (.int .u8 ((T i j).v : Int))) (ds := [9]) #[false, false, false, false, false, false, false, false, false, false] (by kernel_rfl) rfl rfl ⟨k1, k2, k3, k5⟩ (fun hHeld => ?_)
            refine pure_ (i := 0) (N := some 51) (v := ?_) (a' := ?_) #[true, false, false, false, false, false, false, false, false, false] rfl rfl (by kernel_rfl) (fun _ _ _ h => h) (Or.inl ⟨by rfl, ?_⟩) ?_ ?_
            rotate_left
            · intro w'
              go_simp
              (first | (with_reducible rfl) | ((try simp only [*]); (with_reducible rfl)))
            rotate_left
            · simp only [Act.put, List.setIfInBounds_toArray, List.set_cons_zero, List.set_cons_succ, i64_w, i32_w]
              rfl
            refine pure_ (i := 5) (N := some 56) (v := ?_) (a' := ?_) #[true, false, false, false, false, true, false, false, false, false] rfl rfl (by kernel_rfl) (fun _ _ _ h => h) (Or.inl ⟨by rfl, ?_⟩) ?_ ?_
            rotate_left
            · intro w'
              go_simp
              (first | (with_reducible rfl) | ((try simp only [*]); (with_reducible rfl)))
            rotate_left
            · simp only [Act.put, List.setIfInBounds_toArray, List.set_cons_zero, List.set_cons_succ, i64_w, i32_w]
              rfl
            refine pure_ (i := 6) (N := some 57) (v := ?_) (a' := ?_) #[true, false, false, false, false, true, true, false, false, false] rfl rfl (by kernel_rfl) (fun _ _ _ h => h) (Or.inl ⟨by rfl, ?_⟩) ?_ ?_
            rotate_left
            · intro w'
              go_simp
              (first | (with_reducible rfl) | ((try simp only [*]); (with_reducible rfl)))
            rotate_left
            · simp only [Act.put, List.setIfInBounds_toArray, List.set_cons_zero, List.set_cons_succ, i64_w, i32_w]
              rfl
            refine pure_ (i := 7) (N := some 58) (v := ?_) (a' := ?_) #[true, false, false, false, false, true, true, true, false, false] rfl rfl (by kernel_rfl) (fun _ _ _ h => h) (Or.inl ⟨by rfl, ?_⟩) ?_ ?_
            rotate_left
            · intro w'
              go_simp
              (first | (with_reducible rfl) | ((try simp only [*]); (with_reducible rfl)))
            rotate_left
            · simp only [Act.put, List.setIfInBounds_toArray, List.set_cons_zero, List.set_cons_succ, i64_w, i32_w]
              rfl
            refine take_ (i := 1) (N := some 52) (v := ?_) (a' := ?_) #[true, true, false, false, false, true, true, true, false, false] rfl rfl (by kernel_rfl) (fun _ _ _ h => h) (Or.inl ⟨by rfl, ?_⟩) hHeld ?_ ?_
            rotate_left
            · rintro w' ⟨s0, s1, s2, s3⟩
              go_simp
              (first | (with_reducible rfl) | ((try simp only [*]); (with_reducible rfl)))
            rotate_left
            · simp only [Act.put, List.setIfInBounds_toArray, List.set_cons_zero, List.set_cons_succ, i64_w, i32_w]
              rfl
            refine take_ (i := 2) (N := some 53) (v := ?_) (a' := ?_) #[true, true, true, false, false, true, true, true, false, false] rfl rfl (by kernel_rfl) (fun _ _ _ h => h) (Or.inl ⟨by rfl, ?_⟩) hHeld ?_ ?_
            rotate_left
            · rintro w' ⟨s0, s1, s2, s3⟩
              go_simp
              (first | (with_reducible rfl) | ((try simp only [*]); (with_reducible rfl)))
            rotate_left
            · simp only [Act.put, List.setIfInBounds_toArray, List.set_cons_zero, List.set_cons_succ, i64_w, i32_w]
              rfl
            refine pure_ (i := 3) (N := some 54) (v := ?_) (a' := ?_) #[true, true, true, true, false, true, true, true, false, false] rfl rfl (by kernel_rfl) (fun _ _ _ h => h) (Or.inl ⟨by rfl, ?_⟩) ?_ ?_
            rotate_left
            · intro w'
              go_simp
              (first | (with_reducible rfl) | ((try simp only [*]); (with_reducible rfl)))
            rotate_left
            · simp only [Act.put, List.setIfInBounds_toArray, List.set_cons_zero, List.set_cons_succ, i64_w, i32_w]
              rfl
            refine take_ (i := 4) (N := some 55) (v := ?_) (a' := ?_) #[true, true, true, true, true, true, true, true, false, false] rfl rfl (by kernel_rfl) (fun _ _ _ h => h) (Or.inl ⟨by rfl, ?_⟩) hHeld ?_ ?_
            rotate_left
            · rintro w' ⟨s0, s1, s2, s3⟩
              go_simp
              (first | (with_reducible rfl) | ((try simp only [*]); (with_reducible rfl)))
            rotate_left
            · simp only [Act.put, List.setIfInBounds_toArray, List.set_cons_zero, List.set_cons_succ, i64_w, i32_w]
              rfl
            refine take_ (i := 8) (N := some 59) (v := ?_) (a' := ?_) #[true, true, true, true, true, true, true, true, true, false] rfl rfl (by kernel_rfl) (fun _ _ _ h => h) (Or.inl ⟨by rfl, ?_⟩) hHeld ?_ ?_
            rotate_left
            · rintro w' ⟨s0, s1, s2, s3⟩
              go_simp
              (first | (with_reducible rfl) | ((try simp only [*]); (with_reducible rfl)))
            rotate_left
            · simp only [Act.put, List.setIfInBounds_toArray, List.set_cons_zero, List.set_cons_succ, i64_w, i32_w]
              rfl
            refine last_ (i := 9) (N := some 60) #[true, true, true, true, true, true, true, true, true, true] rfl rfl (by kernel_rfl) (by decide) (fun K hK => ?_)
            refine goes_ Try.func33 (by kernel_rfl) rfl #[.slice (some ⟨g, off i, none⟩) q q, .slice (some ⟨g, off r, none⟩) q q, .int .u8 ((T i j).v : Int)] (by rfl) rfl rfl (by (try simp only [List.map_toArray, List.map_cons, List.map_nil]); first | done | rfl) ?_
            with_reducible refine (tab_add2 HTi.out.drew i hlt2 (some ⟨g, off r, none⟩) l q q (fun jj => gv (bn l jj)) (T i j) (HRR.out.below (below_drew1 (Below.refl _ _))) HLL.out HLB.out (Nat.le_refl _) (Nat.le_refl _) HAP.out hmx).mono ?_
            rintro e w9 ⟨rfl, ht9, hw9⟩
            refine ⟨_, rfl, ?_⟩
            have HT9 := Lib.hid ht9
            have HW9 := Lib.hid (HWi.out.trans ((Wrote.of_below (below_drew1 (Below.refl _ _))).trans hw9))
            clear ht9 hw9
            refine hK.out _ _ ?_
            clear hK K
            refine norm_ (a' := ?_) ?_ ?_
            rotate_left
            · show Act.put _ (some 60) _ = _
              simp only [Act.put, List.setIfInBounds_toArray, List.set_cons_zero, List.set_cons_succ, i64_w, i32_w]
              rfl
            refine done_ (by kernel_rfl) ?_
            go_wp2
            go_roundw
            case rel =>
              refine ⟨i + 1, by omega, by go_num, HT9.out.congr fun a b ha hb => ?_, HW9.out⟩
              by_cases hai : a = i
              · subst hai
                rw [if_pos ⟨rfl, hb⟩, HLV.out b hb]
                unfold CO
                rw [if_neg hir, if_neg (Nat.lt_irrefl a), if_neg hir, if_pos (by omega)]
              · rw [if_neg (fun hh => hai hh.1)]
                unfold CO
                by_cases har : a = r
                · rw [if_pos har, if_pos har]
                · rw [if_neg har, if_neg har]
                  by_cases h3 : a < i
                  · rw [if_pos h3, if_pos (by omega)]
                  · rw [if_neg h3, if_neg (by omega)]
            case measure => simp [iOf]; omega
        · obtain rfl : i = n := by omega
          go_wp2
          go_end0
          refine ⟨rfl, HTi.out.congr fun a b ha hb => ?_, HWi.out⟩
          rw [HC.out]
          exact co_all T r j i ha
end Go.Proofs.Ytjkmaobfpgfdnaa.MClear
end

/- matrix.steps. -/
section
namespace Go.Proofs.Ytjkmaobfpgfdnaa.MSteps
open Go.Proofs.Ytjkmaobfpgfdnaa Go.RowKit Go.Proofs.YtjkmaobfpgfdnaaW.PrintWords Go.Proofs.YtjkmaobfpgfdnaaW.PrintLast Go.Proofs.YtjkmaobfpgfdnaaW.PrintMore Go.Proofs.Ytjkmaobfpgfdnaa.Byt Go.Proofs.Ytjkmaobfpgfdnaa.Lin Go.Proofs.Ytjkmaobfpgfdnaa.Lin.G Go.Proofs.Ytjkmaobfpgfdnaa.Elim Go.Proofs.Ytjkmaobfpgfdnaa.Tab Go.Proofs.Ytjkmaobfpgfdnaa.MBad Go.Proofs.Ytjkmaobfpgfdnaa.MAdd Go.Proofs.Ytjkmaobfpgfdnaa.MTable Go.Proofs.Ytjkmaobfpgfdnaa.MClear
set_option linter.unusedVariables false
set_option linter.unusedSimpArgs false
def iOf : Value → Int
  | .int _ x => x
  | _ => 0
theorem sg_ne {n p i k : Nat} (h : i ≠ k) : sg n p i ≠ sg n p k := fun e => h (by rw [← sg_sg n p i, e, sg_sg])
theorem tab_swap {w : World} {h g n m : Nat} {off : Nat → Nat} {T : Tb} (t : TAB w h g n m off T) {s p : Nat} (hs : s < n) (hp : p < n) :
    TAB ((w.setCell ⟨h, s, none⟩ (.slice (some ⟨g, off p, none⟩) m m)).setCell ⟨h, p, none⟩ (.slice (some ⟨g, off s, none⟩) m m)) h g n m (fun i => off (sg s p i)) (swp T s p) := by
  obtain ⟨D, hD, e0⟩ := t.data
  refine ⟨t.ne, ?_, ⟨fun i hi => t.shp.inn _ (sg_lt hs hp hi), fun i k hi hk hne => t.shp.apart _ _ (sg_lt hs hp hi) (sg_lt hs hp hk) (sg_ne hne)⟩, D, ?_, fun i j hi hj => e0 _ j (sg_lt hs hp hi) hj⟩
  · refine World.rowIs.congr (World.rowIs.set (World.rowIs.set t.head s _) p _) fun i hi => ?_
    show _ = Value.slice (some ⟨g, off (sg s p i), none⟩) m m
    unfold sg
    by_cases hip : i = p
    · rw [if_pos hip]
      by_cases his : i = s
      · rw [if_pos his, ← hip, his]
      · rw [if_neg his, if_pos hip]
    · rw [if_neg hip]
      by_cases his : i = s
      · rw [if_pos his, if_pos his]
      · rw [if_neg his, if_neg his, if_neg hip]
  · exact World.rowIs.setOther (World.rowIs.setOther hD (fun e => t.ne e.symm) _) (fun e => t.ne e.symm) _
theorem tab_far {w : World} {h g n m : Nat} {off : Nat → Nat} {T : Tb} (t : TAB w h g n m off T) {b i : Nat} (hb : h ≠ b) (gb : g ≠ b) (v : Value) : TAB (w.setCell ⟨b, i, none⟩ v) h g n m off T :=
  t.of_blocks (Below.heap_setCell w ⟨b, i, none⟩ v h hb) (Below.heap_setCell w ⟨b, i, none⟩ v g gb)
theorem fnd_skip {A : Tb} {j n p : Nat} (hp : p < n) (h : A p j = 0) : fnd A j (n - p) p = fnd A j (n - (p + 1)) (p + 1) := by
  obtain ⟨d, hd⟩ : ∃ d, n - p = d + 1 := ⟨n - p - 1, by omega⟩
  rw [hd, show n - (p + 1) = d by omega]
  exact if_pos h
theorem fnd_stop {A : Tb} {j n p : Nat} (hp : p < n) (h : A p j ≠ 0) : fnd A j (n - p) p = some p := by
  obtain ⟨d, hd⟩ : ∃ d, n - p = d + 1 := ⟨n - p - 1, by omega⟩
  rw [hd]
  exact if_neg h
theorem fnd_end (A : Tb) (j n : Nat) : fnd A j (n - n) n = none := by rw [Nat.sub_self]; rfl
theorem stps_le (n : Nat) (T : Tb) (j : Nat) : (stps n T j).2 ≤ n := (inv_stps n T j).nm
set_option maxRecDepth 100000 in
set_option maxHeartbeats 16000000 in
theorem steps_any (B h g n m c : Nat) (off : Nat → Nat) (T : Tb) (W0 W : World) (t : TAB W h g n m off T) (hc : c ≤ m) (ln : n ≤ 1048576) (lm : m ≤ 1048576) (hB : Below B W0 W) (Bh : B ≤ h) (Bg : B ≤ g) (BW : B ≤ W.heap.size) :
    Calls Try.prog 36 #[.slice (some ⟨h, 0, none⟩) n n, .int .i64 c] W fun e w' => ∃ off', e = .returned (.int .i64 ((stps n T c).2 : Nat)) ∧ TAB w' h g n m off' (stps n T c).1 ∧ Below B W0 w' := by
  have HT := Lib.hid t
  have HB := Lib.hid hB
  have hlt := t.hlt
  have glt := t.glt
  have hgn := t.ne
  clear t hB
  go_enter Try.func36, Try.ntmps36
  go_wp2
  go_step3
  go_wp2
  go_step3
  go_wp2
  go_loopg [11] c (fun gq v11 wr => ∃ (j : Nat) (off' : Nat → Nat), j + gq = c ∧ v11 = .int .i64 j ∧ TAB wr h g n m off' (stps n T j).1 ∧ wr.heap[W.heap.size]? = some (.cells #[.slice (some ⟨h, 0, none⟩) n n] 22 (0, 0)) ∧ wr.heap[W.heap.size + 1]? = some (.cells #[.int .i64 ((stps n T j).2 : Nat)] 3 (0, 0)) ∧ Below B W0 wr)
  case atStart =>
    have h1 := HB.out.alloc BW (.cells #[.slice (some ⟨h, 0, none⟩) n n] 22)
    refine ⟨0, off, by omega, rfl, (HT.out.alloc _).alloc _, blk_alloc (blk_new W _) _, ?_, h1.alloc (by simp; omega) _⟩
    have := blk_new (W.alloc (.cells #[.slice (some ⟨h, 0, none⟩) n n] 22)) (.cells #[.int .i64 0] 3)
    rw [show (W.alloc (.cells #[.slice (some ⟨h, 0, none⟩) n n] 22)).heap.size = W.heap.size + 1 by simp] at this
    exact this
  case round =>
    obtain ⟨j, off', hj, rfl, ht, ha, hb, hB⟩ := hrel
    obtain ⟨S, hS⟩ : ∃ S, S = (stps n T j).1 := ⟨_, rfl⟩
    obtain ⟨s, hs⟩ : ∃ s, s = (stps n T j).2 := ⟨_, rfl⟩
    have hsn : s ≤ n := by rw [hs]; exact stps_le n T j
    rw [← hS] at ht
    rw [← hs] at hb
    have HS := Lib.hid (show stps n T (j + 1) = stp n (S, s) j by rw [hS, hs]; rfl)
    have HS1 := Lib.hid hS
    have HS2 := Lib.hid hs
    have HTj := Lib.hid ht
    have HAj := Lib.hid ha
    have HBj := Lib.hid hb
    have HBW := Lib.hid hB
    have k1 : wr.cell? ⟨W.heap.size, 0, none⟩ = some (.slice (some ⟨h, 0, none⟩) n n) := by rw [blk_cell ha]; rfl
    have k2 : wr.cell? ⟨W.heap.size + 1, 0, none⟩ = some (.int .i64 (s : Nat)) := by rw [blk_cell hb]; rfl
    clear ht ha hb hB hS hs
    cases gk with
    | zero =>
      obtain rfl : j = c := by omega
      go_wp2
      try rw [Exit.noGoto_ret]
      go_ret
      exact ⟨off', by rw [HS2.out]; rfl, by rw [← HS1.out]; exact HTj.out, HBW.out⟩
    | succ q1 =>
      have hjc : j < c := by omega
      go_wp2
      go_loopg [8] (n - s) (fun gp v8 wp => ∃ p : Nat, p + gp = n ∧ v8 = .int .i64 p ∧ wp = wr ∧ fnd S j (n - s) s = fnd S j (n - p) p)
      case atStart => exact ⟨s, by omega, rfl, rfl, rfl⟩
      case round =>
        obtain ⟨p, hp, rfl, rfl, hfd⟩ := hrel
        cases gk with
        | zero =>
          obtain rfl : p = n := by omega
          rw [fnd_end] at hfd
          have hst : stps p T (j + 1) = (S, s) := by rw [HS.out]; unfold stp; rw [hfd]
          have HST := Lib.hid hst
          clear hst hfd
          go_wp2
          go_roundg q1
          case measure => omega
          case rel => exact ⟨j + 1, off', by omega, by go_num, by rw [HST.out]; exact HTj.out, HAj.out, by rw [HST.out]; exact HBj.out, HBW.out⟩
        | succ p1 =>
          have hpn : p < n := by omega
          have hjm : j < m := by omega
          have hx := HTj.out.hcell hpn
          have hc0 := HTj.out.cell hpn hjm
          by_cases hz : S p j = 0
          · have hfd2 := Lib.hid (hfd.trans (fnd_skip hpn hz))
            rw [hz] at hc0
            have hzb : (((0 : G).v : Int) != 0) = false := by decide
            clear hfd
            go_wp2
            go_roundg p1
            case measure => omega
            case rel => exact ⟨p + 1, by omega, by go_num, rfl, hfd2.out⟩
          · have hzb : (((S p j).v : Int) != 0) = true := by
              have := ne_v hz
              simp
              exact fun e => this (by rw [show (S p j).v = 0 by omega])
            rw [fnd_stop hpn hz] at hfd
            have hsp : s ≤ p := (fnd_some hfd).1
            have hsl : s < n := by omega
            have hxs := HTj.out.hcell hsl
            have hfp := HTj.out.hfrozen p
            have hfs := HTj.out.hfrozen s
            have hh2 := World.rowIs.set HTj.out.head s (.slice (some ⟨g, off' p, none⟩) m m)
            have hxp2 : (wr.setCell ⟨h, s, none⟩ (.slice (some ⟨g, off' p, none⟩) m m)).cell? ⟨h, p, none⟩ = some _ := World.rowIs.cell hh2 hpn
            have hfp2 : (wr.setCell ⟨h, s, none⟩ (.slice (some ⟨g, off' p, none⟩) m m)).frozen? ⟨h, p, none⟩ = false := World.rowIs.frozen hh2 p
            have hxp3 : (wr.drew.setCell ⟨h, s, none⟩ (.slice (some ⟨g, off' p, none⟩) m m)).cell? ⟨h, p, none⟩ = some _ := World.rowIs.cell hh2 hpn
            have hfp3 : (wr.drew.setCell ⟨h, s, none⟩ (.slice (some ⟨g, off' p, none⟩) m m)).frozen? ⟨h, p, none⟩ = false := World.rowIs.frozen hh2 p
            clear hh2
            have hne1 : W.heap.size ≠ h := by omega
            have hne2 : h ≠ W.heap.size := by omega
            have hne3 : W.heap.size + 1 ≠ h := by omega
            have hne4 : h ≠ W.heap.size + 1 := by omega
            go_wp2
            go_cut [] from 29 to 42 (fun wx => wx = ((wr.setCell ⟨h, s, none⟩ (.slice (some ⟨g, off' p, none⟩) m m)).setCell ⟨h, p, none⟩ (.slice (some ⟨g, off' s, none⟩) m m)).drew)
            case first =>
              go_region
              go_wp2_with fail
              go_meet
              rfl
            case rest =>
              subst hcut
              obtain ⟨w2, hw2⟩ : ∃ w2, w2 = ((wr.setCell ⟨h, s, none⟩ (.slice (some ⟨g, off' p, none⟩) m m)).setCell ⟨h, p, none⟩ (.slice (some ⟨g, off' s, none⟩) m m)).drew := ⟨_, rfl⟩
              rw [← hw2]
              have HT2 := Lib.hid (show TAB w2 h g n m (fun i => off' (sg s p i)) (swp S s p) by rw [hw2]; exact (tab_swap HTj.out hsl hpn).drew)
              have HA2 := Lib.hid (show w2.heap[W.heap.size]? = some (.cells #[.slice (some ⟨h, 0, none⟩) n n] 22 (0, 0)) by rw [hw2]; exact blk_drew (blk_far (blk_far HAj.out (p := ⟨h, s, none⟩) hne1 _) (p := ⟨h, p, none⟩) hne1 _))
              have HV2 := Lib.hid (show w2.heap[W.heap.size + 1]? = some (.cells #[.int .i64 (s : Nat)] 3 (0, 0)) by rw [hw2]; exact blk_drew (blk_far (blk_far HBj.out (p := ⟨h, s, none⟩) hne3 _) (p := ⟨h, p, none⟩) hne3 _))
              have HB2 := Lib.hid (show Below B W0 w2 by rw [hw2]; exact ((HBW.out.setCell (p := ⟨h, s, none⟩) Bh _).setCell (p := ⟨h, p, none⟩) Bh _).drew)
              have hpv : swp S s p s j ≠ 0 := by
                rw [show swp S s p s j = S p j by unfold swp sg; rw [if_pos rfl]]
                exact hz
              have HPV := Lib.hid hpv
              have hst : stps n T (j + 1) = (clr (swp S s p) s j, s + 1) := by rw [HS.out]; unfold stp; rw [hfd]
              have HST := Lib.hid hst
              clear hw2 hpv hst hfd hxs hfp hfs hxp2 hfp2 hxp3 hfp3 hx hc0 k1 k2
              have hag : W.heap.size ≠ g := by omega
              have hvg : W.heap.size + 1 ≠ g := by omega
              go_wp2_with fail
              with_reducible refine (clear_any h g n m W.heap.size (W.heap.size + 1) s j (fun i => off' (sg s p i)) (swp S s p) _ HT2.out HA2.out HV2.out hsl hjm HPV.out hag hvg ln lm).mono ?_
              rintro e w9 ⟨rfl, ht9, hw9⟩
              have HT9 := Lib.hid ht9
              have HA9 := Lib.hid (wrote_block hw9 HA2.out hag)
              have HV9 := Lib.hid (wrote_block hw9 HV2.out hvg)
              have HB9 := Lib.hid (HB2.out.trans (hw9.below Bg (Nat.le_of_lt (Nat.lt_of_le_of_lt Bg HT2.out.glt))))
              clear ht9 hw9
              have k9 : w9.cell? ⟨W.heap.size + 1, 0, none⟩ = some (.int .i64 (s : Nat)) := blk_cell HV9.out 0
              have f9 := blk_frozen HV9.out 0
              go_wp2
              go_roundg q1
              case measure => omega
              case rel =>
                have es : ((s + 1 : Nat) : Int) = (s : Int) + 1 := by omega
                refine ⟨j + 1, fun i => off' (sg s p i), by omega, by go_num, ?_, blk_far HA9.out (p := ⟨W.heap.size + 1, 0, none⟩) (show W.heap.size ≠ W.heap.size + 1 by omega) _, ?_, HB9.out.setCell (show B ≤ W.heap.size + 1 by omega) _⟩
                · rw [HST.out]
                  exact tab_far HT9.out hne4 (fun e => hvg e.symm) _
                · rw [HST.out]
                  show _ = some (Obj.cells #[.int .i64 ((s + 1 : Nat) : Int)] 3 (0, 0))
                  rw [es]
                  exact blk_set HV9.out 0 _
end Go.Proofs.Ytjkmaobfpgfdnaa.MSteps
end
