/- A digest that has taken in just these bytes: written to, asked, twinned. -/
import Derived.Test.YthgmhjgbjodhjaaDoorSha8
namespace Go.Proofs.YthgmhjgbjodhjaaDoor.Hs
open Go.Proofs.YthgmhjgbjodhjaaDoor Go.RowKit Go.Proofs.YthgmhjgbjodhjaaDoorW.PrintWords Go.Proofs.YthgmhjgbjodhjaaDoorW.PrintLast Go.Proofs.YthgmhjgbjodhjaaDoorW.PrintMore Go.Proofs.YthgmhjgbjodhjaaDoor.Sha Go.Proofs.YthgmhjgbjodhjaaDoor.Sha2 Go.Proofs.YthgmhjgbjodhjaaDoor.Sha3 Go.Proofs.YthgmhjgbjodhjaaDoor.Own Go.Proofs.YthgmhjgbjodhjaaDoor.Sha4 Go.Proofs.YthgmhjgbjodhjaaDoor.Sha5 Go.Proofs.YthgmhjgbjodhjaaDoor.Sha7 Go.Proofs.YthgmhjgbjodhjaaDoor.ShaPure Go.Proofs.YthgmhjgbjodhjaaDoor.Sha8
set_option linter.unusedVariables false

/-- The digest at block g has taken in just a. -/
def HS (w : World) (g : Nat) (a : List Int) : Prop := H w g (eaten IV a) (left a) a.length
theorem HS.below {w w' : World} {g : Nat} {a : List Int} (h : HS w g a) (hb : Below w.heap.size w w') : HS w' g a := H_below h hb
theorem HS.lt {w : World} {g : Nat} {a : List Int} (h : HS w g a) : g < w.heap.size := H_lt h
theorem eaten8 (a : List Int) : (eaten IV a).length = 8 := by unfold eaten; exact eats_len _ rfl _
theorem bytes_nil : Bytes [] := fun j => by simp [bn, rd]

theorem new_on (W : World) : Calls Tryd.prog 14 #[] W fun e w' => e = .returned (.pointer (some ⟨W.heap.size, 0, none⟩)) ∧ HS w' W.heap.size [] ∧ Below W.heap.size W w' := new_any W
theorem write_on (g : Nat) (a l R : List Int) (m : Nat) (hm : m = l.length) (hR : R = a ++ l) (B : Option Addr) (cb : Nat) (W : World) (ha : Bytes a) (hl : Bytes l) (hll : l.length ≤ 10000000) (hn : a.length ≤ 1000000000000)
    (hg : 0 < g) (hK : KB W) (hh : HS W g a) (hB : RC W B l) (hOB : l ≠ [] → Off g B) (hcb : m ≤ cb) :
    Calls Tryd.prog 15 #[.pointer (some ⟨g, 0, none⟩), .slice B m cb] W fun e w' => e = .returned (.tuple #[]) ∧ HS w' g R ∧ Wrote g W w' := by
  subst hm hR
  refine (write_any g _ _ l _ B cb W (eaten8 a) (left_bytes ha) hl (Nat.le_trans (Nat.le_of_lt (left_len a)) (by decide)) hll hn hg hK hh hB hOB hcb).mono ?_
  rintro e w' ⟨h1, h2, h3⟩
  refine ⟨h1, ?_, h3⟩
  unfold HS
  rw [← eaten_on, ← left_on, List.length_append]
  exact h2
theorem sum_on (g : Nat) (a R : List Int) (W : World) (hR : R = ofS a) (ha : Bytes a) (hn : a.length ≤ 100000000000) (hK : KB W) (hh : HS W g a) :
    Calls Tryd.prog 16 #[.pointer (some ⟨g, 0, none⟩)] W fun e w' => e = .returned (.agg (nums .u8 R).toArray) ∧ Below W.heap.size W w' :=
  sum_gen g _ _ _ R W hR (eaten8 a) (left_bytes ha) (left_len a) hn hK hh
theorem len_on (g : Nat) (a : List Int) (n : Nat) (hn : n = a.length) (W : World) (hh : HS W g a) :
    Calls Tryd.prog 17 #[.pointer (some ⟨g, 0, none⟩)] W fun e w' => e = .returned (.int .i64 (n : Int)) ∧ W = w' := by
  subst hn
  exact len_any g _ _ _ W (eaten8 a) hh
theorem twin_on (g : Nat) (a : List Int) (W : World) (hh : HS W g a) :
    Calls Tryd.prog 18 #[.pointer (some ⟨g, 0, none⟩)] W fun e w' => ∃ g', e = .returned (.pointer (some ⟨g', 0, none⟩)) ∧ W.heap.size ≤ g' ∧ HS w' g' a ∧ Below W.heap.size W w' :=
  twin_any g _ _ _ W (eaten8 a) (Nat.le_trans (Nat.le_of_lt (left_len a)) (by decide)) hh

/-- What lies behind a place in bytes. -/
theorem run_cutB (A : Option Addr) (n c p : Nat) (hp : p ≤ n) (hc : n ≤ c) (hn : n ≤ 9223372036854775807) :
    ∃ A', (∀ W : World, (Instr.slice TB (.slice A n c) (some (.int .i64 (p : Int))) none none).run Tryd.prog W = .ok (.slice A' (n - p) (c - p)) W) ∧ ∀ w l, n = l.length → RC w A l → RC w A' (l.drop p) := by
  obtain ⟨i, hi, hz, hsz, hby⟩ := info_parts info5
  obtain ⟨A', h1, h2⟩ := print_cut (P := Tryd.prog) TB 5 .i64 Tryd.underlying22 hi hsz A n c p hp
  refine ⟨A', h1, fun w l hl h => ?_⟩
  subst hl
  have h3 : ReadsInt w .u8 A l.length l := ⟨rfl, hn, fun h0 => by
    obtain ⟨ad, e, _, hcell⟩ := h (by intro e; subst e; simp at h0)
    refine ⟨ad, e, fun j hj => ?_⟩
    rw [hcell j hj, bn_getD]⟩
  have h4 := h2 w .u8 l hc h3
  intro hne
  have h0 : 0 < (l.drop p).length := List.length_pos_iff.mpr hne
  obtain ⟨ad, e, hcell⟩ := h4.2.2 (by rw [List.length_drop] at h0; exact h0)
  refine ⟨ad, e, ?_, fun j hj => ?_⟩
  · have := block_lt_of_cell (hcell 0 (by rw [List.length_drop] at h0; exact h0))
    rwa [Sha3.add_block] at this
  · rw [hcell j (by rw [List.length_drop] at hj; exact hj), bn_getD]
theorem run_takeB (A : Option Addr) (n c p : Nat) (hp : p ≤ c) (hc : n ≤ c) :
    ∀ W : World, (Instr.slice TB (.slice A n c) none (some (.int .i64 (p : Int))) none).run Tryd.prog W = .ok (.slice A p c) W := by
  intro W
  have hel : Tryd.prog.elem TB = 5 := by simp [Program.elem, Tryd.underlying22]
  have hu : Tryd.prog.underlying TB = some (.slice (Tryd.prog.elem TB)) := by rw [hel]; exact Tryd.underlying22
  obtain ⟨i, hi, hz, hsz, hby⟩ := info_parts info5
  rw [run_slice_h W TB A n c hu .i64 (p : Int) (Int.natCast_nonneg _) (by omega), hel]
  have h0 : A.map (fun x => x.add 0) = A := by cases A <;> simp [Addr.add]
  simp [sizeOf, typeInfo, hi, hsz, sliced, Result.andThen, h0]
/-- An element of whole numbers that are read. -/
theorem int_at {w : World} {k : IntKind} {ad : Addr} {n : Nat} {l : List Int} (h : Kd.C (Kd.int k) w (some ad) n l) (j : Nat) (hj : j < l.length) : ∃ x, l[j]? = some x ∧ w.cell? (ad.add j) = some (.int k x) := by
  obtain ⟨ad', e, hc⟩ := h.2.2 (by have := h.1; omega)
  cases e
  obtain ⟨c, _, h2, h3⟩ := hc j _ (List.getElem?_eq_getElem hj)
  refine ⟨l[j], List.getElem?_eq_getElem hj, ?_⟩
  have h2' : c = [.int k l[j]] := h2
  have := h3 0 (.int k l[j]) (by rw [h2']; rfl)
  simpa [Kd.int, Kd.scalar] using this
theorem int_none {w : World} {k : IntKind} {l : List Int} (h : Kd.C (Kd.int k) w none l.length l) : l.length = 0 := by
  rcases Nat.eq_zero_or_pos l.length with h0 | h0
  · exact h0
  · obtain ⟨ad, e, _⟩ := h.2.2 h0
    cases e
/-- The place of an element, whatever the slice's address. -/
theorem int_place {w : World} {T E : TypeId} {k : IntKind} {A : Option Addr} {n c : Nat} {l : List Int} (ht : Tryd.prog.underlying T = some (.slice E)) (hs : (Tryd.prog.info? E).map (·.size) = some 1) (h : Kd.C (Kd.int k) w A n l) (j : Nat) (hj : j < n) :
    ∃ (a : Addr) (x : Int), l[j]? = some x ∧ a.block < w.heap.size ∧ w.cell? a = some (.int k x) ∧ ∀ W : World, (Instr.indexAt T (.slice A n c) (.int .i64 (j : Int))).run Tryd.prog W = .ok (.pointer (some a)) W := by
  have hln : l.length = n := h.1
  rcases A with _ | ad
  · obtain ⟨ad, e, _⟩ := h.2.2 (by omega)
    cases e
  · obtain ⟨x, h1, h2⟩ := int_at h j (by omega)
    refine ⟨ad.add j, x, h1, ?_, h2, fun W => ?_⟩
    · exact block_lt_of_cell h2
    · obtain ⟨i, hi, hsz⟩ := Option.map_eq_some_iff.1 hs
      simp [Instr.indexAt, run_underlying ht, asIntOf, sizeOf, typeInfo, hi, hsz, hj, Sem.run_bind]
end Go.Proofs.YthgmhjgbjodhjaaDoor.Hs
