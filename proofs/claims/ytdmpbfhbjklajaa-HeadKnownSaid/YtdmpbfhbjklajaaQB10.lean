/- Texts of this claim, laid together by wip/tools/squash.py: Opn, Turned, HAwake, HSealIm. -/
import Derived.Test.YtdmpbfhbjklajaaQB9
import Derived.Test.YtdmpbfhbjklajaaWMore
import Derived.Test.YtdmpbfhbjklajaaWArr
import Derived.ChangeArms
import Derived.DataElems
import Derived.DataReads
import Derived.OpenShut
import Derived.SizedLaws

/- What came in, laid open, with how much it is: whole numbers, bools, texts, rows, arrays, in whatever nesting. -/
section
namespace Go.Proofs.Ytdmpbfhbjklajaa.Opn
open Go Go.RowKit Go.Proofs.YtdmpbfhbjklajaaW.PrintWords Go.Proofs.YtdmpbfhbjklajaaW.PrintLast Go.Proofs.YtdmpbfhbjklajaaW.PrintMore
set_option linter.unusedVariables false

/-- Each reading at the type t that is no more than there may be gives a value of which K and W hold. -/
def Opn (P : Program) {α : Type} (K : World → α → List Value → Prop) (t : TypeId) (W : α → Prop) : Prop :=
  ∀ (H : Type) (enc : TypeId × Value → H) (w : World) (sp : Nat → Bool) (held : Bool) (fuel : Nat) (cs : List Value) (x : DataW H × List MemPlace),
    DataW.trod enc P w 0 sp held fuel t cs = some x → (x.1.weights P t).all (· ≤ reachBytes) = true → ∃ a, K w a cs ∧ W a

theorem Opn.weak {P : Program} {α : Type} {K : World → α → List Value → Prop} {t : TypeId} {W W' : α → Prop} (h : Opn P K t W) (hw : ∀ a, W a → W' a) : Opn P K t W' := fun H enc w sp held fuel cs x h1 h2 => by
  obtain ⟨a, ha, hb⟩ := h H enc w sp held fuel cs x h1 h2
  exact ⟨a, ha, hw a hb⟩
theorem of_int {P : Program} {t : TypeId} {k : IntKind} (ht : P.underlying t = some (.int k)) : Opn P (Kd.int k).K t (fun n => (Lit.int k n).wf = true) := by
  intro H enc w sp held fuel cs x h _
  obtain ⟨n, rfl, _, hw⟩ := DataW.trod_int ht h
  exact ⟨n, rfl, hw⟩
theorem of_bool {P : Program} {t : TypeId} (ht : P.underlying t = some .bool) : Opn P Kd.bool.K t (fun _ => True) := by
  intro H enc w sp held fuel cs x h _
  cases fuel with
  | zero => simp [DataW.trod] at h
  | succ n =>
    unfold DataW.trod at h
    rw [ht] at h
    split at h <;> first | (exact ⟨_, rfl, trivial⟩) | simp_all
theorem of_string {P : Program} {t : TypeId} (ht : P.underlying t = some .string) : Opn P Kd.string.K t (fun s => s.size ≤ 140737488351232) := by
  intro H enc w sp held fuel cs x h hw
  obtain ⟨s, rfl, rfl, _⟩ := DataW.trod_string ht h
  refine ⟨s, rfl, ?_⟩
  simp only [DataW.weights, List.all_cons, List.all_nil, Bool.and_true, decide_eq_true_eq] at hw
  simpa [reachBytes] using hw

theorem cells_at {w : World} {a : Addr} {n : Nat} {cs : List Value} (h : w.cells? 0 a n = some cs) : cs.length = n ∧ ∀ i u, cs[i]? = some u → w.cell? (a.add i) = some u := by
  obtain ⟨_, hl, hc⟩ := World.cells?_some h
  refine ⟨hl, fun i u hu => ?_⟩
  have hi : i < n := by rw [← hl]; exact (List.getElem?_eq_some_iff.1 hu).1
  rw [hc i hi, hu]
/-- One value for each place. -/
theorem choose_row {α : Type} {p : Nat → α → Prop} (n : Nat) (h : ∀ i, i < n → ∃ x, p i x) : ∃ xs : List α, xs.length = n ∧ ∀ i x, xs[i]? = some x → p i x := by
  induction n with
  | zero => exact ⟨[], rfl, fun i x hx => by simp at hx⟩
  | succ n ih =>
    obtain ⟨xs, hl, hp⟩ := ih (fun i hi => h i (by omega))
    obtain ⟨x, hx⟩ := h n (by omega)
    refine ⟨xs ++ [x], by simp [hl], fun i y hy => ?_⟩
    by_cases hi : i < xs.length
    · rw [List.getElem?_append_left hi] at hy
      exact hp i y hy
    · rw [List.getElem?_append_right (by omega)] at hy
      have : i = n := by
        have := (List.getElem?_eq_some_iff.1 hy).1
        simp at this; omega
      subst this
      rw [hl, Nat.sub_self] at hy
      simp at hy
      rw [← hy]; exact hx
theorem weights_all {H : Type} {P : Program} {e : TypeId} : ∀ {ds : List (DataW H)} {d : DataW H}, d ∈ ds → ∀ n ∈ d.weights P e, n ∈ DataW.weightsAll P e ds
  | d0 :: ds, d, hd, n, hn => by
    simp only [DataW.weightsAll, List.mem_append]
    rcases List.mem_cons.1 hd with rfl | hd
    · exact .inl hn
    · exact .inr (weights_all hd n hn)

theorem of_slice {P : Program} {α : Type} {d : Kd α} {t e : TypeId} {W : α → Prop} (ht : P.underlying t = some (.slice e)) (hc : P.cellsOf e = d.sz) {B : Nat} (hB : P.bytesOf e = B) (he : Opn P d.K e W) :
    Opn P (Kd.slice e d).K t (fun l => l.length * B ≤ 140737488351232 ∧ l.length ≤ maxLen ∧ ∀ x ∈ l, W x) := by
  intro H enc w sp held fuel cs x h hw
  rcases DataW.trod_slice ht h with ⟨rfl, _⟩ | ⟨a, len, cap, elems, rest, n, _, rfl, hx, _, hlc, hcm, hlen, hel, _⟩
  · exact ⟨[], ⟨none, 0, rfl, Nat.le_refl _, rfl, Nat.zero_le _, fun h => absurd h (by simp)⟩, by simp, by simp [maxLen], fun x hx => by simp at hx⟩
  · subst hx
    have hall := List.all_eq_true.1 hw
    simp only [DataW.weights, ht] at hall
    have h0 : (elems.length + rest.length) * B ≤ 140737488351232 := by
      have := hall ((elems.length + rest.length) * P.bytesOf e) (by simp)
      rw [hB] at this
      have h2 := of_decide_eq_true this
      simpa [reachBytes] using h2
    have hx : ∀ i, i < len → ∃ y, (∃ c, c.length = d.sz ∧ d.K w y c ∧ ∀ j u, c[j]? = some u → w.cell? (a.add (i * d.sz + j)) = some u) ∧ W y := by
      intro i hi
      have hE := hel i hi
      rw [List.getElem?_eq_getElem (by omega)] at hE
      obtain ⟨c, hcc, hy⟩ := Option.bind_eq_some_iff.mp hE
      have hwt : ((elems[i]'(by omega)).1.weights P e).all (· ≤ reachBytes) = true := List.all_eq_true.2 fun n hn => hall n (by
        refine List.mem_cons_of_mem _ (List.mem_append_left _ (weights_all (d := (elems[i]'(by omega)).1) ?_ n hn))
        exact List.mem_map_of_mem (List.getElem_mem _))
      obtain ⟨y, hy, hw⟩ := he H enc w sp held n c _ hy hwt
      obtain ⟨hl, hcell⟩ := cells_at hcc
      refine ⟨y, ⟨c, by rw [hl, hc], hy, fun j u hu => ?_⟩, hw⟩
      have := hcell j u hu
      rw [Addr.add_add, hc] at this
      exact this
    obtain ⟨xs, hl, hp⟩ := choose_row len hx
    have hmx : maxLen ≤ 9223372036854775807 := by decide
    refine ⟨xs, ⟨some a, cap, by rw [hl], by omega, rfl, by omega, fun _ => ⟨a, rfl, fun j p hj => (hp j p hj).1⟩⟩, ?_, by omega, fun x hx => ?_⟩
    · have : len * B ≤ (elems.length + rest.length) * B := Nat.mul_le_mul_right _ (by omega)
      rw [hl]; omega
    · obtain ⟨i, hi, rfl⟩ := List.mem_iff_getElem.mp hx
      exact (hp i _ (List.getElem?_eq_getElem hi)).2

/-- An array's cells are one behind the other. -/
theorem of_ints_array {P : Program} {n : Nat} {t e : TypeId} {k : IntKind} (ht : P.underlying t = some (.array n e)) (he : P.underlying e = some (.int k)) (hc : P.cellsOf e = 1) (hn : P.cellsOf t = n) :
    Opn P (fun _ (l : List Int) cs => l.length = n ∧ cs = l.map (Value.int k)) t (fun l => ∀ m ∈ l, (Lit.int k m).wf = true) := by
  intro H enc w sp held fuel cs x h _
  obtain ⟨xs, m, _, _, hl, hxl, hel⟩ := DataW.trod_array ht h
  have hx : ∀ i, i < n → ∃ y, cs[i]? = some (.int k y) ∧ (Lit.int k y).wf = true := by
    intro i hi
    have hE := hel i hi
    rw [List.getElem?_eq_getElem (by omega), hc, Nat.mul_one] at hE
    obtain ⟨y, hy, _, hw⟩ := DataW.trod_int he hE
    refine ⟨y, ?_, hw⟩
    have hlt : i < cs.length := by omega
    have h0 := congrArg (fun z => z[0]?) hy
    simp only [List.getElem?_take, List.getElem?_drop, Nat.add_zero, List.getElem?_cons_zero] at h0
    simpa using h0
  obtain ⟨l, hll, hp⟩ := choose_row n hx
  refine ⟨l, ⟨hll, ?_⟩, fun m hm => ?_⟩
  · apply List.ext_getElem?
    intro i
    rw [List.getElem?_map]
    cases hi : l[i]? with
    | none =>
      have : l.length ≤ i := List.getElem?_eq_none_iff.mp hi
      rw [List.getElem?_eq_none (by omega)]; rfl
    | some y => rw [(hp i y hi).1]; rfl
  · obtain ⟨i, hi, rfl⟩ := List.mem_iff_getElem.mp hm
    exact (hp i _ (List.getElem?_eq_getElem hi)).2

/-- A state's fields, each read where it lies. -/
theorem fields {P : Program} {H : Type} {enc : TypeId × Value → H} {w : World} {sp : Nat → Bool} {held : Bool} {fuel : Nat} {t : TypeId} {fs : Array Field} {cs : List Value} {x : DataW H × List MemPlace} (ht : P.underlying t = some (.struct fs))
    (h : DataW.trod enc P w 0 sp held fuel t cs = some x) (hw : (x.1.weights P t).all (· ≤ reachBytes) = true) :
    cs.length = P.cellsOf t ∧ ∀ (i : Nat) (f : Field) {α : Type} (K : World → α → List Value → Prop) (W : α → Prop), fs[i]? = some f → Opn P K f.type W → ∃ a, K w a ((cs.drop f.offset).take (P.cellsOf f.type)) ∧ W a := by
  obtain ⟨xs, n, _, rfl, hl, hxl, hf⟩ := DataW.trod_struct ht h
  refine ⟨hl, fun i f α K W hi ho => ?_⟩
  have hif : i < fs.size := (Array.getElem?_eq_some_iff.1 hi).1
  have hq := hf i f hi
  rw [List.getElem?_eq_getElem (by omega)] at hq
  refine ho H enc w sp held n _ _ hq ?_
  have hall := List.all_eq_true.1 hw
  simp only [DataW.weights, ht] at hall
  refine List.all_eq_true.2 fun m hm => hall m ?_
  refine DataW.weights_mem_each (j := i) (t := f.type) (d := (xs[i]'(by omega)).1) ?_ ?_ m hm
  · simp [hi]
  · simp [List.getElem?_eq_getElem (show i < xs.length by omega)]
theorem split_at (cs : List Value) (o s : Nat) : (cs.drop o).take s ++ cs.drop (o + s) = cs.drop o := by
  have := List.take_append_drop s (cs.drop o)
  rwa [List.drop_drop] at this
theorem split_end (cs : List Value) (o s : Nat) (h : cs.length = o + s) : (cs.drop o).take s = cs.drop o := List.take_of_length_le (by rw [List.length_drop]; omega)
/-- A row's data, each no more than there may be. -/
theorem sized_at {H : Type} {P : Program} {ts : List TypeId} {ds : List (DataW H)} (h : (DataW.weightsEach P ts ds).all (· ≤ reachBytes) = true) (j : Nat) {t : TypeId} {d : DataW H} (ht : ts[j]? = some t) (hd : ds[j]? = some d) : (d.weights P t).all (· ≤ reachBytes) = true :=
  List.all_eq_true.2 fun n hn => List.all_eq_true.1 h n (DataW.weights_mem_each ht hd n hn)
end Go.Proofs.Ytdmpbfhbjklajaa.Opn
end

/- What 'turned' answers is bytes; a Turn laid open. -/
section
namespace Go.Proofs.Ytdmpbfhbjklajaa.Turned
open Go.Proofs.Ytdmpbfhbjklajaa Go.RowKit Go.Proofs.YtdmpbfhbjklajaaW.PrintWords Go.Proofs.YtdmpbfhbjklajaaW.PrintLast Go.Proofs.YtdmpbfhbjklajaaW.PrintMore Go.Proofs.Ytdmpbfhbjklajaa.PHeadSums Go.Proofs.Ytdmpbfhbjklajaa.Byt Go.Proofs.Ytdmpbfhbjklajaa.OctPure Go.Proofs.Ytdmpbfhbjklajaa.Img Go.Proofs.Ytdmpbfhbjklajaa.Head Go.Proofs.Ytdmpbfhbjklajaa.HeadPut Go.Proofs.Ytdmpbfhbjklajaa.HeadSums Go.Proofs.Ytdmpbfhbjklajaa.RefPlug
set_option linter.unusedVariables false
set_option linter.unusedSimpArgs false
theorem two {α : Type} {l : List α} (h : l.length = 2) : ∃ a b, l = [a, b] := by
  match l, h with
  | [a, b], _ => exact ⟨a, b, rfl⟩
/-- A Turn that came in. -/
theorem opn57 : Opn.Opn Try.prog k57.K 57 (fun x => 0 ≤ x.f1 ∧ x.f1 ≤ 255) := by
  intro H enc w sp held fuel cs x h hw
  obtain ⟨hl, hF⟩ := Opn.fields Try.underlying57 h hw
  rw [show Try.prog.cellsOf 57 = 2 by kernel_rfl] at hl
  obtain ⟨x0, K0, w0⟩ := hF 0 _ _ _ rfl (Opn.of_int (k := .i64) Try.underlying3)
  obtain ⟨x1, K1, w1⟩ := hF 1 _ _ _ rfl (Opn.of_int (k := .u8) Try.underlying5)
  obtain ⟨a, b, rfl⟩ := two hl
  have e0 : [a] = [.int .i64 x0] := K0
  have e1 : [b] = [.int .u8 x1] := K1
  simp only [List.cons.injEq, and_true] at e0 e1
  subst e0 e1
  exact ⟨⟨x0, x1⟩, ⟨[.int .i64 x0], [.int .u8 x1], rfl, rfl, rfl⟩, RefPlug.wf8 w1⟩

theorem place_some (a : Int) : ∃ r, tabularylaw10_place.f a 512 = some r ∧ 0 ≤ r ∧ r < 512 := by
  unfold tabularylaw10_place.f
  rw [if_neg (by decide)]
  have h1 : -512 < Int.tmod a 512 := Int.lt_tmod_of_pos a (by decide)
  have h2 : Int.tmod a 512 < 512 := Int.tmod_lt_of_pos a (by decide)
  by_cases h : Int.tmod a 512 < 0
  · rw [if_pos h]
    exact ⟨_, rfl, by unfold wrap64; omega, by unfold wrap64; omega⟩
  · rw [if_neg h]
    exact ⟨_, rfl, by omega, by omega⟩
theorem turned_l0 (l1 : List S57) (a2 : Bool) (h1 : ∀ x ∈ l1, 0 ≤ x.f1 ∧ x.f1 ≤ 255) (hm : l1.length ≤ 9223372036854775000) (d : Nat) : ∀ (k i : Nat) (b : List Int), d + i = l1.length → d < k → b.length = 512 → AreB b →
    ∃ c, tabularylaw10_turned.l0 k l1 a2 b (i : Int) = some c ∧ c.length = 512 ∧ AreB c := by
  induction d with
  | zero =>
    intro k i b hi hk hb hB
    obtain ⟨k, rfl⟩ : ∃ m, k = m + 1 := ⟨k - 1, by omega⟩
    simp only [tabularylaw10_turned.l0]
    rw [if_neg (by omega)]
    cases a2
    · exact ⟨b, rfl, hb, hB⟩
    · rw [if_pos rfl]
      refine ⟨sealS b, ?_, (seal_ok ⟨hb, bytes_of_mem hB⟩).1, mem_of_bytes (seal_ok ⟨hb, bytes_of_mem hB⟩).2⟩
      show (rsealF b).bind _ = _
      unfold rsealF
      rw [if_pos ⟨hB, hb⟩]
      rfl
  | succ d ih =>
    intro k i b hi hk hb hB
    obtain ⟨k, rfl⟩ : ∃ m, k = m + 1 := ⟨k - 1, by omega⟩
    simp only [tabularylaw10_turned.l0]
    have hlt : i < l1.length := by omega
    rw [if_pos (by omega), if_pos (by omega)]
    obtain ⟨r, hr, r0, r1⟩ := place_some (rd_T57 l1 (i : Int)).f0
    rw [show ((b.length : Nat) : Int) = 512 by omega, hr]
    simp only [Option.bind_some]
    rw [if_pos r0, if_pos r1, show wrap64 ((i : Int) + 1) = ((i + 1 : Nat) : Int) by unfold wrap64; omega]
    refine ih k (i + 1) _ (by omega) (by omega) (by rw [List.length_set]; exact hb) ?_
    intro x hx
    rcases List.mem_or_eq_of_mem_set hx with h | h
    · exact hB x h
    · rw [h]
      have e : rd_T57 l1 (i : Int) = l1[i] := by unfold rd_T57; rw [Int.toNat_natCast, List.getD_eq_getElem?_getD, List.getElem?_eq_getElem hlt]; rfl
      rw [e]
      exact h1 _ (List.getElem_mem hlt)
theorem turned_some (n p : ByteArray) (m s t y : Int) (x : ByteArray) (hy : 0 ≤ y ∧ y ≤ 255) (l1 : List S57) (a2 : Bool) (l3 : List Int) (h1 : ∀ x ∈ l1, 0 ≤ x.f1 ∧ x.f1 ≤ 255) (hm : l1.length ≤ 9223372036854775000) (h3 : AreB l3) :
    ∃ c, tabularylaw10_turned.f (l1.length + 1) n p m s t y x l1 a2 l3 = some c ∧ (c.length = 512 ∨ c = l3) ∧ AreB c := by
  unfold tabularylaw10_turned.f
  show ∃ c, (rputF n p m s t y x).bind _ = some c ∧ _
  unfold rputF
  rw [if_pos hy]
  simp only [Option.bind_some]
  by_cases h : mayS n p m s t y x = 0
  · rw [if_pos h]
    have hok := seal_ok (body_ok n p m s t y x hy)
    have hL : (layS n p m s t y x).length = 512 := hok.1
    have hA : AreB (layS n p m s t y x) := mem_of_bytes hok.2
    clear hok
    generalize layS n p m s t y x = L at hL hA ⊢
    obtain ⟨c, hc, hl, hB⟩ := turned_l0 l1 a2 h1 hm l1.length (l1.length + 1) 0 L rfl (by omega) hL hA
    refine ⟨c, ?_, .inl hl, hB⟩
    show (if (0 : Int) = 0 then _ else _) = _
    rw [if_pos rfl]
    exact hc
  · rw [if_neg h]
    simp only
    rw [if_neg h]
    exact ⟨l3, rfl, .inr rfl, h3⟩
/-- Bytes that are read, as a row that is told by where it lies: all that is there. -/
theorem V_of_C {w : World} {A : Option Addr} {c : Nat} {l : List Int} (h : Kd.C (Kd.int .u8) w A l.length l) (hc : l.length ≤ c) : Kd.V (Kd.int .u8) 5 w w.heap.size (fun k_ => k_ < w.heap.size) (.slice A l.length c) l := by
  refine ⟨A, c, rfl, hc, fun w2 h2 => ?_⟩
  have h3 := RC.of_C h
  have hm := h.2.1
  refine RC.to_C (fun hl => ?_) hm
  obtain ⟨a, rfl, hs, hcell⟩ := h3 hl
  have hb := h2 a.block hs hs
  refine ⟨a, rfl, ?_, fun j hj => ?_⟩
  · obtain ⟨o, ho⟩ : ∃ o, w.heap[a.block]? = some o := ⟨_, Array.getElem?_eq_getElem hs⟩
    rw [ho] at hb
    exact (Array.getElem?_eq_some_iff.1 hb).1
  · rw [World.cell?_of_block (w := w) (by rw [Byt.add_block]; exact hb)]
    exact hcell j hj
theorem C_of_V {w : World} {base : Nat} {ok : Nat → Prop} {v : Value} {l : List Int} (h : Kd.V (Kd.int .u8) 5 w base ok v l) : ∃ A c, v = .slice A l.length c ∧ l.length ≤ c ∧ Kd.C (Kd.int .u8) w A l.length l := by
  obtain ⟨A, c, rfl, hc, hF⟩ := h
  exact ⟨A, c, rfl, hc, hF w (fun _ _ _ => rfl)⟩
end Go.Proofs.Ytdmpbfhbjklajaa.Turned
end

/- What all of the chapter's laws begin with; some calls, told by where bytes lie. -/
section
namespace Go.Proofs.Ytdmpbfhbjklajaa.HAwake
open Go.Proofs.Ytdmpbfhbjklajaa Go.RowKit Go.Proofs.YtdmpbfhbjklajaaW.PrintWords Go.Proofs.YtdmpbfhbjklajaaW.PrintLast Go.Proofs.YtdmpbfhbjklajaaW.PrintMore Go.Proofs.Ytdmpbfhbjklajaa.Byt Go.Proofs.Ytdmpbfhbjklajaa.OctPure Go.Proofs.Ytdmpbfhbjklajaa.Img Go.Proofs.Ytdmpbfhbjklajaa.Head Go.Proofs.Ytdmpbfhbjklajaa.HeadPut Go.Proofs.Ytdmpbfhbjklajaa.HeadSums Go.Proofs.Ytdmpbfhbjklajaa.HGetC Go.Proofs.Ytdmpbfhbjklajaa.HeadLaw
set_option linter.unusedVariables false
set_option linter.unusedSimpArgs false
theorem awake1 : PHeadBack.tabularylaw10_awake.f 1 = some true := by decide +kernel
theorem awake_at (w : World) : Calls Try.prog 27 #[] w fun e w' => e = .returned (.bool true) ∧ Below w.heap.size w w' :=
  PHeadBack.tabularylaw10_awake.calls 1 true w awake1
/-- A place in 512 bytes. -/
theorem place_at (a : Int) : ∃ r : Nat, r < 512 ∧ ∀ w : World, Calls Try.prog 28 #[.int .i64 a, .int .i64 512] w fun e w' => e = .returned (.int .i64 (r : Int)) ∧ Drawn0 w w' := by
  obtain ⟨r, hr, h0, h1⟩ := Turned.place_some a
  obtain ⟨k, rfl⟩ := Int.eq_ofNat_of_zero_le h0
  exact ⟨k, by omega, fun w => PHeadSums.tabularylaw10_place.calls a 512 k w hr⟩
theorem im_C {w : World} {g : Nat} {l : List Int} (h : IM w g l) (hl : l.length = 512) : Kd.C (Kd.int .u8) w (some ⟨g, 0, none⟩) l.length l :=
  (RC.row (g := g) (rest := #[]) (t := TI) (fr := (0, 0)) (by rw [Array.append_empty]; exact h)).to_C (by omega)
theorem get_im (g : Nat) (l : List Int) (r1 r2 : ByteArray) (r3 r4 r5 r6 : Int) (r7 : ByteArray) (r8 : Int) (w : World) (hi : IM w g l) (hl : l.length = 512) (h : getF l = some (r1, r2, r3, r4, r5, r6, r7, r8)) :
    Calls Try.prog 25 #[.slice (some ⟨g, 0, none⟩) 512 512] w fun e w' => e = .returned (.tuple #[.agg #[.string r1, .string r2, .int .i64 r3, .int .i64 r4, .int .i64 r5, .int .u8 r6, .string r7], .int .i64 r8]) ∧ Below w.heap.size w w' := by
  have := get_calls (some ⟨g, 0, none⟩) 512 l r1 r2 r3 r4 r5 r6 r7 r8 w (im_C hi hl) (by omega) h
  rw [hl] at this
  exact this
end Go.Proofs.Ytdmpbfhbjklajaa.HAwake
end

/- head.Seal, told by its block. -/
section
namespace Go.Proofs.Ytdmpbfhbjklajaa.HSealIm
open Go.Proofs.Ytdmpbfhbjklajaa Go.RowKit Go.Proofs.YtdmpbfhbjklajaaW.PrintWords Go.Proofs.YtdmpbfhbjklajaaW.PrintLast Go.Proofs.YtdmpbfhbjklajaaW.PrintMore Go.Proofs.Ytdmpbfhbjklajaa.Byt Go.Proofs.Ytdmpbfhbjklajaa.OctPure Go.Proofs.Ytdmpbfhbjklajaa.Img Go.Proofs.Ytdmpbfhbjklajaa.Head Go.Proofs.Ytdmpbfhbjklajaa.HeadPut Go.Proofs.Ytdmpbfhbjklajaa.HeadSums Go.Proofs.Ytdmpbfhbjklajaa.HGetC Go.Proofs.Ytdmpbfhbjklajaa.HeadLaw Go.Proofs.Ytdmpbfhbjklajaa.HAwake
set_option linter.unusedVariables false
set_option linter.unusedSimpArgs false
set_option maxRecDepth 100000 in
set_option maxHeartbeats 4000000 in
theorem seal_im (A0 : Option Addr) (c0 : Nat) (l0 r1 : List Int) (w : World) (hr0 : Kd.C (Kd.int .u8) w A0 l0.length l0) (hc0 : l0.length ≤ c0) (hl : l0.length = 512) (hB : AreB l0) (h : r1 = sealS l0) :
    Calls Try.prog 14 #[.slice A0 512 c0] w fun e w' => ∃ g, e = .returned (.tuple #[.slice (some ⟨g, 0, none⟩) 512 512, .int .i64 0]) ∧ w.heap.size ≤ g ∧ IM w' g r1 ∧ Below w.heap.size w w' := by
  have HBY := Lib.hid (bytes_of_mem hB)
  have hlm := hr0.2.1
  have HRC := Lib.hid (RC.of_C hr0)
  have hz := zI
  have h1 := h.symm
  have HS := Lib.hid h1.symm
  have HL := Lib.hid hl
  have HRL := Lib.hid (show r1.length = 512 by rw [← h1]; exact (seal_ok ⟨hl, bytes_of_mem hB⟩).1)
  obtain ⟨a, rfl, hld⟩ := load_rc HRC.out hl
  have HLD := Lib.hid hld
  have HI := Lib.hid (show (Try.prog.info? TI).map (·.size) = some (nums .u8 l0).toArray.size by rw [show (nums .u8 l0).toArray.size = 512 by simp [nums, hl]]; exact infoI)
  have HT := Lib.hid (show ZV.size = (nums .u8 l0).toArray.size by rw [show (nums .u8 l0).toArray.size = 512 by simp [nums, hl]]; rfl)
  have HIM := Lib.hid (show IM ((w.alloc (.cells ZV TI)).setRow w.heap.size (nums .u8 l0).toArray) w.heap.size l0 from setRow_heap _ w.heap.size ZV (nums .u8 l0).toArray TI (0, 0) (blk_new w (.cells ZV TI)))
  have HBW := Lib.hid (show Below w.heap.size w ((w.alloc (.cells ZV TI)).setRow w.heap.size (nums .u8 l0).toArray) from below_setRow ((Below.refl _ _).alloc (Nat.le_refl _) _) (Nat.le_refl _) _)
  have harr := run_arrI (some a) c0
  clear hr0 h1 h hB hc0 hld
  clear hl hlm
  go_enter Try.func14, Try.ntmps14
  go_wp2_with (first
    | ((with_reducible refine gate_dst (N := 10) rfl ?_); refine wpList_load_run rfl TI (.tmp 9) rfl a _ rfl HLD.out ?_)
    | (refine wpList_store_row rfl TI (.tmp 4) (.tmp 10) rfl w.heap.size (nums .u8 l0).toArray rfl rfl TI ZV (blk_new w (.cells ZV TI)) HI.out HT.out (bytes_one l0) ?_)
    | (go_at_call 32; go_loud ((with_reducible refine (seal_gen w.heap.size l0 r1 _ HS.out HBY.out HL.out HIM.out).mono ?_); rintro e w1 ⟨rfl, hi1, hw1⟩; have HB1 := Lib.hid (HBW.out.trans (hw1.below (Nat.le_refl _) HBW.out.size)); have HI1 := Lib.hid hi1; clear hi1 hw1)))
  go_ret2
  exact ⟨_, rfl, Nat.le_refl _, HI1.out, HB1.out⟩
end Go.Proofs.Ytdmpbfhbjklajaa.HSealIm
end
