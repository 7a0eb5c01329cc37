/- Digests held against each other, and the law's wake-up call. -/
import Derived.Test.YthgmhjgbjodhjaaDoorSha7
import Derived.Test.YthgmhjgbjodhjaaDoorShaPure
import Derived.Stop.BytesEq
import Derived.Lib.SlBytesConst
namespace Go.Proofs.YthgmhjgbjodhjaaDoor.Sha8
open Go.Proofs.YthgmhjgbjodhjaaDoor Go.RowKit Go.Proofs.YthgmhjgbjodhjaaDoorW.PrintWords Go.Proofs.YthgmhjgbjodhjaaDoorW.PrintLast Go.Proofs.YthgmhjgbjodhjaaDoorW.PrintMore Go.Proofs.YthgmhjgbjodhjaaDoor.Sha Go.Proofs.YthgmhjgbjodhjaaDoor.Sha2 Go.Proofs.YthgmhjgbjodhjaaDoor.Sha3 Go.Proofs.YthgmhjgbjodhjaaDoor.Own Go.Proofs.YthgmhjgbjodhjaaDoor.Sha4 Go.Proofs.YthgmhjgbjodhjaaDoor.Sha5 Go.Proofs.YthgmhjgbjodhjaaDoor.Sha7 Go.Proofs.YthgmhjgbjodhjaaDoor.ShaPure
set_option linter.unusedVariables false
set_option linter.unusedSimpArgs false

theorem all_bn_eq : ∀ (xs ys : List Int), xs.length = ys.length → ((List.range xs.length).all fun i => xs.getD i 0 == ys.getD i 0) = (xs == ys)
  | [], [], _ => rfl
  | x :: xs, y :: ys, h => by
    have ih := all_bn_eq xs ys (by simpa using h)
    rw [List.length_cons, List.range_succ_eq_map, List.all_cons, List.all_map]
    simp only [List.getD_cons_zero, Function.comp_def, List.getD_cons_succ, ih]
    simp [List.cons_beq_cons]
  | [], _ :: _, h => by simp at h
  | _ :: _, [], h => by simp at h

theorem run_equalIn_nums8 {P : Program} (w : World) (d : Nat) (t e : TypeId) (n : Nat) (ht : P.underlying t = some (.array n e)) (he : P.underlying e = some (.int .u8)) (hsz : ∀ w, (sizeOf e).run P w = .ok 1 w)
    (xs ys : List Int) (hx : xs.length = n) (hy : ys.length = n) :
    (Op.equalIn (d + 2) t (.agg (nums .u8 xs).toArray) (.agg (nums .u8 ys).toArray)).run P w = .ok (xs == ys) w := by
  rw [← all_bn_eq xs ys (hx.trans hy.symm), hx, List.range_eq_range', Op.equalIn]
  simp only [Sem.run_bind, run_underlying ht, Result.andThen_ok, hsz, Std.Legacy.Range.forIn_eq_forIn_range', Std.Legacy.Range.size, Nat.sub_zero, Nat.add_sub_cancel, Nat.div_one]
  have hl : ∀ i ∈ List.range' 0 n 1, i < n := fun i hi => by simpa using (List.mem_range'_1.1 hi).2
  generalize List.range' 0 n 1 = l at hl ⊢
  induction l with
  | nil => simp
  | cons i l ih =>
    have hi : i < n := hl i (by simp)
    have px : (part e (nums .u8 xs).toArray (i * 1)).run P w = .ok (.int .u8 (xs.getD i 0)) w := by
      simp [part, isAgg, run_underlying he, List.getD, nums, List.getElem?_eq_getElem (show i < xs.length by omega)]
    have py : (part e (nums .u8 ys).toArray (i * 1)).run P w = .ok (.int .u8 (ys.getD i 0)) w := by
      simp [part, isAgg, run_underlying he, List.getD, nums, List.getElem?_eq_getElem (show i < ys.length by omega)]
    have pe : (Op.equalIn (d + 1) e (.int .u8 (xs.getD i 0)) (.int .u8 (ys.getD i 0))).run P w = .ok (xs.getD i 0 == ys.getD i 0) w := run_equalIn_int w d e .u8 .u8 _ _ he
    simp only [List.forIn_cons, Sem.run_bind, px, py, pe, Result.andThen_ok, List.all_cons]
    cases hb : (xs.getD i 0 == ys.getD i 0)
    · simp
    · simp only [Bool.not_true, Bool.false_eq_true, if_false, Sem.run_pure, Result.andThen_ok, Bool.true_and]
      exact ih fun j hj => hl j (by simp [hj])

theorem sizeB (w : World) : (sizeOf 5).run Tryd.prog w = .ok 1 w := by
  obtain ⟨i, hi, _, hsz, _⟩ := info_parts info5
  simp [sizeOf, typeInfo, hi, hsz]
theorem guard32 : Tryd.prog.eqGuardType Tryd.prog.depth T32 = false := by kernel_rfl

/-- Two digests are held against each other. -/
theorem run_eql32 (w : World) (xs ys : List Int) (hx : xs.length = 32) (hy : ys.length = 32) : (binOp .eql T32 (.agg (nums .u8 xs).toArray) (.agg (nums .u8 ys).toArray)).run Tryd.prog w = .ok (.bool (xs == ys)) w := by
  rw [run_eql_struct, run_equalIn_nums8 w 9998 T32 5 32 Tryd.underlying23 Tryd.underlying5 sizeB xs ys hx hy]
  rfl
theorem exec_eql32 {o : Oper} {a : Act} {w : World} {x y : Operand} {ty : TypeId} (xs ys : List Int) (ho : o.op = .binOp .eql T32 x y ty) (hx : a.eval x = .agg (nums .u8 xs).toArray) (hy : a.eval y = .agg (nums .u8 ys).toArray) (h1 : xs.length = 32) (h2 : ys.length = 32) :
    (execOp a.eval o).run Tryd.prog w = .ok (.value (.bool (xs == ys))) w := by
  unfold execOp
  simp only [ho, hx, hy, Sem.run_bind, run_eqGuard_agg w .eql T32 x y _ _ guard32, Result.andThen_ok, run_eql32 w xs ys h1 h2, Sem.run_pure]

def ABC : List Int := [97, 98, 99]
def ABCT : List Int := [98, 97, 55, 56, 49, 54, 98, 102, 56, 102, 48, 49, 99, 102, 101, 97, 52, 49, 52, 49, 52, 48, 100, 101, 53, 100, 97, 101, 50, 50, 50, 51, 98, 48, 48, 51, 54, 49, 97, 51, 57, 54, 49, 55, 55, 97, 57, 99, 98, 52, 49, 48, 102, 102, 54, 49, 102, 50, 48, 48, 49, 53, 97, 100]
theorem abc_text : texts (ofS ABC) 32 = ABCT := by decide +kernel

theorem ofS_len (l : List Int) : (ofS l).length = 32 := sums_len _ _
theorem bn_getD (l : List Int) (j : Nat) : bn l j = l.getD j 0 := by unfold bn rd; rw [Int.toNat_natCast]
theorem bytes_of_mem {l : List Int} (h : ∀ x ∈ l, 0 ≤ x ∧ x ≤ 255) : Bytes l := by
  intro j
  rw [bn_getD, List.getD_eq_getElem?_getD]
  cases hj : l[j]? with
  | none => simp
  | some x => exact h x (List.mem_of_getElem? hj)
theorem mem_of_bytes {l : List Int} (h : Bytes l) : ∀ x ∈ l, 0 ≤ x ∧ x ≤ 255 := by
  intro x hx
  obtain ⟨j, hj, rfl⟩ := List.mem_iff_getElem.mp hx
  have := h j
  rwa [bn_getD, List.getD_eq_getElem?_getD, List.getElem?_eq_getElem hj] at this
theorem sums_bytes (st : List Int) (k : Nat) : Bytes (sums st k) := by
  refine bytes_of_mem ?_
  induction k with
  | zero => intro x hx; have := List.eq_of_mem_replicate hx; omega
  | succ k ih =>
    intro x hx
    rcases List.mem_or_eq_of_mem_set hx with h | h
    · exact ih x h
    · omega
theorem of_n (A : Option Addr) (c : Nat) (l R : List Int) (n : Nat) (W : World) (hn : n = l.length) (hRF : R = ofS l) (hA : RC W A l) (hc : l.length ≤ c) (hl : l.length ≤ 10000000) (hB : Bytes l) (hK : KB W) :
    Calls Tryd.prog 10 #[.slice A n c] W fun e w' => e = .returned (.agg (nums .u8 R).toArray) ∧ Below W.heap.size W w' := by
  subst hn
  exact of_gen A c l R W hRF hA hc hl hB hK
theorem ofS_bytes (l : List Int) : Bytes (ofS l) := sums_bytes _ _

set_option maxRecDepth 100000 in
theorem wakes_any (W : World) (hK : KB W) : Calls Tryd.prog 9 #[] W fun e w' => e = .returned (.bool true) ∧ Below W.heap.size W w' := by
  have kc := fun (w : World) (C : Array Value) (n c : Nat) => Lib.run_convert_bytes_const (P := Tryd.prog) w TB 5 C n c Tryd.underlying22 Tryd.underlying5
  obtain ⟨D, hD⟩ : ∃ D : List Int, D = ofS ABC := ⟨_, rfl⟩
  obtain ⟨T, hT⟩ : ∃ T : ByteArray, T = strOfNums ABCT := ⟨_, rfl⟩
  have HD := Lib.hid hD
  have HDL := Lib.hid (show D.length = 32 by rw [hD]; exact ofS_len _)
  have HDB := Lib.hid (show Bytes D by rw [hD]; exact ofS_bytes _)
  have HTX := Lib.hid (show T = strOfNums (texts D 32) by rw [hT, hD, abc_text])
  have HK := Lib.hid hK
  have hRC : ∀ (W : World) (fz : Nat × Nat), RC (W.alloc (.cells #[.int .u8 97, .int .u8 98, .int .u8 99] 5 fz)) (some ⟨W.heap.size, 0, none⟩) ABC := fun W fz => bytes_new W 5 ABC fz
  have HRC := Lib.hid hRC
  have HBA := Lib.hid (show Bytes ABC from bytes_of_mem (by decide))
  clear hK hD hRC
  rw [show strOfNums ABCT = ⟨#[98, 97, 55, 56, 49, 54, 98, 102, 56, 102, 48, 49, 99, 102, 101, 97, 52, 49, 52, 49, 52, 48, 100, 101, 53, 100, 97, 101, 50, 50, 50, 51, 98, 48, 48, 51, 54, 49, 97, 51, 57, 54, 49, 55, 55, 97, 57, 99, 98, 52, 49, 48, 102, 102, 54, 49, 102, 50, 48, 48, 49, 53, 97, 100]⟩ from rfl] at hT
  go_enter Tryd.func9, Tryd.ntmps9
  go_wp2_with (first
    | (go_at_call 10; ((with_reducible refine (of_n _ 3 ABC D 3 _ rfl HD.out (HRC.out W _) (by decide) (by decide) HBA.out (HK.out.below ((Below.refl _ _).alloc (Nat.le_refl _) _))).mono ?_); rintro e w1 ⟨rfl, hb1⟩; have HB1 := Lib.hid (below_then ((Below.refl W.heap.size W).alloc (Nat.le_refl _) _) (by simp) hb1); clear hb1))
    | (go_at_call 12; (with_reducible refine (text_gen D T _ HDL.out HDB.out HTX.out).mono ?_); rintro e w2 ⟨rfl, hb2⟩; have HB2 := Lib.hid (HB1.out.trans (hb2.mono HB1.out.size)); clear hb2))
  go_ret
  refine ⟨?_, HB2.out⟩
  rfl
end Go.Proofs.YthgmhjgbjodhjaaDoor.Sha8
