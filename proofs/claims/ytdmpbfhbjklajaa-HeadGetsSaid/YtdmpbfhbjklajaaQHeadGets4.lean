/- Texts of this claim, laid together by wip/tools/squash.py: RefLay, HeadSums, PPutx0, PPutx1, PPutx2. -/
import Derived.Test.YtdmpbfhbjklajaaQHeadGets3
import Derived.Test.YtdmpbfhbjklajaaProg
import Derived.Below
import Derived.Deep.Draws
import Derived.Deep.AppendLies
import Derived.Maps.AppendAt
import Derived.OwnWalk
import Derived.Laws.BytesArg
import Derived.Laws.MakeOwn
import Derived.Laws.OwnMore
import Derived.Deep.OwnRows
import Derived.Tactics
import Derived.Lib.ConvBytes
import Derived.Laws.Slices
import Derived.WalkKit
import Derived.KernelRfl
import Derived.RowKit3
import Derived.Deep.LoopGhost
import Derived.Deep.QuietTactic
import Derived.BigQuiet
import Derived.WideLaws
import Derived.Deep.DeepCutAuto
import Derived.Deep.CutBlock
import Derived.Deep.RegionHeld3
import Derived.Laws.Rows
import Derived.Lib.AppendStr
import Derived.ArgAppend
import Derived.Laws.IdiomCopy
import Derived.OrdersHeld
import Derived.Laws.BitsLemmas
import Derived.RowKit
import Derived.Test.YtdmpbfhbjklajaaWWords
import Derived.Test.YtdmpbfhbjklajaaWLast
import Derived.Test.YtdmpbfhbjklajaaWTab
import Derived.Test.YtdmpbfhbjklajaaWFour
import Derived.Test.YtdmpbfhbjklajaaWQPut
import Derived.Test.YtdmpbfhbjklajaaWApart
import Derived.Test.YtdmpbfhbjklajaaWArr
import Derived.Test.YtdmpbfhbjklajaaWZeros
import Derived.Test.YtdmpbfhbjklajaaWFoot
import Derived.Test.YtdmpbfhbjklajaaWKept
import Derived.Test.YtdmpbfhbjklajaaWShare
import Derived.Test.YtdmpbfhbjklajaaWN
import Derived.Test.YtdmpbfhbjklajaaWFootNe
import Derived.Test.YtdmpbfhbjklajaaWAt
import Derived.Test.YtdmpbfhbjklajaaWEqStruct
import Derived.Test.YtdmpbfhbjklajaaWRepsOne
import Derived.Test.YtdmpbfhbjklajaaWInv
import Derived.Test.YtdmpbfhbjklajaaWInvWords
import Derived.Test.YtdmpbfhbjklajaaWGuard
import Derived.Test.YtdmpbfhbjklajaaWNEv
import Derived.Test.YtdmpbfhbjklajaaWMore

/- The document's own bytes of a head: texts and numbers behind one another, sealed. -/
section
namespace Go.Proofs.Ytdmpbfhbjklajaa.RefLay
open Go.Proofs.Ytdmpbfhbjklajaa Go.RowKit Go.Proofs.YtdmpbfhbjklajaaW.PrintWords Go.Proofs.YtdmpbfhbjklajaaW.PrintLast Go.Proofs.YtdmpbfhbjklajaaW.PrintMore Go.Proofs.Ytdmpbfhbjklajaa.Byt Go.Proofs.Ytdmpbfhbjklajaa.OctPure Go.Proofs.Ytdmpbfhbjklajaa.Head
set_option linter.unusedVariables false
set_option linter.unusedSimpArgs false

theorem own_append_str {ops : Array Oper} {rs : List Oper} {o : Oper} {a : Act} {w0 w : World} {Q : Exit → Act → World → Prop} (hgd : o.guard = none) (s x : Operand)
    (ho : o.op = .call { callee := .builtin .append, args := #[s, x], argTypes := #[TB, 9] }) (base : Nat) (v : Value) (l : List Int) (y : ByteArray) (hs : a.eval s = v) (hx : a.eval x = .string y)
    (HO : OWN w base v l) (HB : Below base w0 w) (hbase : base ≤ w.heap.size) (hl : l.length + y.size ≤ 100000000)
    (h : ∀ v1 w1, OWN w1 base v1 (l ++ bytesOf y) → Below base w0 w1 → w.heap.size ≤ w1.heap.size → wpList Try.prog ops Q rs (a.put o.dst v1) w1) : wpList Try.prog ops Q (o :: rs) a w := by
  refine print_append_str (w0 := w0) base hgd s x TB 9 5 ho Try.underlying22 Try.underlying9 info5 v l y hs hx (Kd.own_of_R HO) HB hbase (by omega) ?_
  intro v1 w1 h1 h2 h3
  exact h v1 w1 (Kd.R_of_own (h1 := fun _ => rfl) (ok := fun _ => True) h1 (fun _ _ => trivial)) h2 h3.size

/-- A text in its place, noughts behind it. -/
def tx (s : ByteArray) (wd : Nat) : List Int := bytesOf s ++ List.replicate (wd - s.size) 0
set_option maxRecDepth 100000 in
set_option maxHeartbeats 4000000 in
theorem text_gen (base : Nat) (w0 : World) (v : Value) (l R : List Int) (s : ByteArray) (wi : Int) (wd : Nat) (hwi : wi = (wd : Int)) (W : World) (hR : R = l ++ tx s wd) (hs : s.size ≤ wd) (hwd : wd ≤ 1000) (hll : l.length ≤ 100000)
    (ho : OWN W base v l) (hb : Below base w0 W) (hbase : base ≤ W.heap.size) :
    Calls Try.prog 46 #[v, .string s, .int .i64 wi] W fun e w' => ∃ v', e = .returned v' ∧ OWN w' base v' R ∧ Below base w0 w' ∧ W.heap.size ≤ w'.heap.size := by
  subst hwi
  have HO := Lib.hid ho
  have HB := Lib.hid hb
  have HR := Lib.hid (show R = l ++ (bytesOf s ++ List.replicate (wd - s.size) 0) from hR)
  clear ho hb hR
  go_enter Try.func46, Try.ntmps46
  go_wp2_with ((with_reducible refine gate_builtin (b := .append) (xs := #[.tmp 8, .tmp 9]) rfl ?_); refine own_append_str (w0 := w0) rfl (.tmp 8) (.tmp 9) rfl base v l s rfl rfl HO.out HB.out hbase (by omega) ?_; intro v1 w1 ho1 hb1 hz1; have HO1 := Lib.hid ho1; have HB1 := Lib.hid hb1; clear ho1 hb1)
  go_loopw [0, 7] (fun v0 v7 wr => ∃ (k : Nat), s.size + k ≤ wd ∧ v7 = .int .i64 ((s.size + k : Nat) : Int) ∧ OWN wr base v0 (l ++ (bytesOf s ++ List.replicate k 0)) ∧ Below base w0 wr ∧ W.heap.size ≤ wr.heap.size) (fun _ v7 _ => wd - (intOf v7).toNat)
  case atStart => exact ⟨0, by omega, rfl, by simpa using HO1.out, HB1.out, hz1⟩
  case round =>
    obtain ⟨k, hk, rfl, ho, hb, hz⟩ := hrel
    have HOk := Lib.hid ho
    have HBk := Lib.hid hb
    obtain ⟨i, hi⟩ : ∃ i : Nat, i = s.size + k := ⟨_, rfl⟩
    rw [← hi]
    have HI := Lib.hid hi
    clear ho hb hi
    by_cases hlt : i < wd
    · go_wp2_with ((with_reducible refine gate_builtin (b := .append) (xs := #[.tmp 18, .tmp 19]) rfl ?_); refine own_append (w0 := w0) rfl (.tmp 18) (.tmp 19) rfl base u0 _ [0] _ _ rfl rfl (HOk.out.alloc _) (bytes_new wr 5 [0] (0, 0)) (HBk.out.alloc (Nat.le_trans hbase hz) _) (by simp; omega) (by rw [List.length_append, List.length_append, bytesOf_length, List.length_replicate]; simp; have := HI.out; omega) ?_; intro v8 w8 ho8 hb8 hg8; have HO8 := Lib.hid ho8; have HB8 := Lib.hid hb8; have HZ8 := Lib.hid (show W.heap.size ≤ w8.heap.size by have := hg8.size; simp at this; omega); clear ho8 hb8 hg8)
      go_roundw
      case rel =>
        refine ⟨k + 1, by have := HI.out; omega, by rw [HI.out]; go_num, ?_, HB8.out, HZ8.out⟩
        have := HO8.out
        rwa [List.append_assoc, List.append_assoc, ← List.replicate_succ'] at this
      case measure => simp [intOf]; have := HI.out; omega
    · have HE := Lib.hid (show k = wd - s.size by have := HI.out; omega)
      go_wp2
      go_ret
      refine ⟨_, rfl, ?_, HBk.out, hz⟩
      rw [HR.out, ← HE.out]
      exact HOk.out

theorem rput_any (n w : Int) (hn : -9223372036854775808 ≤ n ∧ n ≤ 9223372036854775807) (W : World) :
    Calls Try.prog 43 #[.int .i64 n, .int .i64 w] W fun e w' => ∃ A c, e = .returned (.tuple #[.slice A (putS n w).1.length c, .int .i64 (putS n w).2]) ∧ RC w' A (putS n w).1 ∧ Below W.heap.size W w' := by
  refine (PSeal.tabularyref07_Put.calls 61 n w _ _ W (RefPure.rput n w hn 61 (by decide))).mono ?_
  rintro e w' ⟨v, rfl, ho, hb⟩
  obtain ⟨A, c, rfl⟩ := Kd.R_slice ho
  exact ⟨A, c, rfl, RC.of_C (Kd.R_reads' ho).2.2, hb⟩
set_option maxRecDepth 100000 in
set_option maxHeartbeats 4000000 in
theorem number_gen (base : Nat) (w0 : World) (v : Value) (l R m : List Int) (n wi : Int) (W : World) (hm : m = (putS n wi).1) (hR : R = l ++ m) (hn : -9223372036854775808 ≤ n ∧ n ≤ 9223372036854775807) (hll : l.length ≤ 100000)
    (ho : OWN W base v l) (hb : Below base w0 W) (hbase : base ≤ W.heap.size) :
    Calls Try.prog 33 #[v, .int .i64 n, .int .i64 wi] W fun e w' => ∃ v', e = .returned v' ∧ OWN w' base v' R ∧ Below base w0 w' ∧ W.heap.size ≤ w'.heap.size := by
  have HO := Lib.hid ho
  have HB := Lib.hid hb
  have HR := Lib.hid hR
  have HM := Lib.hid hm
  have HML := Lib.hid (show m.length ≤ 13 by rw [hm]; exact putS_len n wi)
  clear ho hb hR hm
  go_enter Try.func33, Try.ntmps33
  go_wp2_with (first
    | (go_at_call 43; (with_reducible refine (rput_any n wi hn _).mono ?_); rw [← HM.out]; rintro e w1 ⟨A, c, rfl, hr, hb1⟩; have HRC := Lib.hid hr; have HO1 := Lib.hid (HO.out.below hb1); have HZ1 := Lib.hid hb1.size; have HB1 := Lib.hid (below_then HB.out hbase hb1); clear hr hb1)
    | ((with_reducible refine gate_builtin (b := .append) (xs := #[.tmp 15, .tmp 16]) rfl ?_); refine own_append (w0 := w0) rfl (.tmp 15) (.tmp 16) rfl base v l m _ _ rfl rfl HO1.out HRC.out HB1.out (Nat.le_trans hbase HZ1.out) (by have := HML.out; omega) ?_; intro v8 w8 ho8 hb8 hg8; have HO8 := Lib.hid ho8; have HB8 := Lib.hid hb8; have HZ8 := Lib.hid (Nat.le_trans HZ1.out hg8.size); clear ho8 hb8 hg8))
  go_ret
  refine ⟨_, rfl, ?_, HB8.out, HZ8.out⟩
  rw [HR.out]
  exact HO8.out

def USTAR : ByteArray := ⟨#[117, 115, 116, 97, 114, 0, 48, 48]⟩
/-- A head's bytes ahead of the seal, one behind the other. -/
def rbodyS (n p : ByteArray) (m s t y : Int) (k : ByteArray) : List Int :=
  ((((((((((((((([] ++ tx n 100) ++ (putS m 8).1) ++ (putS 0 8).1) ++ (putS 0 8).1) ++ (putS s 12).1) ++ (putS t 12).1) ++ tx ⟨#[]⟩ 8) ++ [y]) ++ tx k 100) ++ tx USTAR 8) ++ tx ⟨#[]⟩ 64) ++ (putS 0 8).1) ++ (putS 0 8).1) ++ tx p 155) ++ tx ⟨#[]⟩ 12)
theorem tx_len {s : ByteArray} {wd : Nat} (h : s.size ≤ wd) : (tx s wd).length = wd := by
  unfold tx
  rw [List.length_append, bytesOf_length, List.length_replicate]; omega
set_option maxRecDepth 100000 in
set_option maxHeartbeats 16000000 in
theorem lay_gen (n p : ByteArray) (m s t y : Int) (k : ByteArray) (B R : List Int) (K : Nat) (W : World) (hBd : B = rbodyS n p m s t y k) (hR : PSeal.tabularyref10_Seal.f K B = some R) (hn : n.size ≤ 100) (hp : p.size ≤ 155) (hk : k.size ≤ 100)
    (hm : -9223372036854775808 ≤ m ∧ m ≤ 9223372036854775807) (hs : -9223372036854775808 ≤ s ∧ s ≤ 9223372036854775807) (ht : -9223372036854775808 ≤ t ∧ t ≤ 9223372036854775807) :
    Calls Try.prog 37 #[.agg #[.string n, .string p, .int .i64 m, .int .i64 s, .int .i64 t, .int .u8 y, .string k]] W fun e w' => ∃ v, e = .returned v ∧ OWN w' W.heap.size v R ∧ Below W.heap.size W w' := by
  obtain ⟨l1, el1⟩ : ∃ l, l = [] ++ tx n 100 := ⟨_, rfl⟩
  obtain ⟨l2, el2⟩ : ∃ l, l = l1 ++ (putS m 8).1 := ⟨_, rfl⟩
  obtain ⟨l3, el3⟩ : ∃ l, l = l2 ++ (putS 0 8).1 := ⟨_, rfl⟩
  obtain ⟨l4, el4⟩ : ∃ l, l = l3 ++ (putS 0 8).1 := ⟨_, rfl⟩
  obtain ⟨l5, el5⟩ : ∃ l, l = l4 ++ (putS s 12).1 := ⟨_, rfl⟩
  obtain ⟨l6, el6⟩ : ∃ l, l = l5 ++ (putS t 12).1 := ⟨_, rfl⟩
  obtain ⟨l7, el7⟩ : ∃ l, l = l6 ++ tx ⟨#[]⟩ 8 := ⟨_, rfl⟩
  obtain ⟨l8, el8⟩ : ∃ l, l = l7 ++ [y] := ⟨_, rfl⟩
  obtain ⟨l9, el9⟩ : ∃ l, l = l8 ++ tx k 100 := ⟨_, rfl⟩
  obtain ⟨l10, el10⟩ : ∃ l, l = l9 ++ tx ⟨#[117, 115, 116, 97, 114, 0, 48, 48]⟩ 8 := ⟨_, rfl⟩
  obtain ⟨l11, el11⟩ : ∃ l, l = l10 ++ tx ⟨#[]⟩ 64 := ⟨_, rfl⟩
  obtain ⟨l12, el12⟩ : ∃ l, l = l11 ++ (putS 0 8).1 := ⟨_, rfl⟩
  obtain ⟨l13, el13⟩ : ∃ l, l = l12 ++ (putS 0 8).1 := ⟨_, rfl⟩
  obtain ⟨l14, el14⟩ : ∃ l, l = l13 ++ tx p 155 := ⟨_, rfl⟩
  obtain ⟨l15, el15⟩ : ∃ l, l = l14 ++ tx ⟨#[]⟩ 12 := ⟨_, rfl⟩
  have q0 : ([] : List Int).length ≤ 0 := Nat.le_refl _
  have q1 : l1.length ≤ 100 := by rw [el1, List.length_append]; have := tx_len (s := n) (wd := 100) hn; omega
  have q2 : l2.length ≤ 113 := by rw [el2, List.length_append]; have := putS_len m 8; omega
  have q3 : l3.length ≤ 126 := by rw [el3, List.length_append]; have := putS_len 0 8; omega
  have q4 : l4.length ≤ 139 := by rw [el4, List.length_append]; have := putS_len 0 8; omega
  have q5 : l5.length ≤ 152 := by rw [el5, List.length_append]; have := putS_len s 12; omega
  have q6 : l6.length ≤ 165 := by rw [el6, List.length_append]; have := putS_len t 12; omega
  have q7 : l7.length ≤ 173 := by rw [el7, List.length_append]; have := tx_len (s := ⟨#[]⟩) (wd := 8) (by decide); omega
  have q8 : l8.length ≤ 174 := by rw [el8, List.length_append]; simp only [List.length_cons, List.length_nil]; omega
  have q9 : l9.length ≤ 274 := by rw [el9, List.length_append]; have := tx_len (s := k) (wd := 100) hk; omega
  have q10 : l10.length ≤ 282 := by rw [el10, List.length_append]; have := tx_len (s := ⟨#[117, 115, 116, 97, 114, 0, 48, 48]⟩) (wd := 8) (by decide); omega
  have q11 : l11.length ≤ 346 := by rw [el11, List.length_append]; have := tx_len (s := ⟨#[]⟩) (wd := 64) (by decide); omega
  have q12 : l12.length ≤ 359 := by rw [el12, List.length_append]; have := putS_len 0 8; omega
  have q13 : l13.length ≤ 372 := by rw [el13, List.length_append]; have := putS_len 0 8; omega
  have q14 : l14.length ≤ 527 := by rw [el14, List.length_append]; have := tx_len (s := p) (wd := 155) hp; omega
  have q15 : l15.length ≤ 539 := by rw [el15, List.length_append]; have := tx_len (s := ⟨#[]⟩) (wd := 12) (by decide); omega
  have hl15 : l15 = B := by rw [hBd, el15, el14, el13, el12, el11, el10, el9, el8, el7, el6, el5, el4, el3, el2, el1]; rfl
  have Q1 := Lib.hid q1
  have E1 := Lib.hid el1
  have Q2 := Lib.hid q2
  have E2 := Lib.hid el2
  have Q3 := Lib.hid q3
  have E3 := Lib.hid el3
  have Q4 := Lib.hid q4
  have E4 := Lib.hid el4
  have Q5 := Lib.hid q5
  have E5 := Lib.hid el5
  have Q6 := Lib.hid q6
  have E6 := Lib.hid el6
  have Q7 := Lib.hid q7
  have E7 := Lib.hid el7
  have Q8 := Lib.hid q8
  have E8 := Lib.hid el8
  have Q9 := Lib.hid q9
  have E9 := Lib.hid el9
  have Q10 := Lib.hid q10
  have E10 := Lib.hid el10
  have Q11 := Lib.hid q11
  have E11 := Lib.hid el11
  have Q12 := Lib.hid q12
  have E12 := Lib.hid el12
  have Q13 := Lib.hid q13
  have E13 := Lib.hid el13
  have Q14 := Lib.hid q14
  have E14 := Lib.hid el14
  have Q15 := Lib.hid q15
  have E15 := Lib.hid el15
  have HR := Lib.hid hR
  have HL15 := Lib.hid hl15
  clear hR hBd hl15 q0 q1 q2 q3 q4 q5 q6 q7 q8 q9 q10 q11 q12 q13 q14 q15 el1 el2 el3 el4 el5 el6 el7 el8 el9 el10 el11 el12 el13 el14 el15
  obtain ⟨w0, hw0⟩ : ∃ w0 : World, w0 = W.alloc (.cells #[.string n, .string p, .int .i64 m, .int .i64 s, .int .i64 t, .int .u8 y, .string k] TH) := ⟨_, rfl⟩
  have HBX := Lib.hid (show w0.heap[W.heap.size]? = some (.cells #[.string n, .string p, .int .i64 m, .int .i64 s, .int .i64 t, .int .u8 y, .string k] TH (0, 0)) by rw [hw0]; exact blk_new _ _)
  have HS0 := Lib.hid (show w0.heap.size = W.heap.size + 1 by rw [hw0]; simp)
  have HW0 := Lib.hid (show Below W.heap.size W w0 by rw [hw0]; exact (Below.refl _ _).alloc (Nat.le_refl _) _)
  have HWW := Lib.hid hw0
  have HCE := Lib.hid (show ∀ w', Below w0.heap.size w0 w' → ∀ j v, (#[.string n, .string p, .int .i64 m, .int .i64 s, .int .i64 t, .int .u8 y, .string k] : Array Value)[j]? = some v → w'.cell? ⟨W.heap.size, j, none⟩ = some v from fun w' hb j v hv => by
    rw [blk_cell (blk_below HBX.out hb), hv])
  clear hw0
  go_enter Try.func37, Try.ntmps37
  have hb0 : Below w0.heap.size w0 w0 := Below.refl _ _
  have HB0 := Lib.hid hb0
  have x0 := HCE.out w0 hb0 0 _ rfl
  have x0' := x0
  rw [HWW.out] at x0'
  clear hb0 x0
  have tk0 : True := trivial
  go_wp2_with (first
    | (go_at_call 46; have _tk := tk0; go_loud (rw [← HWW.out]; (with_reducible refine (text_gen w0.heap.size w0 (.slice none 0 0) [] l1 n 100 100 rfl _ E1.out hn (by decide) (by decide) (OWN.none _ _) HB0.out (Nat.le_refl _)).mono ?_)); rintro e w1 ⟨v1, rfl, ho, hb, hz⟩; have HO1 := Lib.hid ho; have HB1 := Lib.hid hb; have HZ1 := Lib.hid (Nat.le_trans (Nat.le_refl _) hz); have tk1 : True := trivial; clear x0'; have x2 := HCE.out w1 HB1.out 2 _ rfl; clear tk0 _tk ho hb hz)
    | (go_at_call 33; have _tk := tk1; (with_reducible refine (number_gen w0.heap.size w0 (v1) l1 l2 _ m 8 _ rfl E2.out hm (by have := Q1.out; omega) HO1.out HB1.out HZ1.out).mono ?_); rintro e w2 ⟨v2, rfl, ho, hb, hz⟩; have HO2 := Lib.hid ho; have HB2 := Lib.hid hb; have HZ2 := Lib.hid (Nat.le_trans HZ1.out hz); have tk2 : True := trivial; clear x2; clear tk1 _tk ho hb hz)
    | (go_at_call 33; have _tk := tk2; (with_reducible refine (number_gen w0.heap.size w0 (v2) l2 l3 _ 0 8 _ rfl E3.out (by decide) (by have := Q2.out; omega) HO2.out HB2.out HZ2.out).mono ?_); rintro e w3 ⟨v3, rfl, ho, hb, hz⟩; have HO3 := Lib.hid ho; have HB3 := Lib.hid hb; have HZ3 := Lib.hid (Nat.le_trans HZ2.out hz); have tk3 : True := trivial; clear tk2 _tk ho hb hz)
    | (go_at_call 33; have _tk := tk3; (with_reducible refine (number_gen w0.heap.size w0 (v3) l3 l4 _ 0 8 _ rfl E4.out (by decide) (by have := Q3.out; omega) HO3.out HB3.out HZ3.out).mono ?_); rintro e w4 ⟨v4, rfl, ho, hb, hz⟩; have HO4 := Lib.hid ho; have HB4 := Lib.hid hb; have HZ4 := Lib.hid (Nat.le_trans HZ3.out hz); have tk4 : True := trivial; have x3 := HCE.out w4 HB4.out 3 _ rfl; clear tk3 _tk ho hb hz)
    | (go_at_call 33; have _tk := tk4; (with_reducible refine (number_gen w0.heap.size w0 (v4) l4 l5 _ s 12 _ rfl E5.out hs (by have := Q4.out; omega) HO4.out HB4.out HZ4.out).mono ?_); rintro e w5 ⟨v5, rfl, ho, hb, hz⟩; have HO5 := Lib.hid ho; have HB5 := Lib.hid hb; have HZ5 := Lib.hid (Nat.le_trans HZ4.out hz); have tk5 : True := trivial; clear x3; have x4 := HCE.out w5 HB5.out 4 _ rfl; clear tk4 _tk ho hb hz)
    | (go_at_call 33; have _tk := tk5; (with_reducible refine (number_gen w0.heap.size w0 (v5) l5 l6 _ t 12 _ rfl E6.out ht (by have := Q5.out; omega) HO5.out HB5.out HZ5.out).mono ?_); rintro e w6 ⟨v6, rfl, ho, hb, hz⟩; have HO6 := Lib.hid ho; have HB6 := Lib.hid hb; have HZ6 := Lib.hid (Nat.le_trans HZ5.out hz); have tk6 : True := trivial; clear x4; clear tk5 _tk ho hb hz)
    | (go_at_call 46; have _tk := tk6; (with_reducible refine (text_gen w0.heap.size w0 (v6) l6 l7 ⟨#[]⟩ 8 8 rfl _ E7.out (by decide) (by decide) (by have := Q6.out; omega) (HO6.out) HB6.out HZ6.out).mono ?_); rintro e w7 ⟨v7, rfl, ho, hb, hz⟩; have HO7 := Lib.hid ho; have HB7 := Lib.hid hb; have HZ7 := Lib.hid (Nat.le_trans HZ6.out hz); have tk7 : True := trivial; have x5 := HCE.out w7 HB7.out 5 _ rfl; clear tk6 _tk ho hb hz)
    | ((with_reducible refine gate_builtin (b := .append) (xs := #[.tmp 25, .tmp 28]) rfl ?_); have _tk := tk7; refine own_append (w0 := w0) rfl (.tmp 25) (.tmp 28) rfl w0.heap.size v7 l7 [y] _ _ rfl rfl (HO7.out.alloc _) (bytes_new w7 5 [y] (0, 0)) (HB7.out.alloc HZ7.out _) (by have := HZ7.out; simp; omega) (by have := Q7.out; simp; omega) ?_; rw [← E8.out]; intro v8 w8 ho hb hg; have hz : w7.heap.size ≤ w8.heap.size := (by have := hg.size; simp at this; omega); clear hg; have HO8 := Lib.hid ho; have HB8 := Lib.hid hb; have HZ8 := Lib.hid (Nat.le_trans HZ7.out hz); have tk8 : True := trivial; clear x5; have x6 := HCE.out w8 HB8.out 6 _ rfl; clear tk7 _tk ho hb hz)
    | (go_at_call 46; have _tk := tk8; (with_reducible refine (text_gen w0.heap.size w0 (v8) l8 l9 k 100 100 rfl _ E9.out hk (by decide) (by have := Q8.out; omega) (HO8.out) HB8.out HZ8.out).mono ?_); rintro e w9 ⟨v9, rfl, ho, hb, hz⟩; have HO9 := Lib.hid ho; have HB9 := Lib.hid hb; have HZ9 := Lib.hid (Nat.le_trans HZ8.out hz); have tk9 : True := trivial; clear x6; clear tk8 _tk ho hb hz)
    | (go_at_call 46; have _tk := tk9; (with_reducible refine (text_gen w0.heap.size w0 (v9) l9 l10 ⟨#[117, 115, 116, 97, 114, 0, 48, 48]⟩ 8 8 rfl _ E10.out (by decide) (by decide) (by have := Q9.out; omega) (HO9.out) HB9.out HZ9.out).mono ?_); rintro e w10 ⟨v10, rfl, ho, hb, hz⟩; have HO10 := Lib.hid ho; have HB10 := Lib.hid hb; have HZ10 := Lib.hid (Nat.le_trans HZ9.out hz); have tk10 : True := trivial; clear tk9 _tk ho hb hz)
    | (go_at_call 46; have _tk := tk10; (with_reducible refine (text_gen w0.heap.size w0 (v10) l10 l11 ⟨#[]⟩ 64 64 rfl _ E11.out (by decide) (by decide) (by have := Q10.out; omega) (HO10.out) HB10.out HZ10.out).mono ?_); rintro e w11 ⟨v11, rfl, ho, hb, hz⟩; have HO11 := Lib.hid ho; have HB11 := Lib.hid hb; have HZ11 := Lib.hid (Nat.le_trans HZ10.out hz); have tk11 : True := trivial; clear tk10 _tk ho hb hz)
    | (go_at_call 33; have _tk := tk11; (with_reducible refine (number_gen w0.heap.size w0 (v11) l11 l12 _ 0 8 _ rfl E12.out (by decide) (by have := Q11.out; omega) HO11.out HB11.out HZ11.out).mono ?_); rintro e w12 ⟨v12, rfl, ho, hb, hz⟩; have HO12 := Lib.hid ho; have HB12 := Lib.hid hb; have HZ12 := Lib.hid (Nat.le_trans HZ11.out hz); have tk12 : True := trivial; clear tk11 _tk ho hb hz)
    | (go_at_call 33; have _tk := tk12; (with_reducible refine (number_gen w0.heap.size w0 (v12) l12 l13 _ 0 8 _ rfl E13.out (by decide) (by have := Q12.out; omega) HO12.out HB12.out HZ12.out).mono ?_); rintro e w13 ⟨v13, rfl, ho, hb, hz⟩; have HO13 := Lib.hid ho; have HB13 := Lib.hid hb; have HZ13 := Lib.hid (Nat.le_trans HZ12.out hz); have tk13 : True := trivial; have x1 := HCE.out w13 HB13.out 1 _ rfl; clear tk12 _tk ho hb hz)
    | (go_at_call 46; have _tk := tk13; (with_reducible refine (text_gen w0.heap.size w0 (v13) l13 l14 p 155 155 rfl _ E14.out hp (by decide) (by have := Q13.out; omega) (HO13.out) HB13.out HZ13.out).mono ?_); rintro e w14 ⟨v14, rfl, ho, hb, hz⟩; have HO14 := Lib.hid ho; have HB14 := Lib.hid hb; have HZ14 := Lib.hid (Nat.le_trans HZ13.out hz); have tk14 : True := trivial; clear x1; clear tk13 _tk ho hb hz)
    | (go_at_call 46; have _tk := tk14; (with_reducible refine (text_gen w0.heap.size w0 (v14) l14 l15 ⟨#[]⟩ 12 12 rfl _ E15.out (by decide) (by decide) (by have := Q14.out; omega) (HO14.out) HB14.out HZ14.out).mono ?_); rintro e w15 ⟨v15, rfl, ho, hb, hz⟩; have HO15 := Lib.hid ho; have HB15 := Lib.hid hb; have HZ15 := Lib.hid (Nat.le_trans HZ14.out hz); have tk15 : True := trivial; clear tk14 _tk ho hb hz)
    | (go_at_call 20; have _tk := tk15; obtain ⟨A, c, hv, hc, hr, _⟩ := HO15.out.form; subst hv; rw [HL15.out] at hr hc ⊢; have HRC := Lib.hid hr; clear hr; (with_reducible refine (PSeal.tabularyref10_Seal.calls K A c B R _ (HRC.out.to_C (by have := Q15.out; rw [HL15.out] at this; omega)) hc HR.out).mono ?_); rintro e w16 ⟨v16, rfl, ho, hb⟩; have HO16 := Lib.hid ho; have HB16 := Lib.hid hb; clear tk15 _tk ho hb))
  go_ret
  refine ⟨_, rfl, ?_, ?_⟩
  · refine Kd.R_lower HO16.out ?_
    have h1 := HS0.out
    have h2 := HZ15.out
    omega
  · have h1 : W.heap.size ≤ w0.heap.size := by rw [HS0.out]; omega
    have hb15 : Below W.heap.size W w15 := below_then HW0.out h1 HB15.out
    exact below_then hb15 (Nat.le_trans h1 HZ15.out) HB16.out

def rlayF (n p : ByteArray) (m s t y : Int) (k : ByteArray) : Option (List Int) :=
  if n.size ≤ 100 ∧ p.size ≤ 155 ∧ k.size ≤ 100 ∧ (-9223372036854775808 ≤ m ∧ m ≤ 9223372036854775807) ∧ (-9223372036854775808 ≤ s ∧ s ≤ 9223372036854775807) ∧ (-9223372036854775808 ≤ t ∧ t ≤ 9223372036854775807) then PSeal.tabularyref10_Seal.f 1000 (rbodyS n p m s t y k) else none
theorem rlay_calls (n p : ByteArray) (m s t y : Int) (k : ByteArray) (r : List Int) (w : World) (h : rlayF n p m s t y k = some r) :
    Calls Try.prog 37 #[.agg #[.string n, .string p, .int .i64 m, .int .i64 s, .int .i64 t, .int .u8 y, .string k]] w fun e w' => ∃ v0_ : Value, e = .returned (v0_) ∧ Kd.R (Kd.int .u8) 5 w' w.heap.size (fun _ => True) v0_ r ∧ Below w.heap.size w w' := by
  unfold rlayF at h
  split at h
  · rename_i hc
    exact lay_gen n p m s t y k _ r 1000 w rfl h hc.1 hc.2.1 hc.2.2.1 hc.2.2.2.1 hc.2.2.2.2.1 hc.2.2.2.2.2
  · cases h
end Go.Proofs.Ytdmpbfhbjklajaa.RefLay
end

/- Bytes summed, sealed, and 512 noughts: the Go program's calls. -/
section
namespace Go.Proofs.Ytdmpbfhbjklajaa.HeadSums
open Go.Proofs.Ytdmpbfhbjklajaa Go.RowKit Go.Proofs.YtdmpbfhbjklajaaW.PrintWords Go.Proofs.YtdmpbfhbjklajaaW.PrintLast Go.Proofs.YtdmpbfhbjklajaaW.PrintMore Go.Proofs.Ytdmpbfhbjklajaa.Byt Go.Proofs.Ytdmpbfhbjklajaa.OctPure Go.Proofs.Ytdmpbfhbjklajaa.Img Go.Proofs.Ytdmpbfhbjklajaa.Head Go.Proofs.Ytdmpbfhbjklajaa.HeadPut
set_option linter.unusedVariables false
set_option linter.unusedSimpArgs false

/-- Bytes that are read, as an array's cells. -/
theorem load_rc {w : World} {A : Option Addr} {l : List Int} (h : RC w A l) (hl : l.length = 512) : ∃ a, A = some a ∧ (loadVar TI a).run Try.prog w = .ok (.agg (nums .u8 l).toArray) w := by
  obtain ⟨a, rfl, hb, hc⟩ := h (by intro e; subst e; simp at hl)
  refine ⟨a, rfl, ?_⟩
  have hnl : (nums .u8 l).length = 512 := by simp [nums, hl]
  have hlc : (loadCells a 512).run Try.prog w = .ok (nums .u8 l).toArray w := by
    rw [← hnl]
    exact run_loadCells_list (P := Try.prog) w a (nums .u8 l) (cells_of_RC (fun _ => ⟨a, rfl, hb, hc⟩))
  obtain ⟨i, hi, hs⟩ := Option.map_eq_some_iff.1 infoI
  have hagg : (isAgg TI).run Try.prog w = .ok true w := by
    unfold isAgg
    rw [Sem.run_bind, run_underlying Try.underlying59 w]
    rfl
  simp [loadVar, Sem.run_bind, hagg, sizeOf, typeInfo, hi, hs, hlc]
theorem wpList_load_run {P : Program} {ops : Array Oper} {rs : List Oper} {o : Oper} {a : Act} {w : World} {Q : Exit → Act → World → Prop} (hgd : o.guard = none) (ty : TypeId) (x : Operand) (ho : o.op = .load ty x) (g : Addr) (v : Value) (hx : a.eval x = .pointer (some g)) (hl : (loadVar ty g).run P w = .ok v w)
    (h : wpList P ops Q rs (a.put o.dst v) w) : wpList P ops Q (o :: rs) a w :=
  wpList_plain hgd fun _ hK => by
    unfold Oper.wp
    rw [exec_load ho hx hl]
    exact hK _ _ h
theorem wpList_load_rung {P : Program} {ops : Array Oper} {rs : List Oper} {o : Oper} {a : Act} {w : World} {Q : Exit → Act → World → Prop} {N : Tmp} (hN : o.dst = some N) (hw : Region.wanted o (yielded ops a.tmps) = true) (ty : TypeId) (x : Operand) (ho : o.op = .load ty x) (g : Addr) (v : Value) (hx : a.eval x = .pointer (some g)) (hl : (loadVar ty g).run P w = .ok v w)
    (h : wpList P ops Q rs (a.put o.dst v) w) : wpList P ops Q (o :: rs) a w := by
  simp only [wpList, hw, if_true]
  refine Or.inl ?_
  unfold Oper.wp
  rw [exec_load ho hx hl]
  exact h
theorem run_arrI (a : Option Addr) (c : Nat) : ∀ w : World, (Instr.arrayAt TI (.slice a 512 c)).run Try.prog w = .ok (.pointer a) w := fun w => by
  simp [Instr.arrayAt, run_underlying Try.underlying59, Sem.run_bind]
def AreB (l : List Int) : Prop := ∀ x ∈ l, 0 ≤ x ∧ x ≤ 255
instance (l : List Int) : Decidable (AreB l) := by unfold AreB; exact inferInstance
def sumF (l : List Int) : Option (Int × Int) := if AreB l then (if l.length = 512 then some (sumS l 512, 0) else some (0, 1)) else none
def sealF (l : List Int) : Option (List Int × Int) := if AreB l then (if l.length = 512 then some (sealS l, 0) else some ([], 1)) else none
def blankF (l : List Int) : Option Bool := if AreB l then some (l == List.replicate 512 0) else none

set_option maxRecDepth 100000 in
set_option maxHeartbeats 4000000 in
theorem sum_calls (A0 : Option Addr) (c0 : Nat) (l0 : List Int) (r1 : Int) (r2 : Int) (w : World) (hr0 : Kd.C (Kd.int .u8) w A0 l0.length l0) (hc0 : l0.length ≤ c0) (h : sumF l0 = some (r1, r2)) :
    Calls Try.prog 13 #[.slice A0 l0.length c0] w fun e w' => e = .returned (.tuple #[.int .i64 r1, .int .i64 r2]) ∧ Below w.heap.size w w' := by
  unfold sumF at h
  by_cases hB : AreB l0
  · rw [if_pos hB] at h
    have HBY := Lib.hid (bytes_of_mem hB)
    have hlm := hr0.2.1
    have HRC := Lib.hid (RC.of_C hr0)
    have hz := zI
    by_cases hl : l0.length = 512
    · rw [if_pos hl] at h
      simp only [Option.some.injEq, Prod.mk.injEq] at h
      obtain ⟨h1, rfl⟩ := h
      have HS := Lib.hid h1.symm
      have HL := Lib.hid hl
      obtain ⟨a, rfl, hld⟩ := load_rc HRC.out hl
      rw [hl]
      have HLD := Lib.hid hld
      have HI := Lib.hid (show (Try.prog.info? TI).map (·.size) = some (nums .u8 l0).toArray.size by rw [show (nums .u8 l0).toArray.size = 512 by simp [nums, hl]]; exact infoI)
      have HT := Lib.hid (show ZV.size = (nums .u8 l0).toArray.size by rw [show (nums .u8 l0).toArray.size = 512 by simp [nums, hl]]; rfl)
      have HIM := Lib.hid (show IM ((w.alloc (.cells ZV TI)).setRow w.heap.size (nums .u8 l0).toArray) w.heap.size l0 from setRow_heap _ w.heap.size ZV (nums .u8 l0).toArray TI (0, 0) (blk_new w (.cells ZV TI)))
      have HBW := Lib.hid (show Below w.heap.size w ((w.alloc (.cells ZV TI)).setRow w.heap.size (nums .u8 l0).toArray) from below_setRow ((Below.refl _ _).alloc (Nat.le_refl _) _) (Nat.le_refl _) _)
      have harr := run_arrI (some a) c0
      clear hr0 h1 hB hc0 hld
      clear hl hlm
      go_enter Try.func13, Try.ntmps13
      go_wp2_with (first
        | ((with_reducible refine gate_dst (N := 10) rfl ?_); refine wpList_load_run rfl TI (.tmp 9) rfl a _ rfl HLD.out ?_)
        | (refine wpList_store_row rfl TI (.tmp 4) (.tmp 10) rfl w.heap.size (nums .u8 l0).toArray rfl rfl TI ZV (blk_new w (.cells ZV TI)) HI.out HT.out (bytes_one l0) ?_)
        | (go_at_call 31; go_loud ((with_reducible refine (sum_gen w.heap.size l0 r1 _ HS.out HBY.out HL.out HIM.out).mono ?_); rintro e w1 ⟨rfl, hb1⟩; have HB1 := Lib.hid (HBW.out.trans (hb1.mono HBW.out.size)); clear hb1)))
      go_ret2
      exact ⟨rfl, HB1.out⟩
    · rw [if_neg hl] at h
      simp only [Option.some.injEq, Prod.mk.injEq] at h
      obtain ⟨rfl, rfl⟩ := h
      have hne : ((l0.length : Int) == 512) = false := by simp; omega
      have hne2 : ((l0.length : Int) != 512) = true := by simp; omega
      clear hl hB hr0 hc0
      go_enter Try.func13, Try.ntmps13
      go_wp2
      go_ret2
      exact ⟨rfl, Below.refl _ _⟩
  · rw [if_neg hB] at h
    cases h
set_option maxRecDepth 100000 in
set_option maxHeartbeats 4000000 in
theorem seal_calls (A0 : Option Addr) (c0 : Nat) (l0 : List Int) (r1 : List Int) (r2 : Int) (w : World) (hr0 : Kd.C (Kd.int .u8) w A0 l0.length l0) (hc0 : l0.length ≤ c0) (h : sealF l0 = some (r1, r2)) :
    Calls Try.prog 14 #[.slice A0 l0.length c0] w fun e w' => ∃ v0_ : Value, e = .returned (.tuple #[v0_, .int .i64 r2]) ∧ Kd.V (Kd.int .u8) 5 w' w.heap.size (fun k_ => (w.heap.size ≤ k_)) v0_ r1 ∧ Below w.heap.size w w' := by
  unfold sealF at h
  by_cases hB : AreB l0
  · rw [if_pos hB] at h
    have HBY := Lib.hid (bytes_of_mem hB)
    have hlm := hr0.2.1
    have HRC := Lib.hid (RC.of_C hr0)
    have hz := zI
    by_cases hl : l0.length = 512
    · rw [if_pos hl] at h
      simp only [Option.some.injEq, Prod.mk.injEq] at h
      obtain ⟨h1, rfl⟩ := h
      have HS := Lib.hid h1.symm
      have HL := Lib.hid hl
      have HRL := Lib.hid (show r1.length = 512 by rw [← h1]; exact (seal_ok ⟨hl, bytes_of_mem hB⟩).1)
      obtain ⟨a, rfl, hld⟩ := load_rc HRC.out hl
      rw [hl]
      have HLD := Lib.hid hld
      have HI := Lib.hid (show (Try.prog.info? TI).map (·.size) = some (nums .u8 l0).toArray.size by rw [show (nums .u8 l0).toArray.size = 512 by simp [nums, hl]]; exact infoI)
      have HT := Lib.hid (show ZV.size = (nums .u8 l0).toArray.size by rw [show (nums .u8 l0).toArray.size = 512 by simp [nums, hl]]; rfl)
      have HIM := Lib.hid (show IM ((w.alloc (.cells ZV TI)).setRow w.heap.size (nums .u8 l0).toArray) w.heap.size l0 from setRow_heap _ w.heap.size ZV (nums .u8 l0).toArray TI (0, 0) (blk_new w (.cells ZV TI)))
      have HBW := Lib.hid (show Below w.heap.size w ((w.alloc (.cells ZV TI)).setRow w.heap.size (nums .u8 l0).toArray) from below_setRow ((Below.refl _ _).alloc (Nat.le_refl _) _) (Nat.le_refl _) _)
      have harr := run_arrI (some a) c0
      clear hr0 h1 hB hc0 hld
      clear hl hlm
      go_enter Try.func14, Try.ntmps14
      go_wp2_with (first
        | ((with_reducible refine gate_dst (N := 10) rfl ?_); refine wpList_load_run rfl TI (.tmp 9) rfl a _ rfl HLD.out ?_)
        | (refine wpList_store_row rfl TI (.tmp 4) (.tmp 10) rfl w.heap.size (nums .u8 l0).toArray rfl rfl TI ZV (blk_new w (.cells ZV TI)) HI.out HT.out (bytes_one l0) ?_)
        | (go_at_call 32; go_loud ((with_reducible refine (seal_gen w.heap.size l0 r1 _ HS.out HBY.out HL.out HIM.out).mono ?_); rintro e w1 ⟨rfl, hi1, hw1⟩; have HB1 := Lib.hid (HBW.out.trans (hw1.below (Nat.le_refl _) HBW.out.size)); have HI1 := Lib.hid hi1; clear hi1 hw1)))
      go_ret2
      refine ⟨_, rfl, ?_, HB1.out⟩
      have hrl := HRL.out
      have := V_of_im HI1.out (Nat.le_refl _) (by rw [hrl]; decide)
      rw [hrl] at this
      exact this
    · rw [if_neg hl] at h
      simp only [Option.some.injEq, Prod.mk.injEq] at h
      obtain ⟨rfl, rfl⟩ := h
      have hne : ((l0.length : Int) == 512) = false := by simp; omega
      have hne2 : ((l0.length : Int) != 512) = true := by simp; omega
      clear hl hB hr0 hc0
      go_enter Try.func14, Try.ntmps14
      go_wp2
      go_ret2
      exact ⟨_, rfl, Kd.V_nil _ _ _ _ _, Below.refl _ _⟩
  · rw [if_neg hB] at h
    cases h

theorem guardI : Try.prog.eqGuardType Try.prog.depth TI = false := by kernel_rfl
theorem run_eqlI (w : World) (xs ys : List Int) (hx : xs.length = 512) (hy : ys.length = 512) : (binOp .eql TI (.agg (nums .u8 xs).toArray) (.agg (nums .u8 ys).toArray)).run Try.prog w = .ok (.bool (xs == ys)) w := by
  rw [run_eql_struct, run_equalIn_nums8 w 9998 TI 5 512 Try.underlying59 Try.underlying5 sizeB xs ys hx hy]
  rfl
theorem run_neqI (w : World) (xs ys : List Int) (hx : xs.length = 512) (hy : ys.length = 512) : (binOp .neq TI (.agg (nums .u8 xs).toArray) (.agg (nums .u8 ys).toArray)).run Try.prog w = .ok (.bool (xs != ys)) w := by
  rw [run_neq_struct, run_equalIn_nums8 w 9998 TI 5 512 Try.underlying59 Try.underlying5 sizeB xs ys hx hy]
  rfl
set_option maxRecDepth 100000 in
set_option maxHeartbeats 4000000 in
theorem blank_calls (A0 : Option Addr) (c0 : Nat) (l0 : List Int) (r : Bool) (w : World) (hr0 : Kd.C (Kd.int .u8) w A0 l0.length l0) (hc0 : l0.length ≤ c0) (h : blankF l0 = some r) :
    Calls Try.prog 15 #[.slice A0 l0.length c0] w fun e w' => e = .returned (.bool r) ∧ Below w.heap.size w w' := by
  unfold blankF at h
  by_cases hB : AreB l0
  · rw [if_pos hB] at h
    have hlm := hr0.2.1
    have HRC := Lib.hid (RC.of_C hr0)
    have hz := zI
    have hr := Option.some.inj h
    have HR := Lib.hid hr
    by_cases hl : l0.length = 512
    · obtain ⟨a, rfl, hld⟩ := load_rc HRC.out hl
      rw [hl]
      have HLD := Lib.hid hld
      have harr := run_arrI (some a) c0
      have hq : ∀ w, (binOp .eql TI (.agg (nums .u8 l0).toArray) (.agg ZV)).run Try.prog w = .ok (.bool (l0 == Z512)) w := fun w => run_eqlI w l0 Z512 hl z_ok.1
      clear hr0 h hB hc0 hld hr
      clear hl hlm
      go_enter Try.func15, Try.ntmps15
      go_wp2_with (refine wpList_load_rung (N := 9) (by with_reducible rfl) (by rfl) TI (.tmp 8) rfl a _ rfl HLD.out ?_)
      go_ret
      exact ⟨by rw [← HR.out]; rfl, Below.refl _ _⟩
    · have hne : ((l0.length : Int) == 512) = false := by simp; omega
      have HF := Lib.hid (show r = false by rw [← hr]; exact beq_eq_false_iff_ne.2 (fun e => hl (by rw [e]; exact List.length_replicate)))
      clear hl hB hr0 hc0 hr h
      go_enter Try.func15, Try.ntmps15
      go_wp2
      go_ret
      exact ⟨by rw [HF.out]; rfl, Below.refl _ _⟩
  · rw [if_neg hB] at h
    cases h
end Go.Proofs.Ytdmpbfhbjklajaa.HeadSums
end

-- Written by wip/tools/myprint.py, a program of this session over the print tool: not a printed text of the kit's
section
namespace Go.Proofs.Ytdmpbfhbjklajaa.PPut
open Go.RowKit Go.Proofs.YtdmpbfhbjklajaaW.PrintWords Go.Proofs.YtdmpbfhbjklajaaW.PrintLast Go.Proofs.YtdmpbfhbjklajaaW.PrintMore
attribute [local go_sem] max2_int min2_int max_two min_two max_three min_three max_four min_four   -- for this text's walks alone
set_option linter.unusedVariables false
set_option linter.unusedSimpArgs false
set_option maxRecDepth 20000



def errW : Option Int → Value
 | none => .nilIface
 | some c => .iface 0 (.int .i64 c)
theorem errW_none : errW none = .nilIface := rfl
theorem errW_some (c : Int) : errW (some c) = .iface 0 (.int .i64 c) := rfl

-- the values' own types

end Go.Proofs.Ytdmpbfhbjklajaa.PPut
end

-- Written by wip/tools/myprint.py, a program of this session over the print tool: not a printed text of the kit's
section
namespace Go.Proofs.Ytdmpbfhbjklajaa.PPut
open Go.RowKit Go.Proofs.YtdmpbfhbjklajaaW.PrintWords Go.Proofs.YtdmpbfhbjklajaaW.PrintLast Go.Proofs.YtdmpbfhbjklajaaW.PrintMore
attribute [local go_sem] max2_int min2_int max_two min_two max_three min_three max_four min_four   -- for this text's walks alone
set_option linter.unusedVariables false
set_option linter.unusedSimpArgs false
set_option maxRecDepth 20000

/-! ### tabularyref10_nul: function 45 -/
def tabularyref10_nul.l0 : Nat → ByteArray → Int → Option (Bool)
 | 0, _, _ => none
 | k + 1, x0, x3 => if x3 < (x0.size : Int) then (if 0 ≤ x3 then (if (bt x0 x3) = 0 then (some true) else (tabularyref10_nul.l0 k x0 (wrap64 (x3 + 1)))) else (none)) else (some false)
def tabularyref10_nul.f (k : Nat) (a0 : ByteArray) : Option (Bool) := tabularyref10_nul.l0 k a0 0
set_option maxHeartbeats 8000000 in
set_option maxRecDepth 100000 in
theorem tabularyref10_nul.calls (k : Nat) (a0 : ByteArray) (r : Bool) (w : World) (h : tabularyref10_nul.f k a0 = some r) :
  Calls Try.prog 45 #[.string a0] w fun e w' => e = .returned (.bool r) ∧ Drawn0 w w' := by
 have H : (tabularyref10_nul.l0 k a0 0) = some r := h
 clear h
 have H' := Aside0.mk H
 clear H
 go_enter Try.func45, Try.ntmps45
 go_wp2
 go_loopg [3] k (fun kq v3 w' => ∃ (x3_1 : Int), v3 = .int .i64 x3_1 ∧ Aside0 (tabularyref10_nul.l0 kq a0 x3_1 = some r) ∧ Aside0 (kq ≤ k) ∧ Drawn0 w w')
 case atStart => exact ⟨(0), (by first | rfl | (simp; done) | (simp [*]; done)), H', ⟨Nat.le_refl _⟩, by repeat (first | exact Drawn0.refl _ | apply Drawn0.step)⟩
 case round =>
  clear H'
  obtain ⟨x3_1, rfl, HA, HK1, ⟨m1, rfl⟩⟩ := hrel
  cases gk with
  | zero => exact absurd HA.out (by simp [tabularyref10_nul.l0])
  | succ k1 =>
   have H := HA.out
   clear HA
   simp only [tabularyref10_nul.l0] at H
   by_cases c2 : x3_1 < (a0.size : Int)
   ·rw [if_pos c2] at H
    have c2b0 : decide (x3_1 < (a0.size : Int)) = true := decide_eq_true c2
    clear c2
    by_cases c3 : 0 ≤ x3_1
    ·rw [if_pos c3] at H
     have c3b0 : decide (0 ≤ x3_1) = true := decide_eq_true c3
     clear c3
     by_cases c5 : (bt a0 x3_1) = 0
     ·rw [if_pos c5] at H
      have c5b0 : ((bt a0 x3_1) == 0) = true := beq_iff_eq.mpr c5
      have c5b1 : ((bt a0 x3_1) != 0) = false := bne_eq_false_iff_eq.mpr c5
      clear c5
      obtain rfl := Option.some.inj H
      have p4 : 0 ≤ (x3_1 : Int) := of_decide_eq_true (by first | (with_reducible assumption) | assumption)
      have q4 : x3_1 < (a0.size : Int) := of_decide_eq_true (by first | (with_reducible assumption) | assumption)
      have hx4 := bt_at a0 x3_1
      replace p4 := eq_true p4
      replace q4 := eq_true q4
      go_wp2
      go_ret
      exact ⟨by first | rfl | (simp; done) | (simp [*]; done), by repeat (first | exact Drawn0.refl _ | apply Drawn0.step)⟩
     ·rw [if_neg c5] at H
      have c5b0 : ((bt a0 x3_1) == 0) = false := beq_eq_false_iff_ne.mpr c5
      have c5b1 : ((bt a0 x3_1) != 0) = true := bne_iff_ne.mpr c5
      have H' := Aside0.mk H
      clear H
      have p4 : 0 ≤ (x3_1 : Int) := of_decide_eq_true (by first | (with_reducible assumption) | assumption)
      have q4 : x3_1 < (a0.size : Int) := of_decide_eq_true (by first | (with_reducible assumption) | assumption)
      have hx4 := bt_at a0 x3_1
      replace p4 := eq_true p4
      replace q4 := eq_true q4
      go_wp2
      go_roundg k1
      case measure => have := HK1.out; omega
      case rel => exact ⟨(wrap64 (x3_1 + 1)), (by first | rfl | (simp; done) | (simp [*]; done)), H', ⟨by have := HK1.out; omega⟩, by repeat (first | exact Drawn0.refl _ | apply Drawn0.step)⟩
    ·rw [if_neg c3] at H
     exact absurd H (by simp)
   ·rw [if_neg c2] at H
    have c2b0 : decide (x3_1 < (a0.size : Int)) = false := decide_eq_false c2
    clear c2
    obtain rfl := Option.some.inj H
    go_wp2
    go_ret
    exact ⟨by first | rfl | (simp; done) | (simp [*]; done), by repeat (first | exact Drawn0.refl _ | apply Drawn0.step)⟩

end Go.Proofs.Ytdmpbfhbjklajaa.PPut
end

-- Written by wip/tools/myprint.py, a program of this session over the print tool: not a printed text of the kit's
section
namespace Go.Proofs.Ytdmpbfhbjklajaa.PPut
open Go.RowKit Go.Proofs.YtdmpbfhbjklajaaW.PrintWords Go.Proofs.YtdmpbfhbjklajaaW.PrintLast Go.Proofs.YtdmpbfhbjklajaaW.PrintMore
attribute [local go_sem] max2_int min2_int max_two min_two max_three min_three max_four min_four   -- for this text's walks alone
set_option linter.unusedVariables false
set_option linter.unusedSimpArgs false
set_option maxRecDepth 20000

/-! ### tabularyref10_May: function 36 -/
mutual
def tabularyref10_May.j0 : Nat → Bool → ByteArray → ByteArray → Int → Int → Int → Int → ByteArray → Option (Int)
 | 0, _, _, _, _, _, _, _, _ => none
 | k + 1, x25, x102000, x102001, x102002, x102003, x102004, x102005, x102006 => if x25 = true then (some 102) else (if (x102000.size : Int) > 100 then (tabularyref10_May.j1 k true x102000 x102001 x102002 x102003 x102004 x102005 x102006) else (if (x102006.size : Int) > 100 then (tabularyref10_May.j1 k true x102000 x102001 x102002 x102003 x102004 x102005 x102006) else (tabularyref10_May.j1 k (decide ((x102001.size : Int) > 155)) x102000 x102001 x102002 x102003 x102004 x102005 x102006)))
def tabularyref10_May.j1 : Nat → Bool → ByteArray → ByteArray → Int → Int → Int → Int → ByteArray → Option (Int)
 | 0, _, _, _, _, _, _, _, _ => none
 | k + 1, x41, x102000, x102001, x102002, x102003, x102004, x102005, x102006 => if x41 = true then (some 2) else ((tabularyref10_nul.f k x102000).bind fun t102 => (if t102 = true then (tabularyref10_May.j2 k true x102000 x102001 x102002 x102003 x102004 x102005 x102006) else ((tabularyref10_nul.f k x102006).bind fun t103 => (if t103 = true then (tabularyref10_May.j2 k true x102000 x102001 x102002 x102003 x102004 x102005 x102006) else ((tabularyref10_nul.f k x102001).bind fun t104 => (tabularyref10_May.j2 k t104 x102000 x102001 x102002 x102003 x102004 x102005 x102006))))))
def tabularyref10_May.j2 : Nat → Bool → ByteArray → ByteArray → Int → Int → Int → Int → ByteArray → Option (Int)
 | 0, _, _, _, _, _, _, _, _ => none
 | k + 1, x54, x102000, x102001, x102002, x102003, x102004, x102005, x102006 => if x54 = true then (some 82) else (if x102002 < 0 then (some 1) else (if x102002 > 4095 then (some 1) else (if x102003 < 0 then (some 1) else (if x102003 > 8589934591 then (some 1) else (if x102004 < 0 then (some 1) else (if x102004 > 1099511627776 then (some 1) else (some 0)))))))
end
def tabularyref10_May.f (k : Nat) (a0_0 : ByteArray) (a0_1 : ByteArray) (a0_2 : Int) (a0_3 : Int) (a0_4 : Int) (a0_5 : Int) (a0_6 : ByteArray) : Option (Int) := if a0_5 = 48 then (tabularyref10_May.j0 k false a0_0 a0_1 a0_2 a0_3 a0_4 a0_5 a0_6) else (if a0_5 = 49 then (tabularyref10_May.j0 k false a0_0 a0_1 a0_2 a0_3 a0_4 a0_5 a0_6) else (if a0_5 = 50 then (tabularyref10_May.j0 k false a0_0 a0_1 a0_2 a0_3 a0_4 a0_5 a0_6) else (if a0_5 = 53 then (tabularyref10_May.j0 k false a0_0 a0_1 a0_2 a0_3 a0_4 a0_5 a0_6) else (tabularyref10_May.j0 k (a0_5 != 120) a0_0 a0_1 a0_2 a0_3 a0_4 a0_5 a0_6))))
set_option maxHeartbeats 8000000 in
set_option maxRecDepth 100000 in
theorem tabularyref10_May.calls (k : Nat) (a0_0 : ByteArray) (a0_1 : ByteArray) (a0_2 : Int) (a0_3 : Int) (a0_4 : Int) (a0_5 : Int) (a0_6 : ByteArray) (r : Int) (w : World) (h : tabularyref10_May.f k a0_0 a0_1 a0_2 a0_3 a0_4 a0_5 a0_6 = some r) :
  Calls Try.prog 36 #[.agg #[.string a0_0, .string a0_1, .int .i64 a0_2, .int .i64 a0_3, .int .i64 a0_4, .int .u8 a0_5, .string a0_6]] w fun e w' => e = .returned (.int .i64 r) ∧ Below w.heap.size w w' := by
 have hu24 := Try.underlying24
 have HB := Aside0.mk (Below.refl w.heap.size w)
 have H : (if a0_5 = 48 then (tabularyref10_May.j0 k false a0_0 a0_1 a0_2 a0_3 a0_4 a0_5 a0_6) else (if a0_5 = 49 then (tabularyref10_May.j0 k false a0_0 a0_1 a0_2 a0_3 a0_4 a0_5 a0_6) else (if a0_5 = 50 then (tabularyref10_May.j0 k false a0_0 a0_1 a0_2 a0_3 a0_4 a0_5 a0_6) else (if a0_5 = 53 then (tabularyref10_May.j0 k false a0_0 a0_1 a0_2 a0_3 a0_4 a0_5 a0_6) else (tabularyref10_May.j0 k (a0_5 != 120) a0_0 a0_1 a0_2 a0_3 a0_4 a0_5 a0_6))))) = some r := h
 clear h
 have HC2 := Aside0.mk H
 clear H
 go_enter Try.func36, Try.ntmps36
 go_upto_region 1 with (first | ((with_reducible refine gate_dst (N := 1) rfl ?_); (try (refine gate_guard (by rfl) ?_; dsimp only)); refine box_event ?hg (N := 1) ?hd (cs := #[.string a0_0, .string a0_1, .int .i64 a0_2, .int .i64 a0_3, .int .i64 a0_4, .int .u8 a0_5, .string a0_6]) (t := 24) ?hr ?_; (case hd => rfl); (case hg => rfl); (case hr => first | (go_simp; done) | (go_simp; rfl)); intro gb101 hg w3 hbox hb; have n0_ := Aside0.mk (below_step (by repeat (first | (with_reducible first | exact HB.out | apply below_alloc | apply pw_below_drewN | apply below_drew1) | exact HB.out)) hb); have n1_ := Aside0.mk (hbox); have n2_ := Aside0.mk ((by rw [hg]; exact (below_size (by repeat (first | (with_reducible first | exact HB.out | apply below_alloc | apply pw_below_drewN | apply below_drew1) | exact HB.out))) : w.heap.size ≤ gb101)); have n3_ := Aside0.mk ((by rw [hg]; exact (below_size (by repeat (first | (with_reducible first | exact HB.out | apply below_alloc | apply pw_below_drewN | apply below_drew1) | exact HB.out))) : w.heap.size ≤ gb101)); clear HB; have HB := n0_; have BK101 := n1_; have GW101 := n2_; have GE101 := n3_; clear n0_ n1_ n2_ n3_; clear hb hbox hg))
 (try simp only [Act.put, List.setIfInBounds_toArray, List.set_cons_zero, List.set_cons_succ])
 go_cut [25] (fun v25 wc => ∃ (kq : Nat) (x25_1 : Bool), v25 = .bool x25_1 ∧ Aside0 (tabularyref10_May.j0 kq x25_1 a0_0 a0_1 a0_2 a0_3 a0_4 a0_5 a0_6 = some r) ∧ Aside0 (kq ≤ k) ∧ Aside0 (wc.heap[gb101]? = some (.cells #[.string a0_0, .string a0_1, .int .i64 a0_2, .int .i64 a0_3, .int .i64 a0_4, .int .u8 a0_5, .string a0_6] 24 (0, 0))) ∧ Aside0 (Below w.heap.size w wc))
 case first =>
  have H := HC2.out
  clear HC2
  by_cases c4 : a0_5 = 48
  ·rw [if_pos c4] at H
   have c4b0 : (a0_5 == 48) = true := beq_iff_eq.mpr c4
   have c4b1 : (a0_5 != 48) = false := bne_eq_false_iff_eq.mpr c4
   clear c4
   (first | rw [c4b0] | (simp only [i64_w, i32_w]; rw [c4b0]) | skip)
   have H' := Aside0.mk H
   clear H
   have hcz5_0 : w3.cell? ⟨gb101, 0, none⟩ = some (.string a0_0) := (blk_cell BK101.out 0).trans rfl
   have hcz5_1 : w3.cell? ⟨gb101, 1, none⟩ = some (.string a0_1) := (blk_cell BK101.out 1).trans rfl
   have hcz5_2 : w3.cell? ⟨gb101, 2, none⟩ = some (.int .i64 a0_2) := (blk_cell BK101.out 2).trans rfl
   have hcz5_3 : w3.cell? ⟨gb101, 3, none⟩ = some (.int .i64 a0_3) := (blk_cell BK101.out 3).trans rfl
   have hcz5_4 : w3.cell? ⟨gb101, 4, none⟩ = some (.int .i64 a0_4) := (blk_cell BK101.out 4).trans rfl
   have hcz5_5 : w3.cell? ⟨gb101, 5, none⟩ = some (.int .u8 a0_5) := (blk_cell BK101.out 5).trans rfl
   have hcz5_6 : w3.cell? ⟨gb101, 6, none⟩ = some (.string a0_6) := (blk_cell BK101.out 6).trans rfl
   have hfz5_0 := blk_frozen BK101.out 0
   have hfz5_1 := blk_frozen BK101.out 1
   have hfz5_2 := blk_frozen BK101.out 2
   have hfz5_3 := blk_frozen BK101.out 3
   have hfz5_4 := blk_frozen BK101.out 4
   have hfz5_5 := blk_frozen BK101.out 5
   have hfz5_6 := blk_frozen BK101.out 6
   go_wp2
   go_meet
   case rel => exact ⟨_, (false), (by first | rfl | (simp; done) | (simp [*]; done)), H', ⟨by first | omega | exact Nat.le_refl _⟩, ⟨by (with_reducible repeat (first | refine blk_drewN ?_ _ | refine blk_drew ?_ | refine blk_alloc ?_ _)); exact BK101.out⟩, ⟨by repeat (first | (with_reducible first | exact HB.out | apply below_alloc | apply pw_below_drewN | apply below_drew1 | refine below_set ?_ GE101.out) | exact HB.out)⟩⟩
  ·rw [if_neg c4] at H
   have c4b0 : (a0_5 == 48) = false := beq_eq_false_iff_ne.mpr c4
   have c4b1 : (a0_5 != 48) = true := bne_iff_ne.mpr c4
   (first | rw [c4b0] | (simp only [i64_w, i32_w]; rw [c4b0]) | skip)
   by_cases c6 : a0_5 = 49
   ·rw [if_pos c6] at H
    have c6b0 : (a0_5 == 49) = true := beq_iff_eq.mpr c6
    have c6b1 : (a0_5 != 49) = false := bne_eq_false_iff_eq.mpr c6
    clear c6
    have H' := Aside0.mk H
    clear H
    have hcz7_0 : w3.cell? ⟨gb101, 0, none⟩ = some (.string a0_0) := (blk_cell BK101.out 0).trans rfl
    have hcz7_1 : w3.cell? ⟨gb101, 1, none⟩ = some (.string a0_1) := (blk_cell BK101.out 1).trans rfl
    have hcz7_2 : w3.cell? ⟨gb101, 2, none⟩ = some (.int .i64 a0_2) := (blk_cell BK101.out 2).trans rfl
    have hcz7_3 : w3.cell? ⟨gb101, 3, none⟩ = some (.int .i64 a0_3) := (blk_cell BK101.out 3).trans rfl
    have hcz7_4 : w3.cell? ⟨gb101, 4, none⟩ = some (.int .i64 a0_4) := (blk_cell BK101.out 4).trans rfl
    have hcz7_5 : w3.cell? ⟨gb101, 5, none⟩ = some (.int .u8 a0_5) := (blk_cell BK101.out 5).trans rfl
    have hcz7_6 : w3.cell? ⟨gb101, 6, none⟩ = some (.string a0_6) := (blk_cell BK101.out 6).trans rfl
    have hfz7_0 := blk_frozen BK101.out 0
    have hfz7_1 := blk_frozen BK101.out 1
    have hfz7_2 := blk_frozen BK101.out 2
    have hfz7_3 := blk_frozen BK101.out 3
    have hfz7_4 := blk_frozen BK101.out 4
    have hfz7_5 := blk_frozen BK101.out 5
    have hfz7_6 := blk_frozen BK101.out 6
    go_wp2
    go_meet
    case rel => exact ⟨_, (false), (by first | rfl | (simp; done) | (simp [*]; done)), H', ⟨by first | omega | exact Nat.le_refl _⟩, ⟨by (with_reducible repeat (first | refine blk_drewN ?_ _ | refine blk_drew ?_ | refine blk_alloc ?_ _)); exact BK101.out⟩, ⟨by repeat (first | (with_reducible first | exact HB.out | apply below_alloc | apply pw_below_drewN | apply below_drew1 | refine below_set ?_ GE101.out) | exact HB.out)⟩⟩
   ·rw [if_neg c6] at H
    have c6b0 : (a0_5 == 49) = false := beq_eq_false_iff_ne.mpr c6
    have c6b1 : (a0_5 != 49) = true := bne_iff_ne.mpr c6
    by_cases c8 : a0_5 = 50
    ·rw [if_pos c8] at H
     have c8b0 : (a0_5 == 50) = true := beq_iff_eq.mpr c8
     have c8b1 : (a0_5 != 50) = false := bne_eq_false_iff_eq.mpr c8
     clear c8
     have H' := Aside0.mk H
     clear H
     have hcz9_0 : w3.cell? ⟨gb101, 0, none⟩ = some (.string a0_0) := (blk_cell BK101.out 0).trans rfl
     have hcz9_1 : w3.cell? ⟨gb101, 1, none⟩ = some (.string a0_1) := (blk_cell BK101.out 1).trans rfl
     have hcz9_2 : w3.cell? ⟨gb101, 2, none⟩ = some (.int .i64 a0_2) := (blk_cell BK101.out 2).trans rfl
     have hcz9_3 : w3.cell? ⟨gb101, 3, none⟩ = some (.int .i64 a0_3) := (blk_cell BK101.out 3).trans rfl
     have hcz9_4 : w3.cell? ⟨gb101, 4, none⟩ = some (.int .i64 a0_4) := (blk_cell BK101.out 4).trans rfl
     have hcz9_5 : w3.cell? ⟨gb101, 5, none⟩ = some (.int .u8 a0_5) := (blk_cell BK101.out 5).trans rfl
     have hcz9_6 : w3.cell? ⟨gb101, 6, none⟩ = some (.string a0_6) := (blk_cell BK101.out 6).trans rfl
     have hfz9_0 := blk_frozen BK101.out 0
     have hfz9_1 := blk_frozen BK101.out 1
     have hfz9_2 := blk_frozen BK101.out 2
     have hfz9_3 := blk_frozen BK101.out 3
     have hfz9_4 := blk_frozen BK101.out 4
     have hfz9_5 := blk_frozen BK101.out 5
     have hfz9_6 := blk_frozen BK101.out 6
     go_wp2
     go_meet
     case rel => exact ⟨_, (false), (by first | rfl | (simp; done) | (simp [*]; done)), H', ⟨by first | omega | exact Nat.le_refl _⟩, ⟨by (with_reducible repeat (first | refine blk_drewN ?_ _ | refine blk_drew ?_ | refine blk_alloc ?_ _)); exact BK101.out⟩, ⟨by repeat (first | (with_reducible first | exact HB.out | apply below_alloc | apply pw_below_drewN | apply below_drew1 | refine below_set ?_ GE101.out) | exact HB.out)⟩⟩
    ·rw [if_neg c8] at H
     have c8b0 : (a0_5 == 50) = false := beq_eq_false_iff_ne.mpr c8
     have c8b1 : (a0_5 != 50) = true := bne_iff_ne.mpr c8
     by_cases c10 : a0_5 = 53
     ·rw [if_pos c10] at H
      have c10b0 : (a0_5 == 53) = true := beq_iff_eq.mpr c10
      have c10b1 : (a0_5 != 53) = false := bne_eq_false_iff_eq.mpr c10
      clear c10
      have H' := Aside0.mk H
      clear H
      have hcz11_0 : w3.cell? ⟨gb101, 0, none⟩ = some (.string a0_0) := (blk_cell BK101.out 0).trans rfl
      have hcz11_1 : w3.cell? ⟨gb101, 1, none⟩ = some (.string a0_1) := (blk_cell BK101.out 1).trans rfl
      have hcz11_2 : w3.cell? ⟨gb101, 2, none⟩ = some (.int .i64 a0_2) := (blk_cell BK101.out 2).trans rfl
      have hcz11_3 : w3.cell? ⟨gb101, 3, none⟩ = some (.int .i64 a0_3) := (blk_cell BK101.out 3).trans rfl
      have hcz11_4 : w3.cell? ⟨gb101, 4, none⟩ = some (.int .i64 a0_4) := (blk_cell BK101.out 4).trans rfl
      have hcz11_5 : w3.cell? ⟨gb101, 5, none⟩ = some (.int .u8 a0_5) := (blk_cell BK101.out 5).trans rfl
      have hcz11_6 : w3.cell? ⟨gb101, 6, none⟩ = some (.string a0_6) := (blk_cell BK101.out 6).trans rfl
      have hfz11_0 := blk_frozen BK101.out 0
      have hfz11_1 := blk_frozen BK101.out 1
      have hfz11_2 := blk_frozen BK101.out 2
      have hfz11_3 := blk_frozen BK101.out 3
      have hfz11_4 := blk_frozen BK101.out 4
      have hfz11_5 := blk_frozen BK101.out 5
      have hfz11_6 := blk_frozen BK101.out 6
      go_wp2
      go_meet
      case rel => exact ⟨_, (false), (by first | rfl | (simp; done) | (simp [*]; done)), H', ⟨by first | omega | exact Nat.le_refl _⟩, ⟨by (with_reducible repeat (first | refine blk_drewN ?_ _ | refine blk_drew ?_ | refine blk_alloc ?_ _)); exact BK101.out⟩, ⟨by repeat (first | (with_reducible first | exact HB.out | apply below_alloc | apply pw_below_drewN | apply below_drew1 | refine below_set ?_ GE101.out) | exact HB.out)⟩⟩
     ·rw [if_neg c10] at H
      have c10b0 : (a0_5 == 53) = false := beq_eq_false_iff_ne.mpr c10
      have c10b1 : (a0_5 != 53) = true := bne_iff_ne.mpr c10
      have H' := Aside0.mk H
      clear H
      have hcz12_0 : w3.cell? ⟨gb101, 0, none⟩ = some (.string a0_0) := (blk_cell BK101.out 0).trans rfl
      have hcz12_1 : w3.cell? ⟨gb101, 1, none⟩ = some (.string a0_1) := (blk_cell BK101.out 1).trans rfl
      have hcz12_2 : w3.cell? ⟨gb101, 2, none⟩ = some (.int .i64 a0_2) := (blk_cell BK101.out 2).trans rfl
      have hcz12_3 : w3.cell? ⟨gb101, 3, none⟩ = some (.int .i64 a0_3) := (blk_cell BK101.out 3).trans rfl
      have hcz12_4 : w3.cell? ⟨gb101, 4, none⟩ = some (.int .i64 a0_4) := (blk_cell BK101.out 4).trans rfl
      have hcz12_5 : w3.cell? ⟨gb101, 5, none⟩ = some (.int .u8 a0_5) := (blk_cell BK101.out 5).trans rfl
      have hcz12_6 : w3.cell? ⟨gb101, 6, none⟩ = some (.string a0_6) := (blk_cell BK101.out 6).trans rfl
      have hfz12_0 := blk_frozen BK101.out 0
      have hfz12_1 := blk_frozen BK101.out 1
      have hfz12_2 := blk_frozen BK101.out 2
      have hfz12_3 := blk_frozen BK101.out 3
      have hfz12_4 := blk_frozen BK101.out 4
      have hfz12_5 := blk_frozen BK101.out 5
      have hfz12_6 := blk_frozen BK101.out 6
      go_wp2
      go_meet
      case rel => exact ⟨_, ((a0_5 != 120)), (by first | rfl | (simp; done) | (simp [*]; done)), H', ⟨by first | omega | exact Nat.le_refl _⟩, ⟨by (with_reducible repeat (first | refine blk_drewN ?_ _ | refine blk_drew ?_ | refine blk_alloc ?_ _)); exact BK101.out⟩, ⟨by repeat (first | (with_reducible first | exact HB.out | apply below_alloc | apply pw_below_drewN | apply below_drew1 | refine below_set ?_ GE101.out) | exact HB.out)⟩⟩
 case rest =>
  clear HC2
  try clear c1
  try clear p2
  try clear c3
  try clear c4
  try clear c4b0
  try clear c4b1
  try clear c6
  try clear c6b0
  try clear c6b1
  try clear c8
  try clear c8b0
  try clear c8b1
  try clear c10
  try clear c10b0
  try clear c10b1
  try clear hcz11_0
  try clear hcz11_1
  try clear hcz11_2
  try clear hcz11_3
  try clear hcz11_4
  try clear hcz11_5
  try clear hcz11_6
  try clear hcz12_0
  try clear hcz12_1
  try clear hcz12_2
  try clear hcz12_3
  try clear hcz12_4
  try clear hcz12_5
  try clear hcz12_6
  try clear hcz5_0
  try clear hcz5_1
  try clear hcz5_2
  try clear hcz5_3
  try clear hcz5_4
  try clear hcz5_5
  try clear hcz5_6
  try clear hcz7_0
  try clear hcz7_1
  try clear hcz7_2
  try clear hcz7_3
  try clear hcz7_4
  try clear hcz7_5
  try clear hcz7_6
  try clear hcz9_0
  try clear hcz9_1
  try clear hcz9_2
  try clear hcz9_3
  try clear hcz9_4
  try clear hcz9_5
  try clear hcz9_6
  try clear hfz11_0
  try clear hfz11_1
  try clear hfz11_2
  try clear hfz11_3
  try clear hfz11_4
  try clear hfz11_5
  try clear hfz11_6
  try clear hfz12_0
  try clear hfz12_1
  try clear hfz12_2
  try clear hfz12_3
  try clear hfz12_4
  try clear hfz12_5
  try clear hfz12_6
  try clear hfz5_0
  try clear hfz5_1
  try clear hfz5_2
  try clear hfz5_3
  try clear hfz5_4
  try clear hfz5_5
  try clear hfz5_6
  try clear hfz7_0
  try clear hfz7_1
  try clear hfz7_2
  try clear hfz7_3
  try clear hfz7_4
  try clear hfz7_5
  try clear hfz7_6
  try clear hfz9_0
  try clear hfz9_1
  try clear hfz9_2
  try clear hfz9_3
  try clear hfz9_4
  try clear hfz9_5
  try clear hfz9_6
  obtain ⟨kq, x25_1, rfl, HA, HJ1, BK101, HB⟩ := hcut
  cases kq with
  | zero => exact absurd HA.out (by simp [tabularyref10_May.j0])
  | succ kj1 =>
   have H := HA.out
   clear HA
   simp only [tabularyref10_May.j0] at H
   by_cases c13 : x25_1 = true
   ·subst c13
    have H1 : (some 102) = some r := by rw [if_pos rfl] at H; exact H
    clear H
    have H := H1
    clear H1
    obtain rfl := Option.some.inj H
    go_wp2
    go_ret
    exact ⟨by first | rfl | (simp [errW_none, errW_some] <;> rfl) | (simp [*, errW_none, errW_some] <;> rfl), by repeat (first | (with_reducible first | exact HB.out | apply below_alloc | apply pw_below_drewN | apply below_drew1 | refine below_set ?_ GE101.out) | exact HB.out)⟩
   ·replace c13 := Bool.eq_false_iff.mpr c13
    subst c13
    have H1 : (if (a0_0.size : Int) > 100 then (tabularyref10_May.j1 kj1 true a0_0 a0_1 a0_2 a0_3 a0_4 a0_5 a0_6) else (if (a0_6.size : Int) > 100 then (tabularyref10_May.j1 kj1 true a0_0 a0_1 a0_2 a0_3 a0_4 a0_5 a0_6) else (tabularyref10_May.j1 kj1 (decide ((a0_1.size : Int) > 155)) a0_0 a0_1 a0_2 a0_3 a0_4 a0_5 a0_6))) = some r := by rw [if_neg (show ¬ (false = true) by decide)] at H; exact H
    clear H
    have H := H1
    clear H1
    have HC14 := Aside0.mk H
    clear H
    go_upto_region 3 with (fail)
    go_cut [41] (fun v41 wc => ∃ (kq : Nat) (x41_13 : Bool), v41 = .bool x41_13 ∧ Aside0 (tabularyref10_May.j1 kq x41_13 a0_0 a0_1 a0_2 a0_3 a0_4 a0_5 a0_6 = some r) ∧ Aside0 (kq ≤ kj1) ∧ Aside0 (wc.heap[gb101]? = some (.cells #[.string a0_0, .string a0_1, .int .i64 a0_2, .int .i64 a0_3, .int .i64 a0_4, .int .u8 a0_5, .string a0_6] 24 (0, 0))) ∧ Aside0 (Below w.heap.size w wc))
    case first =>
     have H := HC14.out
     clear HC14
     by_cases c15 : (a0_0.size : Int) > 100
     ·rw [if_pos c15] at H
      have c15b0 : decide (100 < (a0_0.size : Int)) = true := decide_eq_true c15
      have c15b1 : decide (100 < a0_0.size) = true := decide_eq_true (by omega)
      clear c15
      (first | rw [c15b0] | (simp only [i64_w, i32_w]; rw [c15b0]) | skip)
      have H' := Aside0.mk H
      clear H
      have hcz16_0 : wc.cell? ⟨gb101, 0, none⟩ = some (.string a0_0) := (blk_cell BK101.out 0).trans rfl
      have hcz16_1 : wc.cell? ⟨gb101, 1, none⟩ = some (.string a0_1) := (blk_cell BK101.out 1).trans rfl
      have hcz16_2 : wc.cell? ⟨gb101, 2, none⟩ = some (.int .i64 a0_2) := (blk_cell BK101.out 2).trans rfl
      have hcz16_3 : wc.cell? ⟨gb101, 3, none⟩ = some (.int .i64 a0_3) := (blk_cell BK101.out 3).trans rfl
      have hcz16_4 : wc.cell? ⟨gb101, 4, none⟩ = some (.int .i64 a0_4) := (blk_cell BK101.out 4).trans rfl
      have hcz16_5 : wc.cell? ⟨gb101, 5, none⟩ = some (.int .u8 a0_5) := (blk_cell BK101.out 5).trans rfl
      have hcz16_6 : wc.cell? ⟨gb101, 6, none⟩ = some (.string a0_6) := (blk_cell BK101.out 6).trans rfl
      have hfz16_0 := blk_frozen BK101.out 0
      have hfz16_1 := blk_frozen BK101.out 1
      have hfz16_2 := blk_frozen BK101.out 2
      have hfz16_3 := blk_frozen BK101.out 3
      have hfz16_4 := blk_frozen BK101.out 4
      have hfz16_5 := blk_frozen BK101.out 5
      have hfz16_6 := blk_frozen BK101.out 6
      go_wp2
      go_meet
      case rel => exact ⟨_, (true), (by first | rfl | (simp; done) | (simp [*]; done)), H', ⟨by have := HJ1.out; first | omega | exact Nat.le_refl _⟩, ⟨by (with_reducible repeat (first | refine blk_drewN ?_ _ | refine blk_drew ?_ | refine blk_alloc ?_ _)); exact BK101.out⟩, ⟨by repeat (first | (with_reducible first | exact HB.out | apply below_alloc | apply pw_below_drewN | apply below_drew1 | refine below_set ?_ GE101.out) | exact HB.out)⟩⟩
     ·rw [if_neg c15] at H
      have c15b0 : decide (100 < (a0_0.size : Int)) = false := decide_eq_false c15
      have c15b1 : decide (100 < a0_0.size) = false := decide_eq_false (by omega)
      clear c15
      (first | rw [c15b0] | (simp only [i64_w, i32_w]; rw [c15b0]) | skip)
      by_cases c17 : (a0_6.size : Int) > 100
      ·rw [if_pos c17] at H
       have c17b0 : decide (100 < (a0_6.size : Int)) = true := decide_eq_true c17
       have c17b1 : decide (100 < a0_6.size) = true := decide_eq_true (by omega)
       clear c17
       have H' := Aside0.mk H
       clear H
       have hcz18_0 : wc.cell? ⟨gb101, 0, none⟩ = some (.string a0_0) := (blk_cell BK101.out 0).trans rfl
       have hcz18_1 : wc.cell? ⟨gb101, 1, none⟩ = some (.string a0_1) := (blk_cell BK101.out 1).trans rfl
       have hcz18_2 : wc.cell? ⟨gb101, 2, none⟩ = some (.int .i64 a0_2) := (blk_cell BK101.out 2).trans rfl
       have hcz18_3 : wc.cell? ⟨gb101, 3, none⟩ = some (.int .i64 a0_3) := (blk_cell BK101.out 3).trans rfl
       have hcz18_4 : wc.cell? ⟨gb101, 4, none⟩ = some (.int .i64 a0_4) := (blk_cell BK101.out 4).trans rfl
       have hcz18_5 : wc.cell? ⟨gb101, 5, none⟩ = some (.int .u8 a0_5) := (blk_cell BK101.out 5).trans rfl
       have hcz18_6 : wc.cell? ⟨gb101, 6, none⟩ = some (.string a0_6) := (blk_cell BK101.out 6).trans rfl
       have hfz18_0 := blk_frozen BK101.out 0
       have hfz18_1 := blk_frozen BK101.out 1
       have hfz18_2 := blk_frozen BK101.out 2
       have hfz18_3 := blk_frozen BK101.out 3
       have hfz18_4 := blk_frozen BK101.out 4
       have hfz18_5 := blk_frozen BK101.out 5
       have hfz18_6 := blk_frozen BK101.out 6
       go_wp2
       go_meet
       case rel => exact ⟨_, (true), (by first | rfl | (simp; done) | (simp [*]; done)), H', ⟨by have := HJ1.out; first | omega | exact Nat.le_refl _⟩, ⟨by (with_reducible repeat (first | refine blk_drewN ?_ _ | refine blk_drew ?_ | refine blk_alloc ?_ _)); exact BK101.out⟩, ⟨by repeat (first | (with_reducible first | exact HB.out | apply below_alloc | apply pw_below_drewN | apply below_drew1 | refine below_set ?_ GE101.out) | exact HB.out)⟩⟩
      ·rw [if_neg c17] at H
       have c17b0 : decide (100 < (a0_6.size : Int)) = false := decide_eq_false c17
       have c17b1 : decide (100 < a0_6.size) = false := decide_eq_false (by omega)
       clear c17
       have H' := Aside0.mk H
       clear H
       have hcz19_0 : wc.cell? ⟨gb101, 0, none⟩ = some (.string a0_0) := (blk_cell BK101.out 0).trans rfl
       have hcz19_1 : wc.cell? ⟨gb101, 1, none⟩ = some (.string a0_1) := (blk_cell BK101.out 1).trans rfl
       have hcz19_2 : wc.cell? ⟨gb101, 2, none⟩ = some (.int .i64 a0_2) := (blk_cell BK101.out 2).trans rfl
       have hcz19_3 : wc.cell? ⟨gb101, 3, none⟩ = some (.int .i64 a0_3) := (blk_cell BK101.out 3).trans rfl
       have hcz19_4 : wc.cell? ⟨gb101, 4, none⟩ = some (.int .i64 a0_4) := (blk_cell BK101.out 4).trans rfl
       have hcz19_5 : wc.cell? ⟨gb101, 5, none⟩ = some (.int .u8 a0_5) := (blk_cell BK101.out 5).trans rfl
       have hcz19_6 : wc.cell? ⟨gb101, 6, none⟩ = some (.string a0_6) := (blk_cell BK101.out 6).trans rfl
       have hfz19_0 := blk_frozen BK101.out 0
       have hfz19_1 := blk_frozen BK101.out 1
       have hfz19_2 := blk_frozen BK101.out 2
       have hfz19_3 := blk_frozen BK101.out 3
       have hfz19_4 := blk_frozen BK101.out 4
       have hfz19_5 := blk_frozen BK101.out 5
       have hfz19_6 := blk_frozen BK101.out 6
       go_wp2
       go_meet
       case rel => exact ⟨_, (decide ((a0_1.size : Int) > 155)), (by first | rfl | (simp; done) | (simp [*]; done)), H', ⟨by have := HJ1.out; first | omega | exact Nat.le_refl _⟩, ⟨by (with_reducible repeat (first | refine blk_drewN ?_ _ | refine blk_drew ?_ | refine blk_alloc ?_ _)); exact BK101.out⟩, ⟨by repeat (first | (with_reducible first | exact HB.out | apply below_alloc | apply pw_below_drewN | apply below_drew1 | refine below_set ?_ GE101.out) | exact HB.out)⟩⟩
    case rest =>
     clear HC14
     try clear c1
     try clear p2
     try clear c3
     try clear c4
     try clear c4b0
     try clear c4b1
     try clear c6
     try clear c6b0
     try clear c6b1
     try clear c8
     try clear c8b0
     try clear c8b1
     try clear c10
     try clear c10b0
     try clear c10b1
     try clear c13
     try clear c15
     try clear c15b0
     try clear c15b1
     try clear c17
     try clear c17b0
     try clear c17b1
     try clear hcz11_0
     try clear hcz11_1
     try clear hcz11_2
     try clear hcz11_3
     try clear hcz11_4
     try clear hcz11_5
     try clear hcz11_6
     try clear hcz12_0
     try clear hcz12_1
     try clear hcz12_2
     try clear hcz12_3
     try clear hcz12_4
     try clear hcz12_5
     try clear hcz12_6
     try clear hcz16_0
     try clear hcz16_1
     try clear hcz16_2
     try clear hcz16_3
     try clear hcz16_4
     try clear hcz16_5
     try clear hcz16_6
     try clear hcz18_0
     try clear hcz18_1
     try clear hcz18_2
     try clear hcz18_3
     try clear hcz18_4
     try clear hcz18_5
     try clear hcz18_6
     try clear hcz19_0
     try clear hcz19_1
     try clear hcz19_2
     try clear hcz19_3
     try clear hcz19_4
     try clear hcz19_5
     try clear hcz19_6
     try clear hcz5_0
     try clear hcz5_1
     try clear hcz5_2
     try clear hcz5_3
     try clear hcz5_4
     try clear hcz5_5
     try clear hcz5_6
     try clear hcz7_0
     try clear hcz7_1
     try clear hcz7_2
     try clear hcz7_3
     try clear hcz7_4
     try clear hcz7_5
     try clear hcz7_6
     try clear hcz9_0
     try clear hcz9_1
     try clear hcz9_2
     try clear hcz9_3
     try clear hcz9_4
     try clear hcz9_5
     try clear hcz9_6
     try clear hfz11_0
     try clear hfz11_1
     try clear hfz11_2
     try clear hfz11_3
     try clear hfz11_4
     try clear hfz11_5
     try clear hfz11_6
     try clear hfz12_0
     try clear hfz12_1
     try clear hfz12_2
     try clear hfz12_3
     try clear hfz12_4
     try clear hfz12_5
     try clear hfz12_6
     try clear hfz16_0
     try clear hfz16_1
     try clear hfz16_2
     try clear hfz16_3
     try clear hfz16_4
     try clear hfz16_5
     try clear hfz16_6
     try clear hfz18_0
     try clear hfz18_1
     try clear hfz18_2
     try clear hfz18_3
     try clear hfz18_4
     try clear hfz18_5
     try clear hfz18_6
     try clear hfz19_0
     try clear hfz19_1
     try clear hfz19_2
     try clear hfz19_3
     try clear hfz19_4
     try clear hfz19_5
     try clear hfz19_6
     try clear hfz5_0
     try clear hfz5_1
     try clear hfz5_2
     try clear hfz5_3
     try clear hfz5_4
     try clear hfz5_5
     try clear hfz5_6
     try clear hfz7_0
     try clear hfz7_1
     try clear hfz7_2
     try clear hfz7_3
     try clear hfz7_4
     try clear hfz7_5
     try clear hfz7_6
     try clear hfz9_0
     try clear hfz9_1
     try clear hfz9_2
     try clear hfz9_3
     try clear hfz9_4
     try clear hfz9_5
     try clear hfz9_6
     try clear p2
     obtain ⟨kq, x41_13, rfl, HA, HJ13, BK101, HB⟩ := hcut
     cases kq with
     | zero => exact absurd HA.out (by simp [tabularyref10_May.j1])
     | succ kj13 =>
      have H := HA.out
      clear HA
      simp only [tabularyref10_May.j1] at H
      by_cases c20 : x41_13 = true
      ·subst c20
       have H1 : (some 2) = some r := by rw [if_pos rfl] at H; exact H
       clear H
       have H := H1
       clear H1
       obtain rfl := Option.some.inj H
       go_wp2
       go_ret
       exact ⟨by first | rfl | (simp [errW_none, errW_some] <;> rfl) | (simp [*, errW_none, errW_some] <;> rfl), by repeat (first | (with_reducible first | exact HB.out | apply below_alloc | apply pw_below_drewN | apply below_drew1 | refine below_set ?_ GE101.out) | exact HB.out)⟩
      ·replace c20 := Bool.eq_false_iff.mpr c20
       subst c20
       have H1 : ((tabularyref10_nul.f kj13 a0_0).bind fun t102 => (if t102 = true then (tabularyref10_May.j2 kj13 true a0_0 a0_1 a0_2 a0_3 a0_4 a0_5 a0_6) else ((tabularyref10_nul.f kj13 a0_6).bind fun t103 => (if t103 = true then (tabularyref10_May.j2 kj13 true a0_0 a0_1 a0_2 a0_3 a0_4 a0_5 a0_6) else ((tabularyref10_nul.f kj13 a0_1).bind fun t104 => (tabularyref10_May.j2 kj13 t104 a0_0 a0_1 a0_2 a0_3 a0_4 a0_5 a0_6)))))) = some r := by rw [if_neg (show ¬ (false = true) by decide)] at H; exact H
       clear H
       have H := H1
       clear H1
       have HC21 := Aside0.mk H
       clear H
       go_upto_region 5 with (fail)
       go_cut [54] (fun v54 wc => ∃ (kq : Nat) (x54_20 : Bool), v54 = .bool x54_20 ∧ Aside0 (tabularyref10_May.j2 kq x54_20 a0_0 a0_1 a0_2 a0_3 a0_4 a0_5 a0_6 = some r) ∧ Aside0 (kq ≤ kj13) ∧ Aside0 (wc.heap[gb101]? = some (.cells #[.string a0_0, .string a0_1, .int .i64 a0_2, .int .i64 a0_3, .int .i64 a0_4, .int .u8 a0_5, .string a0_6] 24 (0, 0))) ∧ Aside0 (Below w.heap.size w wc))
       case first =>
        have H := HC21.out
        clear HC21
        replace H := Option.bind_eq_some_iff.mp H
        obtain ⟨t102, A220, H⟩ := H
        replace H : (if t102 = true then (tabularyref10_May.j2 kj13 true a0_0 a0_1 a0_2 a0_3 a0_4 a0_5 a0_6) else ((tabularyref10_nul.f kj13 a0_6).bind fun t103 => (if t103 = true then (tabularyref10_May.j2 kj13 true a0_0 a0_1 a0_2 a0_3 a0_4 a0_5 a0_6) else ((tabularyref10_nul.f kj13 a0_1).bind fun t104 => (tabularyref10_May.j2 kj13 t104 a0_0 a0_1 a0_2 a0_3 a0_4 a0_5 a0_6))))) = some r := H
        have A22 := Aside0.mk A220
        clear A220
        by_cases c23 : t102 = true
        ·subst c23
         have H1 : (tabularyref10_May.j2 kj13 true a0_0 a0_1 a0_2 a0_3 a0_4 a0_5 a0_6) = some r := by rw [if_pos rfl] at H; exact H
         clear H
         have H := H1
         clear H1
         have H' := Aside0.mk H
         clear H
         have hcz24_0 : wc.cell? ⟨gb101, 0, none⟩ = some (.string a0_0) := (blk_cell BK101.out 0).trans rfl
         have hcz24_1 : wc.cell? ⟨gb101, 1, none⟩ = some (.string a0_1) := (blk_cell BK101.out 1).trans rfl
         have hcz24_2 : wc.cell? ⟨gb101, 2, none⟩ = some (.int .i64 a0_2) := (blk_cell BK101.out 2).trans rfl
         have hcz24_3 : wc.cell? ⟨gb101, 3, none⟩ = some (.int .i64 a0_3) := (blk_cell BK101.out 3).trans rfl
         have hcz24_4 : wc.cell? ⟨gb101, 4, none⟩ = some (.int .i64 a0_4) := (blk_cell BK101.out 4).trans rfl
         have hcz24_5 : wc.cell? ⟨gb101, 5, none⟩ = some (.int .u8 a0_5) := (blk_cell BK101.out 5).trans rfl
         have hcz24_6 : wc.cell? ⟨gb101, 6, none⟩ = some (.string a0_6) := (blk_cell BK101.out 6).trans rfl
         have hfz24_0 := blk_frozen BK101.out 0
         have hfz24_1 := blk_frozen BK101.out 1
         have hfz24_2 := blk_frozen BK101.out 2
         have hfz24_3 := blk_frozen BK101.out 3
         have hfz24_4 := blk_frozen BK101.out 4
         have hfz24_5 := blk_frozen BK101.out 5
         have hfz24_6 := blk_frozen BK101.out 6
         go_wp2_with (first | ((with_reducible refine gate_callee (f := 45) rfl ?_); refine goesL_ (some 44) rfl rfl Try.func45 (by kernel_rfl) rfl #[.string a0_0] rfl (by (try simp only [List.map_toArray, List.map_cons, List.map_nil]); first | done | rfl | (simp only [List.length_drop, List.length_take]; rfl)) ?_; (with_reducible refine (tabularyref10_nul.calls kj13 a0_0 true _ A22.out).mono ?_); rintro e w' ⟨rfl, ⟨nd, rfl⟩⟩; refine ⟨_, rfl, ?_⟩))
         go_meet
         case rel => exact ⟨_, (true), (by first | rfl | (simp; done) | (simp [*]; done)), H', ⟨by have := HJ1.out; have := HJ13.out; first | omega | exact Nat.le_refl _⟩, ⟨by (with_reducible repeat (first | refine blk_drewN ?_ _ | refine blk_drew ?_ | refine blk_alloc ?_ _)); exact BK101.out⟩, ⟨by repeat (first | (with_reducible first | exact HB.out | apply below_alloc | apply pw_below_drewN | apply below_drew1 | refine below_set ?_ GE101.out) | exact HB.out)⟩⟩
        ·replace c23 := Bool.eq_false_iff.mpr c23
         subst c23
         have H1 : ((tabularyref10_nul.f kj13 a0_6).bind fun t103 => (if t103 = true then (tabularyref10_May.j2 kj13 true a0_0 a0_1 a0_2 a0_3 a0_4 a0_5 a0_6) else ((tabularyref10_nul.f kj13 a0_1).bind fun t104 => (tabularyref10_May.j2 kj13 t104 a0_0 a0_1 a0_2 a0_3 a0_4 a0_5 a0_6)))) = some r := by rw [if_neg (show ¬ (false = true) by decide)] at H; exact H
         clear H
         have H := H1
         clear H1
         replace H := Option.bind_eq_some_iff.mp H
         obtain ⟨t103, A250, H⟩ := H
         replace H : (if t103 = true then (tabularyref10_May.j2 kj13 true a0_0 a0_1 a0_2 a0_3 a0_4 a0_5 a0_6) else ((tabularyref10_nul.f kj13 a0_1).bind fun t104 => (tabularyref10_May.j2 kj13 t104 a0_0 a0_1 a0_2 a0_3 a0_4 a0_5 a0_6))) = some r := H
         have A25 := Aside0.mk A250
         clear A250
         by_cases c26 : t103 = true
         ·subst c26
          have H1 : (tabularyref10_May.j2 kj13 true a0_0 a0_1 a0_2 a0_3 a0_4 a0_5 a0_6) = some r := by rw [if_pos rfl] at H; exact H
          clear H
          have H := H1
          clear H1
          have H' := Aside0.mk H
          clear H
          have hcz27_0 : wc.cell? ⟨gb101, 0, none⟩ = some (.string a0_0) := (blk_cell BK101.out 0).trans rfl
          have hcz27_1 : wc.cell? ⟨gb101, 1, none⟩ = some (.string a0_1) := (blk_cell BK101.out 1).trans rfl
          have hcz27_2 : wc.cell? ⟨gb101, 2, none⟩ = some (.int .i64 a0_2) := (blk_cell BK101.out 2).trans rfl
          have hcz27_3 : wc.cell? ⟨gb101, 3, none⟩ = some (.int .i64 a0_3) := (blk_cell BK101.out 3).trans rfl
          have hcz27_4 : wc.cell? ⟨gb101, 4, none⟩ = some (.int .i64 a0_4) := (blk_cell BK101.out 4).trans rfl
          have hcz27_5 : wc.cell? ⟨gb101, 5, none⟩ = some (.int .u8 a0_5) := (blk_cell BK101.out 5).trans rfl
          have hcz27_6 : wc.cell? ⟨gb101, 6, none⟩ = some (.string a0_6) := (blk_cell BK101.out 6).trans rfl
          have hfz27_0 := blk_frozen BK101.out 0
          have hfz27_1 := blk_frozen BK101.out 1
          have hfz27_2 := blk_frozen BK101.out 2
          have hfz27_3 := blk_frozen BK101.out 3
          have hfz27_4 := blk_frozen BK101.out 4
          have hfz27_5 := blk_frozen BK101.out 5
          have hfz27_6 := blk_frozen BK101.out 6
          go_wp2_with (first | ((with_reducible refine gate_callee (f := 45) rfl ?_); refine goesL_ (some 44) rfl rfl Try.func45 (by kernel_rfl) rfl #[.string a0_0] rfl (by (try simp only [List.map_toArray, List.map_cons, List.map_nil]); first | done | rfl | (simp only [List.length_drop, List.length_take]; rfl)) ?_; (with_reducible refine (tabularyref10_nul.calls kj13 a0_0 false _ A22.out).mono ?_); rintro e w' ⟨rfl, ⟨nd, rfl⟩⟩; refine ⟨_, rfl, ?_⟩) | (go_at_call 45; (with_reducible refine (tabularyref10_nul.calls kj13 a0_6 true _ A25.out).mono ?_); rintro e w' ⟨rfl, ⟨nd, rfl⟩⟩))
          go_meet
          case rel => exact ⟨_, (true), (by first | rfl | (simp; done) | (simp [*]; done)), H', ⟨by have := HJ1.out; have := HJ13.out; first | omega | exact Nat.le_refl _⟩, ⟨by (with_reducible repeat (first | refine blk_drewN ?_ _ | refine blk_drew ?_ | refine blk_alloc ?_ _)); exact BK101.out⟩, ⟨by repeat (first | (with_reducible first | exact HB.out | apply below_alloc | apply pw_below_drewN | apply below_drew1 | refine below_set ?_ GE101.out) | exact HB.out)⟩⟩
         ·replace c26 := Bool.eq_false_iff.mpr c26
          subst c26
          have H1 : ((tabularyref10_nul.f kj13 a0_1).bind fun t104 => (tabularyref10_May.j2 kj13 t104 a0_0 a0_1 a0_2 a0_3 a0_4 a0_5 a0_6)) = some r := by rw [if_neg (show ¬ (false = true) by decide)] at H; exact H
          clear H
          have H := H1
          clear H1
          replace H := Option.bind_eq_some_iff.mp H
          obtain ⟨t104, A280, H⟩ := H
          replace H : (tabularyref10_May.j2 kj13 t104 a0_0 a0_1 a0_2 a0_3 a0_4 a0_5 a0_6) = some r := H
          have A28 := Aside0.mk A280
          clear A280
          have H' := Aside0.mk H
          clear H
          have hcz29_0 : wc.cell? ⟨gb101, 0, none⟩ = some (.string a0_0) := (blk_cell BK101.out 0).trans rfl
          have hcz29_1 : wc.cell? ⟨gb101, 1, none⟩ = some (.string a0_1) := (blk_cell BK101.out 1).trans rfl
          have hcz29_2 : wc.cell? ⟨gb101, 2, none⟩ = some (.int .i64 a0_2) := (blk_cell BK101.out 2).trans rfl
          have hcz29_3 : wc.cell? ⟨gb101, 3, none⟩ = some (.int .i64 a0_3) := (blk_cell BK101.out 3).trans rfl
          have hcz29_4 : wc.cell? ⟨gb101, 4, none⟩ = some (.int .i64 a0_4) := (blk_cell BK101.out 4).trans rfl
          have hcz29_5 : wc.cell? ⟨gb101, 5, none⟩ = some (.int .u8 a0_5) := (blk_cell BK101.out 5).trans rfl
          have hcz29_6 : wc.cell? ⟨gb101, 6, none⟩ = some (.string a0_6) := (blk_cell BK101.out 6).trans rfl
          have hfz29_0 := blk_frozen BK101.out 0
          have hfz29_1 := blk_frozen BK101.out 1
          have hfz29_2 := blk_frozen BK101.out 2
          have hfz29_3 := blk_frozen BK101.out 3
          have hfz29_4 := blk_frozen BK101.out 4
          have hfz29_5 := blk_frozen BK101.out 5
          have hfz29_6 := blk_frozen BK101.out 6
          go_wp2_with (first | ((with_reducible refine gate_callee (f := 45) rfl ?_); refine goesL_ (some 44) rfl rfl Try.func45 (by kernel_rfl) rfl #[.string a0_0] rfl (by (try simp only [List.map_toArray, List.map_cons, List.map_nil]); first | done | rfl | (simp only [List.length_drop, List.length_take]; rfl)) ?_; (with_reducible refine (tabularyref10_nul.calls kj13 a0_0 false _ A22.out).mono ?_); rintro e w' ⟨rfl, ⟨nd, rfl⟩⟩; refine ⟨_, rfl, ?_⟩) | (go_at_call 45; (with_reducible refine (tabularyref10_nul.calls kj13 a0_6 false _ A25.out).mono ?_); rintro e w' ⟨rfl, ⟨nd, rfl⟩⟩) | (go_at_call 45; (with_reducible refine (tabularyref10_nul.calls kj13 a0_1 t104 _ A28.out).mono ?_); rintro e w' ⟨rfl, ⟨nd, rfl⟩⟩))
          go_meet
          case rel => exact ⟨_, (t104), (by first | rfl | (simp; done) | (simp [*]; done)), H', ⟨by have := HJ1.out; have := HJ13.out; first | omega | exact Nat.le_refl _⟩, ⟨by (with_reducible repeat (first | refine blk_drewN ?_ _ | refine blk_drew ?_ | refine blk_alloc ?_ _)); exact BK101.out⟩, ⟨by repeat (first | (with_reducible first | exact HB.out | apply below_alloc | apply pw_below_drewN | apply below_drew1 | refine below_set ?_ GE101.out) | exact HB.out)⟩⟩
       case rest =>
        clear HC21
        try clear c1
        try clear c2
        try clear p2
        try clear c3
        try clear c4
        try clear c4b0
        try clear c4b1
        try clear c6
        try clear c6b0
        try clear c6b1
        try clear c8
        try clear c8b0
        try clear c8b1
        try clear c10
        try clear c10b0
        try clear c10b1
        try clear c13
        try clear c15
        try clear c15b0
        try clear c15b1
        try clear c17
        try clear c17b0
        try clear c17b1
        try clear c20
        try clear c23
        try clear c26
        try clear hcz11_0
        try clear hcz11_1
        try clear hcz11_2
        try clear hcz11_3
        try clear hcz11_4
        try clear hcz11_5
        try clear hcz11_6
        try clear hcz12_0
        try clear hcz12_1
        try clear hcz12_2
        try clear hcz12_3
        try clear hcz12_4
        try clear hcz12_5
        try clear hcz12_6
        try clear hcz16_0
        try clear hcz16_1
        try clear hcz16_2
        try clear hcz16_3
        try clear hcz16_4
        try clear hcz16_5
        try clear hcz16_6
        try clear hcz18_0
        try clear hcz18_1
        try clear hcz18_2
        try clear hcz18_3
        try clear hcz18_4
        try clear hcz18_5
        try clear hcz18_6
        try clear hcz19_0
        try clear hcz19_1
        try clear hcz19_2
        try clear hcz19_3
        try clear hcz19_4
        try clear hcz19_5
        try clear hcz19_6
        try clear hcz24_0
        try clear hcz24_1
        try clear hcz24_2
        try clear hcz24_3
        try clear hcz24_4
        try clear hcz24_5
        try clear hcz24_6
        try clear hcz27_0
        try clear hcz27_1
        try clear hcz27_2
        try clear hcz27_3
        try clear hcz27_4
        try clear hcz27_5
        try clear hcz27_6
        try clear hcz29_0
        try clear hcz29_1
        try clear hcz29_2
        try clear hcz29_3
        try clear hcz29_4
        try clear hcz29_5
        try clear hcz29_6
        try clear hcz5_0
        try clear hcz5_1
        try clear hcz5_2
        try clear hcz5_3
        try clear hcz5_4
        try clear hcz5_5
        try clear hcz5_6
        try clear hcz7_0
        try clear hcz7_1
        try clear hcz7_2
        try clear hcz7_3
        try clear hcz7_4
        try clear hcz7_5
        try clear hcz7_6
        try clear hcz9_0
        try clear hcz9_1
        try clear hcz9_2
        try clear hcz9_3
        try clear hcz9_4
        try clear hcz9_5
        try clear hcz9_6
        try clear hfz11_0
        try clear hfz11_1
        try clear hfz11_2
        try clear hfz11_3
        try clear hfz11_4
        try clear hfz11_5
        try clear hfz11_6
        try clear hfz12_0
        try clear hfz12_1
        try clear hfz12_2
        try clear hfz12_3
        try clear hfz12_4
        try clear hfz12_5
        try clear hfz12_6
        try clear hfz16_0
        try clear hfz16_1
        try clear hfz16_2
        try clear hfz16_3
        try clear hfz16_4
        try clear hfz16_5
        try clear hfz16_6
        try clear hfz18_0
        try clear hfz18_1
        try clear hfz18_2
        try clear hfz18_3
        try clear hfz18_4
        try clear hfz18_5
        try clear hfz18_6
        try clear hfz19_0
        try clear hfz19_1
        try clear hfz19_2
        try clear hfz19_3
        try clear hfz19_4
        try clear hfz19_5
        try clear hfz19_6
        try clear hfz24_0
        try clear hfz24_1
        try clear hfz24_2
        try clear hfz24_3
        try clear hfz24_4
        try clear hfz24_5
        try clear hfz24_6
        try clear hfz27_0
        try clear hfz27_1
        try clear hfz27_2
        try clear hfz27_3
        try clear hfz27_4
        try clear hfz27_5
        try clear hfz27_6
        try clear hfz29_0
        try clear hfz29_1
        try clear hfz29_2
        try clear hfz29_3
        try clear hfz29_4
        try clear hfz29_5
        try clear hfz29_6
        try clear hfz5_0
        try clear hfz5_1
        try clear hfz5_2
        try clear hfz5_3
        try clear hfz5_4
        try clear hfz5_5
        try clear hfz5_6
        try clear hfz7_0
        try clear hfz7_1
        try clear hfz7_2
        try clear hfz7_3
        try clear hfz7_4
        try clear hfz7_5
        try clear hfz7_6
        try clear hfz9_0
        try clear hfz9_1
        try clear hfz9_2
        try clear hfz9_3
        try clear hfz9_4
        try clear hfz9_5
        try clear hfz9_6
        try clear p2
        obtain ⟨kq, x54_20, rfl, HA, HJ20, BK101, HB⟩ := hcut
        cases kq with
        | zero => exact absurd HA.out (by simp [tabularyref10_May.j2])
        | succ kj20 =>
         have H := HA.out
         clear HA
         simp only [tabularyref10_May.j2] at H
         by_cases c30 : x54_20 = true
         ·subst c30
          have H1 : (some 82) = some r := by rw [if_pos rfl] at H; exact H
          clear H
          have H := H1
          clear H1
          obtain rfl := Option.some.inj H
          go_wp2
          go_ret
          exact ⟨by first | rfl | (simp [errW_none, errW_some] <;> rfl) | (simp [*, errW_none, errW_some] <;> rfl), by repeat (first | (with_reducible first | exact HB.out | apply below_alloc | apply pw_below_drewN | apply below_drew1 | refine below_set ?_ GE101.out) | exact HB.out)⟩
         ·replace c30 := Bool.eq_false_iff.mpr c30
          subst c30
          have H1 : (if a0_2 < 0 then (some 1) else (if a0_2 > 4095 then (some 1) else (if a0_3 < 0 then (some 1) else (if a0_3 > 8589934591 then (some 1) else (if a0_4 < 0 then (some 1) else (if a0_4 > 1099511627776 then (some 1) else (some 0))))))) = some r := by rw [if_neg (show ¬ (false = true) by decide)] at H; exact H
          clear H
          have H := H1
          clear H1
          by_cases c31 : a0_2 < 0
          ·rw [if_pos c31] at H
           have c31b0 : decide (a0_2 < 0) = true := decide_eq_true c31
           clear c31
           obtain rfl := Option.some.inj H
           have hcz32_0 : wc.cell? ⟨gb101, 0, none⟩ = some (.string a0_0) := (blk_cell BK101.out 0).trans rfl
           have hcz32_1 : wc.cell? ⟨gb101, 1, none⟩ = some (.string a0_1) := (blk_cell BK101.out 1).trans rfl
           have hcz32_2 : wc.cell? ⟨gb101, 2, none⟩ = some (.int .i64 a0_2) := (blk_cell BK101.out 2).trans rfl
           have hcz32_3 : wc.cell? ⟨gb101, 3, none⟩ = some (.int .i64 a0_3) := (blk_cell BK101.out 3).trans rfl
           have hcz32_4 : wc.cell? ⟨gb101, 4, none⟩ = some (.int .i64 a0_4) := (blk_cell BK101.out 4).trans rfl
           have hcz32_5 : wc.cell? ⟨gb101, 5, none⟩ = some (.int .u8 a0_5) := (blk_cell BK101.out 5).trans rfl
           have hcz32_6 : wc.cell? ⟨gb101, 6, none⟩ = some (.string a0_6) := (blk_cell BK101.out 6).trans rfl
           have hfz32_0 := blk_frozen BK101.out 0
           have hfz32_1 := blk_frozen BK101.out 1
           have hfz32_2 := blk_frozen BK101.out 2
           have hfz32_3 := blk_frozen BK101.out 3
           have hfz32_4 := blk_frozen BK101.out 4
           have hfz32_5 := blk_frozen BK101.out 5
           have hfz32_6 := blk_frozen BK101.out 6
           go_wp2
           go_ret
           exact ⟨by first | rfl | (simp [errW_none, errW_some] <;> rfl) | (simp [*, errW_none, errW_some] <;> rfl), by repeat (first | (with_reducible first | exact HB.out | apply below_alloc | apply pw_below_drewN | apply below_drew1 | refine below_set ?_ GE101.out) | exact HB.out)⟩
          ·rw [if_neg c31] at H
           have c31b0 : decide (a0_2 < 0) = false := decide_eq_false c31
           clear c31
           by_cases c33 : a0_2 > 4095
           ·rw [if_pos c33] at H
            have c33b0 : decide (4095 < a0_2) = true := decide_eq_true c33
            clear c33
            obtain rfl := Option.some.inj H
            have hcz34_0 : wc.cell? ⟨gb101, 0, none⟩ = some (.string a0_0) := (blk_cell BK101.out 0).trans rfl
            have hcz34_1 : wc.cell? ⟨gb101, 1, none⟩ = some (.string a0_1) := (blk_cell BK101.out 1).trans rfl
            have hcz34_2 : wc.cell? ⟨gb101, 2, none⟩ = some (.int .i64 a0_2) := (blk_cell BK101.out 2).trans rfl
            have hcz34_3 : wc.cell? ⟨gb101, 3, none⟩ = some (.int .i64 a0_3) := (blk_cell BK101.out 3).trans rfl
            have hcz34_4 : wc.cell? ⟨gb101, 4, none⟩ = some (.int .i64 a0_4) := (blk_cell BK101.out 4).trans rfl
            have hcz34_5 : wc.cell? ⟨gb101, 5, none⟩ = some (.int .u8 a0_5) := (blk_cell BK101.out 5).trans rfl
            have hcz34_6 : wc.cell? ⟨gb101, 6, none⟩ = some (.string a0_6) := (blk_cell BK101.out 6).trans rfl
            have hfz34_0 := blk_frozen BK101.out 0
            have hfz34_1 := blk_frozen BK101.out 1
            have hfz34_2 := blk_frozen BK101.out 2
            have hfz34_3 := blk_frozen BK101.out 3
            have hfz34_4 := blk_frozen BK101.out 4
            have hfz34_5 := blk_frozen BK101.out 5
            have hfz34_6 := blk_frozen BK101.out 6
            go_wp2
            go_ret
            exact ⟨by first | rfl | (simp [errW_none, errW_some] <;> rfl) | (simp [*, errW_none, errW_some] <;> rfl), by repeat (first | (with_reducible first | exact HB.out | apply below_alloc | apply pw_below_drewN | apply below_drew1 | refine below_set ?_ GE101.out) | exact HB.out)⟩
           ·rw [if_neg c33] at H
            have c33b0 : decide (4095 < a0_2) = false := decide_eq_false c33
            clear c33
            by_cases c35 : a0_3 < 0
            ·rw [if_pos c35] at H
             have c35b0 : decide (a0_3 < 0) = true := decide_eq_true c35
             clear c35
             obtain rfl := Option.some.inj H
             have hcz36_0 : wc.cell? ⟨gb101, 0, none⟩ = some (.string a0_0) := (blk_cell BK101.out 0).trans rfl
             have hcz36_1 : wc.cell? ⟨gb101, 1, none⟩ = some (.string a0_1) := (blk_cell BK101.out 1).trans rfl
             have hcz36_2 : wc.cell? ⟨gb101, 2, none⟩ = some (.int .i64 a0_2) := (blk_cell BK101.out 2).trans rfl
             have hcz36_3 : wc.cell? ⟨gb101, 3, none⟩ = some (.int .i64 a0_3) := (blk_cell BK101.out 3).trans rfl
             have hcz36_4 : wc.cell? ⟨gb101, 4, none⟩ = some (.int .i64 a0_4) := (blk_cell BK101.out 4).trans rfl
             have hcz36_5 : wc.cell? ⟨gb101, 5, none⟩ = some (.int .u8 a0_5) := (blk_cell BK101.out 5).trans rfl
             have hcz36_6 : wc.cell? ⟨gb101, 6, none⟩ = some (.string a0_6) := (blk_cell BK101.out 6).trans rfl
             have hfz36_0 := blk_frozen BK101.out 0
             have hfz36_1 := blk_frozen BK101.out 1
             have hfz36_2 := blk_frozen BK101.out 2
             have hfz36_3 := blk_frozen BK101.out 3
             have hfz36_4 := blk_frozen BK101.out 4
             have hfz36_5 := blk_frozen BK101.out 5
             have hfz36_6 := blk_frozen BK101.out 6
             go_wp2
             go_ret
             exact ⟨by first | rfl | (simp [errW_none, errW_some] <;> rfl) | (simp [*, errW_none, errW_some] <;> rfl), by repeat (first | (with_reducible first | exact HB.out | apply below_alloc | apply pw_below_drewN | apply below_drew1 | refine below_set ?_ GE101.out) | exact HB.out)⟩
            ·rw [if_neg c35] at H
             have c35b0 : decide (a0_3 < 0) = false := decide_eq_false c35
             clear c35
             by_cases c37 : a0_3 > 8589934591
             ·rw [if_pos c37] at H
              have c37b0 : decide (8589934591 < a0_3) = true := decide_eq_true c37
              clear c37
              obtain rfl := Option.some.inj H
              have hcz38_0 : wc.cell? ⟨gb101, 0, none⟩ = some (.string a0_0) := (blk_cell BK101.out 0).trans rfl
              have hcz38_1 : wc.cell? ⟨gb101, 1, none⟩ = some (.string a0_1) := (blk_cell BK101.out 1).trans rfl
              have hcz38_2 : wc.cell? ⟨gb101, 2, none⟩ = some (.int .i64 a0_2) := (blk_cell BK101.out 2).trans rfl
              have hcz38_3 : wc.cell? ⟨gb101, 3, none⟩ = some (.int .i64 a0_3) := (blk_cell BK101.out 3).trans rfl
              have hcz38_4 : wc.cell? ⟨gb101, 4, none⟩ = some (.int .i64 a0_4) := (blk_cell BK101.out 4).trans rfl
              have hcz38_5 : wc.cell? ⟨gb101, 5, none⟩ = some (.int .u8 a0_5) := (blk_cell BK101.out 5).trans rfl
              have hcz38_6 : wc.cell? ⟨gb101, 6, none⟩ = some (.string a0_6) := (blk_cell BK101.out 6).trans rfl
              have hfz38_0 := blk_frozen BK101.out 0
              have hfz38_1 := blk_frozen BK101.out 1
              have hfz38_2 := blk_frozen BK101.out 2
              have hfz38_3 := blk_frozen BK101.out 3
              have hfz38_4 := blk_frozen BK101.out 4
              have hfz38_5 := blk_frozen BK101.out 5
              have hfz38_6 := blk_frozen BK101.out 6
              go_wp2
              go_ret
              exact ⟨by first | rfl | (simp [errW_none, errW_some] <;> rfl) | (simp [*, errW_none, errW_some] <;> rfl), by repeat (first | (with_reducible first | exact HB.out | apply below_alloc | apply pw_below_drewN | apply below_drew1 | refine below_set ?_ GE101.out) | exact HB.out)⟩
             ·rw [if_neg c37] at H
              have c37b0 : decide (8589934591 < a0_3) = false := decide_eq_false c37
              clear c37
              by_cases c39 : a0_4 < 0
              ·rw [if_pos c39] at H
               have c39b0 : decide (a0_4 < 0) = true := decide_eq_true c39
               clear c39
               obtain rfl := Option.some.inj H
               have hcz40_0 : wc.cell? ⟨gb101, 0, none⟩ = some (.string a0_0) := (blk_cell BK101.out 0).trans rfl
               have hcz40_1 : wc.cell? ⟨gb101, 1, none⟩ = some (.string a0_1) := (blk_cell BK101.out 1).trans rfl
               have hcz40_2 : wc.cell? ⟨gb101, 2, none⟩ = some (.int .i64 a0_2) := (blk_cell BK101.out 2).trans rfl
               have hcz40_3 : wc.cell? ⟨gb101, 3, none⟩ = some (.int .i64 a0_3) := (blk_cell BK101.out 3).trans rfl
               have hcz40_4 : wc.cell? ⟨gb101, 4, none⟩ = some (.int .i64 a0_4) := (blk_cell BK101.out 4).trans rfl
               have hcz40_5 : wc.cell? ⟨gb101, 5, none⟩ = some (.int .u8 a0_5) := (blk_cell BK101.out 5).trans rfl
               have hcz40_6 : wc.cell? ⟨gb101, 6, none⟩ = some (.string a0_6) := (blk_cell BK101.out 6).trans rfl
               have hfz40_0 := blk_frozen BK101.out 0
               have hfz40_1 := blk_frozen BK101.out 1
               have hfz40_2 := blk_frozen BK101.out 2
               have hfz40_3 := blk_frozen BK101.out 3
               have hfz40_4 := blk_frozen BK101.out 4
               have hfz40_5 := blk_frozen BK101.out 5
               have hfz40_6 := blk_frozen BK101.out 6
               go_wp2
               go_ret
               exact ⟨by first | rfl | (simp [errW_none, errW_some] <;> rfl) | (simp [*, errW_none, errW_some] <;> rfl), by repeat (first | (with_reducible first | exact HB.out | apply below_alloc | apply pw_below_drewN | apply below_drew1 | refine below_set ?_ GE101.out) | exact HB.out)⟩
              ·rw [if_neg c39] at H
               have c39b0 : decide (a0_4 < 0) = false := decide_eq_false c39
               clear c39
               by_cases c41 : a0_4 > 1099511627776
               ·rw [if_pos c41] at H
                have c41b0 : decide (1099511627776 < a0_4) = true := decide_eq_true c41
                clear c41
                obtain rfl := Option.some.inj H
                have hcz42_0 : wc.cell? ⟨gb101, 0, none⟩ = some (.string a0_0) := (blk_cell BK101.out 0).trans rfl
                have hcz42_1 : wc.cell? ⟨gb101, 1, none⟩ = some (.string a0_1) := (blk_cell BK101.out 1).trans rfl
                have hcz42_2 : wc.cell? ⟨gb101, 2, none⟩ = some (.int .i64 a0_2) := (blk_cell BK101.out 2).trans rfl
                have hcz42_3 : wc.cell? ⟨gb101, 3, none⟩ = some (.int .i64 a0_3) := (blk_cell BK101.out 3).trans rfl
                have hcz42_4 : wc.cell? ⟨gb101, 4, none⟩ = some (.int .i64 a0_4) := (blk_cell BK101.out 4).trans rfl
                have hcz42_5 : wc.cell? ⟨gb101, 5, none⟩ = some (.int .u8 a0_5) := (blk_cell BK101.out 5).trans rfl
                have hcz42_6 : wc.cell? ⟨gb101, 6, none⟩ = some (.string a0_6) := (blk_cell BK101.out 6).trans rfl
                have hfz42_0 := blk_frozen BK101.out 0
                have hfz42_1 := blk_frozen BK101.out 1
                have hfz42_2 := blk_frozen BK101.out 2
                have hfz42_3 := blk_frozen BK101.out 3
                have hfz42_4 := blk_frozen BK101.out 4
                have hfz42_5 := blk_frozen BK101.out 5
                have hfz42_6 := blk_frozen BK101.out 6
                go_wp2
                go_ret
                exact ⟨by first | rfl | (simp [errW_none, errW_some] <;> rfl) | (simp [*, errW_none, errW_some] <;> rfl), by repeat (first | (with_reducible first | exact HB.out | apply below_alloc | apply pw_below_drewN | apply below_drew1 | refine below_set ?_ GE101.out) | exact HB.out)⟩
               ·rw [if_neg c41] at H
                have c41b0 : decide (1099511627776 < a0_4) = false := decide_eq_false c41
                clear c41
                obtain rfl := Option.some.inj H
                have hcz43_0 : wc.cell? ⟨gb101, 0, none⟩ = some (.string a0_0) := (blk_cell BK101.out 0).trans rfl
                have hcz43_1 : wc.cell? ⟨gb101, 1, none⟩ = some (.string a0_1) := (blk_cell BK101.out 1).trans rfl
                have hcz43_2 : wc.cell? ⟨gb101, 2, none⟩ = some (.int .i64 a0_2) := (blk_cell BK101.out 2).trans rfl
                have hcz43_3 : wc.cell? ⟨gb101, 3, none⟩ = some (.int .i64 a0_3) := (blk_cell BK101.out 3).trans rfl
                have hcz43_4 : wc.cell? ⟨gb101, 4, none⟩ = some (.int .i64 a0_4) := (blk_cell BK101.out 4).trans rfl
                have hcz43_5 : wc.cell? ⟨gb101, 5, none⟩ = some (.int .u8 a0_5) := (blk_cell BK101.out 5).trans rfl
                have hcz43_6 : wc.cell? ⟨gb101, 6, none⟩ = some (.string a0_6) := (blk_cell BK101.out 6).trans rfl
                have hfz43_0 := blk_frozen BK101.out 0
                have hfz43_1 := blk_frozen BK101.out 1
                have hfz43_2 := blk_frozen BK101.out 2
                have hfz43_3 := blk_frozen BK101.out 3
                have hfz43_4 := blk_frozen BK101.out 4
                have hfz43_5 := blk_frozen BK101.out 5
                have hfz43_6 := blk_frozen BK101.out 6
                go_wp2
                go_ret
                exact ⟨by first | rfl | (simp [errW_none, errW_some] <;> rfl) | (simp [*, errW_none, errW_some] <;> rfl), by repeat (first | (with_reducible first | exact HB.out | apply below_alloc | apply pw_below_drewN | apply below_drew1 | refine below_set ?_ GE101.out) | exact HB.out)⟩

end Go.Proofs.Ytdmpbfhbjklajaa.PPut
end
