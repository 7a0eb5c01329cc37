/- Texts of this claim, laid together by wip/tools/squash.py: RefLay, HeadPure, HeadLaw, PureHeadSealed. -/
import Derived.Test.YtdmpbfhbjklajaaQHeadSealed7
import Derived.Lib.IndexAny

/- The document's own bytes of a head: texts and numbers behind one another, sealed. -/
section
namespace Go.Proofs.Ytdmpbfhbjklajaa.RefLay
open Go.Proofs.Ytdmpbfhbjklajaa Go.RowKit Go.Proofs.YtdmpbfhbjklajaaW.PrintWords Go.Proofs.YtdmpbfhbjklajaaW.PrintLast Go.Proofs.YtdmpbfhbjklajaaW.PrintMore Go.Proofs.Ytdmpbfhbjklajaa.Byt Go.Proofs.Ytdmpbfhbjklajaa.OctPure Go.Proofs.Ytdmpbfhbjklajaa.Head
set_option linter.unusedVariables false
set_option linter.unusedSimpArgs false

theorem own_append_str {ops : Array Oper} {rs : List Oper} {o : Oper} {a : Act} {w0 w : World} {Q : Exit → Act → World → Prop} (hgd : o.guard = none) (s x : Operand)
    (ho : o.op = .call { callee := .builtin .append, args := #[s, x], argTypes := #[TB, 9] }) (base : Nat) (v : Value) (l : List Int) (y : ByteArray) (hs : a.eval s = v) (hx : a.eval x = .string y)
    (HO : OWN w base v l) (HB : Below base w0 w) (hbase : base ≤ w.heap.size) (hl : l.length + y.size ≤ 100000000)
    (h : ∀ v1 w1, OWN w1 base v1 (l ++ bytesOf y) → Below base w0 w1 → w.heap.size ≤ w1.heap.size → wpList Try.prog ops Q rs (a.put o.dst v1) w1) : wpList Try.prog ops Q (o :: rs) a w := by
  refine print_append_str (w0 := w0) base hgd s x TB 9 5 ho Try.underlying22 Try.underlying9 info5 v l y hs hx (Kd.own_of_R HO) HB hbase (by omega) ?_
  intro v1 w1 h1 h2 h3
  exact h v1 w1 (Kd.R_of_own (h1 := fun _ => rfl) (ok := fun _ => True) h1 (fun _ _ => trivial)) h2 h3.size

/-- A text in its place, noughts behind it. -/
def tx (s : ByteArray) (wd : Nat) : List Int := bytesOf s ++ List.replicate (wd - s.size) 0
set_option maxRecDepth 100000 in
set_option maxHeartbeats 4000000 in
theorem text_gen (base : Nat) (w0 : World) (v : Value) (l R : List Int) (s : ByteArray) (wi : Int) (wd : Nat) (hwi : wi = (wd : Int)) (W : World) (hR : R = l ++ tx s wd) (hs : s.size ≤ wd) (hwd : wd ≤ 1000) (hll : l.length ≤ 100000)
    (ho : OWN W base v l) (hb : Below base w0 W) (hbase : base ≤ W.heap.size) :
    Calls Try.prog 46 #[v, .string s, .int .i64 wi] W fun e w' => ∃ v', e = .returned v' ∧ OWN w' base v' R ∧ Below base w0 w' ∧ W.heap.size ≤ w'.heap.size := by
  subst hwi
  have HO := Lib.hid ho
  have HB := Lib.hid hb
  have HR := Lib.hid (show R = l ++ (bytesOf s ++ List.replicate (wd - s.size) 0) from hR)
  clear ho hb hR
  go_enter Try.func46, Try.ntmps46
  go_wp2_with ((with_reducible refine gate_builtin (b := .append) (xs := #[.tmp 8, .tmp 9]) rfl ?_); refine own_append_str (w0 := w0) rfl (.tmp 8) (.tmp 9) rfl base v l s rfl rfl HO.out HB.out hbase (by omega) ?_; intro v1 w1 ho1 hb1 hz1; have HO1 := Lib.hid ho1; have HB1 := Lib.hid hb1; clear ho1 hb1)
  go_loopw [0, 7] (fun v0 v7 wr => ∃ (k : Nat), s.size + k ≤ wd ∧ v7 = .int .i64 ((s.size + k : Nat) : Int) ∧ OWN wr base v0 (l ++ (bytesOf s ++ List.replicate k 0)) ∧ Below base w0 wr ∧ W.heap.size ≤ wr.heap.size) (fun _ v7 _ => wd - (intOf v7).toNat)
  case atStart => exact ⟨0, by omega, rfl, by simpa using HO1.out, HB1.out, hz1⟩
  case round =>
    obtain ⟨k, hk, rfl, ho, hb, hz⟩ := hrel
    have HOk := Lib.hid ho
    have HBk := Lib.hid hb
    obtain ⟨i, hi⟩ : ∃ i : Nat, i = s.size + k := ⟨_, rfl⟩
    rw [← hi]
    have HI := Lib.hid hi
    clear ho hb hi
    by_cases hlt : i < wd
    · go_wp2_with ((with_reducible refine gate_builtin (b := .append) (xs := #[.tmp 18, .tmp 19]) rfl ?_); refine own_append (w0 := w0) rfl (.tmp 18) (.tmp 19) rfl base u0 _ [0] _ _ rfl rfl (HOk.out.alloc _) (bytes_new wr 5 [0] (0, 0)) (HBk.out.alloc (Nat.le_trans hbase hz) _) (by simp; omega) (by rw [List.length_append, List.length_append, bytesOf_length, List.length_replicate]; simp; have := HI.out; omega) ?_; intro v8 w8 ho8 hb8 hg8; have HO8 := Lib.hid ho8; have HB8 := Lib.hid hb8; have HZ8 := Lib.hid (show W.heap.size ≤ w8.heap.size by have := hg8.size; simp at this; omega); clear ho8 hb8 hg8)
      go_roundw
      case rel =>
        refine ⟨k + 1, by have := HI.out; omega, by rw [HI.out]; go_num, ?_, HB8.out, HZ8.out⟩
        have := HO8.out
        rwa [List.append_assoc, List.append_assoc, ← List.replicate_succ'] at this
      case measure => simp [intOf]; have := HI.out; omega
    · have HE := Lib.hid (show k = wd - s.size by have := HI.out; omega)
      go_wp2
      go_ret
      refine ⟨_, rfl, ?_, HBk.out, hz⟩
      rw [HR.out, ← HE.out]
      exact HOk.out

theorem rput_any (n w : Int) (hn : -9223372036854775808 ≤ n ∧ n ≤ 9223372036854775807) (W : World) :
    Calls Try.prog 43 #[.int .i64 n, .int .i64 w] W fun e w' => ∃ A c, e = .returned (.tuple #[.slice A (putS n w).1.length c, .int .i64 (putS n w).2]) ∧ RC w' A (putS n w).1 ∧ Below W.heap.size W w' := by
  refine (PSeal.tabularyref07_Put.calls 61 n w _ _ W (RefPure.rput n w hn 61 (by decide))).mono ?_
  rintro e w' ⟨v, rfl, ho, hb⟩
  obtain ⟨A, c, rfl⟩ := Kd.R_slice ho
  exact ⟨A, c, rfl, RC.of_C (Kd.R_reads' ho).2.2, hb⟩
set_option maxRecDepth 100000 in
set_option maxHeartbeats 4000000 in
theorem number_gen (base : Nat) (w0 : World) (v : Value) (l R m : List Int) (n wi : Int) (W : World) (hm : m = (putS n wi).1) (hR : R = l ++ m) (hn : -9223372036854775808 ≤ n ∧ n ≤ 9223372036854775807) (hll : l.length ≤ 100000)
    (ho : OWN W base v l) (hb : Below base w0 W) (hbase : base ≤ W.heap.size) :
    Calls Try.prog 33 #[v, .int .i64 n, .int .i64 wi] W fun e w' => ∃ v', e = .returned v' ∧ OWN w' base v' R ∧ Below base w0 w' ∧ W.heap.size ≤ w'.heap.size := by
  have HO := Lib.hid ho
  have HB := Lib.hid hb
  have HR := Lib.hid hR
  have HM := Lib.hid hm
  have HML := Lib.hid (show m.length ≤ 13 by rw [hm]; exact putS_len n wi)
  clear ho hb hR hm
  go_enter Try.func33, Try.ntmps33
  go_wp2_with (first
    | (go_at_call 43; (with_reducible refine (rput_any n wi hn _).mono ?_); rw [← HM.out]; rintro e w1 ⟨A, c, rfl, hr, hb1⟩; have HRC := Lib.hid hr; have HO1 := Lib.hid (HO.out.below hb1); have HZ1 := Lib.hid hb1.size; have HB1 := Lib.hid (below_then HB.out hbase hb1); clear hr hb1)
    | ((with_reducible refine gate_builtin (b := .append) (xs := #[.tmp 15, .tmp 16]) rfl ?_); refine own_append (w0 := w0) rfl (.tmp 15) (.tmp 16) rfl base v l m _ _ rfl rfl HO1.out HRC.out HB1.out (Nat.le_trans hbase HZ1.out) (by have := HML.out; omega) ?_; intro v8 w8 ho8 hb8 hg8; have HO8 := Lib.hid ho8; have HB8 := Lib.hid hb8; have HZ8 := Lib.hid (Nat.le_trans HZ1.out hg8.size); clear ho8 hb8 hg8))
  go_ret
  refine ⟨_, rfl, ?_, HB8.out, HZ8.out⟩
  rw [HR.out]
  exact HO8.out

def USTAR : ByteArray := ⟨#[117, 115, 116, 97, 114, 0, 48, 48]⟩
/-- A head's bytes ahead of the seal, one behind the other. -/
def rbodyS (n p : ByteArray) (m s t y : Int) (k : ByteArray) : List Int :=
  ((((((((((((((([] ++ tx n 100) ++ (putS m 8).1) ++ (putS 0 8).1) ++ (putS 0 8).1) ++ (putS s 12).1) ++ (putS t 12).1) ++ tx ⟨#[]⟩ 8) ++ [y]) ++ tx k 100) ++ tx USTAR 8) ++ tx ⟨#[]⟩ 64) ++ (putS 0 8).1) ++ (putS 0 8).1) ++ tx p 155) ++ tx ⟨#[]⟩ 12)
theorem tx_len {s : ByteArray} {wd : Nat} (h : s.size ≤ wd) : (tx s wd).length = wd := by
  unfold tx
  rw [List.length_append, bytesOf_length, List.length_replicate]; omega
set_option maxRecDepth 100000 in
set_option maxHeartbeats 16000000 in
theorem lay_gen (n p : ByteArray) (m s t y : Int) (k : ByteArray) (B R : List Int) (K : Nat) (W : World) (hBd : B = rbodyS n p m s t y k) (hR : PSeal.tabularyref10_Seal.f K B = some R) (hn : n.size ≤ 100) (hp : p.size ≤ 155) (hk : k.size ≤ 100)
    (hm : -9223372036854775808 ≤ m ∧ m ≤ 9223372036854775807) (hs : -9223372036854775808 ≤ s ∧ s ≤ 9223372036854775807) (ht : -9223372036854775808 ≤ t ∧ t ≤ 9223372036854775807) :
    Calls Try.prog 37 #[.agg #[.string n, .string p, .int .i64 m, .int .i64 s, .int .i64 t, .int .u8 y, .string k]] W fun e w' => ∃ v, e = .returned v ∧ OWN w' W.heap.size v R ∧ Below W.heap.size W w' := by
  obtain ⟨l1, el1⟩ : ∃ l, l = [] ++ tx n 100 := ⟨_, rfl⟩
  obtain ⟨l2, el2⟩ : ∃ l, l = l1 ++ (putS m 8).1 := ⟨_, rfl⟩
  obtain ⟨l3, el3⟩ : ∃ l, l = l2 ++ (putS 0 8).1 := ⟨_, rfl⟩
  obtain ⟨l4, el4⟩ : ∃ l, l = l3 ++ (putS 0 8).1 := ⟨_, rfl⟩
  obtain ⟨l5, el5⟩ : ∃ l, l = l4 ++ (putS s 12).1 := ⟨_, rfl⟩
  obtain ⟨l6, el6⟩ : ∃ l, l = l5 ++ (putS t 12).1 := ⟨_, rfl⟩
  obtain ⟨l7, el7⟩ : ∃ l, l = l6 ++ tx ⟨#[]⟩ 8 := ⟨_, rfl⟩
  obtain ⟨l8, el8⟩ : ∃ l, l = l7 ++ [y] := ⟨_, rfl⟩
  obtain ⟨l9, el9⟩ : ∃ l, l = l8 ++ tx k 100 := ⟨_, rfl⟩
  obtain ⟨l10, el10⟩ : ∃ l, l = l9 ++ tx ⟨#[117, 115, 116, 97, 114, 0, 48, 48]⟩ 8 := ⟨_, rfl⟩
  obtain ⟨l11, el11⟩ : ∃ l, l = l10 ++ tx ⟨#[]⟩ 64 := ⟨_, rfl⟩
  obtain ⟨l12, el12⟩ : ∃ l, l = l11 ++ (putS 0 8).1 := ⟨_, rfl⟩
  obtain ⟨l13, el13⟩ : ∃ l, l = l12 ++ (putS 0 8).1 := ⟨_, rfl⟩
  obtain ⟨l14, el14⟩ : ∃ l, l = l13 ++ tx p 155 := ⟨_, rfl⟩
  obtain ⟨l15, el15⟩ : ∃ l, l = l14 ++ tx ⟨#[]⟩ 12 := ⟨_, rfl⟩
  have q0 : ([] : List Int).length ≤ 0 := Nat.le_refl _
  have q1 : l1.length ≤ 100 := by rw [el1, List.length_append]; have := tx_len (s := n) (wd := 100) hn; omega
  have q2 : l2.length ≤ 113 := by rw [el2, List.length_append]; have := putS_len m 8; omega
  have q3 : l3.length ≤ 126 := by rw [el3, List.length_append]; have := putS_len 0 8; omega
  have q4 : l4.length ≤ 139 := by rw [el4, List.length_append]; have := putS_len 0 8; omega
  have q5 : l5.length ≤ 152 := by rw [el5, List.length_append]; have := putS_len s 12; omega
  have q6 : l6.length ≤ 165 := by rw [el6, List.length_append]; have := putS_len t 12; omega
  have q7 : l7.length ≤ 173 := by rw [el7, List.length_append]; have := tx_len (s := ⟨#[]⟩) (wd := 8) (by decide); omega
  have q8 : l8.length ≤ 174 := by rw [el8, List.length_append]; simp only [List.length_cons, List.length_nil]; omega
  have q9 : l9.length ≤ 274 := by rw [el9, List.length_append]; have := tx_len (s := k) (wd := 100) hk; omega
  have q10 : l10.length ≤ 282 := by rw [el10, List.length_append]; have := tx_len (s := ⟨#[117, 115, 116, 97, 114, 0, 48, 48]⟩) (wd := 8) (by decide); omega
  have q11 : l11.length ≤ 346 := by rw [el11, List.length_append]; have := tx_len (s := ⟨#[]⟩) (wd := 64) (by decide); omega
  have q12 : l12.length ≤ 359 := by rw [el12, List.length_append]; have := putS_len 0 8; omega
  have q13 : l13.length ≤ 372 := by rw [el13, List.length_append]; have := putS_len 0 8; omega
  have q14 : l14.length ≤ 527 := by rw [el14, List.length_append]; have := tx_len (s := p) (wd := 155) hp; omega
  have q15 : l15.length ≤ 539 := by rw [el15, List.length_append]; have := tx_len (s := ⟨#[]⟩) (wd := 12) (by decide); omega
  have hl15 : l15 = B := by rw [hBd, el15, el14, el13, el12, el11, el10, el9, el8, el7, el6, el5, el4, el3, el2, el1]; rfl
  have Q1 := Lib.hid q1
  have E1 := Lib.hid el1
  have Q2 := Lib.hid q2
  have E2 := Lib.hid el2
  have Q3 := Lib.hid q3
  have E3 := Lib.hid el3
  have Q4 := Lib.hid q4
  have E4 := Lib.hid el4
  have Q5 := Lib.hid q5
  have E5 := Lib.hid el5
  have Q6 := Lib.hid q6
  have E6 := Lib.hid el6
  have Q7 := Lib.hid q7
  have E7 := Lib.hid el7
  have Q8 := Lib.hid q8
  have E8 := Lib.hid el8
  have Q9 := Lib.hid q9
  have E9 := Lib.hid el9
  have Q10 := Lib.hid q10
  have E10 := Lib.hid el10
  have Q11 := Lib.hid q11
  have E11 := Lib.hid el11
  have Q12 := Lib.hid q12
  have E12 := Lib.hid el12
  have Q13 := Lib.hid q13
  have E13 := Lib.hid el13
  have Q14 := Lib.hid q14
  have E14 := Lib.hid el14
  have Q15 := Lib.hid q15
  have E15 := Lib.hid el15
  have HR := Lib.hid hR
  have HL15 := Lib.hid hl15
  clear hR hBd hl15 q0 q1 q2 q3 q4 q5 q6 q7 q8 q9 q10 q11 q12 q13 q14 q15 el1 el2 el3 el4 el5 el6 el7 el8 el9 el10 el11 el12 el13 el14 el15
  obtain ⟨w0, hw0⟩ : ∃ w0 : World, w0 = W.alloc (.cells #[.string n, .string p, .int .i64 m, .int .i64 s, .int .i64 t, .int .u8 y, .string k] TH) := ⟨_, rfl⟩
  have HBX := Lib.hid (show w0.heap[W.heap.size]? = some (.cells #[.string n, .string p, .int .i64 m, .int .i64 s, .int .i64 t, .int .u8 y, .string k] TH (0, 0)) by rw [hw0]; exact blk_new _ _)
  have HS0 := Lib.hid (show w0.heap.size = W.heap.size + 1 by rw [hw0]; simp)
  have HW0 := Lib.hid (show Below W.heap.size W w0 by rw [hw0]; exact (Below.refl _ _).alloc (Nat.le_refl _) _)
  have HWW := Lib.hid hw0
  have HCE := Lib.hid (show ∀ w', Below w0.heap.size w0 w' → ∀ j v, (#[.string n, .string p, .int .i64 m, .int .i64 s, .int .i64 t, .int .u8 y, .string k] : Array Value)[j]? = some v → w'.cell? ⟨W.heap.size, j, none⟩ = some v from fun w' hb j v hv => by
    rw [blk_cell (blk_below HBX.out hb), hv])
  clear hw0
  go_enter Try.func37, Try.ntmps37
  have hb0 : Below w0.heap.size w0 w0 := Below.refl _ _
  have HB0 := Lib.hid hb0
  have x0 := HCE.out w0 hb0 0 _ rfl
  have x0' := x0
  rw [HWW.out] at x0'
  clear hb0 x0
  have tk0 : True := trivial
  go_wp2_with (first
    | (go_at_call 46; have _tk := tk0; go_loud (rw [← HWW.out]; (with_reducible refine (text_gen w0.heap.size w0 (.slice none 0 0) [] l1 n 100 100 rfl _ E1.out hn (by decide) (by decide) (OWN.none _ _) HB0.out (Nat.le_refl _)).mono ?_)); rintro e w1 ⟨v1, rfl, ho, hb, hz⟩; have HO1 := Lib.hid ho; have HB1 := Lib.hid hb; have HZ1 := Lib.hid (Nat.le_trans (Nat.le_refl _) hz); have tk1 : True := trivial; clear x0'; have x2 := HCE.out w1 HB1.out 2 _ rfl; clear tk0 _tk ho hb hz)
    | (go_at_call 33; have _tk := tk1; (with_reducible refine (number_gen w0.heap.size w0 (v1) l1 l2 _ m 8 _ rfl E2.out hm (by have := Q1.out; omega) HO1.out HB1.out HZ1.out).mono ?_); rintro e w2 ⟨v2, rfl, ho, hb, hz⟩; have HO2 := Lib.hid ho; have HB2 := Lib.hid hb; have HZ2 := Lib.hid (Nat.le_trans HZ1.out hz); have tk2 : True := trivial; clear x2; clear tk1 _tk ho hb hz)
    | (go_at_call 33; have _tk := tk2; (with_reducible refine (number_gen w0.heap.size w0 (v2) l2 l3 _ 0 8 _ rfl E3.out (by decide) (by have := Q2.out; omega) HO2.out HB2.out HZ2.out).mono ?_); rintro e w3 ⟨v3, rfl, ho, hb, hz⟩; have HO3 := Lib.hid ho; have HB3 := Lib.hid hb; have HZ3 := Lib.hid (Nat.le_trans HZ2.out hz); have tk3 : True := trivial; clear tk2 _tk ho hb hz)
    | (go_at_call 33; have _tk := tk3; (with_reducible refine (number_gen w0.heap.size w0 (v3) l3 l4 _ 0 8 _ rfl E4.out (by decide) (by have := Q3.out; omega) HO3.out HB3.out HZ3.out).mono ?_); rintro e w4 ⟨v4, rfl, ho, hb, hz⟩; have HO4 := Lib.hid ho; have HB4 := Lib.hid hb; have HZ4 := Lib.hid (Nat.le_trans HZ3.out hz); have tk4 : True := trivial; have x3 := HCE.out w4 HB4.out 3 _ rfl; clear tk3 _tk ho hb hz)
    | (go_at_call 33; have _tk := tk4; (with_reducible refine (number_gen w0.heap.size w0 (v4) l4 l5 _ s 12 _ rfl E5.out hs (by have := Q4.out; omega) HO4.out HB4.out HZ4.out).mono ?_); rintro e w5 ⟨v5, rfl, ho, hb, hz⟩; have HO5 := Lib.hid ho; have HB5 := Lib.hid hb; have HZ5 := Lib.hid (Nat.le_trans HZ4.out hz); have tk5 : True := trivial; clear x3; have x4 := HCE.out w5 HB5.out 4 _ rfl; clear tk4 _tk ho hb hz)
    | (go_at_call 33; have _tk := tk5; (with_reducible refine (number_gen w0.heap.size w0 (v5) l5 l6 _ t 12 _ rfl E6.out ht (by have := Q5.out; omega) HO5.out HB5.out HZ5.out).mono ?_); rintro e w6 ⟨v6, rfl, ho, hb, hz⟩; have HO6 := Lib.hid ho; have HB6 := Lib.hid hb; have HZ6 := Lib.hid (Nat.le_trans HZ5.out hz); have tk6 : True := trivial; clear x4; clear tk5 _tk ho hb hz)
    | (go_at_call 46; have _tk := tk6; (with_reducible refine (text_gen w0.heap.size w0 (v6) l6 l7 ⟨#[]⟩ 8 8 rfl _ E7.out (by decide) (by decide) (by have := Q6.out; omega) (HO6.out) HB6.out HZ6.out).mono ?_); rintro e w7 ⟨v7, rfl, ho, hb, hz⟩; have HO7 := Lib.hid ho; have HB7 := Lib.hid hb; have HZ7 := Lib.hid (Nat.le_trans HZ6.out hz); have tk7 : True := trivial; have x5 := HCE.out w7 HB7.out 5 _ rfl; clear tk6 _tk ho hb hz)
    | ((with_reducible refine gate_builtin (b := .append) (xs := #[.tmp 25, .tmp 28]) rfl ?_); have _tk := tk7; refine own_append (w0 := w0) rfl (.tmp 25) (.tmp 28) rfl w0.heap.size v7 l7 [y] _ _ rfl rfl (HO7.out.alloc _) (bytes_new w7 5 [y] (0, 0)) (HB7.out.alloc HZ7.out _) (by have := HZ7.out; simp; omega) (by have := Q7.out; simp; omega) ?_; rw [← E8.out]; intro v8 w8 ho hb hg; have hz : w7.heap.size ≤ w8.heap.size := (by have := hg.size; simp at this; omega); clear hg; have HO8 := Lib.hid ho; have HB8 := Lib.hid hb; have HZ8 := Lib.hid (Nat.le_trans HZ7.out hz); have tk8 : True := trivial; clear x5; have x6 := HCE.out w8 HB8.out 6 _ rfl; clear tk7 _tk ho hb hz)
    | (go_at_call 46; have _tk := tk8; (with_reducible refine (text_gen w0.heap.size w0 (v8) l8 l9 k 100 100 rfl _ E9.out hk (by decide) (by have := Q8.out; omega) (HO8.out) HB8.out HZ8.out).mono ?_); rintro e w9 ⟨v9, rfl, ho, hb, hz⟩; have HO9 := Lib.hid ho; have HB9 := Lib.hid hb; have HZ9 := Lib.hid (Nat.le_trans HZ8.out hz); have tk9 : True := trivial; clear x6; clear tk8 _tk ho hb hz)
    | (go_at_call 46; have _tk := tk9; (with_reducible refine (text_gen w0.heap.size w0 (v9) l9 l10 ⟨#[117, 115, 116, 97, 114, 0, 48, 48]⟩ 8 8 rfl _ E10.out (by decide) (by decide) (by have := Q9.out; omega) (HO9.out) HB9.out HZ9.out).mono ?_); rintro e w10 ⟨v10, rfl, ho, hb, hz⟩; have HO10 := Lib.hid ho; have HB10 := Lib.hid hb; have HZ10 := Lib.hid (Nat.le_trans HZ9.out hz); have tk10 : True := trivial; clear tk9 _tk ho hb hz)
    | (go_at_call 46; have _tk := tk10; (with_reducible refine (text_gen w0.heap.size w0 (v10) l10 l11 ⟨#[]⟩ 64 64 rfl _ E11.out (by decide) (by decide) (by have := Q10.out; omega) (HO10.out) HB10.out HZ10.out).mono ?_); rintro e w11 ⟨v11, rfl, ho, hb, hz⟩; have HO11 := Lib.hid ho; have HB11 := Lib.hid hb; have HZ11 := Lib.hid (Nat.le_trans HZ10.out hz); have tk11 : True := trivial; clear tk10 _tk ho hb hz)
    | (go_at_call 33; have _tk := tk11; (with_reducible refine (number_gen w0.heap.size w0 (v11) l11 l12 _ 0 8 _ rfl E12.out (by decide) (by have := Q11.out; omega) HO11.out HB11.out HZ11.out).mono ?_); rintro e w12 ⟨v12, rfl, ho, hb, hz⟩; have HO12 := Lib.hid ho; have HB12 := Lib.hid hb; have HZ12 := Lib.hid (Nat.le_trans HZ11.out hz); have tk12 : True := trivial; clear tk11 _tk ho hb hz)
    | (go_at_call 33; have _tk := tk12; (with_reducible refine (number_gen w0.heap.size w0 (v12) l12 l13 _ 0 8 _ rfl E13.out (by decide) (by have := Q12.out; omega) HO12.out HB12.out HZ12.out).mono ?_); rintro e w13 ⟨v13, rfl, ho, hb, hz⟩; have HO13 := Lib.hid ho; have HB13 := Lib.hid hb; have HZ13 := Lib.hid (Nat.le_trans HZ12.out hz); have tk13 : True := trivial; have x1 := HCE.out w13 HB13.out 1 _ rfl; clear tk12 _tk ho hb hz)
    | (go_at_call 46; have _tk := tk13; (with_reducible refine (text_gen w0.heap.size w0 (v13) l13 l14 p 155 155 rfl _ E14.out hp (by decide) (by have := Q13.out; omega) (HO13.out) HB13.out HZ13.out).mono ?_); rintro e w14 ⟨v14, rfl, ho, hb, hz⟩; have HO14 := Lib.hid ho; have HB14 := Lib.hid hb; have HZ14 := Lib.hid (Nat.le_trans HZ13.out hz); have tk14 : True := trivial; clear x1; clear tk13 _tk ho hb hz)
    | (go_at_call 46; have _tk := tk14; (with_reducible refine (text_gen w0.heap.size w0 (v14) l14 l15 ⟨#[]⟩ 12 12 rfl _ E15.out (by decide) (by decide) (by have := Q14.out; omega) (HO14.out) HB14.out HZ14.out).mono ?_); rintro e w15 ⟨v15, rfl, ho, hb, hz⟩; have HO15 := Lib.hid ho; have HB15 := Lib.hid hb; have HZ15 := Lib.hid (Nat.le_trans HZ14.out hz); have tk15 : True := trivial; clear tk14 _tk ho hb hz)
    | (go_at_call 20; have _tk := tk15; obtain ⟨A, c, hv, hc, hr, _⟩ := HO15.out.form; subst hv; rw [HL15.out] at hr hc ⊢; have HRC := Lib.hid hr; clear hr; (with_reducible refine (PSeal.tabularyref10_Seal.calls K A c B R _ (HRC.out.to_C (by have := Q15.out; rw [HL15.out] at this; omega)) hc HR.out).mono ?_); rintro e w16 ⟨v16, rfl, ho, hb⟩; have HO16 := Lib.hid ho; have HB16 := Lib.hid hb; clear tk15 _tk ho hb))
  go_ret
  refine ⟨_, rfl, ?_, ?_⟩
  · refine Kd.R_lower HO16.out ?_
    have h1 := HS0.out
    have h2 := HZ15.out
    omega
  · have h1 : W.heap.size ≤ w0.heap.size := by rw [HS0.out]; omega
    have hb15 : Below W.heap.size W w15 := below_then HW0.out h1 HB15.out
    exact below_then hb15 (Nat.le_trans h1 HZ15.out) HB16.out

def rlayF (n p : ByteArray) (m s t y : Int) (k : ByteArray) : Option (List Int) :=
  if n.size ≤ 100 ∧ p.size ≤ 155 ∧ k.size ≤ 100 ∧ (-9223372036854775808 ≤ m ∧ m ≤ 9223372036854775807) ∧ (-9223372036854775808 ≤ s ∧ s ≤ 9223372036854775807) ∧ (-9223372036854775808 ≤ t ∧ t ≤ 9223372036854775807) then PSeal.tabularyref10_Seal.f 1000 (rbodyS n p m s t y k) else none
theorem rlay_calls (n p : ByteArray) (m s t y : Int) (k : ByteArray) (r : List Int) (w : World) (h : rlayF n p m s t y k = some r) :
    Calls Try.prog 37 #[.agg #[.string n, .string p, .int .i64 m, .int .i64 s, .int .i64 t, .int .u8 y, .string k]] w fun e w' => ∃ v0_ : Value, e = .returned (v0_) ∧ Kd.R (Kd.int .u8) 5 w' w.heap.size (fun _ => True) v0_ r ∧ Below w.heap.size w w' := by
  unfold rlayF at h
  split at h
  · rename_i hc
    exact lay_gen n p m s t y k _ r 1000 w rfl h hc.1 hc.2.1 hc.2.2.1 hc.2.2.2.1 hc.2.2.2.2.1 hc.2.2.2.2.2
  · cases h
end Go.Proofs.Ytdmpbfhbjklajaa.RefLay
end

/- The two ways of laying a head's bytes are one: over a table of noughts, and one behind the other. -/
section
namespace Go.Proofs.Ytdmpbfhbjklajaa.HeadPure
open Go.Proofs.Ytdmpbfhbjklajaa Go.RowKit Go.Proofs.YtdmpbfhbjklajaaW.PrintWords Go.Proofs.YtdmpbfhbjklajaaW.PrintLast Go.Proofs.YtdmpbfhbjklajaaW.PrintMore Go.Proofs.Ytdmpbfhbjklajaa.Byt Go.Proofs.Ytdmpbfhbjklajaa.OctPure Go.Proofs.Ytdmpbfhbjklajaa.Img Go.Proofs.Ytdmpbfhbjklajaa.Head Go.Proofs.Ytdmpbfhbjklajaa.HeadPut Go.Proofs.Ytdmpbfhbjklajaa.RefLay
set_option linter.unusedVariables false

abbrev Z (n : Nat) : List Int := List.replicate n 0
theorem Z_add (a b : Nat) : Z (a + b) = Z a ++ Z b := List.replicate_append_replicate.symm
theorem ins_end {P m : List Int} {o c : Nat} (hP : P.length = o) (hm : m.length ≤ c) : ins (P ++ Z c) o m = (P ++ m) ++ Z (c - m.length) := by
  subst hP
  rw [ins_eq _ _ _ (by rw [List.length_append, List.length_replicate]; omega)]
  have h1 : (P ++ Z c).take P.length = P := List.take_left
  have h2 : (P ++ Z c).drop (P.length + m.length) = Z (c - m.length) := by
    rw [← List.drop_drop, List.drop_left, List.drop_replicate]
  rw [h1, h2]
theorem ins_text {P : List Int} {s : ByteArray} {o c wd : Nat} (hP : P.length = o) (hs : s.size ≤ wd) (hw : wd ≤ c) : ins (P ++ Z c) o (bytesOf s) = (P ++ tx s wd) ++ Z (c - wd) := by
  rw [ins_end hP (by rw [bytesOf_length]; omega), bytesOf_length]
  unfold tx
  rw [show c - s.size = (wd - s.size) + (c - wd) by omega, Z_add]
  simp only [List.append_assoc]
theorem gap {P : List Int} {c g : Nat} (h : g ≤ c) : P ++ Z c = (P ++ tx ⟨#[]⟩ g) ++ Z (c - g) := by
  have e : tx ⟨#[]⟩ g = Z g := by unfold tx; simp [bytesOf]; rfl
  rw [e, List.append_assoc, ← Z_add, Nat.add_sub_cancel' h]
theorem putlen (n w : Int) (h : (putS n w).2 = 0) : ((putS n w).1.length : Int) = w := by
  unfold putS at h ⊢
  split at h
  · rename_i hc
    rw [if_pos hc]
    split at h
    · rename_i h1
      rw [if_pos h1]
      simp [digs_length]; omega
    · split at h
      · rename_i h1 h2
        rw [if_neg h1, if_pos h2]
        simp [byts_length]; omega
      · cases h
  · cases h
theorem ok8 (n : Int) (h0 : 0 ≤ n) (h1 : n ≤ 2097151) : (putS n 8).2 = 0 := by
  have h8 : ((8 : Int) ^ ((8 : Int) - 1).toNat) = 2097152 := by decide
  unfold putS
  rw [if_pos (by omega), if_pos (by rw [h8]; omega)]
theorem left_zero : ∀ (c : Nat) (x : Int), 0 ≤ x → x < 256 ^ c → left c x = 0
  | 0, x, h0, h1 => by
    have : (256 : Int) ^ 0 = 1 := by decide
    unfold left
    omega
  | c + 1, x, h0, h1 => by
    have h2 : (256 : Int) ^ (c + 1) = 256 ^ c * 256 := Int.pow_succ ..
    have h3 : x / 256 < 256 ^ c := by
      apply Int.ediv_lt_of_lt_mul (by decide)
      rw [← h2]; exact h1
    have := left_zero c (x / 256) (by omega) h3
    unfold left
    exact this
theorem ok12 (n : Int) (h0 : 0 ≤ n) (h1 : n ≤ 1099511627776) : (putS n 12).2 = 0 := by
  unfold putS
  rw [if_pos (by omega)]
  split
  · rfl
  · rw [if_pos]
    refine left_zero _ n h0 ?_
    have : ((256 : Int) ^ ((12 : Int) - 1).toNat) = 309485009821345068724781056 := by decide
    omega
theorem len8 (n : Int) (h0 : 0 ≤ n) (h1 : n ≤ 2097151) : (putS n 8).1.length = 8 := by have := putlen n 8 (ok8 n h0 h1); omega
theorem len12 (n : Int) (h0 : 0 ≤ n) (h1 : n ≤ 1099511627776) : (putS n 12).1.length = 12 := by have := putlen n 12 (ok12 n h0 h1); omega
theorem ustar : tx USTAR 8 = MAGIC := by decide

theorem body_eq (n p : ByteArray) (m s t y : Int) (k : ByteArray) (hn : n.size ≤ 100) (hp : p.size ≤ 155) (hk : k.size ≤ 100) (hm : 0 ≤ m ∧ m ≤ 4095) (hs : 0 ≤ s ∧ s ≤ 8589934591) (ht : 0 ≤ t ∧ t ≤ 1099511627776) :
    bodyS n p m s t y k = rbodyS n p m s t y k := by
  unfold bodyS rbodyS
  have m8 := len8 m hm.1 (by omega)
  have z8 := len8 0 (by decide) (by decide)
  have s12 := len12 s hs.1 (by omega)
  have t12 := len12 t ht.1 ht.2
  have tn := tx_len hn
  have tk := tx_len hk
  have tp := tx_len hp
  generalize (putS m 8).1 = M at m8 ⊢
  generalize (putS 0 8).1 = O at z8 ⊢
  generalize (putS s 12).1 = S at s12 ⊢
  generalize (putS t 12).1 = T at t12 ⊢
  have e8 : (tx (⟨#[]⟩ : ByteArray) 8).length = 8 := tx_len (by decide)
  have e64 : (tx (⟨#[]⟩ : ByteArray) 64).length = 64 := tx_len (by decide)
  have eM : MAGIC.length = 8 := rfl
  have h0 : Z512 = [] ++ Z 512 := rfl
  rw [h0, ins_text (P := []) (o := 0) (wd := 100) rfl hn (by decide)]
  rw [ins_end (by simp only [List.length_append, List.length_nil, tn]) (by rw [m8]; decide), m8]
  rw [ins_end (by simp only [List.length_append, List.length_nil, tn, m8]) (by rw [z8]; decide), z8]
  rw [ins_end (by simp only [List.length_append, List.length_nil, tn, m8, z8]) (by rw [z8]; decide), z8]
  rw [ins_end (by simp only [List.length_append, List.length_nil, tn, m8, z8]) (by rw [s12]; decide), s12]
  rw [ins_end (by simp only [List.length_append, List.length_nil, tn, m8, z8, s12]) (by rw [t12]; decide), t12]
  rw [gap (g := 8) (by decide)]
  rw [show ∀ l : List Int, l.set 156 y = ins l 156 [y] from fun _ => rfl]
  rw [ins_end (by simp only [List.length_append, List.length_nil, tn, m8, z8, s12, t12, e8]) (by simp only [List.length_cons, List.length_nil]; decide), show [y].length = 1 from rfl]
  rw [ins_text (wd := 100) (by simp only [List.length_append, List.length_nil, List.length_cons, tn, m8, z8, s12, t12, e8]) hk (by decide)]
  rw [ins_end (by simp only [List.length_append, List.length_nil, List.length_cons, tn, m8, z8, s12, t12, e8, tk]) (by rw [eM]; decide)]
  rw [eM, gap (g := 64) (by decide)]
  rw [ins_end (by simp only [List.length_append, List.length_nil, List.length_cons, tn, m8, z8, s12, t12, e8, tk, eM, e64]) (by rw [z8]; decide), z8]
  rw [ins_end (by simp only [List.length_append, List.length_nil, List.length_cons, tn, m8, z8, s12, t12, e8, tk, eM, e64]) (by rw [z8]; decide), z8]
  rw [ins_text (wd := 155) (by simp only [List.length_append, List.length_nil, List.length_cons, tn, m8, z8, s12, t12, e8, tk, eM, e64]) hp (by decide)]
  rw [gap (g := 12) (by decide), ustar]
  simp

/-- The reference's sum. -/
theorem rsum_l0 (B : List Int) (hl : B.length = 512) (hB : Bytes B) (d : Nat) : ∀ (k i : Nat), d + i = 512 → d < k → PSeal.tabularyref10_Sum.l0 k B (sumS B i) (i : Int) = some (sumS B 512) := by
  induction d with
  | zero =>
    intro k i hi hk
    obtain ⟨k, rfl⟩ : ∃ m, k = m + 1 := ⟨k - 1, by omega⟩
    obtain rfl : i = 512 := by omega
    simp only [PSeal.tabularyref10_Sum.l0]
    rw [if_neg (by omega)]
  | succ d ih =>
    intro k i hi hk
    obtain ⟨k, rfl⟩ : ∃ m, k = m + 1 := ⟨k - 1, by omega⟩
    have hr := sumS_range hB i
    have hb := hB i
    simp only [PSeal.tabularyref10_Sum.l0]
    rw [if_pos (by omega)]
    have e1 : wrap64 ((i : Int) + 1) = ((i + 1 : Nat) : Int) := by rw [w64 (by omega)]; rfl
    by_cases h1 : 148 ≤ i
    · rw [if_pos (by omega)]
      by_cases h2 : i < 156
      · rw [if_pos (by omega), e1, w64 (by omega), ← sumS_in ⟨h1, h2⟩]
        exact ih k (i + 1) (by omega) (by omega)
      · rw [if_neg (by omega), if_pos (by omega), e1, show rd B (i : Int) = bn B i from rfl, w64 (a := bn B i) (by omega), w64 (by omega), ← sumS_out (by omega)]
        exact ih k (i + 1) (by omega) (by omega)
    · rw [if_neg (by omega), if_pos (by omega), e1, show rd B (i : Int) = bn B i from rfl, w64 (a := bn B i) (by omega), w64 (by omega), ← sumS_out (by omega)]
      exact ih k (i + 1) (by omega) (by omega)
theorem rsum (B : List Int) (hl : B.length = 512) (hB : Bytes B) (k : Nat) (hk : 600 < k) : PSeal.tabularyref10_Sum.f k B = some (sumS B 512) := rsum_l0 B hl hB 512 k 0 rfl (by omega)

theorem seal_list (B : List Int) (hl : B.length = 512) (hB : Bytes B) : sealS B = B.take 148 ++ (putS (sumS B 512) 7).1 ++ [32] ++ B.drop 156 := by
  have hr := sumS_range hB 512
  have h7 := (put7 (sumS B 512) (by omega) (by omega)).1
  unfold sealS
  rw [ins_eq _ _ _ (by omega), h7]
  generalize (putS (sumS B 512) 7).1 = m at h7 ⊢
  have e : B.drop 155 = B[155]'(by omega) :: B.drop 156 := List.drop_eq_getElem_cons (by omega)
  rw [show 148 + 7 = 155 from rfl, e, List.set_append_right _ _ (by rw [List.length_append, List.length_take]; omega)]
  rw [show 155 - (B.take 148 ++ m).length = 0 by rw [List.length_append, List.length_take]; omega]
  simp only [List.set_cons_zero, List.append_assoc, List.cons_append, List.nil_append]
theorem rseal (B : List Int) (hl : B.length = 512) (hB : Bytes B) (k : Nat) (hk : 600 < k) : PSeal.tabularyref10_Seal.f k B = some (sealS B) := by
  have hr := sumS_range hB 512
  have h7 := (put7 (sumS B 512) (by omega) (by omega)).1
  unfold PSeal.tabularyref10_Seal.f
  rw [if_pos (by omega), if_pos (by simp only [List.length_nil, List.length_take]; omega), rsum B hl hB k hk]
  simp only [Option.bind_some]
  unfold PSeal.tabularyref10_number.f
  rw [RefPure.rput _ _ (by omega) k (by omega)]
  simp only [Option.bind_some, List.nil_append]
  rw [if_pos (by rw [List.length_take, h7]; omega)]
  simp only [Option.bind_some]
  rw [if_pos (by rw [List.length_append, List.length_take, h7]; omega), if_pos (by omega), if_pos (by simp only [List.length_append, List.length_take, h7, List.length_drop, List.length_cons, List.length_nil]; omega), seal_list B hl hB]

theorem may_zero {n p : ByteArray} {m s t y : Int} {k : ByteArray} (h : mayS n p m s t y k = 0) : (0 ≤ m ∧ m ≤ 4095) ∧ (0 ≤ s ∧ s ≤ 8589934591) ∧ (0 ≤ t ∧ t ≤ 1099511627776) := by
  unfold mayS at h
  split at h
  · split at h
    · cases h
    · split at h
      · cases h
      · split at h
        · cases h
        · omega
  · cases h
/-- A head that may be is laid the same. -/
theorem rlay_eq (n p : ByteArray) (m s t y : Int) (k : ByteArray) (hy : 0 ≤ y ∧ y ≤ 255) (h : mayS n p m s t y k = 0) : rlayF n p m s t y k = some (layS n p m s t y k) := by
  obtain ⟨h1, h2, h3⟩ := may_sizes h
  obtain ⟨hm, hs, ht⟩ := may_zero h
  have hb := body_ok n p m s t y k hy
  unfold rlayF
  rw [if_pos ⟨h1, h3, h2, by omega, by omega, by omega⟩, ← body_eq n p m s t y k h1 h3 h2 hm hs ht, rseal _ hb.1 hb.2 1000 (by decide)]
  rfl
theorem nul_iff (n p k : ByteArray) : 0 ≤ nulAt n p k ↔ (0 ∈ n.data.toList ∨ 0 ∈ k.data.toList ∨ 0 ∈ p.data.toList) := by
  unfold nulAt
  have := Lib.contains_iff_indexByte (n.data.toList ++ (k.data.toList ++ p.data.toList)) 0
  simp only [List.contains_eq_mem] at this
  have h2 := decide_eq_decide.1 this
  rw [← h2]
  simp
end Go.Proofs.Ytdmpbfhbjklajaa.HeadPure
end

/- A head's bytes, in plain words: there and back; a byte that is another is seen; what is sealed. -/
section
namespace Go.Proofs.Ytdmpbfhbjklajaa.HeadLaw
open Go.Proofs.Ytdmpbfhbjklajaa Go.RowKit Go.Proofs.YtdmpbfhbjklajaaW.PrintWords Go.Proofs.YtdmpbfhbjklajaaW.PrintLast Go.Proofs.YtdmpbfhbjklajaaW.PrintMore Go.Proofs.Ytdmpbfhbjklajaa.Byt Go.Proofs.Ytdmpbfhbjklajaa.OctPure Go.Proofs.Ytdmpbfhbjklajaa.Img Go.Proofs.Ytdmpbfhbjklajaa.Head Go.Proofs.Ytdmpbfhbjklajaa.HeadPut Go.Proofs.Ytdmpbfhbjklajaa.HeadSums Go.Proofs.Ytdmpbfhbjklajaa.HText Go.Proofs.Ytdmpbfhbjklajaa.RefLay Go.Proofs.Ytdmpbfhbjklajaa.HeadPure Go.Proofs.Ytdmpbfhbjklajaa.HGetC
set_option linter.unusedVariables false
set_option linter.unusedSimpArgs false

theorem part_mid (a b c : List Int) {o n : Nat} (ha : a.length = o) (hb : b.length = n) : HGet.part (a ++ (b ++ c)) o n = b := by
  subst ha hb
  unfold HGet.part
  rw [List.drop_left, List.take_left]
theorem str_bytes (s : ByteArray) : strOfNums (bytesOf s) = s := by
  apply ba_ext
  rw [strOfNums_list]
  unfold bytesOf
  rw [List.map_map]
  conv => rhs; rw [← List.map_id s.data.toList]
  refine List.map_congr_left fun b _ => ?_
  simp
theorem first_tx {s : ByteArray} {wd : Nat} (h : (0 : UInt8) ∉ s.data.toList) : firstS (tx s wd) = s := by
  unfold firstS tx
  rw [List.takeWhile_append_of_pos]
  · rw [show (List.replicate (wd - s.size) (0 : Int)).takeWhile (fun x => decide (x ≠ 0)) = [] by cases (wd - s.size) <;> simp [List.replicate_succ], List.append_nil, str_bytes]
  · intro x hx
    unfold bytesOf at hx
    obtain ⟨b, hb, rfl⟩ := List.mem_map.1 hx
    refine decide_eq_true fun e => h ?_
    have : b = 0 := by
      apply UInt8.toNat_inj.1
      have : (b.toNat : Int) = 0 := e
      simpa using this
    rw [← this]; exact hb
theorem bn_append_left {a b : List Int} {j : Nat} (h : j < a.length) : bn (a ++ b) j = bn a j := by
  rw [bn_getD, bn_getD, List.getD_eq_getElem?_getD, List.getD_eq_getElem?_getD, List.getElem?_append_left h]
theorem bn_append_right {a b : List Int} {j : Nat} (h : a.length ≤ j) : bn (a ++ b) j = bn b (j - a.length) := by
  rw [bn_getD, bn_getD, List.getD_eq_getElem?_getD, List.getD_eq_getElem?_getD, List.getElem?_append_right h]
/-- What is sealed: what stands ahead, the sum, a blank, what stands behind. -/
theorem seal_parts (B : List Int) (hl : B.length = 512) (hB : Bytes B) : (sealS B).take 148 = B.take 148 ∧ (sealS B).drop 156 = B.drop 156 ∧ HGet.part (sealS B) 148 7 = (putS (sumS B 512) 7).1 ∧ ∀ j, ¬ (148 ≤ j ∧ j < 156) → bn (sealS B) j = bn B j := by
  have hr := sumS_range hB 512
  have h7 := (put7 (sumS B 512) (by omega) (by omega)).1
  rw [seal_list B hl hB]
  generalize (putS (sumS B 512) 7).1 = m at h7 ⊢
  have h1 : (B.take 148).length = 148 := by rw [List.length_take]; omega
  have e : B.take 148 ++ m ++ [32] ++ B.drop 156 = B.take 148 ++ (m ++ ([32] ++ B.drop 156)) := by simp only [List.append_assoc]
  have e2 : B.take 148 ++ m ++ [32] ++ B.drop 156 = (B.take 148 ++ m ++ [32]) ++ B.drop 156 := rfl
  have h3 : (B.take 148 ++ m ++ [32]).length = 156 := by simp only [List.length_append, h1, h7, List.length_cons, List.length_nil]
  refine ⟨?_, ?_, ?_, ?_⟩
  · rw [e]; exact List.take_left' h1
  · rw [e2]; exact List.drop_left' h3
  · rw [e]; exact part_mid _ _ _ h1 h7
  · intro j hj
    by_cases h : j < 148
    · rw [e, bn_append_left (by omega), bn_take B 148 j h]
    · rw [e2, bn_append_right (by omega), h3, bn_drop, show 156 + (j - 156) = j by omega]
theorem sum_congr {l l' : List Int} (h : ∀ j, ¬ (148 ≤ j ∧ j < 156) → bn l j = bn l' j) : ∀ k, sumS l k = sumS l' k
  | 0 => rfl
  | k + 1 => by
    have := sum_congr h k
    by_cases hk : 148 ≤ k ∧ k < 156
    · rw [sumS_in hk, sumS_in hk, this]
    · rw [sumS_out hk, sumS_out hk, this, h k hk]
theorem sum_seal (B : List Int) (hl : B.length = 512) (hB : Bytes B) : sumS (sealS B) 512 = sumS B 512 := sum_congr (seal_parts B hl hB).2.2.2 512
/-- What is alike but for the sum's place is sealed the same. -/
theorem seal_congr (A B : List Int) (hA : A.length = 512 ∧ Bytes A) (hB : B.length = 512 ∧ Bytes B) (h1 : A.take 148 = B.take 148) (h2 : A.drop 156 = B.drop 156) (h3 : sumS A 512 = sumS B 512) : sealS A = sealS B := by
  rw [seal_list A hA.1 hA.2, seal_list B hB.1 hB.2, h1, h2, h3]
theorem seal_seal (B : List Int) (hl : B.length = 512) (hB : Bytes B) : sealS (sealS B) = sealS B := by
  have hp := seal_parts B hl hB
  exact seal_congr _ _ (seal_ok ⟨hl, hB⟩) ⟨hl, hB⟩ hp.1 hp.2.1 (sum_seal B hl hB)
theorem bn_set (l : List Int) (i : Nat) (c : Int) (j : Nat) : bn (l.set i c) j = if i = j ∧ i < l.length then c else bn l j := by
  rw [bn_getD, bn_getD, List.getD_eq_getElem?_getD, List.getD_eq_getElem?_getD, List.getElem?_set]
  by_cases h : i = j
  · subst h
    by_cases h2 : i < l.length
    · rw [if_pos rfl, if_pos h2, if_pos ⟨rfl, h2⟩]; rfl
    · rw [if_pos rfl, if_neg h2, if_neg (by simp [h2]), List.getElem?_eq_none (by omega)]
  · rw [if_neg h, if_neg (by simp [h])]
theorem sum_set (l : List Int) (i : Nat) (c : Int) (hi : i < l.length) (ho : ¬ (148 ≤ i ∧ i < 156)) : ∀ k, sumS (l.set i c) k = sumS l k + if i < k then c - bn l i else 0
  | 0 => by simp [sumS]
  | k + 1 => by
    have := sum_set l i c hi ho k
    by_cases hk : 148 ≤ k ∧ k < 156
    · rw [sumS_in hk, sumS_in hk, this]
      have : k ≠ i := fun e => ho (by omega)
      by_cases h : i < k
      · rw [if_pos h, if_pos (by omega)]; omega
      · rw [if_neg h, if_neg (by omega)]; omega
    · rw [sumS_out hk, sumS_out hk, this, bn_set]
      by_cases h : i < k
      · rw [if_pos h, if_neg (by omega), if_pos (show i < k + 1 by omega)]; omega
      · by_cases h2 : i = k
        · subst h2; rw [if_neg h, if_pos ⟨rfl, hi⟩, if_pos (show i < i + 1 by omega)]; omega
        · rw [if_neg h, if_neg (by omega), if_neg (show ¬ i < k + 1 by omega)]; omega
theorem put7_inj {a b : Int} (ha : 0 ≤ a ∧ a ≤ 130560) (hb : 0 ≤ b ∧ b ≤ 130560) (h : (putS a 7).1 = (putS b 7).1) : a = b := by
  have h1 := exact_put a 7 (by omega) (put7 a ha.1 ha.2).2
  have h2 := exact_put b 7 (by omega) (put7 b hb.1 hb.2).2
  rw [h, h2] at h1
  exact (Prod.ext_iff.1 h1).1.symm
theorem set_bytes {l : List Int} (h : l.length = 512 ∧ Bytes l) (i : Nat) {c : Int} (hc : 0 ≤ c ∧ c ≤ 255) : (l.set i c).length = 512 ∧ Bytes (l.set i c) := set_ok hc h
/-- A byte of what is sealed that is another: it is sealed no more. -/
theorem unsealed_set (L : List Int) (hL : L.length = 512 ∧ Bytes L) (hS : sealS L = L) (i : Nat) (hi : i < 512) (c : Int) (hc : 0 ≤ c ∧ c ≤ 255) (hn : bn L i ≠ c) : sealS (L.set i c) ≠ L.set i c := by
  intro h
  have hL' := set_bytes hL i hc
  have hr := sumS_range hL.2 512
  have hr' := sumS_range hL'.2 512
  have p1 := seal_parts L hL.1 hL.2
  have p2 := seal_parts _ hL'.1 hL'.2
  by_cases hin : 148 ≤ i ∧ i < 156
  · have hs : sumS (L.set i c) 512 = sumS L 512 := sum_congr (fun j hj => by rw [bn_set, if_neg (by omega)]) 512
    have : sealS (L.set i c) = sealS L := seal_congr _ _ hL' hL (by rw [List.take_set_of_le hin.1]) (by rw [List.drop_set_of_lt hin.2]) hs
    rw [h, hS] at this
    have := congrArg (fun l => bn l i) this
    simp only [bn_set] at this
    rw [if_pos ⟨trivial, by omega⟩] at this
    exact hn this.symm
  · have e1 : HGet.part (L.set i c) 148 7 = HGet.part L 148 7 := by
      unfold HGet.part
      by_cases h1 : i < 148
      · rw [List.drop_set_of_lt h1]
      · apply List.ext_getElem?
        intro j
        simp only [List.getElem?_take, List.getElem?_drop, List.getElem?_set]
        by_cases hj : j < 7
        · rw [if_pos hj, if_pos hj, if_neg (by omega)]
        · rw [if_neg hj, if_neg hj]
    have e2 : (putS (sumS (L.set i c) 512) 7).1 = (putS (sumS L 512) 7).1 := by rw [← p2.2.2.1, ← p1.2.2.1, h, hS, e1]
    have e3 := put7_inj ⟨hr'.1, by omega⟩ ⟨hr.1, by omega⟩ e2
    rw [sum_set L i c (by omega) hin, if_pos hi] at e3
    exact hn (by omega)
/-- Two bytes changed about: the same sum. -/
theorem sum_swap (L : List Int) (hL : L.length = 512) (i k : Nat) (hi : i < 512) (hk : k < 512) (oi : ¬ (148 ≤ i ∧ i < 156)) (ok : ¬ (148 ≤ k ∧ k < 156)) : sumS ((L.set i (bn L k)).set k (bn L i)) 512 = sumS L 512 := by
  rw [sum_set _ k _ (by rw [List.length_set]; omega) ok, sum_set L i _ (by omega) oi, if_pos hi, if_pos hk, bn_set]
  by_cases h : i = k
  · subst h; rw [if_pos ⟨rfl, by omega⟩]; omega
  · rw [if_neg (by omega)]; omega

/-- The list of a head that may be. -/
theorem lay_list (n p : ByteArray) (m s t y : Int) (k : ByteArray) (hy : 0 ≤ y ∧ y ≤ 255) (h : mayS n p m s t y k = 0) :
    sealS (layS n p m s t y k) = layS n p m s t y k ∧ (layS n p m s t y k).length = 512 ∧ Bytes (layS n p m s t y k) ∧
    HGet.part (layS n p m s t y k) 0 100 = tx n 100 ∧ HGet.part (layS n p m s t y k) 100 8 = (putS m 8).1 ∧ HGet.part (layS n p m s t y k) 124 12 = (putS s 12).1 ∧ HGet.part (layS n p m s t y k) 136 12 = (putS t 12).1 ∧
    bn (layS n p m s t y k) 156 = y ∧ HGet.part (layS n p m s t y k) 157 100 = tx k 100 ∧ HGet.part (layS n p m s t y k) 257 8 = MAGIC ∧ HGet.part (layS n p m s t y k) 345 155 = tx p 155 := by
  obtain ⟨h1, h2, h3⟩ := may_sizes h
  obtain ⟨hm, hs, ht⟩ := may_zero h
  have hb := body_ok n p m s t y k hy
  have hok := seal_ok hb
  have hp := seal_parts _ hb.1 hb.2
  have hss := seal_seal _ hb.1 hb.2
  have hlist := seal_list _ hb.1 hb.2
  have hr := sumS_range hb.2 512
  have h7 := (put7 (sumS (bodyS n p m s t y k) 512) (by omega) (by omega)).1
  refine ⟨hss, hok.1, hok.2, ?_⟩
  unfold layS
  rw [hlist]
  generalize (putS (sumS (bodyS n p m s t y k) 512) 7).1 = P7 at h7 ⊢
  clear hlist hss hp hok hr
  rw [body_eq n p m s t y k h1 h3 h2 hm hs ht]
  clear hb
  have m8 := len8 m hm.1 (by omega)
  have z8 := len8 0 (by decide) (by decide)
  have s12 := len12 s hs.1 (by omega)
  have t12 := len12 t ht.1 ht.2
  have tn := tx_len h1
  have tk := tx_len h2
  have tp := tx_len h3
  unfold rbodyS
  generalize (putS m 8).1 = M at m8 ⊢
  generalize (putS 0 8).1 = O at z8 ⊢
  generalize (putS s 12).1 = S at s12 ⊢
  generalize (putS t 12).1 = T at t12 ⊢
  generalize tx n 100 = N at tn ⊢
  generalize tx k 100 = K at tk ⊢
  generalize tx p 155 = P at tp ⊢
  have e8 : (tx (⟨#[]⟩ : ByteArray) 8).length = 8 := tx_len (by decide)
  have e64 : (tx (⟨#[]⟩ : ByteArray) 64).length = 64 := tx_len (by decide)
  rw [ustar]
  have eM : MAGIC.length = 8 := rfl
  generalize tx (⟨#[]⟩ : ByteArray) 8 = E8 at e8 ⊢
  generalize tx (⟨#[]⟩ : ByteArray) 64 = E64 at e64 ⊢
  generalize tx (⟨#[]⟩ : ByteArray) 12 = E12
  generalize MAGIC = MG at eM ⊢
  have hR : ((((((((((((((([] ++ N) ++ M) ++ O) ++ O) ++ S) ++ T) ++ E8) ++ [y]) ++ K) ++ MG) ++ E64) ++ O) ++ O) ++ P) ++ E12) = (N ++ M ++ O ++ O ++ S ++ T) ++ (E8 ++ ([y] ++ K ++ MG ++ E64 ++ O ++ O ++ P ++ E12)) := by simp only [List.append_assoc, List.nil_append]
  rw [hR]
  have hA : (N ++ M ++ O ++ O ++ S ++ T).length = 148 := by simp only [List.length_append, tn, m8, z8, s12, t12]
  rw [List.take_left' hA, show (156 : Nat) = 148 + 8 from rfl, ← List.drop_drop, List.drop_left' hA, List.drop_left' e8]
  refine ⟨?_, ?_, ?_, ?_, ?_, ?_, ?_, ?_⟩
  · rw [show (N ++ M ++ O ++ O ++ S ++ T) ++ P7 ++ [32] ++ ([y] ++ K ++ MG ++ E64 ++ O ++ O ++ P ++ E12) = [] ++ (N ++ (M ++ O ++ O ++ S ++ T ++ P7 ++ [32] ++ ([y] ++ K ++ MG ++ E64 ++ O ++ O ++ P ++ E12))) by simp only [List.append_assoc, List.nil_append]]
    exact part_mid _ _ _ rfl tn
  · rw [show (N ++ M ++ O ++ O ++ S ++ T) ++ P7 ++ [32] ++ ([y] ++ K ++ MG ++ E64 ++ O ++ O ++ P ++ E12) = N ++ (M ++ (O ++ O ++ S ++ T ++ P7 ++ [32] ++ ([y] ++ K ++ MG ++ E64 ++ O ++ O ++ P ++ E12))) by simp only [List.append_assoc]]
    exact part_mid _ _ _ tn m8
  · rw [show (N ++ M ++ O ++ O ++ S ++ T) ++ P7 ++ [32] ++ ([y] ++ K ++ MG ++ E64 ++ O ++ O ++ P ++ E12) = (N ++ M ++ O ++ O) ++ (S ++ (T ++ P7 ++ [32] ++ ([y] ++ K ++ MG ++ E64 ++ O ++ O ++ P ++ E12))) by simp only [List.append_assoc]]
    exact part_mid _ _ _ (by simp only [List.length_append, tn, m8, z8]) s12
  · rw [show (N ++ M ++ O ++ O ++ S ++ T) ++ P7 ++ [32] ++ ([y] ++ K ++ MG ++ E64 ++ O ++ O ++ P ++ E12) = (N ++ M ++ O ++ O ++ S) ++ (T ++ (P7 ++ [32] ++ ([y] ++ K ++ MG ++ E64 ++ O ++ O ++ P ++ E12))) by simp only [List.append_assoc]]
    exact part_mid _ _ _ (by simp only [List.length_append, tn, m8, z8, s12]) t12
  · rw [show (N ++ M ++ O ++ O ++ S ++ T) ++ P7 ++ [32] ++ ([y] ++ K ++ MG ++ E64 ++ O ++ O ++ P ++ E12) = (N ++ M ++ O ++ O ++ S ++ T ++ P7 ++ [32]) ++ (y :: (K ++ MG ++ E64 ++ O ++ O ++ P ++ E12)) by simp only [List.append_assoc, List.cons_append, List.nil_append]]
    have h0 : (N ++ M ++ O ++ O ++ S ++ T ++ P7 ++ [32]).length = 156 := by simp only [List.length_append, tn, m8, z8, s12, t12, h7, List.length_cons, List.length_nil]
    rw [bn_append_right (by omega), h0]
    rfl
  · rw [show (N ++ M ++ O ++ O ++ S ++ T) ++ P7 ++ [32] ++ ([y] ++ K ++ MG ++ E64 ++ O ++ O ++ P ++ E12) = (N ++ M ++ O ++ O ++ S ++ T ++ P7 ++ [32] ++ [y]) ++ (K ++ (MG ++ E64 ++ O ++ O ++ P ++ E12)) by simp only [List.append_assoc]]
    exact part_mid _ _ _ (by simp only [List.length_append, tn, m8, z8, s12, t12, h7, List.length_cons, List.length_nil]) tk
  · rw [show (N ++ M ++ O ++ O ++ S ++ T) ++ P7 ++ [32] ++ ([y] ++ K ++ MG ++ E64 ++ O ++ O ++ P ++ E12) = (N ++ M ++ O ++ O ++ S ++ T ++ P7 ++ [32] ++ [y] ++ K) ++ (MG ++ (E64 ++ O ++ O ++ P ++ E12)) by simp only [List.append_assoc]]
    exact part_mid _ _ _ (by simp only [List.length_append, tn, m8, z8, s12, t12, h7, tk, List.length_cons, List.length_nil]) eM
  · rw [show (N ++ M ++ O ++ O ++ S ++ T) ++ P7 ++ [32] ++ ([y] ++ K ++ MG ++ E64 ++ O ++ O ++ P ++ E12) = (N ++ M ++ O ++ O ++ S ++ T ++ P7 ++ [32] ++ [y] ++ K ++ MG ++ E64 ++ O ++ O) ++ (P ++ E12) by simp only [List.append_assoc]]
    exact part_mid _ _ _ (by simp only [List.length_append, tn, m8, z8, s12, t12, h7, tk, eM, e64, List.length_cons, List.length_nil]) tp
theorem may_nul {n p : ByteArray} {m s t y : Int} {k : ByteArray} (h : mayS n p m s t y k = 0) : (0 : UInt8) ∉ n.data.toList ∧ (0 : UInt8) ∉ k.data.toList ∧ (0 : UInt8) ∉ p.data.toList := by
  have hn : ¬ 0 ≤ nulAt n p k := by
    unfold mayS at h
    split at h
    · split at h
      · cases h
      · split at h
        · cases h
        · assumption
    · cases h
  rw [nul_iff] at hn
  exact ⟨fun h => hn (.inl h), fun h => hn (.inr (.inl h)), fun h => hn (.inr (.inr h))⟩
/-- THERE AND BACK. -/
theorem get_lay (n p : ByteArray) (m s t y : Int) (k : ByteArray) (hy : 0 ≤ y ∧ y ≤ 255) (h : mayS n p m s t y k = 0) : getF (layS n p m s t y k) = some (n, p, m, s, t, y, k, 0) := by
  obtain ⟨q0, q1, q2, q3, q4, q5, q6, q7, q8, q9, q10⟩ := lay_list n p m s t y k hy h
  obtain ⟨n1, n2, n3⟩ := may_nul h
  obtain ⟨hm, hs, ht⟩ := may_zero h
  have h8 := exact_put m 8 (by omega) (ok8 m hm.1 (by omega))
  have h9 := exact_put s 12 (by omega) (ok12 s hs.1 (by omega))
  have h10 := exact_put t 12 (by omega) (ok12 t ht.1 ht.2)
  unfold getF
  rw [if_pos (show AreB _ from mem_of_bytes q2), if_pos q1, if_pos q9, if_pos q0, q3, q4, q5, q6, q7, q8, q10, first_tx n1, first_tx n2, first_tx n3, h8, h9, h10, if_pos ⟨rfl, rfl, rfl⟩, if_pos ⟨h, rfl⟩]
/-- AND BACK AGAIN. -/
theorem put_get {l : List Int} {n p : ByteArray} {m s t y : Int} {k : ByteArray} {e : Int} (h : getF l = some (n, p, m, s, t, y, k, e)) :
    (e = 0 → putF n p m s t y k = some (l, 0)) ∧ (e ≠ 0 → n = ⟨#[]⟩ ∧ p = ⟨#[]⟩ ∧ m = 0 ∧ s = 0 ∧ t = 0 ∧ y = 0 ∧ k = ⟨#[]⟩) := by
  unfold getF at h
  split at h
  · rename_i hB
    have h := Option.some.inj h
    split at h
    · split at h
      · split at h
        · split at h
          · split at h
            · rename_i h1 h2 h3 h4 h5
              simp only [Prod.mk.injEq] at h
              obtain ⟨rfl, rfl, rfl, rfl, rfl, rfl, rfl, rfl⟩ := h
              refine ⟨fun _ => ?_, fun h => absurd rfl h⟩
              obtain ⟨hm, hs, ht⟩ := may_zero h5.1
              unfold putF
              have hy := bytes_of_mem hB 156
              rw [if_pos ⟨hy, by omega, by omega, by omega⟩, if_pos h5.1, h5.2]
            · simp only [Prod.mk.injEq] at h
              obtain ⟨rfl, rfl, rfl, rfl, rfl, rfl, rfl, rfl⟩ := h
              exact ⟨fun h => absurd h (by decide), fun _ => ⟨rfl, rfl, rfl, rfl, rfl, rfl, rfl⟩⟩
          · simp only [Prod.mk.injEq] at h
            obtain ⟨rfl, rfl, rfl, rfl, rfl, rfl, rfl, rfl⟩ := h
            exact ⟨fun h => absurd h (by decide), fun _ => ⟨rfl, rfl, rfl, rfl, rfl, rfl, rfl⟩⟩
        · simp only [Prod.mk.injEq] at h
          obtain ⟨rfl, rfl, rfl, rfl, rfl, rfl, rfl, rfl⟩ := h
          exact ⟨fun h => absurd h (by decide), fun _ => ⟨rfl, rfl, rfl, rfl, rfl, rfl, rfl⟩⟩
      · simp only [Prod.mk.injEq] at h
        obtain ⟨rfl, rfl, rfl, rfl, rfl, rfl, rfl, rfl⟩ := h
        exact ⟨fun h => absurd h (by decide), fun _ => ⟨rfl, rfl, rfl, rfl, rfl, rfl, rfl⟩⟩
    · simp only [Prod.mk.injEq] at h
      obtain ⟨rfl, rfl, rfl, rfl, rfl, rfl, rfl, rfl⟩ := h
      exact ⟨fun h => absurd h (by decide), fun _ => ⟨rfl, rfl, rfl, rfl, rfl, rfl, rfl⟩⟩
  · cases h
/-- A head's byte that is another is seen. -/
theorem get_set (L : List Int) (hL : L.length = 512 ∧ Bytes L) (hS : sealS L = L) (i : Nat) (hi : i < 512) (c : Int) (hc : 0 ≤ c ∧ c ≤ 255) (hn : bn L i ≠ c) :
    ∃ e : Int, (e = 100 ∨ e = 101) ∧ getF (L.set i c) = some (⟨#[]⟩, ⟨#[]⟩, 0, 0, 0, 0, ⟨#[]⟩, e) := by
  have hL' := set_bytes hL i hc
  have hu := unsealed_set L hL hS i hi c hc hn
  unfold getF
  rw [if_pos (show AreB _ from mem_of_bytes hL'.2), if_pos hL'.1, if_neg hu]
  by_cases h : HGet.part (L.set i c) 257 8 = MAGIC
  · rw [if_pos h]; exact ⟨101, .inr rfl, rfl⟩
  · rw [if_neg h]; exact ⟨100, .inl rfl, rfl⟩
/-- What is sealed is never refused for its sum. -/
theorem get_sealed {L : List Int} (hS : sealS L = L) (hA : AreB L) : ∃ n p m s t y k e, getF L = some (n, p, m, s, t, y, k, e) ∧ e ≠ 101 := by
  unfold getF
  rw [if_pos hA, if_pos hS]
  split
  · split
    · split
      · split
        · exact ⟨_, _, _, _, _, _, _, _, rfl, by decide⟩
        · exact ⟨_, _, _, _, _, _, _, _, rfl, by decide⟩
      · exact ⟨_, _, _, _, _, _, _, _, rfl, by decide⟩
    · exact ⟨_, _, _, _, _, _, _, _, rfl, by decide⟩
  · exact ⟨_, _, _, _, _, _, _, _, rfl, by decide⟩
theorem get_some {L : List Int} (hA : AreB L) : ∃ n p m s t y k e, getF L = some (n, p, m, s, t, y, k, e) := by
  unfold getF
  rw [if_pos hA]
  exact ⟨_, _, _, _, _, _, _, _, rfl⟩
end Go.Proofs.Ytdmpbfhbjklajaa.HeadLaw
end

/- HeadSealed in plain words: the sum does not hang on the order of bytes; what is sealed has the same sum, is sealed, and is never refused for its sum. -/
section
namespace Go.Proofs.Ytdmpbfhbjklajaa.Pure
open Go.Proofs.Ytdmpbfhbjklajaa Go.RowKit Go.Proofs.Ytdmpbfhbjklajaa.PHeadSealed Go.Proofs.YtdmpbfhbjklajaaW.PrintWords Go.Proofs.YtdmpbfhbjklajaaW.PrintLast Go.Proofs.YtdmpbfhbjklajaaW.PrintMore Go.Proofs.Ytdmpbfhbjklajaa.Byt Go.Proofs.Ytdmpbfhbjklajaa.OctPure Go.Proofs.Ytdmpbfhbjklajaa.Img Go.Proofs.Ytdmpbfhbjklajaa.Head Go.Proofs.Ytdmpbfhbjklajaa.HeadPut Go.Proofs.Ytdmpbfhbjklajaa.HeadSums Go.Proofs.Ytdmpbfhbjklajaa.HGetC Go.Proofs.Ytdmpbfhbjklajaa.HeadLaw
set_option linter.unusedVariables false
set_option linter.unusedSimpArgs false
namespace HS
theorem awake1 : tabularylaw10_awake.f 1 = some true := by decide +kernel
theorem awake_true : ∀ k, tabularylaw10_awake.f (k + 1) = some true
  | 0 => awake1
  | k + 1 => tabularylaw10_awake.mono (k + 1) _ (awake_true k)
theorem same_l0 (a b : List Int) (hl : a.length = b.length) (hm : a.length ≤ 140737488355328) (d : Nat) : ∀ (k i : Nat), d + i = a.length → d < k → tabularylaw10_same.l0 k a b (i : Int) = some (decide (a.drop i = b.drop i)) := by
  induction d with
  | zero =>
    intro k i hi hk
    obtain ⟨k, rfl⟩ : ∃ m, k = m + 1 := ⟨k - 1, by omega⟩
    simp only [tabularylaw10_same.l0]
    rw [if_neg (by omega), List.drop_eq_nil_of_le (by omega), List.drop_eq_nil_of_le (by omega)]
    simp
  | succ d ih =>
    intro k i hi hk
    obtain ⟨k, rfl⟩ : ∃ m, k = m + 1 := ⟨k - 1, by omega⟩
    simp only [tabularylaw10_same.l0]
    rw [if_pos (by omega), if_pos (by omega), if_pos (by omega), rd_at a i (by omega), rd_at b i (by omega)]
    rw [List.drop_eq_getElem_cons (show i < a.length by omega), List.drop_eq_getElem_cons (show i < b.length by omega)]
    by_cases h : a[i]'(by omega) = b[i]'(by omega)
    · rw [if_pos h, show wrap64 ((i : Int) + 1) = ((i + 1 : Nat) : Int) by unfold wrap64; omega, ih k (i + 1) (by omega) (by omega)]
      refine congrArg some (decide_eq_decide.2 ?_)
      rw [List.cons.injEq]
      exact ⟨fun e => ⟨h, e⟩, fun e => e.2⟩
    · rw [if_neg h]
      refine congrArg some (decide_eq_false ?_).symm
      rw [List.cons.injEq]
      exact fun e => h e.1
theorem same_self (a : List Int) (k : Nat) (hk : a.length < k) (hm : a.length ≤ 140737488355328) : tabularylaw10_same.f k a a = some true := by
  unfold tabularylaw10_same.f
  rw [if_pos rfl]
  have := same_l0 a a rfl hm a.length k 0 rfl hk
  rw [show ((0 : Nat) : Int) = 0 from rfl] at this
  rw [this]
  simp
theorem place_some (a : Int) : ∃ r : Nat, tabularylaw10_place.f a 512 = some (r : Int) ∧ r < 512 := by
  unfold tabularylaw10_place.f
  rw [if_neg (by decide)]
  have h1 : -512 < Int.tmod a 512 := Int.lt_tmod_of_pos a (by decide)
  have h2 : Int.tmod a 512 < 512 := Int.tmod_lt_of_pos a (by decide)
  by_cases h : Int.tmod a 512 < 0
  · rw [if_pos h]
    exact ⟨(Int.tmod a 512 + 512).toNat, congrArg some (by unfold wrap64; omega), by omega⟩
  · rw [if_neg h]
    exact ⟨(Int.tmod a 512).toNat, congrArg some (by omega), by omega⟩
theorem sum_f (C : List Int) (hl : C.length = 512) (hA : AreB C) : head_Sum.f C = some (sumS C 512, 0) := by
  show sumF C = _
  unfold sumF
  rw [if_pos hA, if_pos hl]
theorem seal_f (C : List Int) (hl : C.length = 512) (hA : AreB C) : head_Seal.f C = some (sealS C, 0) := by
  show sealF C = _
  unfold sealF
  rw [if_pos hA, if_pos hl]
theorem swap_true (C : List Int) (hl : C.length = 512) (hA : AreB C) (r1 r2 : Nat) (h1 : r1 < 512) (h2 : r2 < 512) (o1 : ¬ (148 ≤ r1 ∧ r1 < 156)) (o2 : ¬ (148 ≤ r2 ∧ r2 < 156)) :
    (if 0 ≤ (r2 : Int) then (if (r2 : Int) < (C.length : Int) then (if 0 ≤ (r1 : Int) then (if (r1 : Int) < (C.length : Int) then ((head_Sum.f ((C.set (r1 : Int).toNat (rd C r2)).set (r2 : Int).toNat (rd C r1))).bind fun bt => (if bt.2 = 0 then (some (bt.1 == sumS C 512)) else (some false))) else (none)) else (none)) else (none)) else (none)) = some true := by
  have hB := bytes_of_mem hA
  have hs := sum_swap C hl r1 r2 h1 h2 o1 o2
  have hok := set_bytes (set_bytes ⟨hl, hB⟩ r1 (hB r2)) r2 (hB r1)
  rw [if_pos (by omega), if_pos (by omega), if_pos (by omega), if_pos (by omega), Int.toNat_natCast, Int.toNat_natCast]
  rw [show rd C (r2 : Int) = bn C r2 from rfl, show rd C (r1 : Int) = bn C r1 from rfl, sum_f _ hok.1 (mem_of_bytes hok.2)]
  simp only [Option.bind_some]
  rw [if_pos trivial, hs, beq_self_eq_true]
theorem j2_true (C : List Int) (hl : C.length = 512) (hA : AreB C) (a1 a2 : Int) (k : Nat) : tabularylaw10_HeadSealed.j2 (k + 1) a1 a2 C (sumS C 512) false = some true := by
  obtain ⟨r1, hr1, h1⟩ := place_some a1
  obtain ⟨r2, hr2, h2⟩ := place_some a2
  simp only [tabularylaw10_HeadSealed.j2]
  rw [if_neg (by decide), hr1, hr2]
  simp only [Option.bind_some]
  by_cases q1 : (r1 : Int) ≥ 148
  · rw [if_pos q1]
    by_cases q2 : (r1 : Int) < 156
    · rw [if_pos q2]
    · rw [if_neg q2]
      by_cases q3 : (r2 : Int) ≥ 148
      · rw [if_pos q3]
        by_cases q4 : (r2 : Int) < 156
        · rw [if_pos q4]
        · rw [if_neg q4]; exact swap_true C hl hA r1 r2 h1 h2 (by omega) (by omega)
      · rw [if_neg q3]; exact swap_true C hl hA r1 r2 h1 h2 (by omega) (by omega)
  · rw [if_neg q1]
    by_cases q3 : (r2 : Int) ≥ 148
    · rw [if_pos q3]
      by_cases q4 : (r2 : Int) < 156
      · rw [if_pos q4]
      · rw [if_neg q4]; exact swap_true C hl hA r1 r2 h1 h2 (by omega) (by omega)
    · rw [if_neg q3]; exact swap_true C hl hA r1 r2 h1 h2 (by omega) (by omega)
theorem j1_true (C : List Int) (hl : C.length = 512) (hA : AreB C) (a1 a2 : Int) (k : Nat) (hk : 600 < k) : tabularylaw10_HeadSealed.j1 (k + 1) a1 a2 C (sumS C 512) (sealS C) false = some true := by
  have hB := bytes_of_mem hA
  have hp := seal_parts C hl hB
  have hok := seal_ok ⟨hl, hB⟩
  have hSA : AreB (sealS C) := mem_of_bytes hok.2
  have hss := seal_seal C hl hB
  obtain ⟨n, p, m, s, t, y, x, e, hg, he⟩ := get_sealed hss hSA
  have hj := j2_true C hl hA a1 a2
  simp only [tabularylaw10_HeadSealed.j1]
  rw [if_neg (by decide), sum_f _ hok.1 hSA, seal_f _ hok.1 hSA, show head_Get.f (sealS C) = some (n, p, m, s, t, y, x, e) from hg]
  simp only [Option.bind_some]
  rw [if_pos trivial, if_pos trivial, if_pos (sum_seal C hl hB).symm, hss, same_self _ k (by rw [hok.1]; omega) (by rw [hok.1]; omega)]
  simp only [Option.bind_some]
  rw [if_pos trivial, if_neg he, if_pos (by rw [hok.1]; decide), if_pos (by rw [hl]; decide), hp.1, same_self _ k (by rw [List.length_take]; omega) (by rw [List.length_take]; omega)]
  simp only [Option.bind_some]
  rw [if_pos trivial, if_pos (by rw [hok.1]; decide), if_pos (by rw [hl]; decide), hp.2.1, same_self _ k (by rw [List.length_drop]; omega) (by rw [List.length_drop]; omega)]
  simp only [Option.bind_some]
  obtain ⟨k, rfl⟩ : ∃ m, k = m + 1 := ⟨k - 1, by omega⟩
  exact hj k
theorem l0_succ (k : Nat) (x1 x2 : Int) (x7 : List Int) : tabularylaw10_HeadSealed.l0 (k + 1) x1 x2 x7 = (if (x7.length : Int) < 512 then (if x7.length < 140737488355328 then (tabularylaw10_HeadSealed.l0 k x1 x2 (x7 ++ [((x7.length : Int)) % 256])) else (none)) else (if 512 ≤ (x7.length : Int) then ((some (x7.take (512 : Int).toNat : List Int)).bind fun y145 => ((head_Sum.f y145).bind fun bt148 => ((head_Seal.f y145).bind fun bt150 => (if bt148.2 = 0 then (if bt150.2 = 0 then (tabularylaw10_HeadSealed.j1 k x1 x2 y145 bt148.1 bt150.1 ((bt150.1.length : Int) != 512)) else (tabularylaw10_HeadSealed.j1 k x1 x2 y145 bt148.1 bt150.1 true)) else (tabularylaw10_HeadSealed.j1 k x1 x2 y145 bt148.1 bt150.1 true))))) else (none))) := rfl
theorem l0_true (a1 a2 : Int) (d : Nat) : ∀ (k : Nat) (l : List Int), 512 - l.length ≤ d → d + 700 < k → AreB l → tabularylaw10_HeadSealed.l0 k a1 a2 l = some true := by
  induction d with
  | zero =>
    intro k l hd hk hA
    obtain ⟨k, rfl⟩ : ∃ m, k = m + 1 := ⟨k - 1, by omega⟩
    rw [l0_succ]
    rw [if_neg (by omega), if_pos (by omega)]
    have hl : (l.take (512 : Int).toNat).length = 512 := by rw [List.length_take]; omega
    have hA2 : AreB (l.take (512 : Int).toNat) := fun x hx => hA x (List.mem_of_mem_take hx)
    generalize l.take (512 : Int).toNat = C at hl hA2 ⊢
    have hok := seal_ok ⟨hl, bytes_of_mem hA2⟩
    simp only [Option.bind_some]
    rw [sum_f C hl hA2, seal_f C hl hA2]
    simp only [Option.bind_some]
    rw [if_pos trivial, if_pos trivial]
    rw [show (((sealS C).length : Int) != 512) = false by rw [hok.1]; rfl]
    obtain ⟨k, rfl⟩ : ∃ m, k = m + 1 := ⟨k - 1, by omega⟩
    exact j1_true C hl hA2 a1 a2 k (by omega)
  | succ d ih =>
    intro k l hd hk hA
    by_cases hlt : l.length < 512
    · obtain ⟨k, rfl⟩ : ∃ m, k = m + 1 := ⟨k - 1, by omega⟩
      rw [l0_succ]
      rw [if_pos (by omega), if_pos (by omega)]
      refine ih k _ (by rw [List.length_append]; simp only [List.length_cons, List.length_nil]; omega) (by omega) ?_
      intro x hx
      rcases List.mem_append.1 hx with h | h
      · exact hA x h
      · rw [List.mem_singleton] at h; omega
    · exact ih k l (by omega) (by omega) hA
end HS
theorem HeadSealed : tabularylaw10_HeadSealed.Pure := by
  intro l a1 a2 hm hl hb h1 h2
  refine ⟨2000, ?_⟩
  unfold tabularylaw10_HeadSealed.f
  rw [HS.awake_true 1999]
  simp only [Option.bind_some]
  rw [if_pos trivial, if_pos (by simp; omega), List.nil_append]
  refine HS.l0_true a1 a2 512 2000 l (by omega) (by omega) (fun x hx => ?_)
  have h := hb x hx
  simp only [Lit.wf, Bool.and_eq_true, decide_eq_true_eq] at h
  have hmin : IntKind.u8.min = 0 := rfl
  have hmax : IntKind.u8.max = 255 := rfl
  omega
end Go.Proofs.Ytdmpbfhbjklajaa.Pure
end
