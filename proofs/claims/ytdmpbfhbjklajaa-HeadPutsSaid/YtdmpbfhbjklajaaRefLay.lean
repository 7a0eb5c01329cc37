/- The document's own bytes of a head: texts and numbers behind one another, sealed. -/
import Derived.Test.YtdmpbfhbjklajaaHead
import Derived.Test.YtdmpbfhbjklajaaRefPure
namespace Go.Proofs.Ytdmpbfhbjklajaa.RefLay
open Go.Proofs.Ytdmpbfhbjklajaa Go.RowKit Go.Proofs.YtdmpbfhbjklajaaW.PrintWords Go.Proofs.YtdmpbfhbjklajaaW.PrintLast Go.Proofs.YtdmpbfhbjklajaaW.PrintMore Go.Proofs.Ytdmpbfhbjklajaa.Byt Go.Proofs.Ytdmpbfhbjklajaa.OctPure Go.Proofs.Ytdmpbfhbjklajaa.Head
set_option linter.unusedVariables false
set_option linter.unusedSimpArgs false

theorem own_append_str {ops : Array Oper} {rs : List Oper} {o : Oper} {a : Act} {w0 w : World} {Q : Exit → Act → World → Prop} (hgd : o.guard = none) (s x : Operand)
    (ho : o.op = .call { callee := .builtin .append, args := #[s, x], argTypes := #[TB, 9] }) (base : Nat) (v : Value) (l : List Int) (y : ByteArray) (hs : a.eval s = v) (hx : a.eval x = .string y)
    (HO : OWN w base v l) (HB : Below base w0 w) (hbase : base ≤ w.heap.size) (hl : l.length + y.size ≤ 100000000)
    (h : ∀ v1 w1, OWN w1 base v1 (l ++ bytesOf y) → Below base w0 w1 → w.heap.size ≤ w1.heap.size → wpList Try.prog ops Q rs (a.put o.dst v1) w1) : wpList Try.prog ops Q (o :: rs) a w := by
  refine print_append_str (w0 := w0) base hgd s x TB 9 5 ho Try.underlying22 Try.underlying9 info5 v l y hs hx (Kd.own_of_R HO) HB hbase (by omega) ?_
  intro v1 w1 h1 h2 h3
  exact h v1 w1 (Kd.R_of_own (h1 := fun _ => rfl) (ok := fun _ => True) h1 (fun _ _ => trivial)) h2 h3.size

/-- A text in its place, noughts behind it. -/
def tx (s : ByteArray) (wd : Nat) : List Int := bytesOf s ++ List.replicate (wd - s.size) 0
set_option maxRecDepth 100000 in
set_option maxHeartbeats 4000000 in
theorem text_gen (base : Nat) (w0 : World) (v : Value) (l R : List Int) (s : ByteArray) (wi : Int) (wd : Nat) (hwi : wi = (wd : Int)) (W : World) (hR : R = l ++ tx s wd) (hs : s.size ≤ wd) (hwd : wd ≤ 1000) (hll : l.length ≤ 100000)
    (ho : OWN W base v l) (hb : Below base w0 W) (hbase : base ≤ W.heap.size) :
    Calls Try.prog 46 #[v, .string s, .int .i64 wi] W fun e w' => ∃ v', e = .returned v' ∧ OWN w' base v' R ∧ Below base w0 w' ∧ W.heap.size ≤ w'.heap.size := by
  subst hwi
  have HO := Lib.hid ho
  have HB := Lib.hid hb
  have HR := Lib.hid (show R = l ++ (bytesOf s ++ List.replicate (wd - s.size) 0) from hR)
  clear ho hb hR
  go_enter Try.func46, Try.ntmps46
  go_wp2_with ((with_reducible refine gate_builtin (b := .append) (xs := #[.tmp 8, .tmp 9]) rfl ?_); refine own_append_str (w0 := w0) rfl (.tmp 8) (.tmp 9) rfl base v l s rfl rfl HO.out HB.out hbase (by omega) ?_; intro v1 w1 ho1 hb1 hz1; have HO1 := Lib.hid ho1; have HB1 := Lib.hid hb1; clear ho1 hb1)
  go_loopw [0, 7] (fun v0 v7 wr => ∃ (k : Nat), s.size + k ≤ wd ∧ v7 = .int .i64 ((s.size + k : Nat) : Int) ∧ OWN wr base v0 (l ++ (bytesOf s ++ List.replicate k 0)) ∧ Below base w0 wr ∧ W.heap.size ≤ wr.heap.size) (fun _ v7 _ => wd - (intOf v7).toNat)
  case atStart => exact ⟨0, by omega, rfl, by simpa using HO1.out, HB1.out, hz1⟩
  case round =>
    obtain ⟨k, hk, rfl, ho, hb, hz⟩ := hrel
    have HOk := Lib.hid ho
    have HBk := Lib.hid hb
    obtain ⟨i, hi⟩ : ∃ i : Nat, i = s.size + k := ⟨_, rfl⟩
    rw [← hi]
    have HI := Lib.hid hi
    clear ho hb hi
    by_cases hlt : i < wd
    · go_wp2_with ((with_reducible refine gate_builtin (b := .append) (xs := #[.tmp 18, .tmp 19]) rfl ?_); refine own_append (w0 := w0) rfl (.tmp 18) (.tmp 19) rfl base u0 _ [0] _ _ rfl rfl (HOk.out.alloc _) (bytes_new wr 5 [0] (0, 0)) (HBk.out.alloc (Nat.le_trans hbase hz) _) (by simp; omega) (by rw [List.length_append, List.length_append, bytesOf_length, List.length_replicate]; simp; have := HI.out; omega) ?_; intro v8 w8 ho8 hb8 hg8; have HO8 := Lib.hid ho8; have HB8 := Lib.hid hb8; have HZ8 := Lib.hid (show W.heap.size ≤ w8.heap.size by have := hg8.size; simp at this; omega); clear ho8 hb8 hg8)
      go_roundw
      case rel =>
        refine ⟨k + 1, by have := HI.out; omega, by rw [HI.out]; go_num, ?_, HB8.out, HZ8.out⟩
        have := HO8.out
        rwa [List.append_assoc, List.append_assoc, ← List.replicate_succ'] at this
      case measure => simp [intOf]; have := HI.out; omega
    · have HE := Lib.hid (show k = wd - s.size by have := HI.out; omega)
      go_wp2
      go_ret
      refine ⟨_, rfl, ?_, HBk.out, hz⟩
      rw [HR.out, ← HE.out]
      exact HOk.out

theorem rput_any (n w : Int) (hn : -9223372036854775808 ≤ n ∧ n ≤ 9223372036854775807) (W : World) :
    Calls Try.prog 43 #[.int .i64 n, .int .i64 w] W fun e w' => ∃ A c, e = .returned (.tuple #[.slice A (putS n w).1.length c, .int .i64 (putS n w).2]) ∧ RC w' A (putS n w).1 ∧ Below W.heap.size W w' := by
  refine (PSeal.tabularyref07_Put.calls 61 n w _ _ W (RefPure.rput n w hn 61 (by decide))).mono ?_
  rintro e w' ⟨v, rfl, ho, hb⟩
  obtain ⟨A, c, rfl⟩ := Kd.R_slice ho
  exact ⟨A, c, rfl, RC.of_C (Kd.R_reads' ho).2.2, hb⟩
set_option maxRecDepth 100000 in
set_option maxHeartbeats 4000000 in
theorem number_gen (base : Nat) (w0 : World) (v : Value) (l R m : List Int) (n wi : Int) (W : World) (hm : m = (putS n wi).1) (hR : R = l ++ m) (hn : -9223372036854775808 ≤ n ∧ n ≤ 9223372036854775807) (hll : l.length ≤ 100000)
    (ho : OWN W base v l) (hb : Below base w0 W) (hbase : base ≤ W.heap.size) :
    Calls Try.prog 33 #[v, .int .i64 n, .int .i64 wi] W fun e w' => ∃ v', e = .returned v' ∧ OWN w' base v' R ∧ Below base w0 w' ∧ W.heap.size ≤ w'.heap.size := by
  have HO := Lib.hid ho
  have HB := Lib.hid hb
  have HR := Lib.hid hR
  have HM := Lib.hid hm
  have HML := Lib.hid (show m.length ≤ 13 by rw [hm]; exact putS_len n wi)
  clear ho hb hR hm
  go_enter Try.func33, Try.ntmps33
  go_wp2_with (first
    | (go_at_call 43; (with_reducible refine (rput_any n wi hn _).mono ?_); rw [← HM.out]; rintro e w1 ⟨A, c, rfl, hr, hb1⟩; have HRC := Lib.hid hr; have HO1 := Lib.hid (HO.out.below hb1); have HZ1 := Lib.hid hb1.size; have HB1 := Lib.hid (below_then HB.out hbase hb1); clear hr hb1)
    | ((with_reducible refine gate_builtin (b := .append) (xs := #[.tmp 15, .tmp 16]) rfl ?_); refine own_append (w0 := w0) rfl (.tmp 15) (.tmp 16) rfl base v l m _ _ rfl rfl HO1.out HRC.out HB1.out (Nat.le_trans hbase HZ1.out) (by have := HML.out; omega) ?_; intro v8 w8 ho8 hb8 hg8; have HO8 := Lib.hid ho8; have HB8 := Lib.hid hb8; have HZ8 := Lib.hid (Nat.le_trans HZ1.out hg8.size); clear ho8 hb8 hg8))
  go_ret
  refine ⟨_, rfl, ?_, HB8.out, HZ8.out⟩
  rw [HR.out]
  exact HO8.out

def USTAR : ByteArray := ⟨#[117, 115, 116, 97, 114, 0, 48, 48]⟩
/-- A head's bytes ahead of the seal, one behind the other. -/
def rbodyS (n p : ByteArray) (m s t y : Int) (k : ByteArray) : List Int :=
  ((((((((((((((([] ++ tx n 100) ++ (putS m 8).1) ++ (putS 0 8).1) ++ (putS 0 8).1) ++ (putS s 12).1) ++ (putS t 12).1) ++ tx ⟨#[]⟩ 8) ++ [y]) ++ tx k 100) ++ tx USTAR 8) ++ tx ⟨#[]⟩ 64) ++ (putS 0 8).1) ++ (putS 0 8).1) ++ tx p 155) ++ tx ⟨#[]⟩ 12)
theorem tx_len {s : ByteArray} {wd : Nat} (h : s.size ≤ wd) : (tx s wd).length = wd := by
  unfold tx
  rw [List.length_append, bytesOf_length, List.length_replicate]; omega
set_option maxRecDepth 100000 in
set_option maxHeartbeats 16000000 in
theorem lay_gen (n p : ByteArray) (m s t y : Int) (k : ByteArray) (B R : List Int) (K : Nat) (W : World) (hBd : B = rbodyS n p m s t y k) (hR : PSeal.tabularyref10_Seal.f K B = some R) (hn : n.size ≤ 100) (hp : p.size ≤ 155) (hk : k.size ≤ 100)
    (hm : -9223372036854775808 ≤ m ∧ m ≤ 9223372036854775807) (hs : -9223372036854775808 ≤ s ∧ s ≤ 9223372036854775807) (ht : -9223372036854775808 ≤ t ∧ t ≤ 9223372036854775807) :
    Calls Try.prog 37 #[.agg #[.string n, .string p, .int .i64 m, .int .i64 s, .int .i64 t, .int .u8 y, .string k]] W fun e w' => ∃ v, e = .returned v ∧ OWN w' W.heap.size v R ∧ Below W.heap.size W w' := by
  obtain ⟨l1, el1⟩ : ∃ l, l = [] ++ tx n 100 := ⟨_, rfl⟩
  obtain ⟨l2, el2⟩ : ∃ l, l = l1 ++ (putS m 8).1 := ⟨_, rfl⟩
  obtain ⟨l3, el3⟩ : ∃ l, l = l2 ++ (putS 0 8).1 := ⟨_, rfl⟩
  obtain ⟨l4, el4⟩ : ∃ l, l = l3 ++ (putS 0 8).1 := ⟨_, rfl⟩
  obtain ⟨l5, el5⟩ : ∃ l, l = l4 ++ (putS s 12).1 := ⟨_, rfl⟩
  obtain ⟨l6, el6⟩ : ∃ l, l = l5 ++ (putS t 12).1 := ⟨_, rfl⟩
  obtain ⟨l7, el7⟩ : ∃ l, l = l6 ++ tx ⟨#[]⟩ 8 := ⟨_, rfl⟩
  obtain ⟨l8, el8⟩ : ∃ l, l = l7 ++ [y] := ⟨_, rfl⟩
  obtain ⟨l9, el9⟩ : ∃ l, l = l8 ++ tx k 100 := ⟨_, rfl⟩
  obtain ⟨l10, el10⟩ : ∃ l, l = l9 ++ tx ⟨#[117, 115, 116, 97, 114, 0, 48, 48]⟩ 8 := ⟨_, rfl⟩
  obtain ⟨l11, el11⟩ : ∃ l, l = l10 ++ tx ⟨#[]⟩ 64 := ⟨_, rfl⟩
  obtain ⟨l12, el12⟩ : ∃ l, l = l11 ++ (putS 0 8).1 := ⟨_, rfl⟩
  obtain ⟨l13, el13⟩ : ∃ l, l = l12 ++ (putS 0 8).1 := ⟨_, rfl⟩
  obtain ⟨l14, el14⟩ : ∃ l, l = l13 ++ tx p 155 := ⟨_, rfl⟩
  obtain ⟨l15, el15⟩ : ∃ l, l = l14 ++ tx ⟨#[]⟩ 12 := ⟨_, rfl⟩
  have q0 : ([] : List Int).length ≤ 0 := Nat.le_refl _
  have q1 : l1.length ≤ 100 := by rw [el1, List.length_append]; have := tx_len (s := n) (wd := 100) hn; omega
  have q2 : l2.length ≤ 113 := by rw [el2, List.length_append]; have := putS_len m 8; omega
  have q3 : l3.length ≤ 126 := by rw [el3, List.length_append]; have := putS_len 0 8; omega
  have q4 : l4.length ≤ 139 := by rw [el4, List.length_append]; have := putS_len 0 8; omega
  have q5 : l5.length ≤ 152 := by rw [el5, List.length_append]; have := putS_len s 12; omega
  have q6 : l6.length ≤ 165 := by rw [el6, List.length_append]; have := putS_len t 12; omega
  have q7 : l7.length ≤ 173 := by rw [el7, List.length_append]; have := tx_len (s := ⟨#[]⟩) (wd := 8) (by decide); omega
  have q8 : l8.length ≤ 174 := by rw [el8, List.length_append]; simp only [List.length_cons, List.length_nil]; omega
  have q9 : l9.length ≤ 274 := by rw [el9, List.length_append]; have := tx_len (s := k) (wd := 100) hk; omega
  have q10 : l10.length ≤ 282 := by rw [el10, List.length_append]; have := tx_len (s := ⟨#[117, 115, 116, 97, 114, 0, 48, 48]⟩) (wd := 8) (by decide); omega
  have q11 : l11.length ≤ 346 := by rw [el11, List.length_append]; have := tx_len (s := ⟨#[]⟩) (wd := 64) (by decide); omega
  have q12 : l12.length ≤ 359 := by rw [el12, List.length_append]; have := putS_len 0 8; omega
  have q13 : l13.length ≤ 372 := by rw [el13, List.length_append]; have := putS_len 0 8; omega
  have q14 : l14.length ≤ 527 := by rw [el14, List.length_append]; have := tx_len (s := p) (wd := 155) hp; omega
  have q15 : l15.length ≤ 539 := by rw [el15, List.length_append]; have := tx_len (s := ⟨#[]⟩) (wd := 12) (by decide); omega
  have hl15 : l15 = B := by rw [hBd, el15, el14, el13, el12, el11, el10, el9, el8, el7, el6, el5, el4, el3, el2, el1]; rfl
  have Q1 := Lib.hid q1
  have E1 := Lib.hid el1
  have Q2 := Lib.hid q2
  have E2 := Lib.hid el2
  have Q3 := Lib.hid q3
  have E3 := Lib.hid el3
  have Q4 := Lib.hid q4
  have E4 := Lib.hid el4
  have Q5 := Lib.hid q5
  have E5 := Lib.hid el5
  have Q6 := Lib.hid q6
  have E6 := Lib.hid el6
  have Q7 := Lib.hid q7
  have E7 := Lib.hid el7
  have Q8 := Lib.hid q8
  have E8 := Lib.hid el8
  have Q9 := Lib.hid q9
  have E9 := Lib.hid el9
  have Q10 := Lib.hid q10
  have E10 := Lib.hid el10
  have Q11 := Lib.hid q11
  have E11 := Lib.hid el11
  have Q12 := Lib.hid q12
  have E12 := Lib.hid el12
  have Q13 := Lib.hid q13
  have E13 := Lib.hid el13
  have Q14 := Lib.hid q14
  have E14 := Lib.hid el14
  have Q15 := Lib.hid q15
  have E15 := Lib.hid el15
  have HR := Lib.hid hR
  have HL15 := Lib.hid hl15
  clear hR hBd hl15 q0 q1 q2 q3 q4 q5 q6 q7 q8 q9 q10 q11 q12 q13 q14 q15 el1 el2 el3 el4 el5 el6 el7 el8 el9 el10 el11 el12 el13 el14 el15
  obtain ⟨w0, hw0⟩ : ∃ w0 : World, w0 = W.alloc (.cells #[.string n, .string p, .int .i64 m, .int .i64 s, .int .i64 t, .int .u8 y, .string k] TH) := ⟨_, rfl⟩
  have HBX := Lib.hid (show w0.heap[W.heap.size]? = some (.cells #[.string n, .string p, .int .i64 m, .int .i64 s, .int .i64 t, .int .u8 y, .string k] TH (0, 0)) by rw [hw0]; exact blk_new _ _)
  have HS0 := Lib.hid (show w0.heap.size = W.heap.size + 1 by rw [hw0]; simp)
  have HW0 := Lib.hid (show Below W.heap.size W w0 by rw [hw0]; exact (Below.refl _ _).alloc (Nat.le_refl _) _)
  have HWW := Lib.hid hw0
  have HCE := Lib.hid (show ∀ w', Below w0.heap.size w0 w' → ∀ j v, (#[.string n, .string p, .int .i64 m, .int .i64 s, .int .i64 t, .int .u8 y, .string k] : Array Value)[j]? = some v → w'.cell? ⟨W.heap.size, j, none⟩ = some v from fun w' hb j v hv => by
    rw [blk_cell (blk_below HBX.out hb), hv])
  clear hw0
  go_enter Try.func37, Try.ntmps37
  have hb0 : Below w0.heap.size w0 w0 := Below.refl _ _
  have HB0 := Lib.hid hb0
  have x0 := HCE.out w0 hb0 0 _ rfl
  have x0' := x0
  rw [HWW.out] at x0'
  clear hb0 x0
  have tk0 : True := trivial
  go_wp2_with (first
    | (go_at_call 46; have _tk := tk0; go_loud (rw [← HWW.out]; (with_reducible refine (text_gen w0.heap.size w0 (.slice none 0 0) [] l1 n 100 100 rfl _ E1.out hn (by decide) (by decide) (OWN.none _ _) HB0.out (Nat.le_refl _)).mono ?_)); rintro e w1 ⟨v1, rfl, ho, hb, hz⟩; have HO1 := Lib.hid ho; have HB1 := Lib.hid hb; have HZ1 := Lib.hid (Nat.le_trans (Nat.le_refl _) hz); have tk1 : True := trivial; clear x0'; have x2 := HCE.out w1 HB1.out 2 _ rfl; clear tk0 _tk ho hb hz)
    | (go_at_call 33; have _tk := tk1; (with_reducible refine (number_gen w0.heap.size w0 (v1) l1 l2 _ m 8 _ rfl E2.out hm (by have := Q1.out; omega) HO1.out HB1.out HZ1.out).mono ?_); rintro e w2 ⟨v2, rfl, ho, hb, hz⟩; have HO2 := Lib.hid ho; have HB2 := Lib.hid hb; have HZ2 := Lib.hid (Nat.le_trans HZ1.out hz); have tk2 : True := trivial; clear x2; clear tk1 _tk ho hb hz)
    | (go_at_call 33; have _tk := tk2; (with_reducible refine (number_gen w0.heap.size w0 (v2) l2 l3 _ 0 8 _ rfl E3.out (by decide) (by have := Q2.out; omega) HO2.out HB2.out HZ2.out).mono ?_); rintro e w3 ⟨v3, rfl, ho, hb, hz⟩; have HO3 := Lib.hid ho; have HB3 := Lib.hid hb; have HZ3 := Lib.hid (Nat.le_trans HZ2.out hz); have tk3 : True := trivial; clear tk2 _tk ho hb hz)
    | (go_at_call 33; have _tk := tk3; (with_reducible refine (number_gen w0.heap.size w0 (v3) l3 l4 _ 0 8 _ rfl E4.out (by decide) (by have := Q3.out; omega) HO3.out HB3.out HZ3.out).mono ?_); rintro e w4 ⟨v4, rfl, ho, hb, hz⟩; have HO4 := Lib.hid ho; have HB4 := Lib.hid hb; have HZ4 := Lib.hid (Nat.le_trans HZ3.out hz); have tk4 : True := trivial; have x3 := HCE.out w4 HB4.out 3 _ rfl; clear tk3 _tk ho hb hz)
    | (go_at_call 33; have _tk := tk4; (with_reducible refine (number_gen w0.heap.size w0 (v4) l4 l5 _ s 12 _ rfl E5.out hs (by have := Q4.out; omega) HO4.out HB4.out HZ4.out).mono ?_); rintro e w5 ⟨v5, rfl, ho, hb, hz⟩; have HO5 := Lib.hid ho; have HB5 := Lib.hid hb; have HZ5 := Lib.hid (Nat.le_trans HZ4.out hz); have tk5 : True := trivial; clear x3; have x4 := HCE.out w5 HB5.out 4 _ rfl; clear tk4 _tk ho hb hz)
    | (go_at_call 33; have _tk := tk5; (with_reducible refine (number_gen w0.heap.size w0 (v5) l5 l6 _ t 12 _ rfl E6.out ht (by have := Q5.out; omega) HO5.out HB5.out HZ5.out).mono ?_); rintro e w6 ⟨v6, rfl, ho, hb, hz⟩; have HO6 := Lib.hid ho; have HB6 := Lib.hid hb; have HZ6 := Lib.hid (Nat.le_trans HZ5.out hz); have tk6 : True := trivial; clear x4; clear tk5 _tk ho hb hz)
    | (go_at_call 46; have _tk := tk6; (with_reducible refine (text_gen w0.heap.size w0 (v6) l6 l7 ⟨#[]⟩ 8 8 rfl _ E7.out (by decide) (by decide) (by have := Q6.out; omega) (HO6.out) HB6.out HZ6.out).mono ?_); rintro e w7 ⟨v7, rfl, ho, hb, hz⟩; have HO7 := Lib.hid ho; have HB7 := Lib.hid hb; have HZ7 := Lib.hid (Nat.le_trans HZ6.out hz); have tk7 : True := trivial; have x5 := HCE.out w7 HB7.out 5 _ rfl; clear tk6 _tk ho hb hz)
    | ((with_reducible refine gate_builtin (b := .append) (xs := #[.tmp 25, .tmp 28]) rfl ?_); have _tk := tk7; refine own_append (w0 := w0) rfl (.tmp 25) (.tmp 28) rfl w0.heap.size v7 l7 [y] _ _ rfl rfl (HO7.out.alloc _) (bytes_new w7 5 [y] (0, 0)) (HB7.out.alloc HZ7.out _) (by have := HZ7.out; simp; omega) (by have := Q7.out; simp; omega) ?_; rw [← E8.out]; intro v8 w8 ho hb hg; have hz : w7.heap.size ≤ w8.heap.size := (by have := hg.size; simp at this; omega); clear hg; have HO8 := Lib.hid ho; have HB8 := Lib.hid hb; have HZ8 := Lib.hid (Nat.le_trans HZ7.out hz); have tk8 : True := trivial; clear x5; have x6 := HCE.out w8 HB8.out 6 _ rfl; clear tk7 _tk ho hb hz)
    | (go_at_call 46; have _tk := tk8; (with_reducible refine (text_gen w0.heap.size w0 (v8) l8 l9 k 100 100 rfl _ E9.out hk (by decide) (by have := Q8.out; omega) (HO8.out) HB8.out HZ8.out).mono ?_); rintro e w9 ⟨v9, rfl, ho, hb, hz⟩; have HO9 := Lib.hid ho; have HB9 := Lib.hid hb; have HZ9 := Lib.hid (Nat.le_trans HZ8.out hz); have tk9 : True := trivial; clear x6; clear tk8 _tk ho hb hz)
    | (go_at_call 46; have _tk := tk9; (with_reducible refine (text_gen w0.heap.size w0 (v9) l9 l10 ⟨#[117, 115, 116, 97, 114, 0, 48, 48]⟩ 8 8 rfl _ E10.out (by decide) (by decide) (by have := Q9.out; omega) (HO9.out) HB9.out HZ9.out).mono ?_); rintro e w10 ⟨v10, rfl, ho, hb, hz⟩; have HO10 := Lib.hid ho; have HB10 := Lib.hid hb; have HZ10 := Lib.hid (Nat.le_trans HZ9.out hz); have tk10 : True := trivial; clear tk9 _tk ho hb hz)
    | (go_at_call 46; have _tk := tk10; (with_reducible refine (text_gen w0.heap.size w0 (v10) l10 l11 ⟨#[]⟩ 64 64 rfl _ E11.out (by decide) (by decide) (by have := Q10.out; omega) (HO10.out) HB10.out HZ10.out).mono ?_); rintro e w11 ⟨v11, rfl, ho, hb, hz⟩; have HO11 := Lib.hid ho; have HB11 := Lib.hid hb; have HZ11 := Lib.hid (Nat.le_trans HZ10.out hz); have tk11 : True := trivial; clear tk10 _tk ho hb hz)
    | (go_at_call 33; have _tk := tk11; (with_reducible refine (number_gen w0.heap.size w0 (v11) l11 l12 _ 0 8 _ rfl E12.out (by decide) (by have := Q11.out; omega) HO11.out HB11.out HZ11.out).mono ?_); rintro e w12 ⟨v12, rfl, ho, hb, hz⟩; have HO12 := Lib.hid ho; have HB12 := Lib.hid hb; have HZ12 := Lib.hid (Nat.le_trans HZ11.out hz); have tk12 : True := trivial; clear tk11 _tk ho hb hz)
    | (go_at_call 33; have _tk := tk12; (with_reducible refine (number_gen w0.heap.size w0 (v12) l12 l13 _ 0 8 _ rfl E13.out (by decide) (by have := Q12.out; omega) HO12.out HB12.out HZ12.out).mono ?_); rintro e w13 ⟨v13, rfl, ho, hb, hz⟩; have HO13 := Lib.hid ho; have HB13 := Lib.hid hb; have HZ13 := Lib.hid (Nat.le_trans HZ12.out hz); have tk13 : True := trivial; have x1 := HCE.out w13 HB13.out 1 _ rfl; clear tk12 _tk ho hb hz)
    | (go_at_call 46; have _tk := tk13; (with_reducible refine (text_gen w0.heap.size w0 (v13) l13 l14 p 155 155 rfl _ E14.out hp (by decide) (by have := Q13.out; omega) (HO13.out) HB13.out HZ13.out).mono ?_); rintro e w14 ⟨v14, rfl, ho, hb, hz⟩; have HO14 := Lib.hid ho; have HB14 := Lib.hid hb; have HZ14 := Lib.hid (Nat.le_trans HZ13.out hz); have tk14 : True := trivial; clear x1; clear tk13 _tk ho hb hz)
    | (go_at_call 46; have _tk := tk14; (with_reducible refine (text_gen w0.heap.size w0 (v14) l14 l15 ⟨#[]⟩ 12 12 rfl _ E15.out (by decide) (by decide) (by have := Q14.out; omega) (HO14.out) HB14.out HZ14.out).mono ?_); rintro e w15 ⟨v15, rfl, ho, hb, hz⟩; have HO15 := Lib.hid ho; have HB15 := Lib.hid hb; have HZ15 := Lib.hid (Nat.le_trans HZ14.out hz); have tk15 : True := trivial; clear tk14 _tk ho hb hz)
    | (go_at_call 20; have _tk := tk15; obtain ⟨A, c, hv, hc, hr, _⟩ := HO15.out.form; subst hv; rw [HL15.out] at hr hc ⊢; have HRC := Lib.hid hr; clear hr; (with_reducible refine (PSeal.tabularyref10_Seal.calls K A c B R _ (HRC.out.to_C (by have := Q15.out; rw [HL15.out] at this; omega)) hc HR.out).mono ?_); rintro e w16 ⟨v16, rfl, ho, hb⟩; have HO16 := Lib.hid ho; have HB16 := Lib.hid hb; clear tk15 _tk ho hb))
  go_ret
  refine ⟨_, rfl, ?_, ?_⟩
  · refine Kd.R_lower HO16.out ?_
    have h1 := HS0.out
    have h2 := HZ15.out
    omega
  · have h1 : W.heap.size ≤ w0.heap.size := by rw [HS0.out]; omega
    have hb15 : Below W.heap.size W w15 := below_then HW0.out h1 HB15.out
    exact below_then hb15 (Nat.le_trans h1 HZ15.out) HB16.out

def rlayF (n p : ByteArray) (m s t y : Int) (k : ByteArray) : Option (List Int) :=
  if n.size ≤ 100 ∧ p.size ≤ 155 ∧ k.size ≤ 100 ∧ (-9223372036854775808 ≤ m ∧ m ≤ 9223372036854775807) ∧ (-9223372036854775808 ≤ s ∧ s ≤ 9223372036854775807) ∧ (-9223372036854775808 ≤ t ∧ t ≤ 9223372036854775807) then PSeal.tabularyref10_Seal.f 1000 (rbodyS n p m s t y k) else none
theorem rlay_calls (n p : ByteArray) (m s t y : Int) (k : ByteArray) (r : List Int) (w : World) (h : rlayF n p m s t y k = some r) :
    Calls Try.prog 37 #[.agg #[.string n, .string p, .int .i64 m, .int .i64 s, .int .i64 t, .int .u8 y, .string k]] w fun e w' => ∃ v0_ : Value, e = .returned (v0_) ∧ Kd.R (Kd.int .u8) 5 w' w.heap.size (fun _ => True) v0_ r ∧ Below w.heap.size w w' := by
  unfold rlayF at h
  split at h
  · rename_i hc
    exact lay_gen n p m s t y k _ r 1000 w rfl h hc.1 hc.2.1 hc.2.2.1 hc.2.2.2.1 hc.2.2.2.2.1 hc.2.2.2.2.2
  · cases h
end Go.Proofs.Ytdmpbfhbjklajaa.RefLay
