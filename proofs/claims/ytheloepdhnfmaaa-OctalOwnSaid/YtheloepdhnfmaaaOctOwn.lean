/- OctalOwn walked: what Put answers is new memory, its spare room too. -/
import Derived.Test.YtheloepdhnfmaaaOctPure
import Derived.Test.YtheloepdhnfmaaaOwn3
namespace Go.Proofs.Ytheloepdhnfmaaa.OctOwn
open Go.Proofs.Ytheloepdhnfmaaa Go.RowKit Go.Proofs.YtheloepdhnfmaaaW.PrintWords Go.Proofs.YtheloepdhnfmaaaW.PrintLast Go.Proofs.YtheloepdhnfmaaaW.PrintMore Go.Proofs.Ytheloepdhnfmaaa.POctalOwn Go.Proofs.Ytheloepdhnfmaaa.OctPure Go.Proofs.Ytheloepdhnfmaaa.Own3
set_option linter.unusedVariables false
set_option linter.unusedSimpArgs false
theorem len_pos (n w : Int) (h : (putS n w).2 = 0) : 0 < (putS n w).1.length ∧ (putS n w).1.length ≤ 13 := by
  refine ⟨?_, putS_len n w⟩
  unfold putS at h ⊢
  split
  · split
    · simp
    · split
      · simp
      · rename_i a b c
        rw [if_pos a, if_neg b, if_neg c] at h
        cases h
  · rename_i a
    rw [if_neg a] at h
    cases h
theorem put_ok (n w : Int) (L : List Int) (m : Nat) (hn : -9223372036854775808 ≤ n ∧ n ≤ 9223372036854775807) (h : putS n w = (L, 0)) (hm : m = L.length) (hm0 : 0 < m) (W : World) :
    Calls Try.prog 11 #[.int .i64 n, .int .i64 w] W fun e w' => ∃ g cap, e = .returned (.tuple #[.slice (some ⟨g, 0, none⟩) m cap, .int .i64 0]) ∧ W.heap.size ≤ g ∧ m ≤ cap ∧ ROOM w' g cap ∧ PART w' g m 0 0 ∧ Below W.heap.size W w' := by
  subst hm
  refine (octal_Put.calls 30 n w L 0 W (by rw [put_oct n w hn 30 (by omega), h])).mono ?_
  rintro e w' ⟨v, rfl, hv, hb⟩
  obtain ⟨g, cap, rfl, h1, h2, h3, h4⟩ := part_of_row hv hm0
  exact ⟨g, cap, rfl, h1, h2, h3, h4, hb⟩
theorem put_no (n w : Int) (E : Int) (hn : -9223372036854775808 ≤ n ∧ n ≤ 9223372036854775807) (h : E = (putS n w).2) (W : World) :
    Calls Try.prog 11 #[.int .i64 n, .int .i64 w] W fun e w' => ∃ A m c, e = .returned (.tuple #[.slice A m c, .int .i64 E]) ∧ Below W.heap.size W w' := by
  subst h
  refine (octal_Put.calls 30 n w _ _ W (put_oct n w hn 30 (by omega))).mono ?_
  rintro e w' ⟨v, rfl, hv, hb⟩
  obtain ⟨A, c, rfl⟩ := Kd.R_slice hv
  exact ⟨A, _, c, rfl, hb⟩
theorem put_exact (n w : Int) (L : List Int) (m : Nat) (hn : -9223372036854775808 ≤ n ∧ n ≤ 9223372036854775807) (h : putS n w = (L, 0)) (hm : m = L.length) (W : World) :
    Calls Try.prog 11 #[.int .i64 n, .int .i64 w] W fun e w' => ∃ A cap, e = .returned (.tuple #[.slice A m cap, .int .i64 0]) ∧ m ≤ cap ∧ Kd.C (Kd.int .u8) w' A m L ∧ Below W.heap.size W w' := by
  subst hm
  refine (octal_Put.calls 30 n w L 0 W (by rw [put_oct n w hn 30 (by omega), h])).mono ?_
  rintro e w' ⟨v, rfl, hv, hb⟩
  obtain ⟨A, c, rfl, h2, h3⟩ := Kd.R_reads hv
  exact ⟨A, c, rfl, h2, h3, hb⟩
theorem exact_at (n w : Int) (L : List Int) (m : Nat) (hn : -9223372036854775808 ≤ n ∧ n ≤ 9223372036854775807) (h : putS n w = (L, 0)) (hm : m = L.length) (A : Option Addr) (c : Nat) (W : World) (hc : m ≤ c) (hC : Kd.C (Kd.int .u8) W A m L) :
    Calls Try.prog 20 #[.slice A m c] W fun e w' => e = .returned (.tuple #[.int .i64 n, .int .i64 0]) ∧ Below W.heap.size W w' := by
  subst hm
  have h2 := exact_put n w hn (by rw [h])
  have hb := putS_bytes n w
  rw [h] at h2 hb
  exact octal_Exact.calls 61 A c L n 0 W hC hc (by rw [exact_oct L hb 61 (by omega), h2])
theorem awake_at (w : World) : Calls Try.prog 22 #[] w fun e w' => e = .returned (.bool true) ∧ Below w.heap.size w w' :=
  tabularylaw07_awake.calls 101 true w (awake_true 101 (by decide))
def U (r : Nat) : Int := 7 * r
def V (r : Nat) : Int := 7 * r + 1
def fn3 (a b c : Nat) (r : Nat) : Nat := if r = 0 then a else if r = 1 then b else c

set_option maxRecDepth 100000 in
set_option maxHeartbeats 4000000 in
theorem bad (a0 a1 a2 : Int) (E F : Int) (W : World) (h0 : -9223372036854775808 ≤ a0 ∧ a0 ≤ 9223372036854775807) (h1 : -9223372036854775808 ≤ a1 ∧ a1 ≤ 9223372036854775807)
    (hE : E = (putS a0 a2).2) (hF : F = (putS a1 a2).2) (hn : ¬ (E = 0 ∧ F = 0)) :
    Calls Try.prog 9 #[.int .i64 a0, .int .i64 a1, .int .i64 a2] W fun e w' => e = .returned (.bool true) ∧ Below W.heap.size W w' := by
  have HE := Lib.hid hE
  have HF := Lib.hid hF
  have H0 := Lib.hid h0
  have H1 := Lib.hid h1
  have tk0 : True := trivial
  clear hE hF h0 h1
  by_cases e0 : E = 0
  · have f0 : (F == 0) = false := by simpa using fun h => hn ⟨e0, h⟩
    have f1 : (F != 0) = true := by simpa using fun h => hn ⟨e0, h⟩
    subst e0
    clear hn
    go_enter Try.func9, Try.ntmps9
    go_wp2_with (first
      | (go_at_call 22; ((with_reducible refine (awake_at _).mono ?_); rintro e w1 ⟨rfl, hb1⟩; have HW := Lib.hid hb1; clear hb1))
      | (go_at_call 11; ((with_reducible refine (put_no a0 a2 0 H0.out HE.out _).mono ?_); rintro e w2 ⟨A2, m2, c2, rfl, hb2⟩; have hb := HW.out.trans (hb2.mono HW.out.size); clear hb2; clear HW; have HW := Lib.hid hb; clear hb))
      | (go_at_call 11; ((with_reducible refine (put_no a1 a2 F H1.out HF.out _).mono ?_); rintro e w2 ⟨A3, m3, c3, rfl, hb2⟩; have hb := HW.out.trans (hb2.mono HW.out.size); clear hb2; clear HW; have HW := Lib.hid hb; clear hb)))
    go_ret
    exact ⟨rfl, HW.out⟩
  · have f0 : (E == 0) = false := by simpa using e0
    have f1 : (E != 0) = true := by simpa using e0
    clear e0 hn
    go_enter Try.func9, Try.ntmps9
    go_wp2_with (first
      | (go_at_call 22; ((with_reducible refine (awake_at _).mono ?_); rintro e w1 ⟨rfl, hb1⟩; have HW := Lib.hid hb1; clear hb1))
      | (go_at_call 11; ((with_reducible refine (put_no a0 a2 E H0.out HE.out _).mono ?_); rintro e w2 ⟨A2, m2, c2, rfl, hb2⟩; have hb := HW.out.trans (hb2.mono HW.out.size); clear hb2; clear HW; have HW := Lib.hid hb; clear hb))
      | (go_at_call 11; ((with_reducible refine (put_no a1 a2 F H1.out HF.out _).mono ?_); rintro e w2 ⟨A3, m3, c3, rfl, hb2⟩; have hb := HW.out.trans (hb2.mono HW.out.size); clear hb2; clear HW; have HW := Lib.hid hb; clear hb)))
    go_ret
    exact ⟨by simp, HW.out⟩

theorem info22 : (Try.prog.info? 22).map (fun i => (i.zero, i.size, i.bytes)) = some (some (.slice none 0 0), 1, 24) := by kernel_rfl
theorem all_three {w : World} {n ga gb gc ca cb cc : Nat} {g cap : Nat → Nat} (hg : g = fn3 ga gb gc) (hcap : cap = fn3 ca cb cc) (ra : ROOM w ga ca) (rb : ROOM w gb cb) (rc : ROOM w gc cc) (la : n ≤ ca) (lb : n ≤ cb) (lc : n ≤ cc) (hab : ga < gb) (hbc : gb < gc) :
    ALL (w.alloc (.cells #[.slice (some ⟨ga, 0, none⟩) n ca, .slice (some ⟨gb, 0, none⟩) n cb, .slice (some ⟨gc, 0, none⟩) n cc] 22)) w.heap.size n g cap := by
  subst hg hcap
  have sp : ∀ r, r < 3 → r = 0 ∨ r = 1 ∨ r = 2 := fun r hr => by omega
  refine ⟨⟨_, heap_alloc_new w _, fun r hr => ?_⟩, fun r hr => ?_, fun r hr => ?_, fun r s hr hs e => ?_⟩
  · rcases sp r hr with rfl | rfl | rfl <;> rfl
  · rcases sp r hr with rfl | rfl | rfl
    · exact ra.of (Below.heap_alloc w _ _ ra.lt)
    · exact rb.of (Below.heap_alloc w _ _ rb.lt)
    · exact rc.of (Below.heap_alloc w _ _ rc.lt)
  · rcases sp r hr with rfl | rfl | rfl
    · exact la
    · exact lb
    · exact lc
  · rcases sp r hr with rfl | rfl | rfl <;> rcases sp s hs with rfl | rfl | rfl <;> first | rfl | (simp [fn3] at e; omega)
theorem fill_three {w : World} {o : Obj} {n ga gb gc : Nat} {g : Nat → Nat} {U : Nat → Int} (hg : g = fn3 ga gb gc) (pa : PART w ga n 0 0) (pb : PART w gb n 0 0) (pc : PART w gc n 0 0) (la : ga < w.heap.size) (lb : gb < w.heap.size) (lc : gc < w.heap.size) : FILL (w.alloc o) n g U 0 0 := by
  subst hg
  refine FILL.start fun r hr => ?_
  have sp : r = 0 ∨ r = 1 ∨ r = 2 := by omega
  rcases sp with rfl | rfl | rfl
  · exact pa.of (Below.heap_alloc w _ _ la)
  · exact pb.of (Below.heap_alloc w _ _ lb)
  · exact pc.of (Below.heap_alloc w _ _ lc)
theorem three_from {B ga gb gc : Nat} {g : Nat → Nat} (hg : g = fn3 ga gb gc) (a : B ≤ ga) (b : B ≤ gb) (c : B ≤ gc) : ∀ r, r < 3 → B ≤ g r := fun r hr => by
  subst hg
  have sp : r = 0 ∨ r = 1 ∨ r = 2 := by omega
  rcases sp with rfl | rfl | rfl
  · exact a
  · exact b
  · exact c

set_option maxRecDepth 100000 in
set_option maxHeartbeats 4000000 in
theorem good (a0 a1 a2 : Int) (L M : List Int) (n : Nat) (W : World) (h0 : -9223372036854775808 ≤ a0 ∧ a0 ≤ 9223372036854775807) (h1 : -9223372036854775808 ≤ a1 ∧ a1 ≤ 9223372036854775807)
    (hE : putS a0 a2 = (L, 0)) (hF : putS a1 a2 = (M, 0)) (hL : n = L.length) (hM : n = M.length) (hn : 0 < n) (hn2 : n ≤ 13) :
    Calls Try.prog 9 #[.int .i64 a0, .int .i64 a1, .int .i64 a2] W fun e w' => e = .returned (.bool true) ∧ Below W.heap.size W w' := by
  have HE := Lib.hid hE
  have HF := Lib.hid hF
  have HL := Lib.hid hL
  have HM := Lib.hid hM
  have H0 := Lib.hid h0
  have H1 := Lib.hid h1
  have tk0 : True := trivial
  clear hE hF h0 h1 hL hM
  go_enter Try.func9, Try.ntmps9
  go_wp2_with (first
      | (go_at_call 22; have _tk := tk0; go_loud ((with_reducible refine (awake_at _).mono ?_); rintro e w1 ⟨rfl, hb1⟩; have HW := Lib.hid hb1; have tk1 : True := trivial; clear hb1 tk0 _tk))
      | (go_at_call 11; have _tk := tk1; go_loud ((with_reducible refine (put_ok a0 a2 L n H0.out HE.out HL.out hn _).mono ?_); rintro e w2 ⟨ga, ca, rfl, hga, hca, ra, pa, hb2⟩; have HGA := Lib.hid (Nat.le_trans HW.out.size hga); have HCA := Lib.hid hca; have RA := Lib.hid ra; have PA := Lib.hid pa; have HW2 := Lib.hid (HW.out.trans (hb2.mono HW.out.size)); have tk2 : True := trivial; clear hb2 hga hca ra pa tk1 _tk))
      | (go_at_call 11; have _tk := tk2; go_loud ((with_reducible refine (put_ok a1 a2 M n H1.out HF.out HM.out hn _).mono ?_); rintro e w3 ⟨gb, cb, rfl, hgb, hcb, rb, pb, hb3⟩; have HGB := Lib.hid (Nat.le_trans HW2.out.size hgb); have HAB := Lib.hid (show ga < gb from Nat.lt_of_lt_of_le RA.out.lt hgb); have HCB := Lib.hid hcb; have RA3 := Lib.hid (RA.out.of (hb3.block _ RA.out.lt)); have PA3 := Lib.hid (PA.out.of (hb3.block _ RA.out.lt)); have RB := Lib.hid rb; have PB := Lib.hid pb; have HW3 := Lib.hid (HW2.out.trans (hb3.mono HW2.out.size)); have tk3 : True := trivial; clear hb3 hgb hcb rb pb tk2 _tk))
      | (go_at_call 11; have _tk := tk3; go_loud ((with_reducible refine (put_ok a0 a2 L n H0.out HE.out HL.out hn _).mono ?_); rintro e w4 ⟨gc, cc, rfl, hgc, hcc, rc, pc, hb4⟩; have HGC := Lib.hid (Nat.le_trans HW3.out.size hgc); have HBC := Lib.hid (show gb < gc from Nat.lt_of_lt_of_le RB.out.lt hgc); have HCC := Lib.hid hcc; have RA4 := Lib.hid (RA3.out.of (hb4.block _ RA3.out.lt)); have PA4 := Lib.hid (PA3.out.of (hb4.block _ RA3.out.lt)); have RB4 := Lib.hid (RB.out.of (hb4.block _ RB.out.lt)); have PB4 := Lib.hid (PB.out.of (hb4.block _ RB.out.lt)); have RC := Lib.hid rc; have PC := Lib.hid pc; have HW4 := Lib.hid (HW3.out.trans (hb4.mono HW3.out.size)); have tk4 : True := trivial; clear hb4 hgc hcc rc pc tk3 _tk)))
  obtain ⟨g, hg⟩ : ∃ g, g = fn3 ga gb gc := ⟨_, rfl⟩
  obtain ⟨cap, hcap⟩ : ∃ cap, cap = fn3 ca cb cc := ⟨_, rfl⟩
  have HALL := Lib.hid (show ALL (w4.alloc (.cells #[.slice (some ⟨ga, 0, none⟩) n ca, .slice (some ⟨gb, 0, none⟩) n cb, .slice (some ⟨gc, 0, none⟩) n cc] 22)) w4.heap.size n g cap from all_three hg hcap RA4.out RB4.out RC.out HCA.out HCB.out HCC.out HAB.out HBC.out)
  have HFILL := Lib.hid (show FILL (w4.alloc (.cells #[.slice (some ⟨ga, 0, none⟩) n ca, .slice (some ⟨gb, 0, none⟩) n cb, .slice (some ⟨gc, 0, none⟩) n cc] 22)) n g U 0 0 from fill_three hg PA4.out PB4.out PC.out RA4.out.lt RB4.out.lt RC.out.lt)
  have HG := Lib.hid (show ∀ r, r < 3 → W.heap.size ≤ g r from three_from hg HGA.out HGB.out HGC.out)
  have HW5 := Lib.hid (HW4.out.alloc HW4.out.size (.cells #[.slice (some ⟨ga, 0, none⟩) n ca, .slice (some ⟨gb, 0, none⟩) n cb, .slice (some ⟨gc, 0, none⟩) n cc] 22))
  clear hg hcap RA RA3 RA4 RB RB4 RC PA PA3 PA4 PB PB4 PC HGA HGB HGC HCA HCB HCC HAB HBC HW HW2 HW3 HW4
  go_loopw [14] (fun v14 wr => ∃ i : Nat, i ≤ 3 ∧ v14 = .int .i64 i ∧ ALL wr w4.heap.size n g cap ∧ FILL wr n g U i 0 ∧ Below W.heap.size W wr) (fun v14 _ => 3 - (intOf v14).toNat)
  case atStart => exact ⟨0, by omega, rfl, HALL.out, HFILL.out, HW5.out⟩
  case round =>
    obtain ⟨i, hi3, rfl, ha, hf, hb⟩ := hrel
    clear HALL HFILL HW5
    have HA := Lib.hid ha
    have HF := Lib.hid hf
    have HB := Lib.hid hb
    clear ha hf hb
    by_cases hi : i < 3
    · go_wp2
      go_loopw [15] (fun v15 wr => ∃ k : Nat, k ≤ n ∧ v15 = .int .i64 k ∧ ALL wr w4.heap.size n g cap ∧ FILL wr n g U i k ∧ Below W.heap.size W wr) (fun v15 _ => n - (intOf v15).toNat)
      case atStart => exact ⟨0, by omega, rfl, HA.out, HF.out, HB.out⟩
      case round =>
        obtain ⟨k, hk, rfl, ha, hf, hb⟩ := hrel
        clear HA HF HB
        have HA := Lib.hid ha
        have HF := Lib.hid hf
        have HB := Lib.hid hb
        have hx := ha.at i hi
        by_cases hlt : k < n
        · obtain ⟨y, hy⟩ := hf.cell i hi k hlt
          have hz := (ha.room i hi).frozen k
          clear ha hf hb
          go_wp2
          go_roundw
          case rel => exact ⟨k + 1, hlt, by go_num, HA.out.set i hi k _, FILL.step HA.out HF.out hi hlt, HB.out.setCell (HG.out i hi) _⟩
          case measure => simp [intOf]; omega
        · have e : k = n := by omega
          clear ha hf hb
          go_wp2
          go_roundw
          case rel => exact ⟨i + 1, by omega, by go_num, HA.out, (by rw [e] at HF; exact HF.out.next), HB.out⟩
          case measure => simp [intOf]; omega
    · have e : i = 3 := by omega
      have HF3 := Lib.hid (show FILL wr n g U 3 0 by have := HF.out; rwa [e] at this)
      clear HF e
      have HF := Lib.hid HF3.out
      clear HF3
      obtain ⟨B, hB⟩ : ∃ B, B = wr.heap.size := ⟨_, rfl⟩
      have hB2 : B ≤ wr.heap.size := by omega
      have HGB := Lib.hid (show ∀ r, r < 3 → g r < B from fun r hr => by rw [hB]; exact (HA.out.room r hr).lt)
      have HHB := Lib.hid (show w4.heap.size < B by rw [hB]; exact HA.out.lt)
      have HB0 := Lib.hid (show W.heap.size ≤ B by rw [hB]; exact HB.out.size)
      clear hB
      go_wp2
      go_loopw [17, 16] (fun v17 v16 w => ∃ i : Nat, i ≤ 3 ∧ v17 = .int .i64 i ∧ B ≤ w.heap.size ∧ ALL3 w w4.heap.size n g cap i ∧ FILL w n g U 3 0 ∧ LONG w B n 20 g U V v16 i ∧ Below W.heap.size W w) (fun v17 _ _ => 3 - (intOf v17).toNat)
      case atStart => exact ⟨0, by omega, rfl, hB2, HA.out.three, HF.out, LONG.start _ _ _ _ _ _ _, HB.out⟩
      case round =>
        obtain ⟨i, hi3, rfl, hb2, ha, hf, hl, hb⟩ := hrel
        clear HA HF HB
        have HA := Lib.hid ha
        have HF := Lib.hid hf
        have HB := Lib.hid hb
        have HLO := Lib.hid hl
        have HB2 := Lib.hid hb2
        clear ha hf hb hl hb2
        by_cases hi : i < 3
        · have hx := HA.out.at i hi
          have hib : decide ((i : Int) < 3) = true := decide_eq_true (by omega)
          have HCM := Lib.hid (came (x := U i) (HA.out.room i (Nat.le_refl _) hi) (HA.out.len i hi) (fun j hj => HF.out.done i hi j hj))
          go_wp2
          clear hx
          go_loopw [18, 19] (fun v18 v19 w => ∃ m : Nat, m ≤ 20 ∧ v19 = .int .i64 m ∧ Onto wr 5 1 (some ⟨g i, 0, none⟩) (g i) 0 n (cap i) (List.replicate n (byt (U i))) w v18 m (List.replicate m (byt (V i))) ∧ w.ownsRow W.heap.size 5 1 v18 (n + m) (List.replicate n (byt (U i)) ++ List.replicate m (byt (V i))) ∧ Below W.heap.size W w) (fun _ v19 _ => 20 - (intOf v19).toNat)
          case atStart => exact ⟨0, by omega, rfl, Onto.start HCM.out, by rw [List.replicate_zero, List.append_nil]; exact owns_room (HA.out.room i (Nat.le_refl _) hi) (HG.out i hi) (HA.out.len i hi) (fun j hj => HF.out.done i hi j hj), HB.out⟩
          case round =>
            obtain ⟨m, hm, rfl, ho, how, hbw⟩ := hrel
            have HO := Lib.hid ho
            have HOWN := Lib.hid how
            have HBW := Lib.hid hbw
            clear ho how hbw
            by_cases hlt : m < 20
            · obtain ⟨i5, hi5⟩ := info_parts info5
              have HI5 := Lib.hid hi5
              clear hi5
              go_wp2_with ((with_reducible refine gate_builtin (b := .append) (xs := #[.tmp 97, .tmp 102]) rfl ?_); at_builtin; go_loud (refine wpList_append_both _ rfl (.tmp 97) (.tmp 102) 22 rfl HCM.out i5 (.int .u8 0) 1 Try.underlying22 HI5.out.1 HI5.out.2.1 HI5.out.2.2.1 HI5.out.2.2.2 rfl (by decide) rfl (HO.out.alloc HCM.out (.cells #[.int .u8 (7 * (i : Int) + 1)] 5)) W.heap.size (HOWN.out.alloc _) ?b3 ⟨wr.heap.size, 0, none⟩ 1 [byt (V i)] rfl rfl ?c1 ?c2 ?b1 ?b2 ?_))
              case c1 =>
                intro j u hu
                have hj : j = 0 := by have := (List.getElem?_eq_some_iff.1 hu).1; simp at this; omega
                subst hj
                rw [Addr.add_lit, blk_cell (heap_alloc_new wr _)]
                exact hu
              case c2 => intro u hu; rw [List.mem_singleton.1 hu]; rfl
              case b1 => unfold maxLen; omega
              case b2 => omega
              case b3 => have := HBW.out.size; simp; omega
              rintro v2 w2 ho2 how2 hg2
              have HO2 := Lib.hid ho2
              have HOWN2 := Lib.hid how2
              have HBW2 := Lib.hid ((HBW.out.alloc HBW.out.size _).grown hg2 (by have := HBW.out.size; simp; omega) (own_base HOWN.out))
              clear ho2 how2 hg2
              go_wp2
              go_roundw
              case rel => exact ⟨m + 1, hlt, by go_num, by rw [List.replicate_succ']; exact HO2.out, by rw [List.replicate_succ']; exact HOWN2.out, HBW2.out⟩
              case measure => simp [intOf]; omega
            · have e : m = 20 := by omega
              have hO20 := HO.out
              rw [e] at hO20
              have hG := gone (HA.out.room i (Nat.le_refl _) hi) (HA.out.len i hi) (by decide) (fun j hj => HF.out.done i hi j hj) hO20
              clear e hO20
              obtain ⟨bi, ci, e18, _⟩ := hG.val
              subst e18
              obtain ⟨b, c, hO, hR⟩ := HLO.out
              have HOW := Lib.hid (hG.owns hO (HGB.out i hi))
              have HO1 := Lib.hid hO
              have HR := Lib.hid hR
              have HSZ := Lib.hid HO.out.kept.size
              have HG2 := Lib.hid hG
              obtain ⟨i6, hi6⟩ := info_parts info22
              have HI6 := Lib.hid hi6
              clear hG hO hR hi6 HO
              go_wp2_with ((with_reducible refine gate_builtin (b := .append) (xs := #[.tmp 104, .tmp 106]) rfl ?_); at_builtin; go_loud (refine wpList_append_own _ rfl (.tmp 104) (.tmp 106) 45 rfl B 22 i6 (.slice none 0 0) 1 24 Try.underlying45 HI6.out.1 HI6.out.2.1 HI6.out.2.2.1 HI6.out.2.2.2 rfl (by decide) _ i (sls n 20 b c i) rfl (HOW.out.alloc _) ⟨wr.heap.size, 0, none⟩ 1 1 [.slice (some ⟨bi, 0, none⟩) (n + 20) ci] rfl rfl ?d1 ?d2 ?d3 ?d4 ?d5 ?_))
              case d1 =>
                intro j u hu
                have hj : j = 0 := by have := (List.getElem?_eq_some_iff.1 hu).1; simp at this; omega
                subst hj
                rw [Addr.add_lit, blk_cell (heap_alloc_new wr _)]
                exact hu
              case d2 => intro u hu; rw [List.mem_singleton.1 hu]; rfl
              case d3 => unfold maxLen; omega
              case d4 => omega
              case d5 => have := HSZ.out; have := HB2.out; simp; omega
              rintro v2 w2 ho2 hg2 _
              obtain ⟨q1, q2, q3, q4⟩ := LONG.step hi HA.out HF.out HO1.out HR.out HB2.out HHB.out HGB.out HG2.out HSZ.out hg2 ho2
              have Q1 := Lib.hid q1
              have Q2 := Lib.hid q2
              have Q3 := Lib.hid q3
              have Q4 := Lib.hid q4
              have HBN := Lib.hid ((HBW.out.alloc HBW.out.size _).grown hg2 (by have := HBW.out.size; simp; omega) (fun k hk => by have h1 := own_base HOW.out k hk; have h2 := HB0.out; omega))
              clear q1 q2 q3 q4 ho2 hg2
              go_wp2
              go_roundw
              case rel => exact ⟨i + 1, hi, by go_num, Q1.out, Q2.out, Q3.out, Q4.out, HBN.out⟩
              case measure => simp [intOf]; omega
        · have e : i = 3 := by omega
          have hl3 := HLO.out
          rw [e] at hl3
          obtain ⟨p, cp, b, c, e16, hp, hbs⟩ := hl3.out
          subst e16
          have HP := Lib.hid hp
          have HBS := Lib.hid hbs
          have hib : decide ((i : Int) < 3) = false := decide_eq_false (by omega)
          clear e hl3 hp hbs HLO
          go_wp2
          go_loop [20] (fun v20 => ∃ q : Nat, q ≤ 3 ∧ v20 = .int .i64 q) (fun v20 => 3 - (intOf v20).toNat)
          case atStart => exact ⟨0, by omega, rfl⟩
          case round =>
            obtain ⟨q, hq3, rfl⟩ := hrel
            by_cases hq : q < 3
            · have hqb : decide ((q : Int) < 3) = true := decide_eq_true (by omega)
              have hx := HA.out.at q hq
              have hy := HP.out q hq
              go_wp2
              go_loop [21] (fun v21 => ∃ k : Nat, k ≤ n + 20 ∧ v21 = .int .i64 k) (fun v21 => n + 20 - (intOf v21).toNat)
              case atStart => exact ⟨0, by omega, rfl⟩
              case round =>
                obtain ⟨k, hk, rfl⟩ := hrel
                by_cases hk1 : k < n
                · have hc1 : wr.cell? ⟨g q, k, none⟩ = some (.int .u8 (7 * (q : Int))) := HF.out.done q hq k hk1
                  have hc2 : wr.cell? ⟨b q, k, none⟩ = some (.int .u8 (7 * (q : Int))) := by
                    have := (HBS.out q hq).2 k (by omega)
                    rwa [if_pos hk1] at this
                  go_wp2
                  go_round
                  case rel => exact ⟨k + 1, by omega, by go_num⟩
                  case measure => simp [intOf]; omega
                · by_cases hk2 : k < n + 20
                  · have hc2 : wr.cell? ⟨b q, k, none⟩ = some (.int .u8 (7 * (q : Int) + 1)) := by
                      have := (HBS.out q hq).2 k hk2
                      rwa [if_neg hk1] at this
                    go_wp2
                    go_round
                    case rel => exact ⟨k + 1, by omega, by go_num⟩
                    case measure => simp [intOf]; omega
                  · go_wp2
                    go_round
                    case rel => exact ⟨q + 1, by omega, by go_num⟩
                    case measure => simp [intOf]; omega
            · go_wp2_with (first
                | (go_at_call 11; go_loud ((with_reducible refine (put_exact a0 a2 L n H0.out HE.out HL.out _).mono ?_); rintro e w7 ⟨A7, c7, rfl, hc7, hC7, hb7⟩; have HC7 := Lib.hid hC7; have HW7 := Lib.hid (HB.out.trans (hb7.mono HB.out.size)); clear hC7 hb7))
                | (go_at_call 20; go_loud ((with_reducible refine (exact_at a0 a2 L n H0.out HE.out HL.out A7 c7 _ hc7 HC7.out).mono ?_); rintro e w8 ⟨rfl, hb8⟩; have HW8 := Lib.hid (HW7.out.trans (hb8.mono HW7.out.size)); clear hb8)))
              go_ret
              exact ⟨rfl, HW8.out⟩
theorem walk (a0 a1 a2 : Int) (W : World) (w0 : (Lit.int .i64 a0).wf = true) (w1 : (Lit.int .i64 a1).wf = true) (w2 : (Lit.int .i64 a2).wf = true) :
    Calls Try.prog 9 #[.int .i64 a0, .int .i64 a1, .int .i64 a2] W fun e w' => e = .returned (.bool true) ∧ Below W.heap.size W w' := by
  have h0 := wf64 w0
  have h1 := wf64 w1
  by_cases h : (putS a0 a2).2 = 0 ∧ (putS a1 a2).2 = 0
  · have l0 := (get_put a0 a2 h0 h.1).2
    have l1 := (get_put a1 a2 h1 h.2).2
    have p0 := len_pos a0 a2 h.1
    have e : (putS a0 a2).1.length = (putS a1 a2).1.length := Int.ofNat_inj.1 (l0.trans l1.symm)
    exact good a0 a1 a2 (putS a0 a2).1 (putS a1 a2).1 (putS a0 a2).1.length W h0 h1 (Prod.ext rfl h.1) (Prod.ext rfl h.2) rfl e p0.1 p0.2
  · exact bad a0 a1 a2 _ _ W h0 h1 rfl rfl h
end Go.Proofs.Ytheloepdhnfmaaa.OctOwn
