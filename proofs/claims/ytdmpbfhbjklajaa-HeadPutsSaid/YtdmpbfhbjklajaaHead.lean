/- Heads: what may not be, a head's bytes laid and sealed, bytes summed and sealed, 512 noughts. -/
import Derived.Test.YtdmpbfhbjklajaaImg
import Derived.Test.YtdmpbfhbjklajaaShelf
namespace Go.Proofs.Ytdmpbfhbjklajaa.Head
open Go.Proofs.Ytdmpbfhbjklajaa Go.RowKit Go.Proofs.YtdmpbfhbjklajaaW.PrintWords Go.Proofs.YtdmpbfhbjklajaaW.PrintLast Go.Proofs.YtdmpbfhbjklajaaW.PrintMore Go.Proofs.Ytdmpbfhbjklajaa.Byt Go.Proofs.Ytdmpbfhbjklajaa.OctPure Go.Proofs.Ytdmpbfhbjklajaa.Img
set_option linter.unusedVariables false
set_option linter.unusedSimpArgs false

abbrev TH : Nat := 24
/-- A head as a value. -/
def hv (n p : ByteArray) (m s t y : Int) (k : ByteArray) : Array Value := #[.string n, .string p, .int .i64 m, .int .i64 s, .int .i64 t, .int .u8 y, .string k]
/-- Where a byte 0 stands in a head's texts. -/
def nulAt (n p k : ByteArray) : Int := Lib.indexByte (n.data.toList ++ (k.data.toList ++ p.data.toList)) 0
/-- What may not be. -/
def mayS (n p : ByteArray) (m s t y : Int) (k : ByteArray) : Int :=
  if y = 48 ∨ y = 49 ∨ y = 50 ∨ y = 53 ∨ y = 120 then
    (if 100 < (n.size : Int) ∨ 100 < (k.size : Int) ∨ 155 < (p.size : Int) then 2
      else if 0 ≤ nulAt n p k then 82
      else if m < 0 ∨ 4095 < m ∨ s < 0 ∨ 8589934591 < s ∨ t < 0 ∨ 1099511627776 < t then 1 else 0)
  else 102

set_option maxRecDepth 100000 in
set_option maxHeartbeats 16000000 in
theorem may_gen (n p : ByteArray) (m s t y : Int) (k : ByteArray) (R : Int) (W : World) (hR : R = mayS n p m s t y k) :
    Calls Try.prog 34 #[.agg (hv n p m s t y k)] W fun e w' => e = .returned (.int .i64 R) ∧ Below W.heap.size W w' := by
  have HR := Lib.hid hR
  clear hR
  unfold hv
  go_enter Try.func34, Try.ntmps34
  go_wp2_with (go_at_call 44; go_loud ((with_reducible refine (Shelf.strings_IndexByte _ _ _).mono ?_); rintro e w1 ⟨rfl, rfl⟩))
  all_goals
    go_ret
    refine ⟨?_, (Below.refl _ _).alloc (Nat.le_refl _) _⟩
    have hr := HR.out
    unfold mayS nulAt at hr
    simp only [beq_iff_eq, beq_eq_false_iff_ne, ne_eq, decide_eq_true_eq] at *
    refine congrArg (fun z => Ending.returned (.int .i64 z)) (Eq.trans ?_ hr.symm)
    clear hr
    repeat' split
    all_goals first | rfl | (exfalso; omega)

def Z512 : List Int := List.replicate 512 0
def ZV : Array Value := (nums .u8 Z512).toArray
def MAGIC : List Int := [117, 115, 116, 97, 114, 0, 48, 48]
theorem zI : ∀ w, (zeroValue TI).run Try.prog w = .ok (.agg ZV) w := fun _ => by kernel_rfl
theorem infoI : (Try.prog.info? TI).map (·.size) = some 512 := by kernel_rfl
/-- A head's bytes ahead of the seal. -/
def bodyS (n p : ByteArray) (m s t y : Int) (k : ByteArray) : List Int :=
  ins (ins (ins (ins (ins ((ins (ins (ins (ins (ins (ins Z512 0 (bytesOf n)) 100 (putS m 8).1) 108 (putS 0 8).1) 116 (putS 0 8).1) 124 (putS s 12).1) 136 (putS t 12).1).set 156 y) 157 (bytesOf k)) 257 MAGIC) 329 (putS 0 8).1) 337 (putS 0 8).1) 345 (bytesOf p)
def layS (n p : ByteArray) (m s t y : Int) (k : ByteArray) : List Int := sealS (bodyS n p m s t y k)
theorem ins_ok {l m : List Int} {o : Nat} (hm : ∀ x ∈ m, 0 ≤ x ∧ x ≤ 255) (hl : l.length = 512 ∧ Bytes l) : (ins l o m).length = 512 ∧ Bytes (ins l o m) :=
  ⟨by rw [ins_len, hl.1], bytes_of_mem (ins_bytes hm (mem_of_bytes hl.2))⟩
theorem set_ok {l : List Int} {o : Nat} {y : Int} (hy : 0 ≤ y ∧ y ≤ 255) (hl : l.length = 512 ∧ Bytes l) : (l.set o y).length = 512 ∧ Bytes (l.set o y) :=
  ⟨by rw [List.length_set, hl.1], bytes_of_mem (fun x hx => by
    rcases List.mem_or_eq_of_mem_set hx with h | rfl
    · exact mem_of_bytes hl.2 x h
    · exact hy)⟩
theorem z_ok : Z512.length = 512 ∧ Bytes Z512 := ⟨List.length_replicate, bytes_of_mem (fun x hx => by have := List.eq_of_mem_replicate hx; omega)⟩
theorem bytesOf_ok (s : ByteArray) : ∀ x ∈ bytesOf s, 0 ≤ x ∧ x ≤ 255 := fun x hx => by
  simp only [bytesOf, List.mem_map] at hx
  obtain ⟨b, _, rfl⟩ := hx
  have := b.toNat_lt
  omega
theorem body_ok (n p : ByteArray) (m s t y : Int) (k : ByteArray) (hy : 0 ≤ y ∧ y ≤ 255) : (bodyS n p m s t y k).length = 512 ∧ Bytes (bodyS n p m s t y k) := by
  unfold bodyS
  refine ins_ok (bytesOf_ok _) (ins_ok (putS_bytes _ _) (ins_ok (putS_bytes _ _) (ins_ok (by decide) (ins_ok (bytesOf_ok _) (set_ok hy (ins_ok (putS_bytes _ _) (ins_ok (putS_bytes _ _) (ins_ok (putS_bytes _ _) (ins_ok (putS_bytes _ _) (ins_ok (putS_bytes _ _) (ins_ok (bytesOf_ok _) z_ok)))))))))))
theorem seal_ok {l : List Int} (h : l.length = 512 ∧ Bytes l) : (sealS l).length = 512 ∧ Bytes (sealS l) := set_ok (by decide) (ins_ok (putS_bytes _ _) h)

end Go.Proofs.Ytdmpbfhbjklajaa.Head
