/-
  No cell of these rows narrows 'for every input' (looked for: loops, veiled, ifaces, maps, wideKeys, modest, calm, conditions, laid).
  DERIVED. THE GIVEN ROWS OF THIS SEAT. 8 by the template 'for every input the law returns true; each argument reads behind the call as it read before'; 0 by the template 'total and deterministic' (their statements: YtdmpbfhbjklajaaTotals.lean).
  GIVEN WITH THE SEED: the statements are not yours to turn. If you find one false, say at which input.
  Laid BY PROGRAM, IN A SANDBOX (cutbox-rows.mjs): the forced cells as the released guide's own fill.sh prints them over the translation 6f3d3cf5348a1cf4… (all of the seat's roots in one cut). By AI agents, Wed Nov 11 2026. No macro, syntax, notation, axiom, sorry.
-/
import Derived.Test.YtdmpbfhbjklajaaChecked
import GoSem.Claim
import GoSem.ClaimJoined
import GoSem.ClaimMapViews
import Derived.JoinedTies
import Derived.KernelRfl
namespace Go.Proofs.Ytdmpbfhbjklajaa
/- THE CELL 'sum', in the pinned program and in every row, IS THE sha256 OF THE DUMP (.gsa) THAT YtdmpbfhbjklajaaProg.lean LOADS. Nothing in Lean hashes anything: it is a label: what it is worth is what the hold of that sum in a sandbox is worth. -/
noncomputable def Try.pinned : Pinned := { name := "ytdmpbfhbjklajaa", sum := "6f3d3cf5348a1cf41b023187cdf42234de31656a62c593b2b7458135540f0c4b", checked := Try.checked }
namespace Rows
def none {H : Type} : Left H := { results := [], args := [] }

/-- 'tabularylaw10.HeadSums': WHATEVER THE INPUT: true; the input reads as it did. -/
def headSumsSpec : ChangeSpec := { name := "headSums", fn := fun _ => fun
  | [d1, d2, d3] => { results := [.lit (.bool true)], args := [d1, d2, d3] }
  | _ => none }
def headSumsRow : OpenClaim := { program := "ytdmpbfhbjklajaa", sum := "6f3d3cf5348a1cf41b023187cdf42234de31656a62c593b2b7458135540f0c4b", func := "tabulary/tabularylaw10.HeadSums", spec := "headSums", apart := false }
def HeadSumsSaid : Prop := headSumsRow.holds Try.pinned (OpenSpec.ofChange headSumsSpec)

/-- ITS FALSE NEIGHBOUR: 'it returns false'. Refute it at one input. -/
def headSumsWrong : ChangeSpec := { name := "headSums", fn := fun _ => fun
  | [d1, d2, d3] => { results := [.lit (.bool false)], args := [d1, d2, d3] }
  | _ => none }
def HeadSumsWrongFalsely : Prop := headSumsRow.holds Try.pinned (OpenSpec.ofChange headSumsWrong)

/-- 'tabularylaw10.HeadPuts': WHATEVER THE INPUT: true; the input reads as it did. -/
def headPutsSpec : ChangeSpec := { name := "headPuts", fn := fun _ => fun
  | [d] => { results := [.lit (.bool true)], args := [d] }
  | _ => none }
def headPutsRow : OpenClaim := { program := "ytdmpbfhbjklajaa", sum := "6f3d3cf5348a1cf41b023187cdf42234de31656a62c593b2b7458135540f0c4b", func := "tabulary/tabularylaw10.HeadPuts", spec := "headPuts", inPlace := ["internal/bytealg.IndexByteString"], apart := false }
def HeadPutsSaid : Prop := headPutsRow.holds Try.pinned (OpenSpec.ofChange headPutsSpec)

/-- ITS FALSE NEIGHBOUR: 'it returns false'. Refute it at one input. -/
def headPutsWrong : ChangeSpec := { name := "headPuts", fn := fun _ => fun
  | [d] => { results := [.lit (.bool false)], args := [d] }
  | _ => none }
def HeadPutsWrongFalsely : Prop := headPutsRow.holds Try.pinned (OpenSpec.ofChange headPutsWrong)

/-- 'tabularylaw10.HeadGets': WHATEVER THE INPUT: true; the input reads as it did. -/
def headGetsSpec : ChangeSpec := { name := "headGets", fn := fun _ => fun
  | [d1, d2, d3, d4] => { results := [.lit (.bool true)], args := [d1, d2, d3, d4] }
  | _ => none }
def headGetsRow : OpenClaim := { program := "ytdmpbfhbjklajaa", sum := "6f3d3cf5348a1cf41b023187cdf42234de31656a62c593b2b7458135540f0c4b", func := "tabulary/tabularylaw10.HeadGets", spec := "headGets", inPlace := ["internal/bytealg.IndexByteString", "internal/bytealg.IndexString"], named := ["internal/bytealg.MaxLen"], apart := false }
def HeadGetsSaid : Prop := headGetsRow.holds Try.pinned (OpenSpec.ofChange headGetsSpec)

/-- ITS FALSE NEIGHBOUR: 'it returns false'. Refute it at one input. -/
def headGetsWrong : ChangeSpec := { name := "headGets", fn := fun _ => fun
  | [d1, d2, d3, d4] => { results := [.lit (.bool false)], args := [d1, d2, d3, d4] }
  | _ => none }
def HeadGetsWrongFalsely : Prop := headGetsRow.holds Try.pinned (OpenSpec.ofChange headGetsWrong)

/-- 'tabularylaw10.HeadBack': WHATEVER THE INPUT: true; the input reads as it did. -/
def headBackSpec : ChangeSpec := { name := "headBack", fn := fun _ => fun
  | [d1, d2] => { results := [.lit (.bool true)], args := [d1, d2] }
  | _ => none }
def headBackRow : OpenClaim := { program := "ytdmpbfhbjklajaa", sum := "6f3d3cf5348a1cf41b023187cdf42234de31656a62c593b2b7458135540f0c4b", func := "tabulary/tabularylaw10.HeadBack", spec := "headBack", inPlace := ["internal/bytealg.IndexByteString", "internal/bytealg.IndexString"], named := ["internal/bytealg.MaxLen"], apart := false }
def HeadBackSaid : Prop := headBackRow.holds Try.pinned (OpenSpec.ofChange headBackSpec)

/-- ITS FALSE NEIGHBOUR: 'it returns false'. Refute it at one input. -/
def headBackWrong : ChangeSpec := { name := "headBack", fn := fun _ => fun
  | [d1, d2] => { results := [.lit (.bool false)], args := [d1, d2] }
  | _ => none }
def HeadBackWrongFalsely : Prop := headBackRow.holds Try.pinned (OpenSpec.ofChange headBackWrong)

/-- 'tabularylaw10.HeadByte': WHATEVER THE INPUT: true; the input reads as it did. -/
def headByteSpec : ChangeSpec := { name := "headByte", fn := fun _ => fun
  | [d1, d2, d3] => { results := [.lit (.bool true)], args := [d1, d2, d3] }
  | _ => none }
def headByteRow : OpenClaim := { program := "ytdmpbfhbjklajaa", sum := "6f3d3cf5348a1cf41b023187cdf42234de31656a62c593b2b7458135540f0c4b", func := "tabulary/tabularylaw10.HeadByte", spec := "headByte", inPlace := ["internal/bytealg.IndexByteString", "internal/bytealg.IndexString"], named := ["internal/bytealg.MaxLen"], apart := false }
def HeadByteSaid : Prop := headByteRow.holds Try.pinned (OpenSpec.ofChange headByteSpec)

/-- ITS FALSE NEIGHBOUR: 'it returns false'. Refute it at one input. -/
def headByteWrong : ChangeSpec := { name := "headByte", fn := fun _ => fun
  | [d1, d2, d3] => { results := [.lit (.bool false)], args := [d1, d2, d3] }
  | _ => none }
def HeadByteWrongFalsely : Prop := headByteRow.holds Try.pinned (OpenSpec.ofChange headByteWrong)

/-- 'tabularylaw10.HeadSealed': WHATEVER THE INPUT: true; the input reads as it did. -/
def headSealedSpec : ChangeSpec := { name := "headSealed", fn := fun _ => fun
  | [d1, d2, d3] => { results := [.lit (.bool true)], args := [d1, d2, d3] }
  | _ => none }
def headSealedRow : OpenClaim := { program := "ytdmpbfhbjklajaa", sum := "6f3d3cf5348a1cf41b023187cdf42234de31656a62c593b2b7458135540f0c4b", func := "tabulary/tabularylaw10.HeadSealed", spec := "headSealed", inPlace := ["internal/bytealg.IndexByteString", "internal/bytealg.IndexString"], named := ["internal/bytealg.MaxLen"], apart := false }
def HeadSealedSaid : Prop := headSealedRow.holds Try.pinned (OpenSpec.ofChange headSealedSpec)

/-- ITS FALSE NEIGHBOUR: 'it returns false'. Refute it at one input. -/
def headSealedWrong : ChangeSpec := { name := "headSealed", fn := fun _ => fun
  | [d1, d2, d3] => { results := [.lit (.bool false)], args := [d1, d2, d3] }
  | _ => none }
def HeadSealedWrongFalsely : Prop := headSealedRow.holds Try.pinned (OpenSpec.ofChange headSealedWrong)

/-- 'tabularylaw10.HeadOwn': WHATEVER THE INPUT: true; the input reads as it did. -/
def headOwnSpec : ChangeSpec := { name := "headOwn", fn := fun _ => fun
  | [d1, d2] => { results := [.lit (.bool true)], args := [d1, d2] }
  | _ => none }
def headOwnRow : OpenClaim := { program := "ytdmpbfhbjklajaa", sum := "6f3d3cf5348a1cf41b023187cdf42234de31656a62c593b2b7458135540f0c4b", func := "tabulary/tabularylaw10.HeadOwn", spec := "headOwn", inPlace := ["internal/bytealg.IndexByteString", "internal/bytealg.IndexString"], named := ["internal/bytealg.MaxLen"], apart := false }
def HeadOwnSaid : Prop := headOwnRow.holds Try.pinned (OpenSpec.ofChange headOwnSpec)

/-- ITS FALSE NEIGHBOUR: 'it returns false'. Refute it at one input. -/
def headOwnWrong : ChangeSpec := { name := "headOwn", fn := fun _ => fun
  | [d1, d2] => { results := [.lit (.bool false)], args := [d1, d2] }
  | _ => none }
def HeadOwnWrongFalsely : Prop := headOwnRow.holds Try.pinned (OpenSpec.ofChange headOwnWrong)

/-- 'tabularylaw10.HeadKnown': WHATEVER THE INPUT: true; the input reads as it did. -/
def headKnownSpec : ChangeSpec := { name := "headKnown", fn := fun _ => fun
  | [] => { results := [.lit (.bool true)], args := [] }
  | _ => none }
def headKnownRow : OpenClaim := { program := "ytdmpbfhbjklajaa", sum := "6f3d3cf5348a1cf41b023187cdf42234de31656a62c593b2b7458135540f0c4b", func := "tabulary/tabularylaw10.HeadKnown", spec := "headKnown", inPlace := ["internal/bytealg.IndexByteString", "internal/bytealg.IndexString"], named := ["internal/bytealg.MaxLen"], apart := false }
def HeadKnownSaid : Prop := headKnownRow.holds Try.pinned (OpenSpec.ofChange headKnownSpec)

/-- ITS FALSE NEIGHBOUR: 'it returns false'. Refute it at one input. -/
def headKnownWrong : ChangeSpec := { name := "headKnown", fn := fun _ => fun
  | [] => { results := [.lit (.bool false)], args := [] }
  | _ => none }
def HeadKnownWrongFalsely : Prop := headKnownRow.holds Try.pinned (OpenSpec.ofChange headKnownWrong)

/- THE SECOND FORM. 'bulk': how many values and letters a reading holds, each counted each time it is reached (what is shared counts as often as it is met; a slice's spare places count too). A statement '..UptoSaid' is the law's where the arguments, and the package variables that the reading takes, are together of bulk at most 1048576: NARROWER than '..Said'. Prove '..Said' where nothing that the law and all that it calls make is longer than what came in: it says more and counts as full. Else prove '..UptoSaid'. A law counts once. -/
mutual
def uptoBulk {H : Type} : DataW H → Nat
  | .lit (.string bytes) => bytes.length + 1
  | .lit _ => 1
  | .nil => 1
  | .ptr d => uptoBulk d + 1
  | .slice elems spare => uptoBulkAll elems + uptoBulkAll spare + 1
  | .agg parts => uptoBulkAll parts + 1
  | .iface _ d => uptoBulk d + 1
  | .map entries => uptoBulkEntries entries + 1
  | .held _ => 1
def uptoBulkAll {H : Type} : List (DataW H) → Nat
  | [] => 0
  | d :: r => uptoBulk d + uptoBulkAll r
def uptoBulkEntries {H : Type} : List (Lit × DataW H) → Nat
  | [] => 0
  | x :: r => uptoBulkEntry x + uptoBulkEntries r
def uptoBulkEntry {H : Type} : Lit × DataW H → Nat
  | (.string bytes, d) => bytes.length + uptoBulk d + 1
  | (_, d) => uptoBulk d + 1
 end
def uptoSmall : (H : Type) → List (DataW H) → Bool := fun _ ds => decide (uptoBulkAll ds ≤ 1048576)
def OpenSpec.upto (s : _root_.Go.ChangeSpec) : _root_.Go.OpenSpec := { _root_.Go.OpenSpec.ofChange s with cond := some uptoSmall }

/-- 'tabularylaw10.HeadSums', WHERE WHAT IT READS IS OF BULK AT MOST 1048576: true; the input reads as it did. -/
def headSumsUptoRow : OpenClaim := { program := "ytdmpbfhbjklajaa", sum := "6f3d3cf5348a1cf41b023187cdf42234de31656a62c593b2b7458135540f0c4b", func := "tabulary/tabularylaw10.HeadSums", spec := "headSums", apart := false, narrowed := true }
def HeadSumsUptoSaid : Prop := headSumsUptoRow.holds Try.pinned (OpenSpec.upto headSumsSpec)

/-- 'tabularylaw10.HeadPuts', WHERE WHAT IT READS IS OF BULK AT MOST 1048576: true; the input reads as it did. -/
def headPutsUptoRow : OpenClaim := { program := "ytdmpbfhbjklajaa", sum := "6f3d3cf5348a1cf41b023187cdf42234de31656a62c593b2b7458135540f0c4b", func := "tabulary/tabularylaw10.HeadPuts", spec := "headPuts", inPlace := ["internal/bytealg.IndexByteString"], apart := false, narrowed := true }
def HeadPutsUptoSaid : Prop := headPutsUptoRow.holds Try.pinned (OpenSpec.upto headPutsSpec)

/-- 'tabularylaw10.HeadGets', WHERE WHAT IT READS IS OF BULK AT MOST 1048576: true; the input reads as it did. -/
def headGetsUptoRow : OpenClaim := { program := "ytdmpbfhbjklajaa", sum := "6f3d3cf5348a1cf41b023187cdf42234de31656a62c593b2b7458135540f0c4b", func := "tabulary/tabularylaw10.HeadGets", spec := "headGets", inPlace := ["internal/bytealg.IndexByteString", "internal/bytealg.IndexString"], named := ["internal/bytealg.MaxLen"], apart := false, narrowed := true }
def HeadGetsUptoSaid : Prop := headGetsUptoRow.holds Try.pinned (OpenSpec.upto headGetsSpec)

/-- 'tabularylaw10.HeadBack', WHERE WHAT IT READS IS OF BULK AT MOST 1048576: true; the input reads as it did. -/
def headBackUptoRow : OpenClaim := { program := "ytdmpbfhbjklajaa", sum := "6f3d3cf5348a1cf41b023187cdf42234de31656a62c593b2b7458135540f0c4b", func := "tabulary/tabularylaw10.HeadBack", spec := "headBack", inPlace := ["internal/bytealg.IndexByteString", "internal/bytealg.IndexString"], named := ["internal/bytealg.MaxLen"], apart := false, narrowed := true }
def HeadBackUptoSaid : Prop := headBackUptoRow.holds Try.pinned (OpenSpec.upto headBackSpec)

/-- 'tabularylaw10.HeadByte', WHERE WHAT IT READS IS OF BULK AT MOST 1048576: true; the input reads as it did. -/
def headByteUptoRow : OpenClaim := { program := "ytdmpbfhbjklajaa", sum := "6f3d3cf5348a1cf41b023187cdf42234de31656a62c593b2b7458135540f0c4b", func := "tabulary/tabularylaw10.HeadByte", spec := "headByte", inPlace := ["internal/bytealg.IndexByteString", "internal/bytealg.IndexString"], named := ["internal/bytealg.MaxLen"], apart := false, narrowed := true }
def HeadByteUptoSaid : Prop := headByteUptoRow.holds Try.pinned (OpenSpec.upto headByteSpec)

/-- 'tabularylaw10.HeadSealed', WHERE WHAT IT READS IS OF BULK AT MOST 1048576: true; the input reads as it did. -/
def headSealedUptoRow : OpenClaim := { program := "ytdmpbfhbjklajaa", sum := "6f3d3cf5348a1cf41b023187cdf42234de31656a62c593b2b7458135540f0c4b", func := "tabulary/tabularylaw10.HeadSealed", spec := "headSealed", inPlace := ["internal/bytealg.IndexByteString", "internal/bytealg.IndexString"], named := ["internal/bytealg.MaxLen"], apart := false, narrowed := true }
def HeadSealedUptoSaid : Prop := headSealedUptoRow.holds Try.pinned (OpenSpec.upto headSealedSpec)

/-- 'tabularylaw10.HeadOwn', WHERE WHAT IT READS IS OF BULK AT MOST 1048576: true; the input reads as it did. -/
def headOwnUptoRow : OpenClaim := { program := "ytdmpbfhbjklajaa", sum := "6f3d3cf5348a1cf41b023187cdf42234de31656a62c593b2b7458135540f0c4b", func := "tabulary/tabularylaw10.HeadOwn", spec := "headOwn", inPlace := ["internal/bytealg.IndexByteString", "internal/bytealg.IndexString"], named := ["internal/bytealg.MaxLen"], apart := false, narrowed := true }
def HeadOwnUptoSaid : Prop := headOwnUptoRow.holds Try.pinned (OpenSpec.upto headOwnSpec)

/-- 'tabularylaw10.HeadKnown', WHERE WHAT IT READS IS OF BULK AT MOST 1048576: true; the input reads as it did. -/
def headKnownUptoRow : OpenClaim := { program := "ytdmpbfhbjklajaa", sum := "6f3d3cf5348a1cf41b023187cdf42234de31656a62c593b2b7458135540f0c4b", func := "tabulary/tabularylaw10.HeadKnown", spec := "headKnown", inPlace := ["internal/bytealg.IndexByteString", "internal/bytealg.IndexString"], named := ["internal/bytealg.MaxLen"], apart := false, narrowed := true }
def HeadKnownUptoSaid : Prop := headKnownUptoRow.holds Try.pinned (OpenSpec.upto headKnownSpec)

end Rows
end Go.Proofs.Ytdmpbfhbjklajaa
