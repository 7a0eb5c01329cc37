/-
  No cell of these rows narrows 'for every input' (looked for: loops, veiled, ifaces, maps, wideKeys, modest, calm, conditions, laid).
  DERIVED. THE GIVEN ROWS OF THIS SEAT. 8 by the template 'for every input the law returns true; each argument reads behind the call as it read before'; 0 by the template 'total and deterministic' (their statements: YtheloepdhnfmaaaTotals.lean).
  GIVEN WITH THE SEED: the statements are not yours to turn. If you find one false, say at which input.
  Laid BY PROGRAM, IN A SANDBOX (cutbox-rows.mjs): the forced cells as the released guide's own fill.sh prints them over the translation 30a3a2d8e19532ae… (all of the seat's roots in one cut). By AI agents, Wed Nov 11 2026. No macro, syntax, notation, axiom, sorry.
-/
import Derived.Test.YtheloepdhnfmaaaChecked
import GoSem.Claim
import GoSem.ClaimJoined
import GoSem.ClaimMapViews
import Derived.JoinedTies
import Derived.KernelRfl
namespace Go.Proofs.Ytheloepdhnfmaaa
/- THE CELL 'sum', in the pinned program and in every row, IS THE sha256 OF THE DUMP (.gsa) THAT YtheloepdhnfmaaaProg.lean LOADS. Nothing in Lean hashes anything: it is a label: what it is worth is what the hold of that sum in a sandbox is worth. -/
noncomputable def Try.pinned : Pinned := { name := "ytheloepdhnfmaaa", sum := "30a3a2d8e19532ae7130f46faa36ff523e6dd800d00a1d4ce0a86428490b06e2", checked := Try.checked }
namespace Rows
def none {H : Type} : Left H := { results := [], args := [] }

/-- 'tabularylaw07.OctalPuts': WHATEVER THE INPUT: true; the input reads as it did. -/
def octalPutsSpec : ChangeSpec := { name := "octalPuts", fn := fun _ => fun
  | [d1, d2] => { results := [.lit (.bool true)], args := [d1, d2] }
  | _ => none }
def octalPutsRow : OpenClaim := { program := "ytheloepdhnfmaaa", sum := "30a3a2d8e19532ae7130f46faa36ff523e6dd800d00a1d4ce0a86428490b06e2", func := "tabulary/tabularylaw07.OctalPuts", spec := "octalPuts", apart := false }
def OctalPutsSaid : Prop := octalPutsRow.holds Try.pinned (OpenSpec.ofChange octalPutsSpec)

/-- ITS FALSE NEIGHBOUR: 'it returns false'. Refute it at one input. -/
def octalPutsWrong : ChangeSpec := { name := "octalPuts", fn := fun _ => fun
  | [d1, d2] => { results := [.lit (.bool false)], args := [d1, d2] }
  | _ => none }
def OctalPutsWrongFalsely : Prop := octalPutsRow.holds Try.pinned (OpenSpec.ofChange octalPutsWrong)

/-- 'tabularylaw07.OctalGets': WHATEVER THE INPUT: true; the input reads as it did. -/
def octalGetsSpec : ChangeSpec := { name := "octalGets", fn := fun _ => fun
  | [d] => { results := [.lit (.bool true)], args := [d] }
  | _ => none }
def octalGetsRow : OpenClaim := { program := "ytheloepdhnfmaaa", sum := "30a3a2d8e19532ae7130f46faa36ff523e6dd800d00a1d4ce0a86428490b06e2", func := "tabulary/tabularylaw07.OctalGets", spec := "octalGets", apart := false }
def OctalGetsSaid : Prop := octalGetsRow.holds Try.pinned (OpenSpec.ofChange octalGetsSpec)

/-- ITS FALSE NEIGHBOUR: 'it returns false'. Refute it at one input. -/
def octalGetsWrong : ChangeSpec := { name := "octalGets", fn := fun _ => fun
  | [d] => { results := [.lit (.bool false)], args := [d] }
  | _ => none }
def OctalGetsWrongFalsely : Prop := octalGetsRow.holds Try.pinned (OpenSpec.ofChange octalGetsWrong)

/-- 'tabularylaw07.OctalExacts': WHATEVER THE INPUT: true; the input reads as it did. -/
def octalExactsSpec : ChangeSpec := { name := "octalExacts", fn := fun _ => fun
  | [d] => { results := [.lit (.bool true)], args := [d] }
  | _ => none }
def octalExactsRow : OpenClaim := { program := "ytheloepdhnfmaaa", sum := "30a3a2d8e19532ae7130f46faa36ff523e6dd800d00a1d4ce0a86428490b06e2", func := "tabulary/tabularylaw07.OctalExacts", spec := "octalExacts", apart := false }
def OctalExactsSaid : Prop := octalExactsRow.holds Try.pinned (OpenSpec.ofChange octalExactsSpec)

/-- ITS FALSE NEIGHBOUR: 'it returns false'. Refute it at one input. -/
def octalExactsWrong : ChangeSpec := { name := "octalExacts", fn := fun _ => fun
  | [d] => { results := [.lit (.bool false)], args := [d] }
  | _ => none }
def OctalExactsWrongFalsely : Prop := octalExactsRow.holds Try.pinned (OpenSpec.ofChange octalExactsWrong)

/-- 'tabularylaw07.OctalBack': WHATEVER THE INPUT: true; the input reads as it did. -/
def octalBackSpec : ChangeSpec := { name := "octalBack", fn := fun _ => fun
  | [d1, d2, d3] => { results := [.lit (.bool true)], args := [d1, d2, d3] }
  | _ => none }
def octalBackRow : OpenClaim := { program := "ytheloepdhnfmaaa", sum := "30a3a2d8e19532ae7130f46faa36ff523e6dd800d00a1d4ce0a86428490b06e2", func := "tabulary/tabularylaw07.OctalBack", spec := "octalBack", apart := false }
def OctalBackSaid : Prop := octalBackRow.holds Try.pinned (OpenSpec.ofChange octalBackSpec)

/-- ITS FALSE NEIGHBOUR: 'it returns false'. Refute it at one input. -/
def octalBackWrong : ChangeSpec := { name := "octalBack", fn := fun _ => fun
  | [d1, d2, d3] => { results := [.lit (.bool false)], args := [d1, d2, d3] }
  | _ => none }
def OctalBackWrongFalsely : Prop := octalBackRow.holds Try.pinned (OpenSpec.ofChange octalBackWrong)

/-- 'tabularylaw07.OctalOrder': WHATEVER THE INPUT: true; the input reads as it did. -/
def octalOrderSpec : ChangeSpec := { name := "octalOrder", fn := fun _ => fun
  | [d1, d2, d3] => { results := [.lit (.bool true)], args := [d1, d2, d3] }
  | _ => none }
def octalOrderRow : OpenClaim := { program := "ytheloepdhnfmaaa", sum := "30a3a2d8e19532ae7130f46faa36ff523e6dd800d00a1d4ce0a86428490b06e2", func := "tabulary/tabularylaw07.OctalOrder", spec := "octalOrder", apart := false }
def OctalOrderSaid : Prop := octalOrderRow.holds Try.pinned (OpenSpec.ofChange octalOrderSpec)

/-- ITS FALSE NEIGHBOUR: 'it returns false'. Refute it at one input. -/
def octalOrderWrong : ChangeSpec := { name := "octalOrder", fn := fun _ => fun
  | [d1, d2, d3] => { results := [.lit (.bool false)], args := [d1, d2, d3] }
  | _ => none }
def OctalOrderWrongFalsely : Prop := octalOrderRow.holds Try.pinned (OpenSpec.ofChange octalOrderWrong)

/-- 'tabularylaw07.OctalLoose': WHATEVER THE INPUT: true; the input reads as it did. -/
def octalLooseSpec : ChangeSpec := { name := "octalLoose", fn := fun _ => fun
  | [d1, d2, d3, d4] => { results := [.lit (.bool true)], args := [d1, d2, d3, d4] }
  | _ => none }
def octalLooseRow : OpenClaim := { program := "ytheloepdhnfmaaa", sum := "30a3a2d8e19532ae7130f46faa36ff523e6dd800d00a1d4ce0a86428490b06e2", func := "tabulary/tabularylaw07.OctalLoose", spec := "octalLoose", apart := false }
def OctalLooseSaid : Prop := octalLooseRow.holds Try.pinned (OpenSpec.ofChange octalLooseSpec)

/-- ITS FALSE NEIGHBOUR: 'it returns false'. Refute it at one input. -/
def octalLooseWrong : ChangeSpec := { name := "octalLoose", fn := fun _ => fun
  | [d1, d2, d3, d4] => { results := [.lit (.bool false)], args := [d1, d2, d3, d4] }
  | _ => none }
def OctalLooseWrongFalsely : Prop := octalLooseRow.holds Try.pinned (OpenSpec.ofChange octalLooseWrong)

/-- 'tabularylaw07.OctalOwn': WHATEVER THE INPUT: true; the input reads as it did. -/
def octalOwnSpec : ChangeSpec := { name := "octalOwn", fn := fun _ => fun
  | [d1, d2, d3] => { results := [.lit (.bool true)], args := [d1, d2, d3] }
  | _ => none }
def octalOwnRow : OpenClaim := { program := "ytheloepdhnfmaaa", sum := "30a3a2d8e19532ae7130f46faa36ff523e6dd800d00a1d4ce0a86428490b06e2", func := "tabulary/tabularylaw07.OctalOwn", spec := "octalOwn", apart := false }
def OctalOwnSaid : Prop := octalOwnRow.holds Try.pinned (OpenSpec.ofChange octalOwnSpec)

/-- ITS FALSE NEIGHBOUR: 'it returns false'. Refute it at one input. -/
def octalOwnWrong : ChangeSpec := { name := "octalOwn", fn := fun _ => fun
  | [d1, d2, d3] => { results := [.lit (.bool false)], args := [d1, d2, d3] }
  | _ => none }
def OctalOwnWrongFalsely : Prop := octalOwnRow.holds Try.pinned (OpenSpec.ofChange octalOwnWrong)

/-- 'tabularylaw07.OctalKnown': WHATEVER THE INPUT: true; the input reads as it did. -/
def octalKnownSpec : ChangeSpec := { name := "octalKnown", fn := fun _ => fun
  | [] => { results := [.lit (.bool true)], args := [] }
  | _ => none }
def octalKnownRow : OpenClaim := { program := "ytheloepdhnfmaaa", sum := "30a3a2d8e19532ae7130f46faa36ff523e6dd800d00a1d4ce0a86428490b06e2", func := "tabulary/tabularylaw07.OctalKnown", spec := "octalKnown", apart := false }
def OctalKnownSaid : Prop := octalKnownRow.holds Try.pinned (OpenSpec.ofChange octalKnownSpec)

/-- ITS FALSE NEIGHBOUR: 'it returns false'. Refute it at one input. -/
def octalKnownWrong : ChangeSpec := { name := "octalKnown", fn := fun _ => fun
  | [] => { results := [.lit (.bool false)], args := [] }
  | _ => none }
def OctalKnownWrongFalsely : Prop := octalKnownRow.holds Try.pinned (OpenSpec.ofChange octalKnownWrong)

/- THE SECOND FORM. 'bulk': how many values and letters a reading holds, each counted each time it is reached (what is shared counts as often as it is met; a slice's spare places count too). A statement '..UptoSaid' is the law's where the arguments, and the package variables that the reading takes, are together of bulk at most 1048576: NARROWER than '..Said'. Prove '..Said' where nothing that the law and all that it calls make is longer than what came in: it says more and counts as full. Else prove '..UptoSaid'. A law counts once. -/
mutual
def uptoBulk {H : Type} : DataW H → Nat
  | .lit (.string bytes) => bytes.length + 1
  | .lit _ => 1
  | .nil => 1
  | .ptr d => uptoBulk d + 1
  | .slice elems spare => uptoBulkAll elems + uptoBulkAll spare + 1
  | .agg parts => uptoBulkAll parts + 1
  | .iface _ d => uptoBulk d + 1
  | .map entries => uptoBulkEntries entries + 1
  | .held _ => 1
def uptoBulkAll {H : Type} : List (DataW H) → Nat
  | [] => 0
  | d :: r => uptoBulk d + uptoBulkAll r
def uptoBulkEntries {H : Type} : List (Lit × DataW H) → Nat
  | [] => 0
  | x :: r => uptoBulkEntry x + uptoBulkEntries r
def uptoBulkEntry {H : Type} : Lit × DataW H → Nat
  | (.string bytes, d) => bytes.length + uptoBulk d + 1
  | (_, d) => uptoBulk d + 1
 end
def uptoSmall : (H : Type) → List (DataW H) → Bool := fun _ ds => decide (uptoBulkAll ds ≤ 1048576)
def OpenSpec.upto (s : _root_.Go.ChangeSpec) : _root_.Go.OpenSpec := { _root_.Go.OpenSpec.ofChange s with cond := some uptoSmall }

/-- 'tabularylaw07.OctalPuts', WHERE WHAT IT READS IS OF BULK AT MOST 1048576: true; the input reads as it did. -/
def octalPutsUptoRow : OpenClaim := { program := "ytheloepdhnfmaaa", sum := "30a3a2d8e19532ae7130f46faa36ff523e6dd800d00a1d4ce0a86428490b06e2", func := "tabulary/tabularylaw07.OctalPuts", spec := "octalPuts", apart := false, narrowed := true }
def OctalPutsUptoSaid : Prop := octalPutsUptoRow.holds Try.pinned (OpenSpec.upto octalPutsSpec)

/-- 'tabularylaw07.OctalGets', WHERE WHAT IT READS IS OF BULK AT MOST 1048576: true; the input reads as it did. -/
def octalGetsUptoRow : OpenClaim := { program := "ytheloepdhnfmaaa", sum := "30a3a2d8e19532ae7130f46faa36ff523e6dd800d00a1d4ce0a86428490b06e2", func := "tabulary/tabularylaw07.OctalGets", spec := "octalGets", apart := false, narrowed := true }
def OctalGetsUptoSaid : Prop := octalGetsUptoRow.holds Try.pinned (OpenSpec.upto octalGetsSpec)

/-- 'tabularylaw07.OctalExacts', WHERE WHAT IT READS IS OF BULK AT MOST 1048576: true; the input reads as it did. -/
def octalExactsUptoRow : OpenClaim := { program := "ytheloepdhnfmaaa", sum := "30a3a2d8e19532ae7130f46faa36ff523e6dd800d00a1d4ce0a86428490b06e2", func := "tabulary/tabularylaw07.OctalExacts", spec := "octalExacts", apart := false, narrowed := true }
def OctalExactsUptoSaid : Prop := octalExactsUptoRow.holds Try.pinned (OpenSpec.upto octalExactsSpec)

/-- 'tabularylaw07.OctalBack', WHERE WHAT IT READS IS OF BULK AT MOST 1048576: true; the input reads as it did. -/
def octalBackUptoRow : OpenClaim := { program := "ytheloepdhnfmaaa", sum := "30a3a2d8e19532ae7130f46faa36ff523e6dd800d00a1d4ce0a86428490b06e2", func := "tabulary/tabularylaw07.OctalBack", spec := "octalBack", apart := false, narrowed := true }
def OctalBackUptoSaid : Prop := octalBackUptoRow.holds Try.pinned (OpenSpec.upto octalBackSpec)

/-- 'tabularylaw07.OctalOrder', WHERE WHAT IT READS IS OF BULK AT MOST 1048576: true; the input reads as it did. -/
def octalOrderUptoRow : OpenClaim := { program := "ytheloepdhnfmaaa", sum := "30a3a2d8e19532ae7130f46faa36ff523e6dd800d00a1d4ce0a86428490b06e2", func := "tabulary/tabularylaw07.OctalOrder", spec := "octalOrder", apart := false, narrowed := true }
def OctalOrderUptoSaid : Prop := octalOrderUptoRow.holds Try.pinned (OpenSpec.upto octalOrderSpec)

/-- 'tabularylaw07.OctalLoose', WHERE WHAT IT READS IS OF BULK AT MOST 1048576: true; the input reads as it did. -/
def octalLooseUptoRow : OpenClaim := { program := "ytheloepdhnfmaaa", sum := "30a3a2d8e19532ae7130f46faa36ff523e6dd800d00a1d4ce0a86428490b06e2", func := "tabulary/tabularylaw07.OctalLoose", spec := "octalLoose", apart := false, narrowed := true }
def OctalLooseUptoSaid : Prop := octalLooseUptoRow.holds Try.pinned (OpenSpec.upto octalLooseSpec)

/-- 'tabularylaw07.OctalOwn', WHERE WHAT IT READS IS OF BULK AT MOST 1048576: true; the input reads as it did. -/
def octalOwnUptoRow : OpenClaim := { program := "ytheloepdhnfmaaa", sum := "30a3a2d8e19532ae7130f46faa36ff523e6dd800d00a1d4ce0a86428490b06e2", func := "tabulary/tabularylaw07.OctalOwn", spec := "octalOwn", apart := false, narrowed := true }
def OctalOwnUptoSaid : Prop := octalOwnUptoRow.holds Try.pinned (OpenSpec.upto octalOwnSpec)

/-- 'tabularylaw07.OctalKnown', WHERE WHAT IT READS IS OF BULK AT MOST 1048576: true; the input reads as it did. -/
def octalKnownUptoRow : OpenClaim := { program := "ytheloepdhnfmaaa", sum := "30a3a2d8e19532ae7130f46faa36ff523e6dd800d00a1d4ce0a86428490b06e2", func := "tabulary/tabularylaw07.OctalKnown", spec := "octalKnown", apart := false, narrowed := true }
def OctalKnownUptoSaid : Prop := octalKnownUptoRow.holds Try.pinned (OpenSpec.upto octalKnownSpec)

end Rows
end Go.Proofs.Ytheloepdhnfmaaa
