/-
  No cell of these rows narrows 'for every input' (looked for: loops, veiled, ifaces, maps, wideKeys, modest, calm, conditions, laid).
  DERIVED. THE GIVEN ROWS OF THIS SEAT. 7 by the template 'for every input the law returns true; each argument reads behind the call as it read before'; 0 by the template 'total and deterministic' (their statements: YtfpiegglpagkmaaTotals.lean).
  GIVEN WITH THE SEED: the statements are not yours to turn. If you find one false, say at which input.
  Laid BY PROGRAM, IN A SANDBOX (cutbox-rows.mjs): the forced cells as the released guide's own fill.sh prints them over the translation f09a006267984f45… (all of the seat's roots in one cut). By AI agents, Wed Nov 11 2026. No macro, syntax, notation, axiom, sorry.
-/
import Derived.Test.YtfpiegglpagkmaaChecked
import GoSem.Claim
import GoSem.ClaimJoined
import GoSem.ClaimMapViews
import Derived.JoinedTies
import Derived.KernelRfl
namespace Go.Proofs.Ytfpiegglpagkmaa
/- THE CELL 'sum', in the pinned program and in every row, IS THE sha256 OF THE DUMP (.gsa) THAT YtfpiegglpagkmaaProg.lean LOADS. Nothing in Lean hashes anything: it is a label: what it is worth is what the hold of that sum in a sandbox is worth. -/
noncomputable def Try.pinned : Pinned := { name := "ytfpiegglpagkmaa", sum := "f09a006267984f4577971f81217f4250ac796ed51c3ead7147a8c715bcbc7e73", checked := Try.checked }
namespace Rows
def none {H : Type} : Left H := { results := [], args := [] }

/-- 'tabularylaw01.GfField': WHATEVER THE INPUT: true; the input reads as it did. -/
def gfFieldSpec : ChangeSpec := { name := "gfField", fn := fun _ => fun
  | [d1, d2, d3] => { results := [.lit (.bool true)], args := [d1, d2, d3] }
  | _ => none }
def gfFieldRow : OpenClaim := { program := "ytfpiegglpagkmaa", sum := "f09a006267984f4577971f81217f4250ac796ed51c3ead7147a8c715bcbc7e73", func := "tabulary/tabularylaw01.GfField", spec := "gfField", unfollowed := true, recurses := true, apart := false }
def GfFieldSaid : Prop := gfFieldRow.holds Try.pinned (OpenSpec.ofChange gfFieldSpec)

/-- ITS FALSE NEIGHBOUR: 'it returns false'. Refute it at one input. -/
def gfFieldWrong : ChangeSpec := { name := "gfField", fn := fun _ => fun
  | [d1, d2, d3] => { results := [.lit (.bool false)], args := [d1, d2, d3] }
  | _ => none }
def GfFieldWrongFalsely : Prop := gfFieldRow.holds Try.pinned (OpenSpec.ofChange gfFieldWrong)

/-- 'tabularylaw01.GfTurns': WHATEVER THE INPUT: true; the input reads as it did. -/
def gfTurnsSpec : ChangeSpec := { name := "gfTurns", fn := fun _ => fun
  | [] => { results := [.lit (.bool true)], args := [] }
  | _ => none }
def gfTurnsRow : OpenClaim := { program := "ytfpiegglpagkmaa", sum := "f09a006267984f4577971f81217f4250ac796ed51c3ead7147a8c715bcbc7e73", func := "tabulary/tabularylaw01.GfTurns", spec := "gfTurns", unfollowed := true, recurses := true, apart := false }
def GfTurnsSaid : Prop := gfTurnsRow.holds Try.pinned (OpenSpec.ofChange gfTurnsSpec)

/-- ITS FALSE NEIGHBOUR: 'it returns false'. Refute it at one input. -/
def gfTurnsWrong : ChangeSpec := { name := "gfTurns", fn := fun _ => fun
  | [] => { results := [.lit (.bool false)], args := [] }
  | _ => none }
def GfTurnsWrongFalsely : Prop := gfTurnsRow.holds Try.pinned (OpenSpec.ofChange gfTurnsWrong)

/-- 'tabularylaw01.GfTells': WHATEVER THE INPUT: true; the input reads as it did. -/
def gfTellsSpec : ChangeSpec := { name := "gfTells", fn := fun _ => fun
  | [d1, d2] => { results := [.lit (.bool true)], args := [d1, d2] }
  | _ => none }
def gfTellsRow : OpenClaim := { program := "ytfpiegglpagkmaa", sum := "f09a006267984f4577971f81217f4250ac796ed51c3ead7147a8c715bcbc7e73", func := "tabulary/tabularylaw01.GfTells", spec := "gfTells", unfollowed := true, recurses := true, apart := false }
def GfTellsSaid : Prop := gfTellsRow.holds Try.pinned (OpenSpec.ofChange gfTellsSpec)

/-- ITS FALSE NEIGHBOUR: 'it returns false'. Refute it at one input. -/
def gfTellsWrong : ChangeSpec := { name := "gfTells", fn := fun _ => fun
  | [d1, d2] => { results := [.lit (.bool false)], args := [d1, d2] }
  | _ => none }
def GfTellsWrongFalsely : Prop := gfTellsRow.holds Try.pinned (OpenSpec.ofChange gfTellsWrong)

/-- 'tabularylaw01.GfBack': WHATEVER THE INPUT: true; the input reads as it did. -/
def gfBackSpec : ChangeSpec := { name := "gfBack", fn := fun _ => fun
  | [d1, d2] => { results := [.lit (.bool true)], args := [d1, d2] }
  | _ => none }
def gfBackRow : OpenClaim := { program := "ytfpiegglpagkmaa", sum := "f09a006267984f4577971f81217f4250ac796ed51c3ead7147a8c715bcbc7e73", func := "tabulary/tabularylaw01.GfBack", spec := "gfBack", unfollowed := true, recurses := true, apart := false }
def GfBackSaid : Prop := gfBackRow.holds Try.pinned (OpenSpec.ofChange gfBackSpec)

/-- ITS FALSE NEIGHBOUR: 'it returns false'. Refute it at one input. -/
def gfBackWrong : ChangeSpec := { name := "gfBack", fn := fun _ => fun
  | [d1, d2] => { results := [.lit (.bool false)], args := [d1, d2] }
  | _ => none }
def GfBackWrongFalsely : Prop := gfBackRow.holds Try.pinned (OpenSpec.ofChange gfBackWrong)

/-- 'tabularylaw01.GfPowers': WHATEVER THE INPUT: true; the input reads as it did. -/
def gfPowersSpec : ChangeSpec := { name := "gfPowers", fn := fun _ => fun
  | [d1, d2] => { results := [.lit (.bool true)], args := [d1, d2] }
  | _ => none }
def gfPowersRow : OpenClaim := { program := "ytfpiegglpagkmaa", sum := "f09a006267984f4577971f81217f4250ac796ed51c3ead7147a8c715bcbc7e73", func := "tabulary/tabularylaw01.GfPowers", spec := "gfPowers", unfollowed := true, recurses := true, apart := false }
def GfPowersSaid : Prop := gfPowersRow.holds Try.pinned (OpenSpec.ofChange gfPowersSpec)

/-- ITS FALSE NEIGHBOUR: 'it returns false'. Refute it at one input. -/
def gfPowersWrong : ChangeSpec := { name := "gfPowers", fn := fun _ => fun
  | [d1, d2] => { results := [.lit (.bool false)], args := [d1, d2] }
  | _ => none }
def GfPowersWrongFalsely : Prop := gfPowersRow.holds Try.pinned (OpenSpec.ofChange gfPowersWrong)

/-- 'tabularylaw01.GfSums': WHATEVER THE INPUT: true; the input reads as it did. -/
def gfSumsSpec : ChangeSpec := { name := "gfSums", fn := fun _ => fun
  | [d1, d2, d3] => { results := [.lit (.bool true)], args := [d1, d2, d3] }
  | _ => none }
def gfSumsRow : OpenClaim := { program := "ytfpiegglpagkmaa", sum := "f09a006267984f4577971f81217f4250ac796ed51c3ead7147a8c715bcbc7e73", func := "tabulary/tabularylaw01.GfSums", spec := "gfSums", unfollowed := true, recurses := true, apart := false }
def GfSumsSaid : Prop := gfSumsRow.holds Try.pinned (OpenSpec.ofChange gfSumsSpec)

/-- ITS FALSE NEIGHBOUR: 'it returns false'. Refute it at one input. -/
def gfSumsWrong : ChangeSpec := { name := "gfSums", fn := fun _ => fun
  | [d1, d2, d3] => { results := [.lit (.bool false)], args := [d1, d2, d3] }
  | _ => none }
def GfSumsWrongFalsely : Prop := gfSumsRow.holds Try.pinned (OpenSpec.ofChange gfSumsWrong)

/-- 'tabularylaw01.GfSquares': WHATEVER THE INPUT: true; the input reads as it did. -/
def gfSquaresSpec : ChangeSpec := { name := "gfSquares", fn := fun _ => fun
  | [d1, d2] => { results := [.lit (.bool true)], args := [d1, d2] }
  | _ => none }
def gfSquaresRow : OpenClaim := { program := "ytfpiegglpagkmaa", sum := "f09a006267984f4577971f81217f4250ac796ed51c3ead7147a8c715bcbc7e73", func := "tabulary/tabularylaw01.GfSquares", spec := "gfSquares", unfollowed := true, recurses := true, apart := false }
def GfSquaresSaid : Prop := gfSquaresRow.holds Try.pinned (OpenSpec.ofChange gfSquaresSpec)

/-- ITS FALSE NEIGHBOUR: 'it returns false'. Refute it at one input. -/
def gfSquaresWrong : ChangeSpec := { name := "gfSquares", fn := fun _ => fun
  | [d1, d2] => { results := [.lit (.bool false)], args := [d1, d2] }
  | _ => none }
def GfSquaresWrongFalsely : Prop := gfSquaresRow.holds Try.pinned (OpenSpec.ofChange gfSquaresWrong)

/- THE SECOND FORM. 'bulk': how many values and letters a reading holds, each counted each time it is reached (what is shared counts as often as it is met; a slice's spare places count too). A statement '..UptoSaid' is the law's where the arguments, and the package variables that the reading takes, are together of bulk at most 1048576: NARROWER than '..Said'. Prove '..Said' where nothing that the law and all that it calls make is longer than what came in: it says more and counts as full. Else prove '..UptoSaid'. A law counts once. -/
mutual
def uptoBulk {H : Type} : DataW H → Nat
  | .lit (.string bytes) => bytes.length + 1
  | .lit _ => 1
  | .nil => 1
  | .ptr d => uptoBulk d + 1
  | .slice elems spare => uptoBulkAll elems + uptoBulkAll spare + 1
  | .agg parts => uptoBulkAll parts + 1
  | .iface _ d => uptoBulk d + 1
  | .map entries => uptoBulkEntries entries + 1
  | .held _ => 1
def uptoBulkAll {H : Type} : List (DataW H) → Nat
  | [] => 0
  | d :: r => uptoBulk d + uptoBulkAll r
def uptoBulkEntries {H : Type} : List (Lit × DataW H) → Nat
  | [] => 0
  | x :: r => uptoBulkEntry x + uptoBulkEntries r
def uptoBulkEntry {H : Type} : Lit × DataW H → Nat
  | (.string bytes, d) => bytes.length + uptoBulk d + 1
  | (_, d) => uptoBulk d + 1
 end
def uptoSmall : (H : Type) → List (DataW H) → Bool := fun _ ds => decide (uptoBulkAll ds ≤ 1048576)
def OpenSpec.upto (s : _root_.Go.ChangeSpec) : _root_.Go.OpenSpec := { _root_.Go.OpenSpec.ofChange s with cond := some uptoSmall }

/-- 'tabularylaw01.GfField', WHERE WHAT IT READS IS OF BULK AT MOST 1048576: true; the input reads as it did. -/
def gfFieldUptoRow : OpenClaim := { program := "ytfpiegglpagkmaa", sum := "f09a006267984f4577971f81217f4250ac796ed51c3ead7147a8c715bcbc7e73", func := "tabulary/tabularylaw01.GfField", spec := "gfField", unfollowed := true, recurses := true, apart := false, narrowed := true }
def GfFieldUptoSaid : Prop := gfFieldUptoRow.holds Try.pinned (OpenSpec.upto gfFieldSpec)

/-- 'tabularylaw01.GfTurns', WHERE WHAT IT READS IS OF BULK AT MOST 1048576: true; the input reads as it did. -/
def gfTurnsUptoRow : OpenClaim := { program := "ytfpiegglpagkmaa", sum := "f09a006267984f4577971f81217f4250ac796ed51c3ead7147a8c715bcbc7e73", func := "tabulary/tabularylaw01.GfTurns", spec := "gfTurns", unfollowed := true, recurses := true, apart := false, narrowed := true }
def GfTurnsUptoSaid : Prop := gfTurnsUptoRow.holds Try.pinned (OpenSpec.upto gfTurnsSpec)

/-- 'tabularylaw01.GfTells', WHERE WHAT IT READS IS OF BULK AT MOST 1048576: true; the input reads as it did. -/
def gfTellsUptoRow : OpenClaim := { program := "ytfpiegglpagkmaa", sum := "f09a006267984f4577971f81217f4250ac796ed51c3ead7147a8c715bcbc7e73", func := "tabulary/tabularylaw01.GfTells", spec := "gfTells", unfollowed := true, recurses := true, apart := false, narrowed := true }
def GfTellsUptoSaid : Prop := gfTellsUptoRow.holds Try.pinned (OpenSpec.upto gfTellsSpec)

/-- 'tabularylaw01.GfBack', WHERE WHAT IT READS IS OF BULK AT MOST 1048576: true; the input reads as it did. -/
def gfBackUptoRow : OpenClaim := { program := "ytfpiegglpagkmaa", sum := "f09a006267984f4577971f81217f4250ac796ed51c3ead7147a8c715bcbc7e73", func := "tabulary/tabularylaw01.GfBack", spec := "gfBack", unfollowed := true, recurses := true, apart := false, narrowed := true }
def GfBackUptoSaid : Prop := gfBackUptoRow.holds Try.pinned (OpenSpec.upto gfBackSpec)

/-- 'tabularylaw01.GfPowers', WHERE WHAT IT READS IS OF BULK AT MOST 1048576: true; the input reads as it did. -/
def gfPowersUptoRow : OpenClaim := { program := "ytfpiegglpagkmaa", sum := "f09a006267984f4577971f81217f4250ac796ed51c3ead7147a8c715bcbc7e73", func := "tabulary/tabularylaw01.GfPowers", spec := "gfPowers", unfollowed := true, recurses := true, apart := false, narrowed := true }
def GfPowersUptoSaid : Prop := gfPowersUptoRow.holds Try.pinned (OpenSpec.upto gfPowersSpec)

/-- 'tabularylaw01.GfSums', WHERE WHAT IT READS IS OF BULK AT MOST 1048576: true; the input reads as it did. -/
def gfSumsUptoRow : OpenClaim := { program := "ytfpiegglpagkmaa", sum := "f09a006267984f4577971f81217f4250ac796ed51c3ead7147a8c715bcbc7e73", func := "tabulary/tabularylaw01.GfSums", spec := "gfSums", unfollowed := true, recurses := true, apart := false, narrowed := true }
def GfSumsUptoSaid : Prop := gfSumsUptoRow.holds Try.pinned (OpenSpec.upto gfSumsSpec)

/-- 'tabularylaw01.GfSquares', WHERE WHAT IT READS IS OF BULK AT MOST 1048576: true; the input reads as it did. -/
def gfSquaresUptoRow : OpenClaim := { program := "ytfpiegglpagkmaa", sum := "f09a006267984f4577971f81217f4250ac796ed51c3ead7147a8c715bcbc7e73", func := "tabulary/tabularylaw01.GfSquares", spec := "gfSquares", unfollowed := true, recurses := true, apart := false, narrowed := true }
def GfSquaresUptoSaid : Prop := gfSquaresUptoRow.holds Try.pinned (OpenSpec.upto gfSquaresSpec)

end Rows
end Go.Proofs.Ytfpiegglpagkmaa
