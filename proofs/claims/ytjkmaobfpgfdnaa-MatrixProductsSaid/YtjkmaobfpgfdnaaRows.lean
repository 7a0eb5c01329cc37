/-
  No cell of these rows narrows 'for every input' (looked for: loops, veiled, ifaces, maps, wideKeys, modest, calm, conditions, laid).
  DERIVED. THE GIVEN ROWS OF THIS SEAT. 7 by the template 'for every input the law returns true; each argument reads behind the call as it read before'; 0 by the template 'total and deterministic' (their statements: YtjkmaobfpgfdnaaTotals.lean).
  GIVEN WITH THE SEED: the statements are not yours to turn. If you find one false, say at which input.
  Laid BY PROGRAM, IN A SANDBOX (cutbox-rows.mjs): the forced cells as the released guide's own fill.sh prints them over the translation f1941f231117cbb0… (all of the seat's roots in one cut). By AI agents, Wed Nov 11 2026. No macro, syntax, notation, axiom, sorry.
-/
import Derived.Test.YtjkmaobfpgfdnaaChecked
import GoSem.Claim
import GoSem.ClaimJoined
import GoSem.ClaimMapViews
import Derived.JoinedTies
import Derived.KernelRfl
namespace Go.Proofs.Ytjkmaobfpgfdnaa
/- THE CELL 'sum', in the pinned program and in every row, IS THE sha256 OF THE DUMP (.gsa) THAT YtjkmaobfpgfdnaaProg.lean LOADS. Nothing in Lean hashes anything: it is a label: what it is worth is what the hold of that sum in a sandbox is worth. -/
noncomputable def Try.pinned : Pinned := { name := "ytjkmaobfpgfdnaa", sum := "f1941f231117cbb058d1f5cd1111165622f04a69c1ca546ad5545cfd4c2dfae3", checked := Try.checked }
namespace Rows
def none {H : Type} : Left H := { results := [], args := [] }

/-- 'tabularylaw02.MatrixChains': WHATEVER THE INPUT: true; the input reads as it did. -/
def matrixChainsSpec : ChangeSpec := { name := "matrixChains", fn := fun _ => fun
  | [d1, d2, d3] => { results := [.lit (.bool true)], args := [d1, d2, d3] }
  | _ => none }
def matrixChainsRow : OpenClaim := { program := "ytjkmaobfpgfdnaa", sum := "f1941f231117cbb058d1f5cd1111165622f04a69c1ca546ad5545cfd4c2dfae3", func := "tabulary/tabularylaw02.MatrixChains", spec := "matrixChains", unfollowed := true, recurses := true, apart := false }
def MatrixChainsSaid : Prop := matrixChainsRow.holds Try.pinned (OpenSpec.ofChange matrixChainsSpec)

/-- ITS FALSE NEIGHBOUR: 'it returns false'. Refute it at one input. -/
def matrixChainsWrong : ChangeSpec := { name := "matrixChains", fn := fun _ => fun
  | [d1, d2, d3] => { results := [.lit (.bool false)], args := [d1, d2, d3] }
  | _ => none }
def MatrixChainsWrongFalsely : Prop := matrixChainsRow.holds Try.pinned (OpenSpec.ofChange matrixChainsWrong)

/-- 'tabularylaw02.MatrixProducts': WHATEVER THE INPUT: true; the input reads as it did. -/
def matrixProductsSpec : ChangeSpec := { name := "matrixProducts", fn := fun _ => fun
  | [d1, d2, d3] => { results := [.lit (.bool true)], args := [d1, d2, d3] }
  | _ => none }
def matrixProductsRow : OpenClaim := { program := "ytjkmaobfpgfdnaa", sum := "f1941f231117cbb058d1f5cd1111165622f04a69c1ca546ad5545cfd4c2dfae3", func := "tabulary/tabularylaw02.MatrixProducts", spec := "matrixProducts", unfollowed := true, recurses := true, apart := false }
def MatrixProductsSaid : Prop := matrixProductsRow.holds Try.pinned (OpenSpec.ofChange matrixProductsSpec)

/-- ITS FALSE NEIGHBOUR: 'it returns false'. Refute it at one input. -/
def matrixProductsWrong : ChangeSpec := { name := "matrixProducts", fn := fun _ => fun
  | [d1, d2, d3] => { results := [.lit (.bool false)], args := [d1, d2, d3] }
  | _ => none }
def MatrixProductsWrongFalsely : Prop := matrixProductsRow.holds Try.pinned (OpenSpec.ofChange matrixProductsWrong)

/-- 'tabularylaw02.MatrixBack': WHATEVER THE INPUT: true; the input reads as it did. -/
def matrixBackSpec : ChangeSpec := { name := "matrixBack", fn := fun _ => fun
  | [d] => { results := [.lit (.bool true)], args := [d] }
  | _ => none }
def matrixBackRow : OpenClaim := { program := "ytjkmaobfpgfdnaa", sum := "f1941f231117cbb058d1f5cd1111165622f04a69c1ca546ad5545cfd4c2dfae3", func := "tabulary/tabularylaw02.MatrixBack", spec := "matrixBack", unfollowed := true, recurses := true, apart := false }
def MatrixBackSaid : Prop := matrixBackRow.holds Try.pinned (OpenSpec.ofChange matrixBackSpec)

/-- ITS FALSE NEIGHBOUR: 'it returns false'. Refute it at one input. -/
def matrixBackWrong : ChangeSpec := { name := "matrixBack", fn := fun _ => fun
  | [d] => { results := [.lit (.bool false)], args := [d] }
  | _ => none }
def MatrixBackWrongFalsely : Prop := matrixBackRow.holds Try.pinned (OpenSpec.ofChange matrixBackWrong)

/-- 'tabularylaw02.MatrixInverses': WHATEVER THE INPUT: true; the input reads as it did. -/
def matrixInversesSpec : ChangeSpec := { name := "matrixInverses", fn := fun _ => fun
  | [d] => { results := [.lit (.bool true)], args := [d] }
  | _ => none }
def matrixInversesRow : OpenClaim := { program := "ytjkmaobfpgfdnaa", sum := "f1941f231117cbb058d1f5cd1111165622f04a69c1ca546ad5545cfd4c2dfae3", func := "tabulary/tabularylaw02.MatrixInverses", spec := "matrixInverses", unfollowed := true, recurses := true, apart := false }
def MatrixInversesSaid : Prop := matrixInversesRow.holds Try.pinned (OpenSpec.ofChange matrixInversesSpec)

/-- ITS FALSE NEIGHBOUR: 'it returns false'. Refute it at one input. -/
def matrixInversesWrong : ChangeSpec := { name := "matrixInverses", fn := fun _ => fun
  | [d] => { results := [.lit (.bool false)], args := [d] }
  | _ => none }
def MatrixInversesWrongFalsely : Prop := matrixInversesRow.holds Try.pinned (OpenSpec.ofChange matrixInversesWrong)

/-- 'tabularylaw02.MatrixTurns': WHATEVER THE INPUT: true; the input reads as it did. -/
def matrixTurnsSpec : ChangeSpec := { name := "matrixTurns", fn := fun _ => fun
  | [d] => { results := [.lit (.bool true)], args := [d] }
  | _ => none }
def matrixTurnsRow : OpenClaim := { program := "ytjkmaobfpgfdnaa", sum := "f1941f231117cbb058d1f5cd1111165622f04a69c1ca546ad5545cfd4c2dfae3", func := "tabulary/tabularylaw02.MatrixTurns", spec := "matrixTurns", unfollowed := true, recurses := true, apart := false }
def MatrixTurnsSaid : Prop := matrixTurnsRow.holds Try.pinned (OpenSpec.ofChange matrixTurnsSpec)

/-- ITS FALSE NEIGHBOUR: 'it returns false'. Refute it at one input. -/
def matrixTurnsWrong : ChangeSpec := { name := "matrixTurns", fn := fun _ => fun
  | [d] => { results := [.lit (.bool false)], args := [d] }
  | _ => none }
def MatrixTurnsWrongFalsely : Prop := matrixTurnsRow.holds Try.pinned (OpenSpec.ofChange matrixTurnsWrong)

/-- 'tabularylaw02.MatrixRows': WHATEVER THE INPUT: true; the input reads as it did. -/
def matrixRowsSpec : ChangeSpec := { name := "matrixRows", fn := fun _ => fun
  | [d1, d2, d3] => { results := [.lit (.bool true)], args := [d1, d2, d3] }
  | _ => none }
def matrixRowsRow : OpenClaim := { program := "ytjkmaobfpgfdnaa", sum := "f1941f231117cbb058d1f5cd1111165622f04a69c1ca546ad5545cfd4c2dfae3", func := "tabulary/tabularylaw02.MatrixRows", spec := "matrixRows", unfollowed := true, recurses := true, apart := false }
def MatrixRowsSaid : Prop := matrixRowsRow.holds Try.pinned (OpenSpec.ofChange matrixRowsSpec)

/-- ITS FALSE NEIGHBOUR: 'it returns false'. Refute it at one input. -/
def matrixRowsWrong : ChangeSpec := { name := "matrixRows", fn := fun _ => fun
  | [d1, d2, d3] => { results := [.lit (.bool false)], args := [d1, d2, d3] }
  | _ => none }
def MatrixRowsWrongFalsely : Prop := matrixRowsRow.holds Try.pinned (OpenSpec.ofChange matrixRowsWrong)

/-- 'tabularylaw02.MatrixDots': WHATEVER THE INPUT: true; the input reads as it did. -/
def matrixDotsSpec : ChangeSpec := { name := "matrixDots", fn := fun _ => fun
  | [d1, d2, d3] => { results := [.lit (.bool true)], args := [d1, d2, d3] }
  | _ => none }
def matrixDotsRow : OpenClaim := { program := "ytjkmaobfpgfdnaa", sum := "f1941f231117cbb058d1f5cd1111165622f04a69c1ca546ad5545cfd4c2dfae3", func := "tabulary/tabularylaw02.MatrixDots", spec := "matrixDots", unfollowed := true, recurses := true, apart := false }
def MatrixDotsSaid : Prop := matrixDotsRow.holds Try.pinned (OpenSpec.ofChange matrixDotsSpec)

/-- ITS FALSE NEIGHBOUR: 'it returns false'. Refute it at one input. -/
def matrixDotsWrong : ChangeSpec := { name := "matrixDots", fn := fun _ => fun
  | [d1, d2, d3] => { results := [.lit (.bool false)], args := [d1, d2, d3] }
  | _ => none }
def MatrixDotsWrongFalsely : Prop := matrixDotsRow.holds Try.pinned (OpenSpec.ofChange matrixDotsWrong)

/- THE SECOND FORM. 'bulk': how many values and letters a reading holds, each counted each time it is reached (what is shared counts as often as it is met; a slice's spare places count too). A statement '..UptoSaid' is the law's where the arguments, and the package variables that the reading takes, are together of bulk at most 1048576: NARROWER than '..Said'. Prove '..Said' where nothing that the law and all that it calls make is longer than what came in: it says more and counts as full. Else prove '..UptoSaid'. A law counts once. -/
mutual
def uptoBulk {H : Type} : DataW H → Nat
  | .lit (.string bytes) => bytes.length + 1
  | .lit _ => 1
  | .nil => 1
  | .ptr d => uptoBulk d + 1
  | .slice elems spare => uptoBulkAll elems + uptoBulkAll spare + 1
  | .agg parts => uptoBulkAll parts + 1
  | .iface _ d => uptoBulk d + 1
  | .map entries => uptoBulkEntries entries + 1
  | .held _ => 1
def uptoBulkAll {H : Type} : List (DataW H) → Nat
  | [] => 0
  | d :: r => uptoBulk d + uptoBulkAll r
def uptoBulkEntries {H : Type} : List (Lit × DataW H) → Nat
  | [] => 0
  | x :: r => uptoBulkEntry x + uptoBulkEntries r
def uptoBulkEntry {H : Type} : Lit × DataW H → Nat
  | (.string bytes, d) => bytes.length + uptoBulk d + 1
  | (_, d) => uptoBulk d + 1
 end
def uptoSmall : (H : Type) → List (DataW H) → Bool := fun _ ds => decide (uptoBulkAll ds ≤ 1048576)
def OpenSpec.upto (s : _root_.Go.ChangeSpec) : _root_.Go.OpenSpec := { _root_.Go.OpenSpec.ofChange s with cond := some uptoSmall }

/-- 'tabularylaw02.MatrixChains', WHERE WHAT IT READS IS OF BULK AT MOST 1048576: true; the input reads as it did. -/
def matrixChainsUptoRow : OpenClaim := { program := "ytjkmaobfpgfdnaa", sum := "f1941f231117cbb058d1f5cd1111165622f04a69c1ca546ad5545cfd4c2dfae3", func := "tabulary/tabularylaw02.MatrixChains", spec := "matrixChains", unfollowed := true, recurses := true, apart := false, narrowed := true }
def MatrixChainsUptoSaid : Prop := matrixChainsUptoRow.holds Try.pinned (OpenSpec.upto matrixChainsSpec)

/-- 'tabularylaw02.MatrixProducts', WHERE WHAT IT READS IS OF BULK AT MOST 1048576: true; the input reads as it did. -/
def matrixProductsUptoRow : OpenClaim := { program := "ytjkmaobfpgfdnaa", sum := "f1941f231117cbb058d1f5cd1111165622f04a69c1ca546ad5545cfd4c2dfae3", func := "tabulary/tabularylaw02.MatrixProducts", spec := "matrixProducts", unfollowed := true, recurses := true, apart := false, narrowed := true }
def MatrixProductsUptoSaid : Prop := matrixProductsUptoRow.holds Try.pinned (OpenSpec.upto matrixProductsSpec)

/-- 'tabularylaw02.MatrixBack', WHERE WHAT IT READS IS OF BULK AT MOST 1048576: true; the input reads as it did. -/
def matrixBackUptoRow : OpenClaim := { program := "ytjkmaobfpgfdnaa", sum := "f1941f231117cbb058d1f5cd1111165622f04a69c1ca546ad5545cfd4c2dfae3", func := "tabulary/tabularylaw02.MatrixBack", spec := "matrixBack", unfollowed := true, recurses := true, apart := false, narrowed := true }
def MatrixBackUptoSaid : Prop := matrixBackUptoRow.holds Try.pinned (OpenSpec.upto matrixBackSpec)

/-- 'tabularylaw02.MatrixInverses', WHERE WHAT IT READS IS OF BULK AT MOST 1048576: true; the input reads as it did. -/
def matrixInversesUptoRow : OpenClaim := { program := "ytjkmaobfpgfdnaa", sum := "f1941f231117cbb058d1f5cd1111165622f04a69c1ca546ad5545cfd4c2dfae3", func := "tabulary/tabularylaw02.MatrixInverses", spec := "matrixInverses", unfollowed := true, recurses := true, apart := false, narrowed := true }
def MatrixInversesUptoSaid : Prop := matrixInversesUptoRow.holds Try.pinned (OpenSpec.upto matrixInversesSpec)

/-- 'tabularylaw02.MatrixTurns', WHERE WHAT IT READS IS OF BULK AT MOST 1048576: true; the input reads as it did. -/
def matrixTurnsUptoRow : OpenClaim := { program := "ytjkmaobfpgfdnaa", sum := "f1941f231117cbb058d1f5cd1111165622f04a69c1ca546ad5545cfd4c2dfae3", func := "tabulary/tabularylaw02.MatrixTurns", spec := "matrixTurns", unfollowed := true, recurses := true, apart := false, narrowed := true }
def MatrixTurnsUptoSaid : Prop := matrixTurnsUptoRow.holds Try.pinned (OpenSpec.upto matrixTurnsSpec)

/-- 'tabularylaw02.MatrixRows', WHERE WHAT IT READS IS OF BULK AT MOST 1048576: true; the input reads as it did. -/
def matrixRowsUptoRow : OpenClaim := { program := "ytjkmaobfpgfdnaa", sum := "f1941f231117cbb058d1f5cd1111165622f04a69c1ca546ad5545cfd4c2dfae3", func := "tabulary/tabularylaw02.MatrixRows", spec := "matrixRows", unfollowed := true, recurses := true, apart := false, narrowed := true }
def MatrixRowsUptoSaid : Prop := matrixRowsUptoRow.holds Try.pinned (OpenSpec.upto matrixRowsSpec)

/-- 'tabularylaw02.MatrixDots', WHERE WHAT IT READS IS OF BULK AT MOST 1048576: true; the input reads as it did. -/
def matrixDotsUptoRow : OpenClaim := { program := "ytjkmaobfpgfdnaa", sum := "f1941f231117cbb058d1f5cd1111165622f04a69c1ca546ad5545cfd4c2dfae3", func := "tabulary/tabularylaw02.MatrixDots", spec := "matrixDots", unfollowed := true, recurses := true, apart := false, narrowed := true }
def MatrixDotsUptoSaid : Prop := matrixDotsUptoRow.holds Try.pinned (OpenSpec.upto matrixDotsSpec)

end Rows
end Go.Proofs.Ytjkmaobfpgfdnaa
