/- The limits, the errors' numbers and the document's examples of the octal layer hold of the Go program. No condition. -/
import Derived.Test.YtheloepdhnfmaaaPOctalKnownx3
namespace Go.Proofs.Ytheloepdhnfmaaa.Pure
open Go.RowKit Go.Proofs.Ytheloepdhnfmaaa.POctalKnown Go.Proofs.YtheloepdhnfmaaaW.PrintWords Go.Proofs.YtheloepdhnfmaaaW.PrintLast Go.Proofs.YtheloepdhnfmaaaW.PrintMore
set_option linter.unusedVariables false
set_option linter.unusedSimpArgs false

theorem OctalKnown : tabularylaw07_OctalKnown.Pure := ⟨100, by decide +kernel⟩

end Go.Proofs.Ytheloepdhnfmaaa.Pure
