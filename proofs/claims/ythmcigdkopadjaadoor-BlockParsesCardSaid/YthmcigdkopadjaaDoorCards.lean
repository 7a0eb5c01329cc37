/-
  DERIVED. GIVEN WITH THE SEED: THE CARDS: each row of YthmcigdkopadjaaDoorRows.lean that lists a variable, with what it lists TIED to the program's text (the seventh form; the later family's looks); each row that meets fmt, with fmt's text TOLD by the authors' own Lean function (tested against real Go, not proved from fmt's source: count such statements apart). THE CARD IS WHAT COUNTS. Prove the row's statement (the work); the ties are given (YthmcigdkopadjaaDoorTie.lean); close each card by the builder's one call (the guide's Derived/Test/ToyasCard.lean, 'card_holds'). Laid BY PROGRAM, IN A SANDBOX (cutbox-door.mjs). By AI agents, Wed Nov 11 2026. No macro, syntax, notation, axiom, sorry.
-/
import Derived.Test.YthmcigdkopadjaaDoorRows
import GoSem.ClaimSeven
namespace Go.Proofs.YthmcigdkopadjaaDoor
namespace Rows

/-- THE TIED CARD OF 'tabularylaw06.BlockPacks'. -/
def blockPacksCard : Claim7 := { stood := { row := blockPacksRow, standIns := [], harness := (true, "1b12771cc270fa244944eef716219064d86a0043ecc26ebbc3855a8c3886983c"), looks := false }, kinds := [], alts := [], laidByText := true, laidKinds := [.data, .pinned], laidTests := true, laidLooks := .later }
def BlockPacksCardSaid : Prop := Claim7.holds Tryd.pinned (.plain (OpenSpec.ofChange blockPacksSpec)) blockPacksCard

/-- THE TIED CARD OF 'tabularylaw06.BlockParses'. -/
def blockParsesCard : Claim7 := { stood := { row := blockParsesRow, standIns := [], harness := (true, "1b12771cc270fa244944eef716219064d86a0043ecc26ebbc3855a8c3886983c"), looks := false }, kinds := [], alts := [], laidByText := true, laidKinds := [.data, .pinned], laidTests := true, laidLooks := .later }
def BlockParsesCardSaid : Prop := Claim7.holds Tryd.pinned (.plain (OpenSpec.ofChange blockParsesSpec)) blockParsesCard

/-- THE TIED CARD OF 'tabularylaw06.BlockBack'. -/
def blockBackCard : Claim7 := { stood := { row := blockBackRow, standIns := [], harness := (true, "1b12771cc270fa244944eef716219064d86a0043ecc26ebbc3855a8c3886983c"), looks := false }, kinds := [], alts := [], laidByText := true, laidKinds := [.data, .pinned], laidTests := true, laidLooks := .later }
def BlockBackCardSaid : Prop := Claim7.holds Tryd.pinned (.plain (OpenSpec.ofChange blockBackSpec)) blockBackCard

/-- THE TIED CARD OF 'tabularylaw06.BlockNotices'. -/
def blockNoticesCard : Claim7 := { stood := { row := blockNoticesRow, standIns := [], harness := (true, "1b12771cc270fa244944eef716219064d86a0043ecc26ebbc3855a8c3886983c"), looks := false }, kinds := [], alts := [], laidByText := true, laidKinds := [.data, .pinned], laidTests := true, laidLooks := .later }
def BlockNoticesCardSaid : Prop := Claim7.holds Tryd.pinned (.plain (OpenSpec.ofChange blockNoticesSpec)) blockNoticesCard

/-- THE TIED CARD OF 'tabularylaw06.BlockUnlike'. -/
def blockUnlikeCard : Claim7 := { stood := { row := blockUnlikeRow, standIns := [], harness := (true, "1b12771cc270fa244944eef716219064d86a0043ecc26ebbc3855a8c3886983c"), looks := false }, kinds := [], alts := [], laidByText := true, laidKinds := [.data, .pinned], laidTests := true, laidLooks := .later }
def BlockUnlikeCardSaid : Prop := Claim7.holds Tryd.pinned (.plain (OpenSpec.ofChange blockUnlikeSpec)) blockUnlikeCard

/-- THE SECOND FORM's CARD OF 'tabularylaw06.BlockPacks'. -/
def blockPacksUptoCard : Claim7 := { stood := { row := blockPacksUptoRow, standIns := [], harness := (true, "1b12771cc270fa244944eef716219064d86a0043ecc26ebbc3855a8c3886983c"), looks := false }, kinds := [], alts := [], laidByText := true, laidKinds := [.data, .pinned], laidTests := true, laidLooks := .later }
def BlockPacksUptoCardSaid : Prop := Claim7.holds Tryd.pinned (.plain (OpenSpec.upto blockPacksSpec)) blockPacksUptoCard

/-- THE SECOND FORM's CARD OF 'tabularylaw06.BlockParses'. -/
def blockParsesUptoCard : Claim7 := { stood := { row := blockParsesUptoRow, standIns := [], harness := (true, "1b12771cc270fa244944eef716219064d86a0043ecc26ebbc3855a8c3886983c"), looks := false }, kinds := [], alts := [], laidByText := true, laidKinds := [.data, .pinned], laidTests := true, laidLooks := .later }
def BlockParsesUptoCardSaid : Prop := Claim7.holds Tryd.pinned (.plain (OpenSpec.upto blockParsesSpec)) blockParsesUptoCard

/-- THE SECOND FORM's CARD OF 'tabularylaw06.BlockBack'. -/
def blockBackUptoCard : Claim7 := { stood := { row := blockBackUptoRow, standIns := [], harness := (true, "1b12771cc270fa244944eef716219064d86a0043ecc26ebbc3855a8c3886983c"), looks := false }, kinds := [], alts := [], laidByText := true, laidKinds := [.data, .pinned], laidTests := true, laidLooks := .later }
def BlockBackUptoCardSaid : Prop := Claim7.holds Tryd.pinned (.plain (OpenSpec.upto blockBackSpec)) blockBackUptoCard

/-- THE SECOND FORM's CARD OF 'tabularylaw06.BlockNotices'. -/
def blockNoticesUptoCard : Claim7 := { stood := { row := blockNoticesUptoRow, standIns := [], harness := (true, "1b12771cc270fa244944eef716219064d86a0043ecc26ebbc3855a8c3886983c"), looks := false }, kinds := [], alts := [], laidByText := true, laidKinds := [.data, .pinned], laidTests := true, laidLooks := .later }
def BlockNoticesUptoCardSaid : Prop := Claim7.holds Tryd.pinned (.plain (OpenSpec.upto blockNoticesSpec)) blockNoticesUptoCard

/-- THE SECOND FORM's CARD OF 'tabularylaw06.BlockUnlike'. -/
def blockUnlikeUptoCard : Claim7 := { stood := { row := blockUnlikeUptoRow, standIns := [], harness := (true, "1b12771cc270fa244944eef716219064d86a0043ecc26ebbc3855a8c3886983c"), looks := false }, kinds := [], alts := [], laidByText := true, laidKinds := [.data, .pinned], laidTests := true, laidLooks := .later }
def BlockUnlikeUptoCardSaid : Prop := Claim7.holds Tryd.pinned (.plain (OpenSpec.upto blockUnlikeSpec)) blockUnlikeUptoCard
end Rows
end Go.Proofs.YthmcigdkopadjaaDoor
