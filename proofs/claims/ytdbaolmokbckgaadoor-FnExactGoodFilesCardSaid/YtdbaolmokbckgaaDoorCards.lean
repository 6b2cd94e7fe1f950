/-
  DERIVED. GIVEN WITH THE SEED: THE CARDS: each row of YtdbaolmokbckgaaDoorRows.lean that lists a variable, with what it lists TIED to the program's text (the seventh form; the later family's looks); each row that meets fmt, with fmt's text TOLD by the authors' own Lean function (tested against real Go, not proved from fmt's source: count such statements apart). THE CARD IS WHAT COUNTS. Prove the row's statement (the work); the ties are given (YtdbaolmokbckgaaDoorTie.lean); close each card by the builder's one call (the guide's Derived/Test/ToyasCard.lean, 'card_holds'). Laid BY PROGRAM, IN A SANDBOX (cutbox-door.mjs). By AI agents, Wed Nov 11 2026. No macro, syntax, notation, axiom, sorry.
-/
import Derived.Test.YtdbaolmokbckgaaDoorRows
import GoSem.ClaimSeven
namespace Go.Proofs.YtdbaolmokbckgaaDoor
namespace Rows

/-- THE TIED CARD OF 'laws.FnExactGoodFiles'. -/
def fnExactGoodFilesCard : Claim7 := { stood := { row := fnExactGoodFilesRow, standIns := [], harness := (true, "01aa3af238ff4b982f5424078914b00b357a55181073724958a05d1b274ee88f"), looks := false }, kinds := [], alts := [], laidByText := true, laidKinds := [.data, .pinned], laidTests := true, laidLooks := .later }
def FnExactGoodFilesCardSaid : Prop := Claim7.holds Tryd.pinned (.plain (OpenSpec.ofChange fnExactGoodFilesSpec)) fnExactGoodFilesCard

/-- THE SECOND FORM's CARD OF 'laws.FnExactGoodFiles'. -/
def fnExactGoodFilesUptoCard : Claim7 := { stood := { row := fnExactGoodFilesUptoRow, standIns := [], harness := (true, "01aa3af238ff4b982f5424078914b00b357a55181073724958a05d1b274ee88f"), looks := false }, kinds := [], alts := [], laidByText := true, laidKinds := [.data, .pinned], laidTests := true, laidLooks := .later }
def FnExactGoodFilesUptoCardSaid : Prop := Claim7.holds Tryd.pinned (.plain (OpenSpec.upto fnExactGoodFilesSpec)) fnExactGoodFilesUptoCard
end Rows
end Go.Proofs.YtdbaolmokbckgaaDoor
