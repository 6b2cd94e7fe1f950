/-
  DERIVED. GIVEN WITH THE SEED: THE CARDS: each row of YtmjnjcggigfciaaGreatDoorRows.lean that lists a variable, with what it lists TIED to the program's text (the seventh form; the later family's looks); each row that meets fmt, with fmt's text TOLD by the authors' own Lean function (tested against real Go, not proved from fmt's source: count such statements apart). THE CARD IS WHAT COUNTS. Prove the row's statement (the work); the ties are given (YtmjnjcggigfciaaGreatDoorTie.lean); close each card by the builder's one call (the guide's Derived/Test/ToyasCard.lean, 'card_holds'). Laid BY PROGRAM, IN A SANDBOX (cutbox-door.mjs). By AI agents, Wed Nov 11 2026. No macro, syntax, notation, axiom, sorry.
-/
import Derived.Test.YtmjnjcggigfciaaGreatDoorRows
import GoSem.ClaimSeven
namespace Go.Proofs.YtmjnjcggigfciaaGreatDoor
namespace Rows

/-- THE TIED CARD OF 'laws.FnExactDiffFiles'. -/
def fnExactDiffFilesCard : Claim7 := { stood := { row := fnExactDiffFilesRow, standIns := [], harness := (true, "ce3f39d9c12d2f72ab4ae2de23bdd4b30ef9fbb089165864f7f9276ee4a59b44"), looks := true }, kinds := [], alts := [], laidByText := true, laidKinds := [.data, .pinned], laidTests := true, laidLooks := .later }
def FnExactDiffFilesCardSaid : Prop := Claim7.holds Tryz.pinned (.plain (OpenSpec.ofChange fnExactDiffFilesSpec)) fnExactDiffFilesCard

/-- THE TIED CARD OF 'laws.FnExactApplyFiles'. -/
def fnExactApplyFilesCard : Claim7 := { stood := { row := fnExactApplyFilesRow, standIns := [], harness := (true, "ce3f39d9c12d2f72ab4ae2de23bdd4b30ef9fbb089165864f7f9276ee4a59b44"), looks := true }, kinds := [], alts := [], laidByText := true, laidKinds := [.data, .pinned], laidTests := true, laidLooks := .later }
def FnExactApplyFilesCardSaid : Prop := Claim7.holds Tryz.pinned (.plain (OpenSpec.ofChange fnExactApplyFilesSpec)) fnExactApplyFilesCard

/-- THE TIED CARD OF 'laws.FnExactReadFiles'. -/
def fnExactReadFilesCard : Claim7 := { stood := { row := fnExactReadFilesRow, standIns := [], harness := (true, "ce3f39d9c12d2f72ab4ae2de23bdd4b30ef9fbb089165864f7f9276ee4a59b44"), looks := true }, kinds := [], alts := [], laidByText := true, laidKinds := [.data, .data, .data, .data, .sentinel, .sentinel, .pinned], laidTests := true, laidLooks := .later }
def FnExactReadFilesCardSaid : Prop := Claim7.holds Tryz.pinned (.plain (OpenSpec.ofChange fnExactReadFilesSpec)) fnExactReadFilesCard

/-- THE TIED CARD OF 'laws.FnFilesTexts'. -/
def fnFilesTextsCard : Claim7 := { stood := { row := fnFilesTextsRow, standIns := [], harness := (true, "ce3f39d9c12d2f72ab4ae2de23bdd4b30ef9fbb089165864f7f9276ee4a59b44"), looks := true }, kinds := [], alts := [], laidByText := true, laidKinds := [.data, .data, .data, .data, .sentinel, .sentinel, .pinned], laidTests := true, laidLooks := .later }
def FnFilesTextsCardSaid : Prop := Claim7.holds Tryz.pinned (.plain (OpenSpec.ofChange fnFilesTextsSpec)) fnFilesTextsCard

/-- THE TIED CARD OF 'laws.FnFiles'. -/
def fnFilesCard : Claim7 := { stood := { row := fnFilesRow, standIns := [], harness := (true, "ce3f39d9c12d2f72ab4ae2de23bdd4b30ef9fbb089165864f7f9276ee4a59b44"), looks := true }, kinds := [], alts := [], laidByText := true, laidKinds := [.data, .data, .data, .data, .pinned], laidTests := true, laidLooks := .later }
def FnFilesCardSaid : Prop := Claim7.holds Tryz.pinned (.plain (OpenSpec.ofChange fnFilesSpec)) fnFilesCard

/-- THE SECOND FORM's CARD OF 'laws.FnExactDiffFiles'. -/
def fnExactDiffFilesUptoCard : Claim7 := { stood := { row := fnExactDiffFilesUptoRow, standIns := [], harness := (true, "ce3f39d9c12d2f72ab4ae2de23bdd4b30ef9fbb089165864f7f9276ee4a59b44"), looks := true }, kinds := [], alts := [], laidByText := true, laidKinds := [.data, .pinned], laidTests := true, laidLooks := .later }
def FnExactDiffFilesUptoCardSaid : Prop := Claim7.holds Tryz.pinned (.plain (OpenSpec.upto fnExactDiffFilesSpec)) fnExactDiffFilesUptoCard

/-- THE SECOND FORM's CARD OF 'laws.FnExactApplyFiles'. -/
def fnExactApplyFilesUptoCard : Claim7 := { stood := { row := fnExactApplyFilesUptoRow, standIns := [], harness := (true, "ce3f39d9c12d2f72ab4ae2de23bdd4b30ef9fbb089165864f7f9276ee4a59b44"), looks := true }, kinds := [], alts := [], laidByText := true, laidKinds := [.data, .pinned], laidTests := true, laidLooks := .later }
def FnExactApplyFilesUptoCardSaid : Prop := Claim7.holds Tryz.pinned (.plain (OpenSpec.upto fnExactApplyFilesSpec)) fnExactApplyFilesUptoCard

/-- THE SECOND FORM's CARD OF 'laws.FnExactReadFiles'. -/
def fnExactReadFilesUptoCard : Claim7 := { stood := { row := fnExactReadFilesUptoRow, standIns := [], harness := (true, "ce3f39d9c12d2f72ab4ae2de23bdd4b30ef9fbb089165864f7f9276ee4a59b44"), looks := true }, kinds := [], alts := [], laidByText := true, laidKinds := [.data, .data, .data, .data, .sentinel, .sentinel, .pinned], laidTests := true, laidLooks := .later }
def FnExactReadFilesUptoCardSaid : Prop := Claim7.holds Tryz.pinned (.plain (OpenSpec.upto fnExactReadFilesSpec)) fnExactReadFilesUptoCard

/-- THE SECOND FORM's CARD OF 'laws.FnFilesTexts'. -/
def fnFilesTextsUptoCard : Claim7 := { stood := { row := fnFilesTextsUptoRow, standIns := [], harness := (true, "ce3f39d9c12d2f72ab4ae2de23bdd4b30ef9fbb089165864f7f9276ee4a59b44"), looks := true }, kinds := [], alts := [], laidByText := true, laidKinds := [.data, .data, .data, .data, .sentinel, .sentinel, .pinned], laidTests := true, laidLooks := .later }
def FnFilesTextsUptoCardSaid : Prop := Claim7.holds Tryz.pinned (.plain (OpenSpec.upto fnFilesTextsSpec)) fnFilesTextsUptoCard

/-- THE SECOND FORM's CARD OF 'laws.FnFiles'. -/
def fnFilesUptoCard : Claim7 := { stood := { row := fnFilesUptoRow, standIns := [], harness := (true, "ce3f39d9c12d2f72ab4ae2de23bdd4b30ef9fbb089165864f7f9276ee4a59b44"), looks := true }, kinds := [], alts := [], laidByText := true, laidKinds := [.data, .data, .data, .data, .pinned], laidTests := true, laidLooks := .later }
def FnFilesUptoCardSaid : Prop := Claim7.holds Tryz.pinned (.plain (OpenSpec.upto fnFilesSpec)) fnFilesUptoCard
end Rows
end Go.Proofs.YtmjnjcggigfciaaGreatDoor
