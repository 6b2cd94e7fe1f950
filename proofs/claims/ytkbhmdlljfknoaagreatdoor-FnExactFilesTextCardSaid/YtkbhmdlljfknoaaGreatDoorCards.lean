/-
  DERIVED. GIVEN WITH THE SEED: THE CARDS: each row of YtkbhmdlljfknoaaGreatDoorRows.lean that lists a variable, with what it lists TIED to the program's text (the seventh form; the later family's looks); each row that meets fmt, with fmt's text TOLD by the authors' own Lean function (tested against real Go, not proved from fmt's source: count such statements apart). THE CARD IS WHAT COUNTS. Prove the row's statement (the work); the ties are given (YtkbhmdlljfknoaaGreatDoorTie.lean); close each card by the builder's one call (the guide's Derived/Test/ToyasCard.lean, 'card_holds'). Laid BY PROGRAM, IN A SANDBOX (cutbox-door.mjs). By AI agents, Wed Nov 11 2026. No macro, syntax, notation, axiom, sorry.
-/
import Derived.Test.YtkbhmdlljfknoaaGreatDoorRows
import GoSem.ClaimSeven
namespace Go.Proofs.YtkbhmdlljfknoaaGreatDoor
namespace Rows

/-- THE TIED CARD OF 'laws.FnExactFilesText'. -/
def fnExactFilesTextCard : Claim7 := { stood := { row := fnExactFilesTextRow, standIns := [], harness := (true, "c567e135f0b799abeea03e4b8d7bf5334e07688f2916adb1e0a14131cd6de294"), looks := false }, kinds := [], alts := [], laidByText := true, laidKinds := [.data, .data, .data, .data, .pinned], laidTests := true, laidLooks := .later }
def FnExactFilesTextCardSaid : Prop := Claim7.holds Tryz.pinned (.plain (OpenSpec.ofChange fnExactFilesTextSpec)) fnExactFilesTextCard

/-- THE SECOND FORM's CARD OF 'laws.FnExactFilesText'. -/
def fnExactFilesTextUptoCard : Claim7 := { stood := { row := fnExactFilesTextUptoRow, standIns := [], harness := (true, "c567e135f0b799abeea03e4b8d7bf5334e07688f2916adb1e0a14131cd6de294"), looks := false }, kinds := [], alts := [], laidByText := true, laidKinds := [.data, .data, .data, .data, .pinned], laidTests := true, laidLooks := .later }
def FnExactFilesTextUptoCardSaid : Prop := Claim7.holds Tryz.pinned (.plain (OpenSpec.upto fnExactFilesTextSpec)) fnExactFilesTextUptoCard
end Rows
end Go.Proofs.YtkbhmdlljfknoaaGreatDoor
