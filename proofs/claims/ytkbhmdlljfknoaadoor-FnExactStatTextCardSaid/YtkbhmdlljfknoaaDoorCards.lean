/-
  DERIVED. GIVEN WITH THE SEED: THE CARDS: each row of YtkbhmdlljfknoaaDoorRows.lean that lists a variable, with what it lists TIED to the program's text (the seventh form; the later family's looks); each row that meets fmt, with fmt's text TOLD by the authors' own Lean function (tested against real Go, not proved from fmt's source: count such statements apart). THE CARD IS WHAT COUNTS. Prove the row's statement (the work); the ties are given (YtkbhmdlljfknoaaDoorTie.lean); close each card by the builder's one call (the guide's Derived/Test/ToyasCard.lean, 'card_holds'). Laid BY PROGRAM, IN A SANDBOX (cutbox-door.mjs). By AI agents, Wed Nov 11 2026. No macro, syntax, notation, axiom, sorry.
-/
import Derived.Test.YtkbhmdlljfknoaaDoorRows
import GoSem.ClaimSeven
namespace Go.Proofs.YtkbhmdlljfknoaaDoor
namespace Rows

/-- THE TIED CARD OF 'laws.FnExactGoodDiffs'. -/
def fnExactGoodDiffsCard : Claim7 := { stood := { row := fnExactGoodDiffsRow, standIns := [], harness := (true, "aa52bb8a982f415a237def7b45c1e03b05315320da197598cb0f2c9264ed2894"), looks := false }, kinds := [], alts := [], laidByText := true, laidKinds := [.data, .pinned], laidTests := true, laidLooks := .later }
def FnExactGoodDiffsCardSaid : Prop := Claim7.holds Tryd.pinned (.plain (OpenSpec.ofChange fnExactGoodDiffsSpec)) fnExactGoodDiffsCard

/-- THE TIED CARD OF 'laws.FnExactBackFiles'. -/
def fnExactBackFilesCard : Claim7 := { stood := { row := fnExactBackFilesRow, standIns := [], harness := (true, "aa52bb8a982f415a237def7b45c1e03b05315320da197598cb0f2c9264ed2894"), looks := false }, kinds := [], alts := [], laidByText := true, laidKinds := [.data, .pinned], laidTests := true, laidLooks := .later }
def FnExactBackFilesCardSaid : Prop := Claim7.holds Tryd.pinned (.plain (OpenSpec.ofChange fnExactBackFilesSpec)) fnExactBackFilesCard

/-- THE TIED CARD OF 'laws.FnExactStatText'. -/
def fnExactStatTextCard : Claim7 := { stood := { row := fnExactStatTextRow, standIns := [], harness := (true, "aa52bb8a982f415a237def7b45c1e03b05315320da197598cb0f2c9264ed2894"), looks := false }, kinds := [], alts := [], laidByText := true, laidKinds := [.data, .data, .data, .data, .pinned], laidTests := true, laidLooks := .later }
def FnExactStatTextCardSaid : Prop := Claim7.holds Tryd.pinned (.plain (OpenSpec.ofChange fnExactStatTextSpec)) fnExactStatTextCard

/-- THE SECOND FORM's CARD OF 'laws.FnExactGoodDiffs'. -/
def fnExactGoodDiffsUptoCard : Claim7 := { stood := { row := fnExactGoodDiffsUptoRow, standIns := [], harness := (true, "aa52bb8a982f415a237def7b45c1e03b05315320da197598cb0f2c9264ed2894"), looks := false }, kinds := [], alts := [], laidByText := true, laidKinds := [.data, .pinned], laidTests := true, laidLooks := .later }
def FnExactGoodDiffsUptoCardSaid : Prop := Claim7.holds Tryd.pinned (.plain (OpenSpec.upto fnExactGoodDiffsSpec)) fnExactGoodDiffsUptoCard

/-- THE SECOND FORM's CARD OF 'laws.FnExactBackFiles'. -/
def fnExactBackFilesUptoCard : Claim7 := { stood := { row := fnExactBackFilesUptoRow, standIns := [], harness := (true, "aa52bb8a982f415a237def7b45c1e03b05315320da197598cb0f2c9264ed2894"), looks := false }, kinds := [], alts := [], laidByText := true, laidKinds := [.data, .pinned], laidTests := true, laidLooks := .later }
def FnExactBackFilesUptoCardSaid : Prop := Claim7.holds Tryd.pinned (.plain (OpenSpec.upto fnExactBackFilesSpec)) fnExactBackFilesUptoCard

/-- THE SECOND FORM's CARD OF 'laws.FnExactStatText'. -/
def fnExactStatTextUptoCard : Claim7 := { stood := { row := fnExactStatTextUptoRow, standIns := [], harness := (true, "aa52bb8a982f415a237def7b45c1e03b05315320da197598cb0f2c9264ed2894"), looks := false }, kinds := [], alts := [], laidByText := true, laidKinds := [.data, .data, .data, .data, .pinned], laidTests := true, laidLooks := .later }
def FnExactStatTextUptoCardSaid : Prop := Claim7.holds Tryd.pinned (.plain (OpenSpec.upto fnExactStatTextSpec)) fnExactStatTextUptoCard
end Rows
end Go.Proofs.YtkbhmdlljfknoaaDoor
