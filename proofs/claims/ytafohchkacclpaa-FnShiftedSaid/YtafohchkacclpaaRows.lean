/-
  No cell of these rows narrows 'for every input' (looked for: loops, veiled, ifaces, maps, wideKeys, modest, calm, conditions, laid).
  DERIVED. THE GIVEN ROWS OF THIS SEAT. 11 by the template 'for every input the law returns true; each argument reads behind the call as it read before'; 0 by the template 'total and deterministic' (their statements: YtafohchkacclpaaTotals.lean).
  GIVEN WITH THE SEED: the statements are not yours to turn. If you find one false, say at which input.
  Laid BY PROGRAM, IN A SANDBOX (cutbox-rows.mjs): the forced cells as the released guide's own fill.sh prints them over the translation 2c35ec088b4a6699… (all of the seat's roots in one cut). By AI agents, Wed Nov 11 2026. No macro, syntax, notation, axiom, sorry.
-/
import Derived.Test.YtafohchkacclpaaChecked
import GoSem.Claim
import GoSem.ClaimJoined
import GoSem.ClaimMapViews
import Derived.JoinedTies
import Derived.KernelRfl
namespace Go.Proofs.Ytafohchkacclpaa
/- THE CELL 'sum', in the pinned program and in every row, IS THE sha256 OF THE DUMP (.gsa) THAT YtafohchkacclpaaProg.lean LOADS. Nothing in Lean hashes anything: it is a label: what it is worth is what the hold of that sum in a sandbox is worth. -/
noncomputable def Try.pinned : Pinned := { name := "ytafohchkacclpaa", sum := "2c35ec088b4a66996e56f5277427027b38460f4c32b22ee9c9ce60fc464b940f", checked := Try.checked }
namespace Rows
def none {H : Type} : Left H := { results := [], args := [] }

/-- 'laws.FnExactPlacesOf': WHATEVER THE INPUT: true; the input reads as it did. -/
def fnExactPlacesOfSpec : ChangeSpec := { name := "fnExactPlacesOf", fn := fun _ => fun
  | [d1, d2] => { results := [.lit (.bool true)], args := [d1, d2] }
  | _ => none }
def fnExactPlacesOfRow : OpenClaim := { program := "ytafohchkacclpaa", sum := "2c35ec088b4a66996e56f5277427027b38460f4c32b22ee9c9ce60fc464b940f", func := "loop.example/g00825/laws.FnExactPlacesOf", spec := "fnExactPlacesOf", inPlace := ["internal/bytealg.IndexByteString", "internal/bytealg.IndexString"], unfollowed := true, recurses := true, named := ["internal/bytealg.MaxLen"], apart := false }
def FnExactPlacesOfSaid : Prop := fnExactPlacesOfRow.holds Try.pinned (OpenSpec.ofChange fnExactPlacesOfSpec)

/-- ITS FALSE NEIGHBOUR: 'it returns false'. Refute it at one input. -/
def fnExactPlacesOfWrong : ChangeSpec := { name := "fnExactPlacesOf", fn := fun _ => fun
  | [d1, d2] => { results := [.lit (.bool false)], args := [d1, d2] }
  | _ => none }
def FnExactPlacesOfWrongFalsely : Prop := fnExactPlacesOfRow.holds Try.pinned (OpenSpec.ofChange fnExactPlacesOfWrong)

/-- 'laws.FnExactNeedsHunks': WHATEVER THE INPUT: true; the input reads as it did. -/
def fnExactNeedsHunksSpec : ChangeSpec := { name := "fnExactNeedsHunks", fn := fun _ => fun
  | [d1, d2] => { results := [.lit (.bool true)], args := [d1, d2] }
  | _ => none }
def fnExactNeedsHunksRow : OpenClaim := { program := "ytafohchkacclpaa", sum := "2c35ec088b4a66996e56f5277427027b38460f4c32b22ee9c9ce60fc464b940f", func := "loop.example/g00825/laws.FnExactNeedsHunks", spec := "fnExactNeedsHunks", inPlace := ["internal/bytealg.IndexByteString", "internal/bytealg.IndexString"], unfollowed := true, recurses := true, named := ["internal/bytealg.MaxLen"], apart := false }
def FnExactNeedsHunksSaid : Prop := fnExactNeedsHunksRow.holds Try.pinned (OpenSpec.ofChange fnExactNeedsHunksSpec)

/-- ITS FALSE NEIGHBOUR: 'it returns false'. Refute it at one input. -/
def fnExactNeedsHunksWrong : ChangeSpec := { name := "fnExactNeedsHunks", fn := fun _ => fun
  | [d1, d2] => { results := [.lit (.bool false)], args := [d1, d2] }
  | _ => none }
def FnExactNeedsHunksWrongFalsely : Prop := fnExactNeedsHunksRow.holds Try.pinned (OpenSpec.ofChange fnExactNeedsHunksWrong)

/-- 'laws.FnExactFitsAt': WHATEVER THE INPUT: true; the input reads as it did. -/
def fnExactFitsAtSpec : ChangeSpec := { name := "fnExactFitsAt", fn := fun _ => fun
  | [d1, d2, d3] => { results := [.lit (.bool true)], args := [d1, d2, d3] }
  | _ => none }
def fnExactFitsAtRow : OpenClaim := { program := "ytafohchkacclpaa", sum := "2c35ec088b4a66996e56f5277427027b38460f4c32b22ee9c9ce60fc464b940f", func := "loop.example/g00825/laws.FnExactFitsAt", spec := "fnExactFitsAt", inPlace := ["internal/bytealg.IndexByteString", "internal/bytealg.IndexString"], unfollowed := true, recurses := true, named := ["internal/bytealg.MaxLen"], apart := false }
def FnExactFitsAtSaid : Prop := fnExactFitsAtRow.holds Try.pinned (OpenSpec.ofChange fnExactFitsAtSpec)

/-- ITS FALSE NEIGHBOUR: 'it returns false'. Refute it at one input. -/
def fnExactFitsAtWrong : ChangeSpec := { name := "fnExactFitsAt", fn := fun _ => fun
  | [d1, d2, d3] => { results := [.lit (.bool false)], args := [d1, d2, d3] }
  | _ => none }
def FnExactFitsAtWrongFalsely : Prop := fnExactFitsAtRow.holds Try.pinned (OpenSpec.ofChange fnExactFitsAtWrong)

/-- 'laws.FnExactLoosenGroup': WHATEVER THE INPUT: true; the input reads as it did. -/
def fnExactLoosenGroupSpec : ChangeSpec := { name := "fnExactLoosenGroup", fn := fun _ => fun
  | [d1, d2] => { results := [.lit (.bool true)], args := [d1, d2] }
  | _ => none }
def fnExactLoosenGroupRow : OpenClaim := { program := "ytafohchkacclpaa", sum := "2c35ec088b4a66996e56f5277427027b38460f4c32b22ee9c9ce60fc464b940f", func := "loop.example/g00825/laws.FnExactLoosenGroup", spec := "fnExactLoosenGroup", inPlace := ["internal/bytealg.IndexByteString", "internal/bytealg.IndexString"], unfollowed := true, recurses := true, named := ["internal/bytealg.MaxLen"], apart := false }
def FnExactLoosenGroupSaid : Prop := fnExactLoosenGroupRow.holds Try.pinned (OpenSpec.ofChange fnExactLoosenGroupSpec)

/-- ITS FALSE NEIGHBOUR: 'it returns false'. Refute it at one input. -/
def fnExactLoosenGroupWrong : ChangeSpec := { name := "fnExactLoosenGroup", fn := fun _ => fun
  | [d1, d2] => { results := [.lit (.bool false)], args := [d1, d2] }
  | _ => none }
def FnExactLoosenGroupWrongFalsely : Prop := fnExactLoosenGroupRow.holds Try.pinned (OpenSpec.ofChange fnExactLoosenGroupWrong)

/-- 'laws.FnExactNearFit': WHATEVER THE INPUT: true; the input reads as it did. -/
def fnExactNearFitSpec : ChangeSpec := { name := "fnExactNearFit", fn := fun _ => fun
  | [d1, d2, d3] => { results := [.lit (.bool true)], args := [d1, d2, d3] }
  | _ => none }
def fnExactNearFitRow : OpenClaim := { program := "ytafohchkacclpaa", sum := "2c35ec088b4a66996e56f5277427027b38460f4c32b22ee9c9ce60fc464b940f", func := "loop.example/g00825/laws.FnExactNearFit", spec := "fnExactNearFit", inPlace := ["internal/bytealg.IndexByteString", "internal/bytealg.IndexString"], unfollowed := true, recurses := true, named := ["internal/bytealg.MaxLen"], apart := false }
def FnExactNearFitSaid : Prop := fnExactNearFitRow.holds Try.pinned (OpenSpec.ofChange fnExactNearFitSpec)

/-- ITS FALSE NEIGHBOUR: 'it returns false'. Refute it at one input. -/
def fnExactNearFitWrong : ChangeSpec := { name := "fnExactNearFit", fn := fun _ => fun
  | [d1, d2, d3] => { results := [.lit (.bool false)], args := [d1, d2, d3] }
  | _ => none }
def FnExactNearFitWrongFalsely : Prop := fnExactNearFitRow.holds Try.pinned (OpenSpec.ofChange fnExactNearFitWrong)

/-- 'laws.FnExactDiffHunks': WHATEVER THE INPUT: true; the input reads as it did. -/
def fnExactDiffHunksSpec : ChangeSpec := { name := "fnExactDiffHunks", fn := fun _ => fun
  | [d1, d2] => { results := [.lit (.bool true)], args := [d1, d2] }
  | _ => none }
def fnExactDiffHunksRow : OpenClaim := { program := "ytafohchkacclpaa", sum := "2c35ec088b4a66996e56f5277427027b38460f4c32b22ee9c9ce60fc464b940f", func := "loop.example/g00825/laws.FnExactDiffHunks", spec := "fnExactDiffHunks", inPlace := ["internal/bytealg.IndexByteString", "internal/bytealg.IndexString"], unfollowed := true, recurses := true, named := ["internal/bytealg.MaxLen"], apart := false }
def FnExactDiffHunksSaid : Prop := fnExactDiffHunksRow.holds Try.pinned (OpenSpec.ofChange fnExactDiffHunksSpec)

/-- ITS FALSE NEIGHBOUR: 'it returns false'. Refute it at one input. -/
def fnExactDiffHunksWrong : ChangeSpec := { name := "fnExactDiffHunks", fn := fun _ => fun
  | [d1, d2] => { results := [.lit (.bool false)], args := [d1, d2] }
  | _ => none }
def FnExactDiffHunksWrongFalsely : Prop := fnExactDiffHunksRow.holds Try.pinned (OpenSpec.ofChange fnExactDiffHunksWrong)

/-- 'laws.FnExactShiftGroups': WHATEVER THE INPUT: true; the input reads as it did. -/
def fnExactShiftGroupsSpec : ChangeSpec := { name := "fnExactShiftGroups", fn := fun _ => fun
  | [d1, d2] => { results := [.lit (.bool true)], args := [d1, d2] }
  | _ => none }
def fnExactShiftGroupsRow : OpenClaim := { program := "ytafohchkacclpaa", sum := "2c35ec088b4a66996e56f5277427027b38460f4c32b22ee9c9ce60fc464b940f", func := "loop.example/g00825/laws.FnExactShiftGroups", spec := "fnExactShiftGroups", inPlace := ["internal/bytealg.IndexByteString", "internal/bytealg.IndexString"], unfollowed := true, recurses := true, named := ["internal/bytealg.MaxLen"], apart := false }
def FnExactShiftGroupsSaid : Prop := fnExactShiftGroupsRow.holds Try.pinned (OpenSpec.ofChange fnExactShiftGroupsSpec)

/-- ITS FALSE NEIGHBOUR: 'it returns false'. Refute it at one input. -/
def fnExactShiftGroupsWrong : ChangeSpec := { name := "fnExactShiftGroups", fn := fun _ => fun
  | [d1, d2] => { results := [.lit (.bool false)], args := [d1, d2] }
  | _ => none }
def FnExactShiftGroupsWrongFalsely : Prop := fnExactShiftGroupsRow.holds Try.pinned (OpenSpec.ofChange fnExactShiftGroupsWrong)

/-- 'laws.FnExactSeriesOf': WHATEVER THE INPUT: true; the input reads as it did. -/
def fnExactSeriesOfSpec : ChangeSpec := { name := "fnExactSeriesOf", fn := fun _ => fun
  | [d] => { results := [.lit (.bool true)], args := [d] }
  | _ => none }
def fnExactSeriesOfRow : OpenClaim := { program := "ytafohchkacclpaa", sum := "2c35ec088b4a66996e56f5277427027b38460f4c32b22ee9c9ce60fc464b940f", func := "loop.example/g00825/laws.FnExactSeriesOf", spec := "fnExactSeriesOf", inPlace := ["internal/bytealg.IndexByteString", "internal/bytealg.IndexString"], unfollowed := true, recurses := true, named := ["internal/bytealg.MaxLen"], apart := false }
def FnExactSeriesOfSaid : Prop := fnExactSeriesOfRow.holds Try.pinned (OpenSpec.ofChange fnExactSeriesOfSpec)

/-- ITS FALSE NEIGHBOUR: 'it returns false'. Refute it at one input. -/
def fnExactSeriesOfWrong : ChangeSpec := { name := "fnExactSeriesOf", fn := fun _ => fun
  | [d] => { results := [.lit (.bool false)], args := [d] }
  | _ => none }
def FnExactSeriesOfWrongFalsely : Prop := fnExactSeriesOfRow.holds Try.pinned (OpenSpec.ofChange fnExactSeriesOfWrong)

/-- 'laws.FnLooser': WHATEVER THE INPUT: true; the input reads as it did. -/
def fnLooserSpec : ChangeSpec := { name := "fnLooser", fn := fun _ => fun
  | [d1, d2] => { results := [.lit (.bool true)], args := [d1, d2] }
  | _ => none }
def fnLooserRow : OpenClaim := { program := "ytafohchkacclpaa", sum := "2c35ec088b4a66996e56f5277427027b38460f4c32b22ee9c9ce60fc464b940f", func := "loop.example/g00825/laws.FnLooser", spec := "fnLooser", inPlace := ["internal/bytealg.IndexByteString", "internal/bytealg.IndexString"], unfollowed := true, recurses := true, named := ["internal/bytealg.MaxLen"], apart := false }
def FnLooserSaid : Prop := fnLooserRow.holds Try.pinned (OpenSpec.ofChange fnLooserSpec)

/-- ITS FALSE NEIGHBOUR: 'it returns false'. Refute it at one input. -/
def fnLooserWrong : ChangeSpec := { name := "fnLooser", fn := fun _ => fun
  | [d1, d2] => { results := [.lit (.bool false)], args := [d1, d2] }
  | _ => none }
def FnLooserWrongFalsely : Prop := fnLooserRow.holds Try.pinned (OpenSpec.ofChange fnLooserWrong)

/-- 'laws.FnDiffs': WHATEVER THE INPUT: true; the input reads as it did. -/
def fnDiffsSpec : ChangeSpec := { name := "fnDiffs", fn := fun _ => fun
  | [d1, d2] => { results := [.lit (.bool true)], args := [d1, d2] }
  | _ => none }
def fnDiffsRow : OpenClaim := { program := "ytafohchkacclpaa", sum := "2c35ec088b4a66996e56f5277427027b38460f4c32b22ee9c9ce60fc464b940f", func := "loop.example/g00825/laws.FnDiffs", spec := "fnDiffs", inPlace := ["internal/bytealg.IndexByteString", "internal/bytealg.IndexString"], unfollowed := true, recurses := true, named := ["internal/bytealg.MaxLen"], apart := false }
def FnDiffsSaid : Prop := fnDiffsRow.holds Try.pinned (OpenSpec.ofChange fnDiffsSpec)

/-- ITS FALSE NEIGHBOUR: 'it returns false'. Refute it at one input. -/
def fnDiffsWrong : ChangeSpec := { name := "fnDiffs", fn := fun _ => fun
  | [d1, d2] => { results := [.lit (.bool false)], args := [d1, d2] }
  | _ => none }
def FnDiffsWrongFalsely : Prop := fnDiffsRow.holds Try.pinned (OpenSpec.ofChange fnDiffsWrong)

/-- 'laws.FnShifted': WHATEVER THE INPUT: true; the input reads as it did. -/
def fnShiftedSpec : ChangeSpec := { name := "fnShifted", fn := fun _ => fun
  | [d1, d2] => { results := [.lit (.bool true)], args := [d1, d2] }
  | _ => none }
def fnShiftedRow : OpenClaim := { program := "ytafohchkacclpaa", sum := "2c35ec088b4a66996e56f5277427027b38460f4c32b22ee9c9ce60fc464b940f", func := "loop.example/g00825/laws.FnShifted", spec := "fnShifted", inPlace := ["internal/bytealg.IndexByteString", "internal/bytealg.IndexString"], unfollowed := true, recurses := true, named := ["internal/bytealg.MaxLen"], apart := false }
def FnShiftedSaid : Prop := fnShiftedRow.holds Try.pinned (OpenSpec.ofChange fnShiftedSpec)

/-- ITS FALSE NEIGHBOUR: 'it returns false'. Refute it at one input. -/
def fnShiftedWrong : ChangeSpec := { name := "fnShifted", fn := fun _ => fun
  | [d1, d2] => { results := [.lit (.bool false)], args := [d1, d2] }
  | _ => none }
def FnShiftedWrongFalsely : Prop := fnShiftedRow.holds Try.pinned (OpenSpec.ofChange fnShiftedWrong)

/- THE SECOND FORM. 'bulk': how many values and letters a reading holds, each counted each time it is reached (what is shared counts as often as it is met; a slice's spare places count too). A statement '..UptoSaid' is the law's where the arguments, and the package variables that the reading takes, are together of bulk at most 1048576: NARROWER than '..Said'. Prove '..Said' where nothing that the law and all that it calls make is longer than what came in: it says more and counts as full. Else prove '..UptoSaid'. A law counts once. -/
mutual
def uptoBulk {H : Type} : DataW H → Nat
  | .lit (.string bytes) => bytes.length + 1
  | .lit _ => 1
  | .nil => 1
  | .ptr d => uptoBulk d + 1
  | .slice elems spare => uptoBulkAll elems + uptoBulkAll spare + 1
  | .agg parts => uptoBulkAll parts + 1
  | .iface _ d => uptoBulk d + 1
  | .map entries => uptoBulkEntries entries + 1
  | .held _ => 1
def uptoBulkAll {H : Type} : List (DataW H) → Nat
  | [] => 0
  | d :: r => uptoBulk d + uptoBulkAll r
def uptoBulkEntries {H : Type} : List (Lit × DataW H) → Nat
  | [] => 0
  | x :: r => uptoBulkEntry x + uptoBulkEntries r
def uptoBulkEntry {H : Type} : Lit × DataW H → Nat
  | (.string bytes, d) => bytes.length + uptoBulk d + 1
  | (_, d) => uptoBulk d + 1
 end
def uptoSmall : (H : Type) → List (DataW H) → Bool := fun _ ds => decide (uptoBulkAll ds ≤ 1048576)
def OpenSpec.upto (s : _root_.Go.ChangeSpec) : _root_.Go.OpenSpec := { _root_.Go.OpenSpec.ofChange s with cond := some uptoSmall }

/-- 'laws.FnExactPlacesOf', WHERE WHAT IT READS IS OF BULK AT MOST 1048576: true; the input reads as it did. -/
def fnExactPlacesOfUptoRow : OpenClaim := { program := "ytafohchkacclpaa", sum := "2c35ec088b4a66996e56f5277427027b38460f4c32b22ee9c9ce60fc464b940f", func := "loop.example/g00825/laws.FnExactPlacesOf", spec := "fnExactPlacesOf", inPlace := ["internal/bytealg.IndexByteString", "internal/bytealg.IndexString"], unfollowed := true, recurses := true, named := ["internal/bytealg.MaxLen"], apart := false, narrowed := true }
def FnExactPlacesOfUptoSaid : Prop := fnExactPlacesOfUptoRow.holds Try.pinned (OpenSpec.upto fnExactPlacesOfSpec)

/-- 'laws.FnExactNeedsHunks', WHERE WHAT IT READS IS OF BULK AT MOST 1048576: true; the input reads as it did. -/
def fnExactNeedsHunksUptoRow : OpenClaim := { program := "ytafohchkacclpaa", sum := "2c35ec088b4a66996e56f5277427027b38460f4c32b22ee9c9ce60fc464b940f", func := "loop.example/g00825/laws.FnExactNeedsHunks", spec := "fnExactNeedsHunks", inPlace := ["internal/bytealg.IndexByteString", "internal/bytealg.IndexString"], unfollowed := true, recurses := true, named := ["internal/bytealg.MaxLen"], apart := false, narrowed := true }
def FnExactNeedsHunksUptoSaid : Prop := fnExactNeedsHunksUptoRow.holds Try.pinned (OpenSpec.upto fnExactNeedsHunksSpec)

/-- 'laws.FnExactFitsAt', WHERE WHAT IT READS IS OF BULK AT MOST 1048576: true; the input reads as it did. -/
def fnExactFitsAtUptoRow : OpenClaim := { program := "ytafohchkacclpaa", sum := "2c35ec088b4a66996e56f5277427027b38460f4c32b22ee9c9ce60fc464b940f", func := "loop.example/g00825/laws.FnExactFitsAt", spec := "fnExactFitsAt", inPlace := ["internal/bytealg.IndexByteString", "internal/bytealg.IndexString"], unfollowed := true, recurses := true, named := ["internal/bytealg.MaxLen"], apart := false, narrowed := true }
def FnExactFitsAtUptoSaid : Prop := fnExactFitsAtUptoRow.holds Try.pinned (OpenSpec.upto fnExactFitsAtSpec)

/-- 'laws.FnExactLoosenGroup', WHERE WHAT IT READS IS OF BULK AT MOST 1048576: true; the input reads as it did. -/
def fnExactLoosenGroupUptoRow : OpenClaim := { program := "ytafohchkacclpaa", sum := "2c35ec088b4a66996e56f5277427027b38460f4c32b22ee9c9ce60fc464b940f", func := "loop.example/g00825/laws.FnExactLoosenGroup", spec := "fnExactLoosenGroup", inPlace := ["internal/bytealg.IndexByteString", "internal/bytealg.IndexString"], unfollowed := true, recurses := true, named := ["internal/bytealg.MaxLen"], apart := false, narrowed := true }
def FnExactLoosenGroupUptoSaid : Prop := fnExactLoosenGroupUptoRow.holds Try.pinned (OpenSpec.upto fnExactLoosenGroupSpec)

/-- 'laws.FnExactNearFit', WHERE WHAT IT READS IS OF BULK AT MOST 1048576: true; the input reads as it did. -/
def fnExactNearFitUptoRow : OpenClaim := { program := "ytafohchkacclpaa", sum := "2c35ec088b4a66996e56f5277427027b38460f4c32b22ee9c9ce60fc464b940f", func := "loop.example/g00825/laws.FnExactNearFit", spec := "fnExactNearFit", inPlace := ["internal/bytealg.IndexByteString", "internal/bytealg.IndexString"], unfollowed := true, recurses := true, named := ["internal/bytealg.MaxLen"], apart := false, narrowed := true }
def FnExactNearFitUptoSaid : Prop := fnExactNearFitUptoRow.holds Try.pinned (OpenSpec.upto fnExactNearFitSpec)

/-- 'laws.FnExactDiffHunks', WHERE WHAT IT READS IS OF BULK AT MOST 1048576: true; the input reads as it did. -/
def fnExactDiffHunksUptoRow : OpenClaim := { program := "ytafohchkacclpaa", sum := "2c35ec088b4a66996e56f5277427027b38460f4c32b22ee9c9ce60fc464b940f", func := "loop.example/g00825/laws.FnExactDiffHunks", spec := "fnExactDiffHunks", inPlace := ["internal/bytealg.IndexByteString", "internal/bytealg.IndexString"], unfollowed := true, recurses := true, named := ["internal/bytealg.MaxLen"], apart := false, narrowed := true }
def FnExactDiffHunksUptoSaid : Prop := fnExactDiffHunksUptoRow.holds Try.pinned (OpenSpec.upto fnExactDiffHunksSpec)

/-- 'laws.FnExactShiftGroups', WHERE WHAT IT READS IS OF BULK AT MOST 1048576: true; the input reads as it did. -/
def fnExactShiftGroupsUptoRow : OpenClaim := { program := "ytafohchkacclpaa", sum := "2c35ec088b4a66996e56f5277427027b38460f4c32b22ee9c9ce60fc464b940f", func := "loop.example/g00825/laws.FnExactShiftGroups", spec := "fnExactShiftGroups", inPlace := ["internal/bytealg.IndexByteString", "internal/bytealg.IndexString"], unfollowed := true, recurses := true, named := ["internal/bytealg.MaxLen"], apart := false, narrowed := true }
def FnExactShiftGroupsUptoSaid : Prop := fnExactShiftGroupsUptoRow.holds Try.pinned (OpenSpec.upto fnExactShiftGroupsSpec)

/-- 'laws.FnExactSeriesOf', WHERE WHAT IT READS IS OF BULK AT MOST 1048576: true; the input reads as it did. -/
def fnExactSeriesOfUptoRow : OpenClaim := { program := "ytafohchkacclpaa", sum := "2c35ec088b4a66996e56f5277427027b38460f4c32b22ee9c9ce60fc464b940f", func := "loop.example/g00825/laws.FnExactSeriesOf", spec := "fnExactSeriesOf", inPlace := ["internal/bytealg.IndexByteString", "internal/bytealg.IndexString"], unfollowed := true, recurses := true, named := ["internal/bytealg.MaxLen"], apart := false, narrowed := true }
def FnExactSeriesOfUptoSaid : Prop := fnExactSeriesOfUptoRow.holds Try.pinned (OpenSpec.upto fnExactSeriesOfSpec)

/-- 'laws.FnLooser', WHERE WHAT IT READS IS OF BULK AT MOST 1048576: true; the input reads as it did. -/
def fnLooserUptoRow : OpenClaim := { program := "ytafohchkacclpaa", sum := "2c35ec088b4a66996e56f5277427027b38460f4c32b22ee9c9ce60fc464b940f", func := "loop.example/g00825/laws.FnLooser", spec := "fnLooser", inPlace := ["internal/bytealg.IndexByteString", "internal/bytealg.IndexString"], unfollowed := true, recurses := true, named := ["internal/bytealg.MaxLen"], apart := false, narrowed := true }
def FnLooserUptoSaid : Prop := fnLooserUptoRow.holds Try.pinned (OpenSpec.upto fnLooserSpec)

/-- 'laws.FnDiffs', WHERE WHAT IT READS IS OF BULK AT MOST 1048576: true; the input reads as it did. -/
def fnDiffsUptoRow : OpenClaim := { program := "ytafohchkacclpaa", sum := "2c35ec088b4a66996e56f5277427027b38460f4c32b22ee9c9ce60fc464b940f", func := "loop.example/g00825/laws.FnDiffs", spec := "fnDiffs", inPlace := ["internal/bytealg.IndexByteString", "internal/bytealg.IndexString"], unfollowed := true, recurses := true, named := ["internal/bytealg.MaxLen"], apart := false, narrowed := true }
def FnDiffsUptoSaid : Prop := fnDiffsUptoRow.holds Try.pinned (OpenSpec.upto fnDiffsSpec)

/-- 'laws.FnShifted', WHERE WHAT IT READS IS OF BULK AT MOST 1048576: true; the input reads as it did. -/
def fnShiftedUptoRow : OpenClaim := { program := "ytafohchkacclpaa", sum := "2c35ec088b4a66996e56f5277427027b38460f4c32b22ee9c9ce60fc464b940f", func := "loop.example/g00825/laws.FnShifted", spec := "fnShifted", inPlace := ["internal/bytealg.IndexByteString", "internal/bytealg.IndexString"], unfollowed := true, recurses := true, named := ["internal/bytealg.MaxLen"], apart := false, narrowed := true }
def FnShiftedUptoSaid : Prop := fnShiftedUptoRow.holds Try.pinned (OpenSpec.upto fnShiftedSpec)

end Rows
end Go.Proofs.Ytafohchkacclpaa
