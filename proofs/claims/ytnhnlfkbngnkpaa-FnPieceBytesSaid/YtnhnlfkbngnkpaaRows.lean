/-
  No cell of these rows narrows 'for every input' (looked for: loops, veiled, ifaces, maps, wideKeys, modest, calm, conditions, laid).
  DERIVED. THE GIVEN ROWS OF THIS SEAT. 12 by the template 'for every input the law returns true; each argument reads behind the call as it read before'; 0 by the template 'total and deterministic' (their statements: YtnhnlfkbngnkpaaTotals.lean).
  GIVEN WITH THE SEED: the statements are not yours to turn. If you find one false, say at which input.
  Laid BY PROGRAM, IN A SANDBOX (cutbox-rows.mjs): the forced cells as the released guide's own fill.sh prints them over the translation 7d0a8889e837c6d9… (all of the seat's roots in one cut). By AI agents, Wed Nov 11 2026. No macro, syntax, notation, axiom, sorry.
-/
import Derived.Test.YtnhnlfkbngnkpaaChecked
import GoSem.Claim
import GoSem.ClaimJoined
import GoSem.ClaimMapViews
import Derived.JoinedTies
import Derived.KernelRfl
namespace Go.Proofs.Ytnhnlfkbngnkpaa
/- THE CELL 'sum', in the pinned program and in every row, IS THE sha256 OF THE DUMP (.gsa) THAT YtnhnlfkbngnkpaaProg.lean LOADS. Nothing in Lean hashes anything: it is a label: what it is worth is what the hold of that sum in a sandbox is worth. -/
noncomputable def Try.pinned : Pinned := { name := "ytnhnlfkbngnkpaa", sum := "7d0a8889e837c6d98d30755e8323d643cec3c6648a78b7a31267ef077e9a1e53", checked := Try.checked }
namespace Rows
def none {H : Type} : Left H := { results := [], args := [] }

/-- 'laws.FnExactCopiedIn': WHATEVER THE INPUT: true; the input reads as it did. -/
def fnExactCopiedInSpec : ChangeSpec := { name := "fnExactCopiedIn", fn := fun _ => fun
  | [d] => { results := [.lit (.bool true)], args := [d] }
  | _ => none }
def fnExactCopiedInRow : OpenClaim := { program := "ytnhnlfkbngnkpaa", sum := "7d0a8889e837c6d98d30755e8323d643cec3c6648a78b7a31267ef077e9a1e53", func := "loop.example/g00825/laws.FnExactCopiedIn", spec := "fnExactCopiedIn", unfollowed := true, recurses := true, apart := false }
def FnExactCopiedInSaid : Prop := fnExactCopiedInRow.holds Try.pinned (OpenSpec.ofChange fnExactCopiedInSpec)

/-- ITS FALSE NEIGHBOUR: 'it returns false'. Refute it at one input. -/
def fnExactCopiedInWrong : ChangeSpec := { name := "fnExactCopiedIn", fn := fun _ => fun
  | [d] => { results := [.lit (.bool false)], args := [d] }
  | _ => none }
def FnExactCopiedInWrongFalsely : Prop := fnExactCopiedInRow.holds Try.pinned (OpenSpec.ofChange fnExactCopiedInWrong)

/-- 'laws.FnExactGoodOps': WHATEVER THE INPUT: true; the input reads as it did. -/
def fnExactGoodOpsSpec : ChangeSpec := { name := "fnExactGoodOps", fn := fun _ => fun
  | [d1, d2] => { results := [.lit (.bool true)], args := [d1, d2] }
  | _ => none }
def fnExactGoodOpsRow : OpenClaim := { program := "ytnhnlfkbngnkpaa", sum := "7d0a8889e837c6d98d30755e8323d643cec3c6648a78b7a31267ef077e9a1e53", func := "loop.example/g00825/laws.FnExactGoodOps", spec := "fnExactGoodOps", apart := false }
def FnExactGoodOpsSaid : Prop := fnExactGoodOpsRow.holds Try.pinned (OpenSpec.ofChange fnExactGoodOpsSpec)

/-- ITS FALSE NEIGHBOUR: 'it returns false'. Refute it at one input. -/
def fnExactGoodOpsWrong : ChangeSpec := { name := "fnExactGoodOps", fn := fun _ => fun
  | [d1, d2] => { results := [.lit (.bool false)], args := [d1, d2] }
  | _ => none }
def FnExactGoodOpsWrongFalsely : Prop := fnExactGoodOpsRow.holds Try.pinned (OpenSpec.ofChange fnExactGoodOpsWrong)

/-- 'laws.FnExactDoOps': WHATEVER THE INPUT: true; the input reads as it did. -/
def fnExactDoOpsSpec : ChangeSpec := { name := "fnExactDoOps", fn := fun _ => fun
  | [d1, d2] => { results := [.lit (.bool true)], args := [d1, d2] }
  | _ => none }
def fnExactDoOpsRow : OpenClaim := { program := "ytnhnlfkbngnkpaa", sum := "7d0a8889e837c6d98d30755e8323d643cec3c6648a78b7a31267ef077e9a1e53", func := "loop.example/g00825/laws.FnExactDoOps", spec := "fnExactDoOps", apart := false }
def FnExactDoOpsSaid : Prop := fnExactDoOpsRow.holds Try.pinned (OpenSpec.ofChange fnExactDoOpsSpec)

/-- ITS FALSE NEIGHBOUR: 'it returns false'. Refute it at one input. -/
def fnExactDoOpsWrong : ChangeSpec := { name := "fnExactDoOps", fn := fun _ => fun
  | [d1, d2] => { results := [.lit (.bool false)], args := [d1, d2] }
  | _ => none }
def FnExactDoOpsWrongFalsely : Prop := fnExactDoOpsRow.holds Try.pinned (OpenSpec.ofChange fnExactDoOpsWrong)

/-- 'laws.FnExactOpsBytes': WHATEVER THE INPUT: true; the input reads as it did. -/
def fnExactOpsBytesSpec : ChangeSpec := { name := "fnExactOpsBytes", fn := fun _ => fun
  | [d1, d2] => { results := [.lit (.bool true)], args := [d1, d2] }
  | _ => none }
def fnExactOpsBytesRow : OpenClaim := { program := "ytnhnlfkbngnkpaa", sum := "7d0a8889e837c6d98d30755e8323d643cec3c6648a78b7a31267ef077e9a1e53", func := "loop.example/g00825/laws.FnExactOpsBytes", spec := "fnExactOpsBytes", apart := false }
def FnExactOpsBytesSaid : Prop := fnExactOpsBytesRow.holds Try.pinned (OpenSpec.ofChange fnExactOpsBytesSpec)

/-- ITS FALSE NEIGHBOUR: 'it returns false'. Refute it at one input. -/
def fnExactOpsBytesWrong : ChangeSpec := { name := "fnExactOpsBytes", fn := fun _ => fun
  | [d1, d2] => { results := [.lit (.bool false)], args := [d1, d2] }
  | _ => none }
def FnExactOpsBytesWrongFalsely : Prop := fnExactOpsBytesRow.holds Try.pinned (OpenSpec.ofChange fnExactOpsBytesWrong)

/-- 'laws.FnExactMakeOps': WHATEVER THE INPUT: true; the input reads as it did. -/
def fnExactMakeOpsSpec : ChangeSpec := { name := "fnExactMakeOps", fn := fun _ => fun
  | [d1, d2, d3] => { results := [.lit (.bool true)], args := [d1, d2, d3] }
  | _ => none }
def fnExactMakeOpsRow : OpenClaim := { program := "ytnhnlfkbngnkpaa", sum := "7d0a8889e837c6d98d30755e8323d643cec3c6648a78b7a31267ef077e9a1e53", func := "loop.example/g00825/laws.FnExactMakeOps", spec := "fnExactMakeOps", apart := false }
def FnExactMakeOpsSaid : Prop := fnExactMakeOpsRow.holds Try.pinned (OpenSpec.ofChange fnExactMakeOpsSpec)

/-- ITS FALSE NEIGHBOUR: 'it returns false'. Refute it at one input. -/
def fnExactMakeOpsWrong : ChangeSpec := { name := "fnExactMakeOps", fn := fun _ => fun
  | [d1, d2, d3] => { results := [.lit (.bool false)], args := [d1, d2, d3] }
  | _ => none }
def FnExactMakeOpsWrongFalsely : Prop := fnExactMakeOpsRow.holds Try.pinned (OpenSpec.ofChange fnExactMakeOpsWrong)

/-- 'laws.FnCopiedWhole': WHATEVER THE INPUT: true; the input reads as it did. -/
def fnCopiedWholeSpec : ChangeSpec := { name := "fnCopiedWhole", fn := fun _ => fun
  | [d1, d2] => { results := [.lit (.bool true)], args := [d1, d2] }
  | _ => none }
def fnCopiedWholeRow : OpenClaim := { program := "ytnhnlfkbngnkpaa", sum := "7d0a8889e837c6d98d30755e8323d643cec3c6648a78b7a31267ef077e9a1e53", func := "loop.example/g00825/laws.FnCopiedWhole", spec := "fnCopiedWhole", unfollowed := true, recurses := true, apart := false }
def FnCopiedWholeSaid : Prop := fnCopiedWholeRow.holds Try.pinned (OpenSpec.ofChange fnCopiedWholeSpec)

/-- ITS FALSE NEIGHBOUR: 'it returns false'. Refute it at one input. -/
def fnCopiedWholeWrong : ChangeSpec := { name := "fnCopiedWhole", fn := fun _ => fun
  | [d1, d2] => { results := [.lit (.bool false)], args := [d1, d2] }
  | _ => none }
def FnCopiedWholeWrongFalsely : Prop := fnCopiedWholeRow.holds Try.pinned (OpenSpec.ofChange fnCopiedWholeWrong)

/-- 'laws.FnExactTidyOps': WHATEVER THE INPUT: true; the input reads as it did. -/
def fnExactTidyOpsSpec : ChangeSpec := { name := "fnExactTidyOps", fn := fun _ => fun
  | [d1, d2] => { results := [.lit (.bool true)], args := [d1, d2] }
  | _ => none }
def fnExactTidyOpsRow : OpenClaim := { program := "ytnhnlfkbngnkpaa", sum := "7d0a8889e837c6d98d30755e8323d643cec3c6648a78b7a31267ef077e9a1e53", func := "loop.example/g00825/laws.FnExactTidyOps", spec := "fnExactTidyOps", apart := false }
def FnExactTidyOpsSaid : Prop := fnExactTidyOpsRow.holds Try.pinned (OpenSpec.ofChange fnExactTidyOpsSpec)

/-- ITS FALSE NEIGHBOUR: 'it returns false'. Refute it at one input. -/
def fnExactTidyOpsWrong : ChangeSpec := { name := "fnExactTidyOps", fn := fun _ => fun
  | [d1, d2] => { results := [.lit (.bool false)], args := [d1, d2] }
  | _ => none }
def FnExactTidyOpsWrongFalsely : Prop := fnExactTidyOpsRow.holds Try.pinned (OpenSpec.ofChange fnExactTidyOpsWrong)

/-- 'laws.FnExactReadOps': WHATEVER THE INPUT: true; the input reads as it did. -/
def fnExactReadOpsSpec : ChangeSpec := { name := "fnExactReadOps", fn := fun _ => fun
  | [d1, d2] => { results := [.lit (.bool true)], args := [d1, d2] }
  | _ => none }
def fnExactReadOpsRow : OpenClaim := { program := "ytnhnlfkbngnkpaa", sum := "7d0a8889e837c6d98d30755e8323d643cec3c6648a78b7a31267ef077e9a1e53", func := "loop.example/g00825/laws.FnExactReadOps", spec := "fnExactReadOps", apart := false }
def FnExactReadOpsSaid : Prop := fnExactReadOpsRow.holds Try.pinned (OpenSpec.ofChange fnExactReadOpsSpec)

/-- ITS FALSE NEIGHBOUR: 'it returns false'. Refute it at one input. -/
def fnExactReadOpsWrong : ChangeSpec := { name := "fnExactReadOps", fn := fun _ => fun
  | [d1, d2] => { results := [.lit (.bool false)], args := [d1, d2] }
  | _ => none }
def FnExactReadOpsWrongFalsely : Prop := fnExactReadOpsRow.holds Try.pinned (OpenSpec.ofChange fnExactReadOpsWrong)

/-- 'laws.FnPieces': WHATEVER THE INPUT: true; the input reads as it did. -/
def fnPiecesSpec : ChangeSpec := { name := "fnPieces", fn := fun _ => fun
  | [d1, d2] => { results := [.lit (.bool true)], args := [d1, d2] }
  | _ => none }
def fnPiecesRow : OpenClaim := { program := "ytnhnlfkbngnkpaa", sum := "7d0a8889e837c6d98d30755e8323d643cec3c6648a78b7a31267ef077e9a1e53", func := "loop.example/g00825/laws.FnPieces", spec := "fnPieces", unfollowed := true, recurses := true, apart := false }
def FnPiecesSaid : Prop := fnPiecesRow.holds Try.pinned (OpenSpec.ofChange fnPiecesSpec)

/-- ITS FALSE NEIGHBOUR: 'it returns false'. Refute it at one input. -/
def fnPiecesWrong : ChangeSpec := { name := "fnPieces", fn := fun _ => fun
  | [d1, d2] => { results := [.lit (.bool false)], args := [d1, d2] }
  | _ => none }
def FnPiecesWrongFalsely : Prop := fnPiecesRow.holds Try.pinned (OpenSpec.ofChange fnPiecesWrong)

/-- 'laws.FnExactPlacesOf': WHATEVER THE INPUT: true; the input reads as it did. -/
def fnExactPlacesOfSpec : ChangeSpec := { name := "fnExactPlacesOf", fn := fun _ => fun
  | [d1, d2] => { results := [.lit (.bool true)], args := [d1, d2] }
  | _ => none }
def fnExactPlacesOfRow : OpenClaim := { program := "ytnhnlfkbngnkpaa", sum := "7d0a8889e837c6d98d30755e8323d643cec3c6648a78b7a31267ef077e9a1e53", func := "loop.example/g00825/laws.FnExactPlacesOf", spec := "fnExactPlacesOf", inPlace := ["internal/bytealg.IndexByteString", "internal/bytealg.IndexString"], unfollowed := true, recurses := true, named := ["internal/bytealg.MaxLen"], apart := false }
def FnExactPlacesOfSaid : Prop := fnExactPlacesOfRow.holds Try.pinned (OpenSpec.ofChange fnExactPlacesOfSpec)

/-- ITS FALSE NEIGHBOUR: 'it returns false'. Refute it at one input. -/
def fnExactPlacesOfWrong : ChangeSpec := { name := "fnExactPlacesOf", fn := fun _ => fun
  | [d1, d2] => { results := [.lit (.bool false)], args := [d1, d2] }
  | _ => none }
def FnExactPlacesOfWrongFalsely : Prop := fnExactPlacesOfRow.holds Try.pinned (OpenSpec.ofChange fnExactPlacesOfWrong)

/-- 'laws.FnExactNeedsHunks': WHATEVER THE INPUT: true; the input reads as it did. -/
def fnExactNeedsHunksSpec : ChangeSpec := { name := "fnExactNeedsHunks", fn := fun _ => fun
  | [d1, d2] => { results := [.lit (.bool true)], args := [d1, d2] }
  | _ => none }
def fnExactNeedsHunksRow : OpenClaim := { program := "ytnhnlfkbngnkpaa", sum := "7d0a8889e837c6d98d30755e8323d643cec3c6648a78b7a31267ef077e9a1e53", func := "loop.example/g00825/laws.FnExactNeedsHunks", spec := "fnExactNeedsHunks", inPlace := ["internal/bytealg.IndexByteString", "internal/bytealg.IndexString"], unfollowed := true, recurses := true, named := ["internal/bytealg.MaxLen"], apart := false }
def FnExactNeedsHunksSaid : Prop := fnExactNeedsHunksRow.holds Try.pinned (OpenSpec.ofChange fnExactNeedsHunksSpec)

/-- ITS FALSE NEIGHBOUR: 'it returns false'. Refute it at one input. -/
def fnExactNeedsHunksWrong : ChangeSpec := { name := "fnExactNeedsHunks", fn := fun _ => fun
  | [d1, d2] => { results := [.lit (.bool false)], args := [d1, d2] }
  | _ => none }
def FnExactNeedsHunksWrongFalsely : Prop := fnExactNeedsHunksRow.holds Try.pinned (OpenSpec.ofChange fnExactNeedsHunksWrong)

/-- 'laws.FnPieceBytes': WHATEVER THE INPUT: true; the input reads as it did. -/
def fnPieceBytesSpec : ChangeSpec := { name := "fnPieceBytes", fn := fun _ => fun
  | [d1, d2] => { results := [.lit (.bool true)], args := [d1, d2] }
  | _ => none }
def fnPieceBytesRow : OpenClaim := { program := "ytnhnlfkbngnkpaa", sum := "7d0a8889e837c6d98d30755e8323d643cec3c6648a78b7a31267ef077e9a1e53", func := "loop.example/g00825/laws.FnPieceBytes", spec := "fnPieceBytes", apart := false }
def FnPieceBytesSaid : Prop := fnPieceBytesRow.holds Try.pinned (OpenSpec.ofChange fnPieceBytesSpec)

/-- ITS FALSE NEIGHBOUR: 'it returns false'. Refute it at one input. -/
def fnPieceBytesWrong : ChangeSpec := { name := "fnPieceBytes", fn := fun _ => fun
  | [d1, d2] => { results := [.lit (.bool false)], args := [d1, d2] }
  | _ => none }
def FnPieceBytesWrongFalsely : Prop := fnPieceBytesRow.holds Try.pinned (OpenSpec.ofChange fnPieceBytesWrong)

/- THE SECOND FORM. 'bulk': how many values and letters a reading holds, each counted each time it is reached (what is shared counts as often as it is met; a slice's spare places count too). A statement '..UptoSaid' is the law's where the arguments, and the package variables that the reading takes, are together of bulk at most 1048576: NARROWER than '..Said'. Prove '..Said' where nothing that the law and all that it calls make is longer than what came in: it says more and counts as full. Else prove '..UptoSaid'. A law counts once. -/
mutual
def uptoBulk {H : Type} : DataW H → Nat
  | .lit (.string bytes) => bytes.length + 1
  | .lit _ => 1
  | .nil => 1
  | .ptr d => uptoBulk d + 1
  | .slice elems spare => uptoBulkAll elems + uptoBulkAll spare + 1
  | .agg parts => uptoBulkAll parts + 1
  | .iface _ d => uptoBulk d + 1
  | .map entries => uptoBulkEntries entries + 1
  | .held _ => 1
def uptoBulkAll {H : Type} : List (DataW H) → Nat
  | [] => 0
  | d :: r => uptoBulk d + uptoBulkAll r
def uptoBulkEntries {H : Type} : List (Lit × DataW H) → Nat
  | [] => 0
  | x :: r => uptoBulkEntry x + uptoBulkEntries r
def uptoBulkEntry {H : Type} : Lit × DataW H → Nat
  | (.string bytes, d) => bytes.length + uptoBulk d + 1
  | (_, d) => uptoBulk d + 1
 end
def uptoSmall : (H : Type) → List (DataW H) → Bool := fun _ ds => decide (uptoBulkAll ds ≤ 1048576)
def OpenSpec.upto (s : _root_.Go.ChangeSpec) : _root_.Go.OpenSpec := { _root_.Go.OpenSpec.ofChange s with cond := some uptoSmall }

/-- 'laws.FnExactCopiedIn', WHERE WHAT IT READS IS OF BULK AT MOST 1048576: true; the input reads as it did. -/
def fnExactCopiedInUptoRow : OpenClaim := { program := "ytnhnlfkbngnkpaa", sum := "7d0a8889e837c6d98d30755e8323d643cec3c6648a78b7a31267ef077e9a1e53", func := "loop.example/g00825/laws.FnExactCopiedIn", spec := "fnExactCopiedIn", unfollowed := true, recurses := true, apart := false, narrowed := true }
def FnExactCopiedInUptoSaid : Prop := fnExactCopiedInUptoRow.holds Try.pinned (OpenSpec.upto fnExactCopiedInSpec)

/-- 'laws.FnExactGoodOps', WHERE WHAT IT READS IS OF BULK AT MOST 1048576: true; the input reads as it did. -/
def fnExactGoodOpsUptoRow : OpenClaim := { program := "ytnhnlfkbngnkpaa", sum := "7d0a8889e837c6d98d30755e8323d643cec3c6648a78b7a31267ef077e9a1e53", func := "loop.example/g00825/laws.FnExactGoodOps", spec := "fnExactGoodOps", apart := false, narrowed := true }
def FnExactGoodOpsUptoSaid : Prop := fnExactGoodOpsUptoRow.holds Try.pinned (OpenSpec.upto fnExactGoodOpsSpec)

/-- 'laws.FnExactDoOps', WHERE WHAT IT READS IS OF BULK AT MOST 1048576: true; the input reads as it did. -/
def fnExactDoOpsUptoRow : OpenClaim := { program := "ytnhnlfkbngnkpaa", sum := "7d0a8889e837c6d98d30755e8323d643cec3c6648a78b7a31267ef077e9a1e53", func := "loop.example/g00825/laws.FnExactDoOps", spec := "fnExactDoOps", apart := false, narrowed := true }
def FnExactDoOpsUptoSaid : Prop := fnExactDoOpsUptoRow.holds Try.pinned (OpenSpec.upto fnExactDoOpsSpec)

/-- 'laws.FnExactOpsBytes', WHERE WHAT IT READS IS OF BULK AT MOST 1048576: true; the input reads as it did. -/
def fnExactOpsBytesUptoRow : OpenClaim := { program := "ytnhnlfkbngnkpaa", sum := "7d0a8889e837c6d98d30755e8323d643cec3c6648a78b7a31267ef077e9a1e53", func := "loop.example/g00825/laws.FnExactOpsBytes", spec := "fnExactOpsBytes", apart := false, narrowed := true }
def FnExactOpsBytesUptoSaid : Prop := fnExactOpsBytesUptoRow.holds Try.pinned (OpenSpec.upto fnExactOpsBytesSpec)

/-- 'laws.FnExactMakeOps', WHERE WHAT IT READS IS OF BULK AT MOST 1048576: true; the input reads as it did. -/
def fnExactMakeOpsUptoRow : OpenClaim := { program := "ytnhnlfkbngnkpaa", sum := "7d0a8889e837c6d98d30755e8323d643cec3c6648a78b7a31267ef077e9a1e53", func := "loop.example/g00825/laws.FnExactMakeOps", spec := "fnExactMakeOps", apart := false, narrowed := true }
def FnExactMakeOpsUptoSaid : Prop := fnExactMakeOpsUptoRow.holds Try.pinned (OpenSpec.upto fnExactMakeOpsSpec)

/-- 'laws.FnCopiedWhole', WHERE WHAT IT READS IS OF BULK AT MOST 1048576: true; the input reads as it did. -/
def fnCopiedWholeUptoRow : OpenClaim := { program := "ytnhnlfkbngnkpaa", sum := "7d0a8889e837c6d98d30755e8323d643cec3c6648a78b7a31267ef077e9a1e53", func := "loop.example/g00825/laws.FnCopiedWhole", spec := "fnCopiedWhole", unfollowed := true, recurses := true, apart := false, narrowed := true }
def FnCopiedWholeUptoSaid : Prop := fnCopiedWholeUptoRow.holds Try.pinned (OpenSpec.upto fnCopiedWholeSpec)

/-- 'laws.FnExactTidyOps', WHERE WHAT IT READS IS OF BULK AT MOST 1048576: true; the input reads as it did. -/
def fnExactTidyOpsUptoRow : OpenClaim := { program := "ytnhnlfkbngnkpaa", sum := "7d0a8889e837c6d98d30755e8323d643cec3c6648a78b7a31267ef077e9a1e53", func := "loop.example/g00825/laws.FnExactTidyOps", spec := "fnExactTidyOps", apart := false, narrowed := true }
def FnExactTidyOpsUptoSaid : Prop := fnExactTidyOpsUptoRow.holds Try.pinned (OpenSpec.upto fnExactTidyOpsSpec)

/-- 'laws.FnExactReadOps', WHERE WHAT IT READS IS OF BULK AT MOST 1048576: true; the input reads as it did. -/
def fnExactReadOpsUptoRow : OpenClaim := { program := "ytnhnlfkbngnkpaa", sum := "7d0a8889e837c6d98d30755e8323d643cec3c6648a78b7a31267ef077e9a1e53", func := "loop.example/g00825/laws.FnExactReadOps", spec := "fnExactReadOps", apart := false, narrowed := true }
def FnExactReadOpsUptoSaid : Prop := fnExactReadOpsUptoRow.holds Try.pinned (OpenSpec.upto fnExactReadOpsSpec)

/-- 'laws.FnPieces', WHERE WHAT IT READS IS OF BULK AT MOST 1048576: true; the input reads as it did. -/
def fnPiecesUptoRow : OpenClaim := { program := "ytnhnlfkbngnkpaa", sum := "7d0a8889e837c6d98d30755e8323d643cec3c6648a78b7a31267ef077e9a1e53", func := "loop.example/g00825/laws.FnPieces", spec := "fnPieces", unfollowed := true, recurses := true, apart := false, narrowed := true }
def FnPiecesUptoSaid : Prop := fnPiecesUptoRow.holds Try.pinned (OpenSpec.upto fnPiecesSpec)

/-- 'laws.FnExactPlacesOf', WHERE WHAT IT READS IS OF BULK AT MOST 1048576: true; the input reads as it did. -/
def fnExactPlacesOfUptoRow : OpenClaim := { program := "ytnhnlfkbngnkpaa", sum := "7d0a8889e837c6d98d30755e8323d643cec3c6648a78b7a31267ef077e9a1e53", func := "loop.example/g00825/laws.FnExactPlacesOf", spec := "fnExactPlacesOf", inPlace := ["internal/bytealg.IndexByteString", "internal/bytealg.IndexString"], unfollowed := true, recurses := true, named := ["internal/bytealg.MaxLen"], apart := false, narrowed := true }
def FnExactPlacesOfUptoSaid : Prop := fnExactPlacesOfUptoRow.holds Try.pinned (OpenSpec.upto fnExactPlacesOfSpec)

/-- 'laws.FnExactNeedsHunks', WHERE WHAT IT READS IS OF BULK AT MOST 1048576: true; the input reads as it did. -/
def fnExactNeedsHunksUptoRow : OpenClaim := { program := "ytnhnlfkbngnkpaa", sum := "7d0a8889e837c6d98d30755e8323d643cec3c6648a78b7a31267ef077e9a1e53", func := "loop.example/g00825/laws.FnExactNeedsHunks", spec := "fnExactNeedsHunks", inPlace := ["internal/bytealg.IndexByteString", "internal/bytealg.IndexString"], unfollowed := true, recurses := true, named := ["internal/bytealg.MaxLen"], apart := false, narrowed := true }
def FnExactNeedsHunksUptoSaid : Prop := fnExactNeedsHunksUptoRow.holds Try.pinned (OpenSpec.upto fnExactNeedsHunksSpec)

/-- 'laws.FnPieceBytes', WHERE WHAT IT READS IS OF BULK AT MOST 1048576: true; the input reads as it did. -/
def fnPieceBytesUptoRow : OpenClaim := { program := "ytnhnlfkbngnkpaa", sum := "7d0a8889e837c6d98d30755e8323d643cec3c6648a78b7a31267ef077e9a1e53", func := "loop.example/g00825/laws.FnPieceBytes", spec := "fnPieceBytes", apart := false, narrowed := true }
def FnPieceBytesUptoSaid : Prop := fnPieceBytesUptoRow.holds Try.pinned (OpenSpec.upto fnPieceBytesSpec)

end Rows
end Go.Proofs.Ytnhnlfkbngnkpaa
