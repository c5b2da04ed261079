/-
  No cell of these rows narrows 'for every input' (looked for: loops, veiled, ifaces, maps, wideKeys, modest, calm, conditions, laid).
  DERIVED. THE GIVEN ROWS OF THIS SEAT. 12 by the template 'for every input the law returns true; each argument reads behind the call as it read before'; 0 by the template 'total and deterministic' (their statements: YtjnlbincgakmpaaTotals.lean).
  GIVEN WITH THE SEED: the statements are not yours to turn. If you find one false, say at which input.
  Laid BY PROGRAM, IN A SANDBOX (cutbox-rows.mjs): the forced cells as the released guide's own fill.sh prints them over the translation 575f83efba070a2a… (all of the seat's roots in one cut). By AI agents, Wed Nov 11 2026. No macro, syntax, notation, axiom, sorry.
-/
import Derived.Test.YtjnlbincgakmpaaChecked
import GoSem.Claim
import GoSem.ClaimJoined
import GoSem.ClaimMapViews
import Derived.JoinedTies
import Derived.KernelRfl
namespace Go.Proofs.Ytjnlbincgakmpaa
/- THE CELL 'sum', in the pinned program and in every row, IS THE sha256 OF THE DUMP (.gsa) THAT YtjnlbincgakmpaaProg.lean LOADS. Nothing in Lean hashes anything: it is a label: what it is worth is what the hold of that sum in a sandbox is worth. -/
noncomputable def Try.pinned : Pinned := { name := "ytjnlbincgakmpaa", sum := "575f83efba070a2a21ea497f99c529e516eb226192c1709958fc33eeec22c2d8", checked := Try.checked }
namespace Rows
def none {H : Type} : Left H := { results := [], args := [] }

/-- 'laws.FnExactCountCells': WHATEVER THE INPUT: true; the input reads as it did. -/
def fnExactCountCellsSpec : ChangeSpec := { name := "fnExactCountCells", fn := fun _ => fun
  | [d] => { results := [.lit (.bool true)], args := [d] }
  | _ => none }
def fnExactCountCellsRow : OpenClaim := { program := "ytjnlbincgakmpaa", sum := "575f83efba070a2a21ea497f99c529e516eb226192c1709958fc33eeec22c2d8", func := "loop.example/g01338/laws.FnExactCountCells", spec := "fnExactCountCells", apart := false }
def FnExactCountCellsSaid : Prop := fnExactCountCellsRow.holds Try.pinned (OpenSpec.ofChange fnExactCountCellsSpec)

/-- ITS FALSE NEIGHBOUR: 'it returns false'. Refute it at one input. -/
def fnExactCountCellsWrong : ChangeSpec := { name := "fnExactCountCells", fn := fun _ => fun
  | [d] => { results := [.lit (.bool false)], args := [d] }
  | _ => none }
def FnExactCountCellsWrongFalsely : Prop := fnExactCountCellsRow.holds Try.pinned (OpenSpec.ofChange fnExactCountCellsWrong)

/-- 'laws.FnExactListOf': WHATEVER THE INPUT: true; the input reads as it did. -/
def fnExactListOfSpec : ChangeSpec := { name := "fnExactListOf", fn := fun _ => fun
  | [d] => { results := [.lit (.bool true)], args := [d] }
  | _ => none }
def fnExactListOfRow : OpenClaim := { program := "ytjnlbincgakmpaa", sum := "575f83efba070a2a21ea497f99c529e516eb226192c1709958fc33eeec22c2d8", func := "loop.example/g01338/laws.FnExactListOf", spec := "fnExactListOf", apart := false }
def FnExactListOfSaid : Prop := fnExactListOfRow.holds Try.pinned (OpenSpec.ofChange fnExactListOfSpec)

/-- ITS FALSE NEIGHBOUR: 'it returns false'. Refute it at one input. -/
def fnExactListOfWrong : ChangeSpec := { name := "fnExactListOf", fn := fun _ => fun
  | [d] => { results := [.lit (.bool false)], args := [d] }
  | _ => none }
def FnExactListOfWrongFalsely : Prop := fnExactListOfRow.holds Try.pinned (OpenSpec.ofChange fnExactListOfWrong)

/-- 'laws.FnExactValidField': WHATEVER THE INPUT: true; the input reads as it did. -/
def fnExactValidFieldSpec : ChangeSpec := { name := "fnExactValidField", fn := fun _ => fun
  | [d] => { results := [.lit (.bool true)], args := [d] }
  | _ => none }
def fnExactValidFieldRow : OpenClaim := { program := "ytjnlbincgakmpaa", sum := "575f83efba070a2a21ea497f99c529e516eb226192c1709958fc33eeec22c2d8", func := "loop.example/g01338/laws.FnExactValidField", spec := "fnExactValidField", apart := false }
def FnExactValidFieldSaid : Prop := fnExactValidFieldRow.holds Try.pinned (OpenSpec.ofChange fnExactValidFieldSpec)

/-- ITS FALSE NEIGHBOUR: 'it returns false'. Refute it at one input. -/
def fnExactValidFieldWrong : ChangeSpec := { name := "fnExactValidField", fn := fun _ => fun
  | [d] => { results := [.lit (.bool false)], args := [d] }
  | _ => none }
def FnExactValidFieldWrongFalsely : Prop := fnExactValidFieldRow.holds Try.pinned (OpenSpec.ofChange fnExactValidFieldWrong)

/-- 'laws.FnExactPlainField': WHATEVER THE INPUT: true; the input reads as it did. -/
def fnExactPlainFieldSpec : ChangeSpec := { name := "fnExactPlainField", fn := fun _ => fun
  | [d1, d2, d3] => { results := [.lit (.bool true)], args := [d1, d2, d3] }
  | _ => none }
def fnExactPlainFieldRow : OpenClaim := { program := "ytjnlbincgakmpaa", sum := "575f83efba070a2a21ea497f99c529e516eb226192c1709958fc33eeec22c2d8", func := "loop.example/g01338/laws.FnExactPlainField", spec := "fnExactPlainField", apart := false }
def FnExactPlainFieldSaid : Prop := fnExactPlainFieldRow.holds Try.pinned (OpenSpec.ofChange fnExactPlainFieldSpec)

/-- ITS FALSE NEIGHBOUR: 'it returns false'. Refute it at one input. -/
def fnExactPlainFieldWrong : ChangeSpec := { name := "fnExactPlainField", fn := fun _ => fun
  | [d1, d2, d3] => { results := [.lit (.bool false)], args := [d1, d2, d3] }
  | _ => none }
def FnExactPlainFieldWrongFalsely : Prop := fnExactPlainFieldRow.holds Try.pinned (OpenSpec.ofChange fnExactPlainFieldWrong)

/-- 'laws.FnExactSeedsIn': WHATEVER THE INPUT: true; the input reads as it did. -/
def fnExactSeedsInSpec : ChangeSpec := { name := "fnExactSeedsIn", fn := fun _ => fun
  | [d] => { results := [.lit (.bool true)], args := [d] }
  | _ => none }
def fnExactSeedsInRow : OpenClaim := { program := "ytjnlbincgakmpaa", sum := "575f83efba070a2a21ea497f99c529e516eb226192c1709958fc33eeec22c2d8", func := "loop.example/g01338/laws.FnExactSeedsIn", spec := "fnExactSeedsIn", apart := false }
def FnExactSeedsInSaid : Prop := fnExactSeedsInRow.holds Try.pinned (OpenSpec.ofChange fnExactSeedsInSpec)

/-- ITS FALSE NEIGHBOUR: 'it returns false'. Refute it at one input. -/
def fnExactSeedsInWrong : ChangeSpec := { name := "fnExactSeedsIn", fn := fun _ => fun
  | [d] => { results := [.lit (.bool false)], args := [d] }
  | _ => none }
def FnExactSeedsInWrongFalsely : Prop := fnExactSeedsInRow.holds Try.pinned (OpenSpec.ofChange fnExactSeedsInWrong)

/-- 'laws.FnExactKindAt': WHATEVER THE INPUT: true; the input reads as it did. -/
def fnExactKindAtSpec : ChangeSpec := { name := "fnExactKindAt", fn := fun _ => fun
  | [d1, d2] => { results := [.lit (.bool true)], args := [d1, d2] }
  | _ => none }
def fnExactKindAtRow : OpenClaim := { program := "ytjnlbincgakmpaa", sum := "575f83efba070a2a21ea497f99c529e516eb226192c1709958fc33eeec22c2d8", func := "loop.example/g01338/laws.FnExactKindAt", spec := "fnExactKindAt", unfollowed := true, recurses := true, apart := false }
def FnExactKindAtSaid : Prop := fnExactKindAtRow.holds Try.pinned (OpenSpec.ofChange fnExactKindAtSpec)

/-- ITS FALSE NEIGHBOUR: 'it returns false'. Refute it at one input. -/
def fnExactKindAtWrong : ChangeSpec := { name := "fnExactKindAt", fn := fun _ => fun
  | [d1, d2] => { results := [.lit (.bool false)], args := [d1, d2] }
  | _ => none }
def FnExactKindAtWrongFalsely : Prop := fnExactKindAtRow.holds Try.pinned (OpenSpec.ofChange fnExactKindAtWrong)

/-- 'laws.FnExactSeedsAt': WHATEVER THE INPUT: true; the input reads as it did. -/
def fnExactSeedsAtSpec : ChangeSpec := { name := "fnExactSeedsAt", fn := fun _ => fun
  | [d1, d2] => { results := [.lit (.bool true)], args := [d1, d2] }
  | _ => none }
def fnExactSeedsAtRow : OpenClaim := { program := "ytjnlbincgakmpaa", sum := "575f83efba070a2a21ea497f99c529e516eb226192c1709958fc33eeec22c2d8", func := "loop.example/g01338/laws.FnExactSeedsAt", spec := "fnExactSeedsAt", unfollowed := true, recurses := true, apart := false }
def FnExactSeedsAtSaid : Prop := fnExactSeedsAtRow.holds Try.pinned (OpenSpec.ofChange fnExactSeedsAtSpec)

/-- ITS FALSE NEIGHBOUR: 'it returns false'. Refute it at one input. -/
def fnExactSeedsAtWrong : ChangeSpec := { name := "fnExactSeedsAt", fn := fun _ => fun
  | [d1, d2] => { results := [.lit (.bool false)], args := [d1, d2] }
  | _ => none }
def FnExactSeedsAtWrongFalsely : Prop := fnExactSeedsAtRow.holds Try.pinned (OpenSpec.ofChange fnExactSeedsAtWrong)

/-- 'laws.FnExactSquareOf': WHATEVER THE INPUT: true; the input reads as it did. -/
def fnExactSquareOfSpec : ChangeSpec := { name := "fnExactSquareOf", fn := fun _ => fun
  | [d1, d2, d3] => { results := [.lit (.bool true)], args := [d1, d2, d3] }
  | _ => none }
def fnExactSquareOfRow : OpenClaim := { program := "ytjnlbincgakmpaa", sum := "575f83efba070a2a21ea497f99c529e516eb226192c1709958fc33eeec22c2d8", func := "loop.example/g01338/laws.FnExactSquareOf", spec := "fnExactSquareOf", unfollowed := true, recurses := true, apart := false }
def FnExactSquareOfSaid : Prop := fnExactSquareOfRow.holds Try.pinned (OpenSpec.ofChange fnExactSquareOfSpec)

/-- ITS FALSE NEIGHBOUR: 'it returns false'. Refute it at one input. -/
def fnExactSquareOfWrong : ChangeSpec := { name := "fnExactSquareOf", fn := fun _ => fun
  | [d1, d2, d3] => { results := [.lit (.bool false)], args := [d1, d2, d3] }
  | _ => none }
def FnExactSquareOfWrongFalsely : Prop := fnExactSquareOfRow.holds Try.pinned (OpenSpec.ofChange fnExactSquareOfWrong)

/-- 'laws.FnExactRichestIn': WHATEVER THE INPUT: true; the input reads as it did. -/
def fnExactRichestInSpec : ChangeSpec := { name := "fnExactRichestIn", fn := fun _ => fun
  | [d1, d2] => { results := [.lit (.bool true)], args := [d1, d2] }
  | _ => none }
def fnExactRichestInRow : OpenClaim := { program := "ytjnlbincgakmpaa", sum := "575f83efba070a2a21ea497f99c529e516eb226192c1709958fc33eeec22c2d8", func := "loop.example/g01338/laws.FnExactRichestIn", spec := "fnExactRichestIn", unfollowed := true, recurses := true, apart := false }
def FnExactRichestInSaid : Prop := fnExactRichestInRow.holds Try.pinned (OpenSpec.ofChange fnExactRichestInSpec)

/-- ITS FALSE NEIGHBOUR: 'it returns false'. Refute it at one input. -/
def fnExactRichestInWrong : ChangeSpec := { name := "fnExactRichestIn", fn := fun _ => fun
  | [d1, d2] => { results := [.lit (.bool false)], args := [d1, d2] }
  | _ => none }
def FnExactRichestInWrongFalsely : Prop := fnExactRichestInRow.holds Try.pinned (OpenSpec.ofChange fnExactRichestInWrong)

/-- 'laws.FnExactCellsOfKind': WHATEVER THE INPUT: true; the input reads as it did. -/
def fnExactCellsOfKindSpec : ChangeSpec := { name := "fnExactCellsOfKind", fn := fun _ => fun
  | [d1, d2] => { results := [.lit (.bool true)], args := [d1, d2] }
  | _ => none }
def fnExactCellsOfKindRow : OpenClaim := { program := "ytjnlbincgakmpaa", sum := "575f83efba070a2a21ea497f99c529e516eb226192c1709958fc33eeec22c2d8", func := "loop.example/g01338/laws.FnExactCellsOfKind", spec := "fnExactCellsOfKind", unfollowed := true, recurses := true, apart := false }
def FnExactCellsOfKindSaid : Prop := fnExactCellsOfKindRow.holds Try.pinned (OpenSpec.ofChange fnExactCellsOfKindSpec)

/-- ITS FALSE NEIGHBOUR: 'it returns false'. Refute it at one input. -/
def fnExactCellsOfKindWrong : ChangeSpec := { name := "fnExactCellsOfKind", fn := fun _ => fun
  | [d1, d2] => { results := [.lit (.bool false)], args := [d1, d2] }
  | _ => none }
def FnExactCellsOfKindWrongFalsely : Prop := fnExactCellsOfKindRow.holds Try.pinned (OpenSpec.ofChange fnExactCellsOfKindWrong)

/-- 'laws.FnExactWithKind': WHATEVER THE INPUT: true; the input reads as it did. -/
def fnExactWithKindSpec : ChangeSpec := { name := "fnExactWithKind", fn := fun _ => fun
  | [d1, d2, d3] => { results := [.lit (.bool true)], args := [d1, d2, d3] }
  | _ => none }
def fnExactWithKindRow : OpenClaim := { program := "ytjnlbincgakmpaa", sum := "575f83efba070a2a21ea497f99c529e516eb226192c1709958fc33eeec22c2d8", func := "loop.example/g01338/laws.FnExactWithKind", spec := "fnExactWithKind", unfollowed := true, recurses := true, apart := false }
def FnExactWithKindSaid : Prop := fnExactWithKindRow.holds Try.pinned (OpenSpec.ofChange fnExactWithKindSpec)

/-- ITS FALSE NEIGHBOUR: 'it returns false'. Refute it at one input. -/
def fnExactWithKindWrong : ChangeSpec := { name := "fnExactWithKind", fn := fun _ => fun
  | [d1, d2, d3] => { results := [.lit (.bool false)], args := [d1, d2, d3] }
  | _ => none }
def FnExactWithKindWrongFalsely : Prop := fnExactWithKindRow.holds Try.pinned (OpenSpec.ofChange fnExactWithKindWrong)

/-- 'laws.FnExactSowCell': WHATEVER THE INPUT: true; the input reads as it did. -/
def fnExactSowCellSpec : ChangeSpec := { name := "fnExactSowCell", fn := fun _ => fun
  | [d1, d2, d3] => { results := [.lit (.bool true)], args := [d1, d2, d3] }
  | _ => none }
def fnExactSowCellRow : OpenClaim := { program := "ytjnlbincgakmpaa", sum := "575f83efba070a2a21ea497f99c529e516eb226192c1709958fc33eeec22c2d8", func := "loop.example/g01338/laws.FnExactSowCell", spec := "fnExactSowCell", unfollowed := true, recurses := true, apart := false }
def FnExactSowCellSaid : Prop := fnExactSowCellRow.holds Try.pinned (OpenSpec.ofChange fnExactSowCellSpec)

/-- ITS FALSE NEIGHBOUR: 'it returns false'. Refute it at one input. -/
def fnExactSowCellWrong : ChangeSpec := { name := "fnExactSowCell", fn := fun _ => fun
  | [d1, d2, d3] => { results := [.lit (.bool false)], args := [d1, d2, d3] }
  | _ => none }
def FnExactSowCellWrongFalsely : Prop := fnExactSowCellRow.holds Try.pinned (OpenSpec.ofChange fnExactSowCellWrong)

/- THE SECOND FORM. 'bulk': how many values and letters a reading holds, each counted each time it is reached (what is shared counts as often as it is met; a slice's spare places count too). A statement '..UptoSaid' is the law's where the arguments, and the package variables that the reading takes, are together of bulk at most 1048576: NARROWER than '..Said'. Prove '..Said' where nothing that the law and all that it calls make is longer than what came in: it says more and counts as full. Else prove '..UptoSaid'. A law counts once. -/
mutual
def uptoBulk {H : Type} : DataW H → Nat
  | .lit (.string bytes) => bytes.length + 1
  | .lit _ => 1
  | .nil => 1
  | .ptr d => uptoBulk d + 1
  | .slice elems spare => uptoBulkAll elems + uptoBulkAll spare + 1
  | .agg parts => uptoBulkAll parts + 1
  | .iface _ d => uptoBulk d + 1
  | .map entries => uptoBulkEntries entries + 1
  | .held _ => 1
def uptoBulkAll {H : Type} : List (DataW H) → Nat
  | [] => 0
  | d :: r => uptoBulk d + uptoBulkAll r
def uptoBulkEntries {H : Type} : List (Lit × DataW H) → Nat
  | [] => 0
  | x :: r => uptoBulkEntry x + uptoBulkEntries r
def uptoBulkEntry {H : Type} : Lit × DataW H → Nat
  | (.string bytes, d) => bytes.length + uptoBulk d + 1
  | (_, d) => uptoBulk d + 1
 end
def uptoSmall : (H : Type) → List (DataW H) → Bool := fun _ ds => decide (uptoBulkAll ds ≤ 1048576)
def OpenSpec.upto (s : _root_.Go.ChangeSpec) : _root_.Go.OpenSpec := { _root_.Go.OpenSpec.ofChange s with cond := some uptoSmall }

/-- 'laws.FnExactCountCells', WHERE WHAT IT READS IS OF BULK AT MOST 1048576: true; the input reads as it did. -/
def fnExactCountCellsUptoRow : OpenClaim := { program := "ytjnlbincgakmpaa", sum := "575f83efba070a2a21ea497f99c529e516eb226192c1709958fc33eeec22c2d8", func := "loop.example/g01338/laws.FnExactCountCells", spec := "fnExactCountCells", apart := false, narrowed := true }
def FnExactCountCellsUptoSaid : Prop := fnExactCountCellsUptoRow.holds Try.pinned (OpenSpec.upto fnExactCountCellsSpec)

/-- 'laws.FnExactListOf', WHERE WHAT IT READS IS OF BULK AT MOST 1048576: true; the input reads as it did. -/
def fnExactListOfUptoRow : OpenClaim := { program := "ytjnlbincgakmpaa", sum := "575f83efba070a2a21ea497f99c529e516eb226192c1709958fc33eeec22c2d8", func := "loop.example/g01338/laws.FnExactListOf", spec := "fnExactListOf", apart := false, narrowed := true }
def FnExactListOfUptoSaid : Prop := fnExactListOfUptoRow.holds Try.pinned (OpenSpec.upto fnExactListOfSpec)

/-- 'laws.FnExactValidField', WHERE WHAT IT READS IS OF BULK AT MOST 1048576: true; the input reads as it did. -/
def fnExactValidFieldUptoRow : OpenClaim := { program := "ytjnlbincgakmpaa", sum := "575f83efba070a2a21ea497f99c529e516eb226192c1709958fc33eeec22c2d8", func := "loop.example/g01338/laws.FnExactValidField", spec := "fnExactValidField", apart := false, narrowed := true }
def FnExactValidFieldUptoSaid : Prop := fnExactValidFieldUptoRow.holds Try.pinned (OpenSpec.upto fnExactValidFieldSpec)

/-- 'laws.FnExactPlainField', WHERE WHAT IT READS IS OF BULK AT MOST 1048576: true; the input reads as it did. -/
def fnExactPlainFieldUptoRow : OpenClaim := { program := "ytjnlbincgakmpaa", sum := "575f83efba070a2a21ea497f99c529e516eb226192c1709958fc33eeec22c2d8", func := "loop.example/g01338/laws.FnExactPlainField", spec := "fnExactPlainField", apart := false, narrowed := true }
def FnExactPlainFieldUptoSaid : Prop := fnExactPlainFieldUptoRow.holds Try.pinned (OpenSpec.upto fnExactPlainFieldSpec)

/-- 'laws.FnExactSeedsIn', WHERE WHAT IT READS IS OF BULK AT MOST 1048576: true; the input reads as it did. -/
def fnExactSeedsInUptoRow : OpenClaim := { program := "ytjnlbincgakmpaa", sum := "575f83efba070a2a21ea497f99c529e516eb226192c1709958fc33eeec22c2d8", func := "loop.example/g01338/laws.FnExactSeedsIn", spec := "fnExactSeedsIn", apart := false, narrowed := true }
def FnExactSeedsInUptoSaid : Prop := fnExactSeedsInUptoRow.holds Try.pinned (OpenSpec.upto fnExactSeedsInSpec)

/-- 'laws.FnExactKindAt', WHERE WHAT IT READS IS OF BULK AT MOST 1048576: true; the input reads as it did. -/
def fnExactKindAtUptoRow : OpenClaim := { program := "ytjnlbincgakmpaa", sum := "575f83efba070a2a21ea497f99c529e516eb226192c1709958fc33eeec22c2d8", func := "loop.example/g01338/laws.FnExactKindAt", spec := "fnExactKindAt", unfollowed := true, recurses := true, apart := false, narrowed := true }
def FnExactKindAtUptoSaid : Prop := fnExactKindAtUptoRow.holds Try.pinned (OpenSpec.upto fnExactKindAtSpec)

/-- 'laws.FnExactSeedsAt', WHERE WHAT IT READS IS OF BULK AT MOST 1048576: true; the input reads as it did. -/
def fnExactSeedsAtUptoRow : OpenClaim := { program := "ytjnlbincgakmpaa", sum := "575f83efba070a2a21ea497f99c529e516eb226192c1709958fc33eeec22c2d8", func := "loop.example/g01338/laws.FnExactSeedsAt", spec := "fnExactSeedsAt", unfollowed := true, recurses := true, apart := false, narrowed := true }
def FnExactSeedsAtUptoSaid : Prop := fnExactSeedsAtUptoRow.holds Try.pinned (OpenSpec.upto fnExactSeedsAtSpec)

/-- 'laws.FnExactSquareOf', WHERE WHAT IT READS IS OF BULK AT MOST 1048576: true; the input reads as it did. -/
def fnExactSquareOfUptoRow : OpenClaim := { program := "ytjnlbincgakmpaa", sum := "575f83efba070a2a21ea497f99c529e516eb226192c1709958fc33eeec22c2d8", func := "loop.example/g01338/laws.FnExactSquareOf", spec := "fnExactSquareOf", unfollowed := true, recurses := true, apart := false, narrowed := true }
def FnExactSquareOfUptoSaid : Prop := fnExactSquareOfUptoRow.holds Try.pinned (OpenSpec.upto fnExactSquareOfSpec)

/-- 'laws.FnExactRichestIn', WHERE WHAT IT READS IS OF BULK AT MOST 1048576: true; the input reads as it did. -/
def fnExactRichestInUptoRow : OpenClaim := { program := "ytjnlbincgakmpaa", sum := "575f83efba070a2a21ea497f99c529e516eb226192c1709958fc33eeec22c2d8", func := "loop.example/g01338/laws.FnExactRichestIn", spec := "fnExactRichestIn", unfollowed := true, recurses := true, apart := false, narrowed := true }
def FnExactRichestInUptoSaid : Prop := fnExactRichestInUptoRow.holds Try.pinned (OpenSpec.upto fnExactRichestInSpec)

/-- 'laws.FnExactCellsOfKind', WHERE WHAT IT READS IS OF BULK AT MOST 1048576: true; the input reads as it did. -/
def fnExactCellsOfKindUptoRow : OpenClaim := { program := "ytjnlbincgakmpaa", sum := "575f83efba070a2a21ea497f99c529e516eb226192c1709958fc33eeec22c2d8", func := "loop.example/g01338/laws.FnExactCellsOfKind", spec := "fnExactCellsOfKind", unfollowed := true, recurses := true, apart := false, narrowed := true }
def FnExactCellsOfKindUptoSaid : Prop := fnExactCellsOfKindUptoRow.holds Try.pinned (OpenSpec.upto fnExactCellsOfKindSpec)

/-- 'laws.FnExactWithKind', WHERE WHAT IT READS IS OF BULK AT MOST 1048576: true; the input reads as it did. -/
def fnExactWithKindUptoRow : OpenClaim := { program := "ytjnlbincgakmpaa", sum := "575f83efba070a2a21ea497f99c529e516eb226192c1709958fc33eeec22c2d8", func := "loop.example/g01338/laws.FnExactWithKind", spec := "fnExactWithKind", unfollowed := true, recurses := true, apart := false, narrowed := true }
def FnExactWithKindUptoSaid : Prop := fnExactWithKindUptoRow.holds Try.pinned (OpenSpec.upto fnExactWithKindSpec)

/-- 'laws.FnExactSowCell', WHERE WHAT IT READS IS OF BULK AT MOST 1048576: true; the input reads as it did. -/
def fnExactSowCellUptoRow : OpenClaim := { program := "ytjnlbincgakmpaa", sum := "575f83efba070a2a21ea497f99c529e516eb226192c1709958fc33eeec22c2d8", func := "loop.example/g01338/laws.FnExactSowCell", spec := "fnExactSowCell", unfollowed := true, recurses := true, apart := false, narrowed := true }
def FnExactSowCellUptoSaid : Prop := fnExactSowCellUptoRow.holds Try.pinned (OpenSpec.upto fnExactSowCellSpec)

end Rows
end Go.Proofs.Ytjnlbincgakmpaa
