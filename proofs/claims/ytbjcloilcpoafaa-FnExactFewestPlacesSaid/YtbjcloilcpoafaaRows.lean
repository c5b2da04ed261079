/-
  No cell of these rows narrows 'for every input' (looked for: loops, veiled, ifaces, maps, wideKeys, modest, calm, conditions, laid).
  DERIVED. THE GIVEN ROWS OF THIS SEAT. 12 by the template 'for every input the law returns true; each argument reads behind the call as it read before'; 0 by the template 'total and deterministic' (their statements: YtbjcloilcpoafaaTotals.lean).
  GIVEN WITH THE SEED: the statements are not yours to turn. If you find one false, say at which input.
  Laid BY PROGRAM, IN A SANDBOX (cutbox-rows.mjs): the forced cells as the released guide's own fill.sh prints them over the translation c4377f47fa9e3590… (all of the seat's roots in one cut). By AI agents, Wed Nov 11 2026. No macro, syntax, notation, axiom, sorry.
-/
import Derived.Test.YtbjcloilcpoafaaChecked
import GoSem.Claim
import GoSem.ClaimJoined
import GoSem.ClaimMapViews
import Derived.JoinedTies
import Derived.KernelRfl
namespace Go.Proofs.Ytbjcloilcpoafaa
/- THE CELL 'sum', in the pinned program and in every row, IS THE sha256 OF THE DUMP (.gsa) THAT YtbjcloilcpoafaaProg.lean LOADS. Nothing in Lean hashes anything: it is a label: what it is worth is what the hold of that sum in a sandbox is worth. -/
noncomputable def Try.pinned : Pinned := { name := "ytbjcloilcpoafaa", sum := "c4377f47fa9e3590dc46c16a5a44266563328878ece8aca1596797e5fe975ffd", checked := Try.checked }
namespace Rows
def none {H : Type} : Left H := { results := [], args := [] }

/-- 'laws.FnExactFirstShort': WHATEVER THE INPUT: true; the input reads as it did. -/
def fnExactFirstShortSpec : ChangeSpec := { name := "fnExactFirstShort", fn := fun _ => fun
  | [d1, d2, d3] => { results := [.lit (.bool true)], args := [d1, d2, d3] }
  | _ => none }
def fnExactFirstShortRow : OpenClaim := { program := "ytbjcloilcpoafaa", sum := "c4377f47fa9e3590dc46c16a5a44266563328878ece8aca1596797e5fe975ffd", func := "loop.example/g01338/laws.FnExactFirstShort", spec := "fnExactFirstShort", unfollowed := true, recurses := true, apart := false }
def FnExactFirstShortSaid : Prop := fnExactFirstShortRow.holds Try.pinned (OpenSpec.ofChange fnExactFirstShortSpec)

/-- ITS FALSE NEIGHBOUR: 'it returns false'. Refute it at one input. -/
def fnExactFirstShortWrong : ChangeSpec := { name := "fnExactFirstShort", fn := fun _ => fun
  | [d1, d2, d3] => { results := [.lit (.bool false)], args := [d1, d2, d3] }
  | _ => none }
def FnExactFirstShortWrongFalsely : Prop := fnExactFirstShortRow.holds Try.pinned (OpenSpec.ofChange fnExactFirstShortWrong)

/-- 'laws.FnExactCheckShifts': WHATEVER THE INPUT: true; the input reads as it did. -/
def fnExactCheckShiftsSpec : ChangeSpec := { name := "fnExactCheckShifts", fn := fun _ => fun
  | [d1, d2, d3] => { results := [.lit (.bool true)], args := [d1, d2, d3] }
  | _ => none }
def fnExactCheckShiftsRow : OpenClaim := { program := "ytbjcloilcpoafaa", sum := "c4377f47fa9e3590dc46c16a5a44266563328878ece8aca1596797e5fe975ffd", func := "loop.example/g01338/laws.FnExactCheckShifts", spec := "fnExactCheckShifts", unfollowed := true, recurses := true, apart := false }
def FnExactCheckShiftsSaid : Prop := fnExactCheckShiftsRow.holds Try.pinned (OpenSpec.ofChange fnExactCheckShiftsSpec)

/-- ITS FALSE NEIGHBOUR: 'it returns false'. Refute it at one input. -/
def fnExactCheckShiftsWrong : ChangeSpec := { name := "fnExactCheckShifts", fn := fun _ => fun
  | [d1, d2, d3] => { results := [.lit (.bool false)], args := [d1, d2, d3] }
  | _ => none }
def FnExactCheckShiftsWrongFalsely : Prop := fnExactCheckShiftsRow.holds Try.pinned (OpenSpec.ofChange fnExactCheckShiftsWrong)

/-- 'laws.FnExactFewestShifts': WHATEVER THE INPUT: true; the input reads as it did. -/
def fnExactFewestShiftsSpec : ChangeSpec := { name := "fnExactFewestShifts", fn := fun _ => fun
  | [d1, d2] => { results := [.lit (.bool true)], args := [d1, d2] }
  | _ => none }
def fnExactFewestShiftsRow : OpenClaim := { program := "ytbjcloilcpoafaa", sum := "c4377f47fa9e3590dc46c16a5a44266563328878ece8aca1596797e5fe975ffd", func := "loop.example/g01338/laws.FnExactFewestShifts", spec := "fnExactFewestShifts", unfollowed := true, recurses := true, apart := false }
def FnExactFewestShiftsSaid : Prop := fnExactFewestShiftsRow.holds Try.pinned (OpenSpec.ofChange fnExactFewestShiftsSpec)

/-- ITS FALSE NEIGHBOUR: 'it returns false'. Refute it at one input. -/
def fnExactFewestShiftsWrong : ChangeSpec := { name := "fnExactFewestShifts", fn := fun _ => fun
  | [d1, d2] => { results := [.lit (.bool false)], args := [d1, d2] }
  | _ => none }
def FnExactFewestShiftsWrongFalsely : Prop := fnExactFewestShiftsRow.holds Try.pinned (OpenSpec.ofChange fnExactFewestShiftsWrong)

/-- 'laws.FnShifts': WHATEVER THE INPUT: true; the input reads as it did. -/
def fnShiftsSpec : ChangeSpec := { name := "fnShifts", fn := fun _ => fun
  | [d1, d2] => { results := [.lit (.bool true)], args := [d1, d2] }
  | _ => none }
def fnShiftsRow : OpenClaim := { program := "ytbjcloilcpoafaa", sum := "c4377f47fa9e3590dc46c16a5a44266563328878ece8aca1596797e5fe975ffd", func := "loop.example/g01338/laws.FnShifts", spec := "fnShifts", unfollowed := true, recurses := true, apart := false }
def FnShiftsSaid : Prop := fnShiftsRow.holds Try.pinned (OpenSpec.ofChange fnShiftsSpec)

/-- ITS FALSE NEIGHBOUR: 'it returns false'. Refute it at one input. -/
def fnShiftsWrong : ChangeSpec := { name := "fnShifts", fn := fun _ => fun
  | [d1, d2] => { results := [.lit (.bool false)], args := [d1, d2] }
  | _ => none }
def FnShiftsWrongFalsely : Prop := fnShiftsRow.holds Try.pinned (OpenSpec.ofChange fnShiftsWrong)

/-- 'laws.FnExactCoverersOf': WHATEVER THE INPUT: true; the input reads as it did. -/
def fnExactCoverersOfSpec : ChangeSpec := { name := "fnExactCoverersOf", fn := fun _ => fun
  | [d1, d2, d3, d4] => { results := [.lit (.bool true)], args := [d1, d2, d3, d4] }
  | _ => none }
def fnExactCoverersOfRow : OpenClaim := { program := "ytbjcloilcpoafaa", sum := "c4377f47fa9e3590dc46c16a5a44266563328878ece8aca1596797e5fe975ffd", func := "loop.example/g01338/laws.FnExactCoverersOf", spec := "fnExactCoverersOf", unfollowed := true, recurses := true, apart := false }
def FnExactCoverersOfSaid : Prop := fnExactCoverersOfRow.holds Try.pinned (OpenSpec.ofChange fnExactCoverersOfSpec)

/-- ITS FALSE NEIGHBOUR: 'it returns false'. Refute it at one input. -/
def fnExactCoverersOfWrong : ChangeSpec := { name := "fnExactCoverersOf", fn := fun _ => fun
  | [d1, d2, d3, d4] => { results := [.lit (.bool false)], args := [d1, d2, d3, d4] }
  | _ => none }
def FnExactCoverersOfWrongFalsely : Prop := fnExactCoverersOfRow.holds Try.pinned (OpenSpec.ofChange fnExactCoverersOfWrong)

/-- 'laws.FnExactCoverOf': WHATEVER THE INPUT: true; the input reads as it did. -/
def fnExactCoverOfSpec : ChangeSpec := { name := "fnExactCoverOf", fn := fun _ => fun
  | [d1, d2, d3, d4] => { results := [.lit (.bool true)], args := [d1, d2, d3, d4] }
  | _ => none }
def fnExactCoverOfRow : OpenClaim := { program := "ytbjcloilcpoafaa", sum := "c4377f47fa9e3590dc46c16a5a44266563328878ece8aca1596797e5fe975ffd", func := "loop.example/g01338/laws.FnExactCoverOf", spec := "fnExactCoverOf", unfollowed := true, recurses := true, apart := false }
def FnExactCoverOfSaid : Prop := fnExactCoverOfRow.holds Try.pinned (OpenSpec.ofChange fnExactCoverOfSpec)

/-- ITS FALSE NEIGHBOUR: 'it returns false'. Refute it at one input. -/
def fnExactCoverOfWrong : ChangeSpec := { name := "fnExactCoverOf", fn := fun _ => fun
  | [d1, d2, d3, d4] => { results := [.lit (.bool false)], args := [d1, d2, d3, d4] }
  | _ => none }
def FnExactCoverOfWrongFalsely : Prop := fnExactCoverOfRow.holds Try.pinned (OpenSpec.ofChange fnExactCoverOfWrong)

/-- 'laws.FnExactCheckApart': WHATEVER THE INPUT: true; the input reads as it did. -/
def fnExactCheckApartSpec : ChangeSpec := { name := "fnExactCheckApart", fn := fun _ => fun
  | [d1, d2, d3, d4] => { results := [.lit (.bool true)], args := [d1, d2, d3, d4] }
  | _ => none }
def fnExactCheckApartRow : OpenClaim := { program := "ytbjcloilcpoafaa", sum := "c4377f47fa9e3590dc46c16a5a44266563328878ece8aca1596797e5fe975ffd", func := "loop.example/g01338/laws.FnExactCheckApart", spec := "fnExactCheckApart", unfollowed := true, recurses := true, apart := false }
def FnExactCheckApartSaid : Prop := fnExactCheckApartRow.holds Try.pinned (OpenSpec.ofChange fnExactCheckApartSpec)

/-- ITS FALSE NEIGHBOUR: 'it returns false'. Refute it at one input. -/
def fnExactCheckApartWrong : ChangeSpec := { name := "fnExactCheckApart", fn := fun _ => fun
  | [d1, d2, d3, d4] => { results := [.lit (.bool false)], args := [d1, d2, d3, d4] }
  | _ => none }
def FnExactCheckApartWrongFalsely : Prop := fnExactCheckApartRow.holds Try.pinned (OpenSpec.ofChange fnExactCheckApartWrong)

/-- 'laws.FnExactCheckPlaces': WHATEVER THE INPUT: true; the input reads as it did. -/
def fnExactCheckPlacesSpec : ChangeSpec := { name := "fnExactCheckPlaces", fn := fun _ => fun
  | [d1, d2, d3, d4, d5] => { results := [.lit (.bool true)], args := [d1, d2, d3, d4, d5] }
  | _ => none }
def fnExactCheckPlacesRow : OpenClaim := { program := "ytbjcloilcpoafaa", sum := "c4377f47fa9e3590dc46c16a5a44266563328878ece8aca1596797e5fe975ffd", func := "loop.example/g01338/laws.FnExactCheckPlaces", spec := "fnExactCheckPlaces", unfollowed := true, recurses := true, apart := false }
def FnExactCheckPlacesSaid : Prop := fnExactCheckPlacesRow.holds Try.pinned (OpenSpec.ofChange fnExactCheckPlacesSpec)

/-- ITS FALSE NEIGHBOUR: 'it returns false'. Refute it at one input. -/
def fnExactCheckPlacesWrong : ChangeSpec := { name := "fnExactCheckPlaces", fn := fun _ => fun
  | [d1, d2, d3, d4, d5] => { results := [.lit (.bool false)], args := [d1, d2, d3, d4, d5] }
  | _ => none }
def FnExactCheckPlacesWrongFalsely : Prop := fnExactCheckPlacesRow.holds Try.pinned (OpenSpec.ofChange fnExactCheckPlacesWrong)

/-- 'laws.FnExactApartCells': WHATEVER THE INPUT: true; the input reads as it did. -/
def fnExactApartCellsSpec : ChangeSpec := { name := "fnExactApartCells", fn := fun _ => fun
  | [d1, d2, d3, d4] => { results := [.lit (.bool true)], args := [d1, d2, d3, d4] }
  | _ => none }
def fnExactApartCellsRow : OpenClaim := { program := "ytbjcloilcpoafaa", sum := "c4377f47fa9e3590dc46c16a5a44266563328878ece8aca1596797e5fe975ffd", func := "loop.example/g01338/laws.FnExactApartCells", spec := "fnExactApartCells", unfollowed := true, recurses := true, apart := false }
def FnExactApartCellsSaid : Prop := fnExactApartCellsRow.holds Try.pinned (OpenSpec.ofChange fnExactApartCellsSpec)

/-- ITS FALSE NEIGHBOUR: 'it returns false'. Refute it at one input. -/
def fnExactApartCellsWrong : ChangeSpec := { name := "fnExactApartCells", fn := fun _ => fun
  | [d1, d2, d3, d4] => { results := [.lit (.bool false)], args := [d1, d2, d3, d4] }
  | _ => none }
def FnExactApartCellsWrongFalsely : Prop := fnExactApartCellsRow.holds Try.pinned (OpenSpec.ofChange fnExactApartCellsWrong)

/-- 'laws.FnExactGreedyPlaces': WHATEVER THE INPUT: true; the input reads as it did. -/
def fnExactGreedyPlacesSpec : ChangeSpec := { name := "fnExactGreedyPlaces", fn := fun _ => fun
  | [d1, d2, d3, d4] => { results := [.lit (.bool true)], args := [d1, d2, d3, d4] }
  | _ => none }
def fnExactGreedyPlacesRow : OpenClaim := { program := "ytbjcloilcpoafaa", sum := "c4377f47fa9e3590dc46c16a5a44266563328878ece8aca1596797e5fe975ffd", func := "loop.example/g01338/laws.FnExactGreedyPlaces", spec := "fnExactGreedyPlaces", unfollowed := true, recurses := true, apart := false }
def FnExactGreedyPlacesSaid : Prop := fnExactGreedyPlacesRow.holds Try.pinned (OpenSpec.ofChange fnExactGreedyPlacesSpec)

/-- ITS FALSE NEIGHBOUR: 'it returns false'. Refute it at one input. -/
def fnExactGreedyPlacesWrong : ChangeSpec := { name := "fnExactGreedyPlaces", fn := fun _ => fun
  | [d1, d2, d3, d4] => { results := [.lit (.bool false)], args := [d1, d2, d3, d4] }
  | _ => none }
def FnExactGreedyPlacesWrongFalsely : Prop := fnExactGreedyPlacesRow.holds Try.pinned (OpenSpec.ofChange fnExactGreedyPlacesWrong)

/-- 'laws.FnExactFewestPlaces': WHATEVER THE INPUT: true; the input reads as it did. -/
def fnExactFewestPlacesSpec : ChangeSpec := { name := "fnExactFewestPlaces", fn := fun _ => fun
  | [d1, d2, d3, d4, d5] => { results := [.lit (.bool true)], args := [d1, d2, d3, d4, d5] }
  | _ => none }
def fnExactFewestPlacesRow : OpenClaim := { program := "ytbjcloilcpoafaa", sum := "c4377f47fa9e3590dc46c16a5a44266563328878ece8aca1596797e5fe975ffd", func := "loop.example/g01338/laws.FnExactFewestPlaces", spec := "fnExactFewestPlaces", unfollowed := true, recurses := true, apart := false }
def FnExactFewestPlacesSaid : Prop := fnExactFewestPlacesRow.holds Try.pinned (OpenSpec.ofChange fnExactFewestPlacesSpec)

/-- ITS FALSE NEIGHBOUR: 'it returns false'. Refute it at one input. -/
def fnExactFewestPlacesWrong : ChangeSpec := { name := "fnExactFewestPlaces", fn := fun _ => fun
  | [d1, d2, d3, d4, d5] => { results := [.lit (.bool false)], args := [d1, d2, d3, d4, d5] }
  | _ => none }
def FnExactFewestPlacesWrongFalsely : Prop := fnExactFewestPlacesRow.holds Try.pinned (OpenSpec.ofChange fnExactFewestPlacesWrong)

/-- 'laws.FnPlaces': WHATEVER THE INPUT: true; the input reads as it did. -/
def fnPlacesSpec : ChangeSpec := { name := "fnPlaces", fn := fun _ => fun
  | [d1, d2] => { results := [.lit (.bool true)], args := [d1, d2] }
  | _ => none }
def fnPlacesRow : OpenClaim := { program := "ytbjcloilcpoafaa", sum := "c4377f47fa9e3590dc46c16a5a44266563328878ece8aca1596797e5fe975ffd", func := "loop.example/g01338/laws.FnPlaces", spec := "fnPlaces", unfollowed := true, recurses := true, apart := false }
def FnPlacesSaid : Prop := fnPlacesRow.holds Try.pinned (OpenSpec.ofChange fnPlacesSpec)

/-- ITS FALSE NEIGHBOUR: 'it returns false'. Refute it at one input. -/
def fnPlacesWrong : ChangeSpec := { name := "fnPlaces", fn := fun _ => fun
  | [d1, d2] => { results := [.lit (.bool false)], args := [d1, d2] }
  | _ => none }
def FnPlacesWrongFalsely : Prop := fnPlacesRow.holds Try.pinned (OpenSpec.ofChange fnPlacesWrong)

/- THE SECOND FORM. 'bulk': how many values and letters a reading holds, each counted each time it is reached (what is shared counts as often as it is met; a slice's spare places count too). A statement '..UptoSaid' is the law's where the arguments, and the package variables that the reading takes, are together of bulk at most 1048576: NARROWER than '..Said'. Prove '..Said' where nothing that the law and all that it calls make is longer than what came in: it says more and counts as full. Else prove '..UptoSaid'. A law counts once. -/
mutual
def uptoBulk {H : Type} : DataW H → Nat
  | .lit (.string bytes) => bytes.length + 1
  | .lit _ => 1
  | .nil => 1
  | .ptr d => uptoBulk d + 1
  | .slice elems spare => uptoBulkAll elems + uptoBulkAll spare + 1
  | .agg parts => uptoBulkAll parts + 1
  | .iface _ d => uptoBulk d + 1
  | .map entries => uptoBulkEntries entries + 1
  | .held _ => 1
def uptoBulkAll {H : Type} : List (DataW H) → Nat
  | [] => 0
  | d :: r => uptoBulk d + uptoBulkAll r
def uptoBulkEntries {H : Type} : List (Lit × DataW H) → Nat
  | [] => 0
  | x :: r => uptoBulkEntry x + uptoBulkEntries r
def uptoBulkEntry {H : Type} : Lit × DataW H → Nat
  | (.string bytes, d) => bytes.length + uptoBulk d + 1
  | (_, d) => uptoBulk d + 1
 end
def uptoSmall : (H : Type) → List (DataW H) → Bool := fun _ ds => decide (uptoBulkAll ds ≤ 1048576)
def OpenSpec.upto (s : _root_.Go.ChangeSpec) : _root_.Go.OpenSpec := { _root_.Go.OpenSpec.ofChange s with cond := some uptoSmall }

/-- 'laws.FnExactFirstShort', WHERE WHAT IT READS IS OF BULK AT MOST 1048576: true; the input reads as it did. -/
def fnExactFirstShortUptoRow : OpenClaim := { program := "ytbjcloilcpoafaa", sum := "c4377f47fa9e3590dc46c16a5a44266563328878ece8aca1596797e5fe975ffd", func := "loop.example/g01338/laws.FnExactFirstShort", spec := "fnExactFirstShort", unfollowed := true, recurses := true, apart := false, narrowed := true }
def FnExactFirstShortUptoSaid : Prop := fnExactFirstShortUptoRow.holds Try.pinned (OpenSpec.upto fnExactFirstShortSpec)

/-- 'laws.FnExactCheckShifts', WHERE WHAT IT READS IS OF BULK AT MOST 1048576: true; the input reads as it did. -/
def fnExactCheckShiftsUptoRow : OpenClaim := { program := "ytbjcloilcpoafaa", sum := "c4377f47fa9e3590dc46c16a5a44266563328878ece8aca1596797e5fe975ffd", func := "loop.example/g01338/laws.FnExactCheckShifts", spec := "fnExactCheckShifts", unfollowed := true, recurses := true, apart := false, narrowed := true }
def FnExactCheckShiftsUptoSaid : Prop := fnExactCheckShiftsUptoRow.holds Try.pinned (OpenSpec.upto fnExactCheckShiftsSpec)

/-- 'laws.FnExactFewestShifts', WHERE WHAT IT READS IS OF BULK AT MOST 1048576: true; the input reads as it did. -/
def fnExactFewestShiftsUptoRow : OpenClaim := { program := "ytbjcloilcpoafaa", sum := "c4377f47fa9e3590dc46c16a5a44266563328878ece8aca1596797e5fe975ffd", func := "loop.example/g01338/laws.FnExactFewestShifts", spec := "fnExactFewestShifts", unfollowed := true, recurses := true, apart := false, narrowed := true }
def FnExactFewestShiftsUptoSaid : Prop := fnExactFewestShiftsUptoRow.holds Try.pinned (OpenSpec.upto fnExactFewestShiftsSpec)

/-- 'laws.FnShifts', WHERE WHAT IT READS IS OF BULK AT MOST 1048576: true; the input reads as it did. -/
def fnShiftsUptoRow : OpenClaim := { program := "ytbjcloilcpoafaa", sum := "c4377f47fa9e3590dc46c16a5a44266563328878ece8aca1596797e5fe975ffd", func := "loop.example/g01338/laws.FnShifts", spec := "fnShifts", unfollowed := true, recurses := true, apart := false, narrowed := true }
def FnShiftsUptoSaid : Prop := fnShiftsUptoRow.holds Try.pinned (OpenSpec.upto fnShiftsSpec)

/-- 'laws.FnExactCoverersOf', WHERE WHAT IT READS IS OF BULK AT MOST 1048576: true; the input reads as it did. -/
def fnExactCoverersOfUptoRow : OpenClaim := { program := "ytbjcloilcpoafaa", sum := "c4377f47fa9e3590dc46c16a5a44266563328878ece8aca1596797e5fe975ffd", func := "loop.example/g01338/laws.FnExactCoverersOf", spec := "fnExactCoverersOf", unfollowed := true, recurses := true, apart := false, narrowed := true }
def FnExactCoverersOfUptoSaid : Prop := fnExactCoverersOfUptoRow.holds Try.pinned (OpenSpec.upto fnExactCoverersOfSpec)

/-- 'laws.FnExactCoverOf', WHERE WHAT IT READS IS OF BULK AT MOST 1048576: true; the input reads as it did. -/
def fnExactCoverOfUptoRow : OpenClaim := { program := "ytbjcloilcpoafaa", sum := "c4377f47fa9e3590dc46c16a5a44266563328878ece8aca1596797e5fe975ffd", func := "loop.example/g01338/laws.FnExactCoverOf", spec := "fnExactCoverOf", unfollowed := true, recurses := true, apart := false, narrowed := true }
def FnExactCoverOfUptoSaid : Prop := fnExactCoverOfUptoRow.holds Try.pinned (OpenSpec.upto fnExactCoverOfSpec)

/-- 'laws.FnExactCheckApart', WHERE WHAT IT READS IS OF BULK AT MOST 1048576: true; the input reads as it did. -/
def fnExactCheckApartUptoRow : OpenClaim := { program := "ytbjcloilcpoafaa", sum := "c4377f47fa9e3590dc46c16a5a44266563328878ece8aca1596797e5fe975ffd", func := "loop.example/g01338/laws.FnExactCheckApart", spec := "fnExactCheckApart", unfollowed := true, recurses := true, apart := false, narrowed := true }
def FnExactCheckApartUptoSaid : Prop := fnExactCheckApartUptoRow.holds Try.pinned (OpenSpec.upto fnExactCheckApartSpec)

/-- 'laws.FnExactCheckPlaces', WHERE WHAT IT READS IS OF BULK AT MOST 1048576: true; the input reads as it did. -/
def fnExactCheckPlacesUptoRow : OpenClaim := { program := "ytbjcloilcpoafaa", sum := "c4377f47fa9e3590dc46c16a5a44266563328878ece8aca1596797e5fe975ffd", func := "loop.example/g01338/laws.FnExactCheckPlaces", spec := "fnExactCheckPlaces", unfollowed := true, recurses := true, apart := false, narrowed := true }
def FnExactCheckPlacesUptoSaid : Prop := fnExactCheckPlacesUptoRow.holds Try.pinned (OpenSpec.upto fnExactCheckPlacesSpec)

/-- 'laws.FnExactApartCells', WHERE WHAT IT READS IS OF BULK AT MOST 1048576: true; the input reads as it did. -/
def fnExactApartCellsUptoRow : OpenClaim := { program := "ytbjcloilcpoafaa", sum := "c4377f47fa9e3590dc46c16a5a44266563328878ece8aca1596797e5fe975ffd", func := "loop.example/g01338/laws.FnExactApartCells", spec := "fnExactApartCells", unfollowed := true, recurses := true, apart := false, narrowed := true }
def FnExactApartCellsUptoSaid : Prop := fnExactApartCellsUptoRow.holds Try.pinned (OpenSpec.upto fnExactApartCellsSpec)

/-- 'laws.FnExactGreedyPlaces', WHERE WHAT IT READS IS OF BULK AT MOST 1048576: true; the input reads as it did. -/
def fnExactGreedyPlacesUptoRow : OpenClaim := { program := "ytbjcloilcpoafaa", sum := "c4377f47fa9e3590dc46c16a5a44266563328878ece8aca1596797e5fe975ffd", func := "loop.example/g01338/laws.FnExactGreedyPlaces", spec := "fnExactGreedyPlaces", unfollowed := true, recurses := true, apart := false, narrowed := true }
def FnExactGreedyPlacesUptoSaid : Prop := fnExactGreedyPlacesUptoRow.holds Try.pinned (OpenSpec.upto fnExactGreedyPlacesSpec)

/-- 'laws.FnExactFewestPlaces', WHERE WHAT IT READS IS OF BULK AT MOST 1048576: true; the input reads as it did. -/
def fnExactFewestPlacesUptoRow : OpenClaim := { program := "ytbjcloilcpoafaa", sum := "c4377f47fa9e3590dc46c16a5a44266563328878ece8aca1596797e5fe975ffd", func := "loop.example/g01338/laws.FnExactFewestPlaces", spec := "fnExactFewestPlaces", unfollowed := true, recurses := true, apart := false, narrowed := true }
def FnExactFewestPlacesUptoSaid : Prop := fnExactFewestPlacesUptoRow.holds Try.pinned (OpenSpec.upto fnExactFewestPlacesSpec)

/-- 'laws.FnPlaces', WHERE WHAT IT READS IS OF BULK AT MOST 1048576: true; the input reads as it did. -/
def fnPlacesUptoRow : OpenClaim := { program := "ytbjcloilcpoafaa", sum := "c4377f47fa9e3590dc46c16a5a44266563328878ece8aca1596797e5fe975ffd", func := "loop.example/g01338/laws.FnPlaces", spec := "fnPlaces", unfollowed := true, recurses := true, apart := false, narrowed := true }
def FnPlacesUptoSaid : Prop := fnPlacesUptoRow.holds Try.pinned (OpenSpec.upto fnPlacesSpec)

end Rows
end Go.Proofs.Ytbjcloilcpoafaa
