/-
  No cell of these rows narrows 'for every input' (looked for: loops, veiled, ifaces, maps, wideKeys, modest, calm, conditions, laid).
  DERIVED. THE GIVEN ROWS OF THIS SEAT. 12 by the template 'for every input the law returns true; each argument reads behind the call as it read before'; 0 by the template 'total and deterministic' (their statements: YthiiampknelbjaaTotals.lean).
  GIVEN WITH THE SEED: the statements are not yours to turn. If you find one false, say at which input.
  Laid BY PROGRAM, IN A SANDBOX (cutbox-rows.mjs): the forced cells as the released guide's own fill.sh prints them over the translation c67c10e02973d7d8… (all of the seat's roots in one cut). By AI agents, Wed Nov 11 2026. No macro, syntax, notation, axiom, sorry.
-/
import Derived.Test.YthiiampknelbjaaChecked
import GoSem.Claim
import GoSem.ClaimJoined
import GoSem.ClaimMapViews
import Derived.JoinedTies
import Derived.KernelRfl
namespace Go.Proofs.Ythiiampknelbjaa
/- THE CELL 'sum', in the pinned program and in every row, IS THE sha256 OF THE DUMP (.gsa) THAT YthiiampknelbjaaProg.lean LOADS. Nothing in Lean hashes anything: it is a label: what it is worth is what the hold of that sum in a sandbox is worth. -/
noncomputable def Try.pinned : Pinned := { name := "ythiiampknelbjaa", sum := "c67c10e02973d7d8952a8a703110102e8161b21a44249b0bcf87b1aaba0bc6aa", checked := Try.checked }
namespace Rows
def none {H : Type} : Left H := { results := [], args := [] }

/-- 'laws.FnExactTakeSeeds': WHATEVER THE INPUT: true; the input reads as it did. -/
def fnExactTakeSeedsSpec : ChangeSpec := { name := "fnExactTakeSeeds", fn := fun _ => fun
  | [d1, d2, d3] => { results := [.lit (.bool true)], args := [d1, d2, d3] }
  | _ => none }
def fnExactTakeSeedsRow : OpenClaim := { program := "ythiiampknelbjaa", sum := "c67c10e02973d7d8952a8a703110102e8161b21a44249b0bcf87b1aaba0bc6aa", func := "loop.example/g01338/laws.FnExactTakeSeeds", spec := "fnExactTakeSeeds", unfollowed := true, recurses := true, apart := false }
def FnExactTakeSeedsSaid : Prop := fnExactTakeSeedsRow.holds Try.pinned (OpenSpec.ofChange fnExactTakeSeedsSpec)

/-- ITS FALSE NEIGHBOUR: 'it returns false'. Refute it at one input. -/
def fnExactTakeSeedsWrong : ChangeSpec := { name := "fnExactTakeSeeds", fn := fun _ => fun
  | [d1, d2, d3] => { results := [.lit (.bool false)], args := [d1, d2, d3] }
  | _ => none }
def FnExactTakeSeedsWrongFalsely : Prop := fnExactTakeSeedsRow.holds Try.pinned (OpenSpec.ofChange fnExactTakeSeedsWrong)

/-- 'laws.FnExactMirrorField': WHATEVER THE INPUT: true; the input reads as it did. -/
def fnExactMirrorFieldSpec : ChangeSpec := { name := "fnExactMirrorField", fn := fun _ => fun
  | [d] => { results := [.lit (.bool true)], args := [d] }
  | _ => none }
def fnExactMirrorFieldRow : OpenClaim := { program := "ythiiampknelbjaa", sum := "c67c10e02973d7d8952a8a703110102e8161b21a44249b0bcf87b1aaba0bc6aa", func := "loop.example/g01338/laws.FnExactMirrorField", spec := "fnExactMirrorField", unfollowed := true, recurses := true, apart := false }
def FnExactMirrorFieldSaid : Prop := fnExactMirrorFieldRow.holds Try.pinned (OpenSpec.ofChange fnExactMirrorFieldSpec)

/-- ITS FALSE NEIGHBOUR: 'it returns false'. Refute it at one input. -/
def fnExactMirrorFieldWrong : ChangeSpec := { name := "fnExactMirrorField", fn := fun _ => fun
  | [d] => { results := [.lit (.bool false)], args := [d] }
  | _ => none }
def FnExactMirrorFieldWrongFalsely : Prop := fnExactMirrorFieldRow.holds Try.pinned (OpenSpec.ofChange fnExactMirrorFieldWrong)

/-- 'laws.FnExactTurnField': WHATEVER THE INPUT: true; the input reads as it did. -/
def fnExactTurnFieldSpec : ChangeSpec := { name := "fnExactTurnField", fn := fun _ => fun
  | [d] => { results := [.lit (.bool true)], args := [d] }
  | _ => none }
def fnExactTurnFieldRow : OpenClaim := { program := "ythiiampknelbjaa", sum := "c67c10e02973d7d8952a8a703110102e8161b21a44249b0bcf87b1aaba0bc6aa", func := "loop.example/g01338/laws.FnExactTurnField", spec := "fnExactTurnField", unfollowed := true, recurses := true, apart := false }
def FnExactTurnFieldSaid : Prop := fnExactTurnFieldRow.holds Try.pinned (OpenSpec.ofChange fnExactTurnFieldSpec)

/-- ITS FALSE NEIGHBOUR: 'it returns false'. Refute it at one input. -/
def fnExactTurnFieldWrong : ChangeSpec := { name := "fnExactTurnField", fn := fun _ => fun
  | [d] => { results := [.lit (.bool false)], args := [d] }
  | _ => none }
def FnExactTurnFieldWrongFalsely : Prop := fnExactTurnFieldRow.holds Try.pinned (OpenSpec.ofChange fnExactTurnFieldWrong)

/-- 'laws.FnExactRingOf': WHATEVER THE INPUT: true; the input reads as it did. -/
def fnExactRingOfSpec : ChangeSpec := { name := "fnExactRingOf", fn := fun _ => fun
  | [d1, d2, d3] => { results := [.lit (.bool true)], args := [d1, d2, d3] }
  | _ => none }
def fnExactRingOfRow : OpenClaim := { program := "ythiiampknelbjaa", sum := "c67c10e02973d7d8952a8a703110102e8161b21a44249b0bcf87b1aaba0bc6aa", func := "loop.example/g01338/laws.FnExactRingOf", spec := "fnExactRingOf", unfollowed := true, recurses := true, apart := false }
def FnExactRingOfSaid : Prop := fnExactRingOfRow.holds Try.pinned (OpenSpec.ofChange fnExactRingOfSpec)

/-- ITS FALSE NEIGHBOUR: 'it returns false'. Refute it at one input. -/
def fnExactRingOfWrong : ChangeSpec := { name := "fnExactRingOf", fn := fun _ => fun
  | [d1, d2, d3] => { results := [.lit (.bool false)], args := [d1, d2, d3] }
  | _ => none }
def FnExactRingOfWrongFalsely : Prop := fnExactRingOfRow.holds Try.pinned (OpenSpec.ofChange fnExactRingOfWrong)

/-- 'laws.FnExactNeighboursOf': WHATEVER THE INPUT: true; the input reads as it did. -/
def fnExactNeighboursOfSpec : ChangeSpec := { name := "fnExactNeighboursOf", fn := fun _ => fun
  | [d1, d2] => { results := [.lit (.bool true)], args := [d1, d2] }
  | _ => none }
def fnExactNeighboursOfRow : OpenClaim := { program := "ythiiampknelbjaa", sum := "c67c10e02973d7d8952a8a703110102e8161b21a44249b0bcf87b1aaba0bc6aa", func := "loop.example/g01338/laws.FnExactNeighboursOf", spec := "fnExactNeighboursOf", unfollowed := true, recurses := true, apart := false }
def FnExactNeighboursOfSaid : Prop := fnExactNeighboursOfRow.holds Try.pinned (OpenSpec.ofChange fnExactNeighboursOfSpec)

/-- ITS FALSE NEIGHBOUR: 'it returns false'. Refute it at one input. -/
def fnExactNeighboursOfWrong : ChangeSpec := { name := "fnExactNeighboursOf", fn := fun _ => fun
  | [d1, d2] => { results := [.lit (.bool false)], args := [d1, d2] }
  | _ => none }
def FnExactNeighboursOfWrongFalsely : Prop := fnExactNeighboursOfRow.holds Try.pinned (OpenSpec.ofChange fnExactNeighboursOfWrong)

/-- 'laws.FnExactNearestIn': WHATEVER THE INPUT: true; the input reads as it did. -/
def fnExactNearestInSpec : ChangeSpec := { name := "fnExactNearestIn", fn := fun _ => fun
  | [d1, d2, d3] => { results := [.lit (.bool true)], args := [d1, d2, d3] }
  | _ => none }
def fnExactNearestInRow : OpenClaim := { program := "ythiiampknelbjaa", sum := "c67c10e02973d7d8952a8a703110102e8161b21a44249b0bcf87b1aaba0bc6aa", func := "loop.example/g01338/laws.FnExactNearestIn", spec := "fnExactNearestIn", unfollowed := true, recurses := true, apart := false }
def FnExactNearestInSaid : Prop := fnExactNearestInRow.holds Try.pinned (OpenSpec.ofChange fnExactNearestInSpec)

/-- ITS FALSE NEIGHBOUR: 'it returns false'. Refute it at one input. -/
def fnExactNearestInWrong : ChangeSpec := { name := "fnExactNearestIn", fn := fun _ => fun
  | [d1, d2, d3] => { results := [.lit (.bool false)], args := [d1, d2, d3] }
  | _ => none }
def FnExactNearestInWrongFalsely : Prop := fnExactNearestInRow.holds Try.pinned (OpenSpec.ofChange fnExactNearestInWrong)

/-- 'laws.FnExactValidFears': WHATEVER THE INPUT: true; the input reads as it did. -/
def fnExactValidFearsSpec : ChangeSpec := { name := "fnExactValidFears", fn := fun _ => fun
  | [d1, d2] => { results := [.lit (.bool true)], args := [d1, d2] }
  | _ => none }
def fnExactValidFearsRow : OpenClaim := { program := "ythiiampknelbjaa", sum := "c67c10e02973d7d8952a8a703110102e8161b21a44249b0bcf87b1aaba0bc6aa", func := "loop.example/g01338/laws.FnExactValidFears", spec := "fnExactValidFears", apart := false }
def FnExactValidFearsSaid : Prop := fnExactValidFearsRow.holds Try.pinned (OpenSpec.ofChange fnExactValidFearsSpec)

/-- ITS FALSE NEIGHBOUR: 'it returns false'. Refute it at one input. -/
def fnExactValidFearsWrong : ChangeSpec := { name := "fnExactValidFears", fn := fun _ => fun
  | [d1, d2] => { results := [.lit (.bool false)], args := [d1, d2] }
  | _ => none }
def FnExactValidFearsWrongFalsely : Prop := fnExactValidFearsRow.holds Try.pinned (OpenSpec.ofChange fnExactValidFearsWrong)

/-- 'laws.FnExactValidBeat': WHATEVER THE INPUT: true; the input reads as it did. -/
def fnExactValidBeatSpec : ChangeSpec := { name := "fnExactValidBeat", fn := fun _ => fun
  | [d1, d2] => { results := [.lit (.bool true)], args := [d1, d2] }
  | _ => none }
def fnExactValidBeatRow : OpenClaim := { program := "ythiiampknelbjaa", sum := "c67c10e02973d7d8952a8a703110102e8161b21a44249b0bcf87b1aaba0bc6aa", func := "loop.example/g01338/laws.FnExactValidBeat", spec := "fnExactValidBeat", apart := false }
def FnExactValidBeatSaid : Prop := fnExactValidBeatRow.holds Try.pinned (OpenSpec.ofChange fnExactValidBeatSpec)

/-- ITS FALSE NEIGHBOUR: 'it returns false'. Refute it at one input. -/
def fnExactValidBeatWrong : ChangeSpec := { name := "fnExactValidBeat", fn := fun _ => fun
  | [d1, d2] => { results := [.lit (.bool false)], args := [d1, d2] }
  | _ => none }
def FnExactValidBeatWrongFalsely : Prop := fnExactValidBeatRow.holds Try.pinned (OpenSpec.ofChange fnExactValidBeatWrong)

/-- 'laws.FnExactTreeFor': WHATEVER THE INPUT: true; the input reads as it did. -/
def fnExactTreeForSpec : ChangeSpec := { name := "fnExactTreeFor", fn := fun _ => fun
  | [d1, d2] => { results := [.lit (.bool true)], args := [d1, d2] }
  | _ => none }
def fnExactTreeForRow : OpenClaim := { program := "ythiiampknelbjaa", sum := "c67c10e02973d7d8952a8a703110102e8161b21a44249b0bcf87b1aaba0bc6aa", func := "loop.example/g01338/laws.FnExactTreeFor", spec := "fnExactTreeFor", unfollowed := true, recurses := true, apart := false }
def FnExactTreeForSaid : Prop := fnExactTreeForRow.holds Try.pinned (OpenSpec.ofChange fnExactTreeForSpec)

/-- ITS FALSE NEIGHBOUR: 'it returns false'. Refute it at one input. -/
def fnExactTreeForWrong : ChangeSpec := { name := "fnExactTreeFor", fn := fun _ => fun
  | [d1, d2] => { results := [.lit (.bool false)], args := [d1, d2] }
  | _ => none }
def FnExactTreeForWrongFalsely : Prop := fnExactTreeForRow.holds Try.pinned (OpenSpec.ofChange fnExactTreeForWrong)

/-- 'laws.FnExactBackBeat': WHATEVER THE INPUT: true; the input reads as it did. -/
def fnExactBackBeatSpec : ChangeSpec := { name := "fnExactBackBeat", fn := fun _ => fun
  | [d1, d2] => { results := [.lit (.bool true)], args := [d1, d2] }
  | _ => none }
def fnExactBackBeatRow : OpenClaim := { program := "ythiiampknelbjaa", sum := "c67c10e02973d7d8952a8a703110102e8161b21a44249b0bcf87b1aaba0bc6aa", func := "loop.example/g01338/laws.FnExactBackBeat", spec := "fnExactBackBeat", apart := false }
def FnExactBackBeatSaid : Prop := fnExactBackBeatRow.holds Try.pinned (OpenSpec.ofChange fnExactBackBeatSpec)

/-- ITS FALSE NEIGHBOUR: 'it returns false'. Refute it at one input. -/
def fnExactBackBeatWrong : ChangeSpec := { name := "fnExactBackBeat", fn := fun _ => fun
  | [d1, d2] => { results := [.lit (.bool false)], args := [d1, d2] }
  | _ => none }
def FnExactBackBeatWrongFalsely : Prop := fnExactBackBeatRow.holds Try.pinned (OpenSpec.ofChange fnExactBackBeatWrong)

/-- 'laws.FnExactSameScares': WHATEVER THE INPUT: true; the input reads as it did. -/
def fnExactSameScaresSpec : ChangeSpec := { name := "fnExactSameScares", fn := fun _ => fun
  | [d1, d2] => { results := [.lit (.bool true)], args := [d1, d2] }
  | _ => none }
def fnExactSameScaresRow : OpenClaim := { program := "ythiiampknelbjaa", sum := "c67c10e02973d7d8952a8a703110102e8161b21a44249b0bcf87b1aaba0bc6aa", func := "loop.example/g01338/laws.FnExactSameScares", spec := "fnExactSameScares", apart := false }
def FnExactSameScaresSaid : Prop := fnExactSameScaresRow.holds Try.pinned (OpenSpec.ofChange fnExactSameScaresSpec)

/-- ITS FALSE NEIGHBOUR: 'it returns false'. Refute it at one input. -/
def fnExactSameScaresWrong : ChangeSpec := { name := "fnExactSameScares", fn := fun _ => fun
  | [d1, d2] => { results := [.lit (.bool false)], args := [d1, d2] }
  | _ => none }
def FnExactSameScaresWrongFalsely : Prop := fnExactSameScaresRow.holds Try.pinned (OpenSpec.ofChange fnExactSameScaresWrong)

/-- 'laws.FnExactSameFlocks': WHATEVER THE INPUT: true; the input reads as it did. -/
def fnExactSameFlocksSpec : ChangeSpec := { name := "fnExactSameFlocks", fn := fun _ => fun
  | [d1, d2] => { results := [.lit (.bool true)], args := [d1, d2] }
  | _ => none }
def fnExactSameFlocksRow : OpenClaim := { program := "ythiiampknelbjaa", sum := "c67c10e02973d7d8952a8a703110102e8161b21a44249b0bcf87b1aaba0bc6aa", func := "loop.example/g01338/laws.FnExactSameFlocks", spec := "fnExactSameFlocks", apart := false }
def FnExactSameFlocksSaid : Prop := fnExactSameFlocksRow.holds Try.pinned (OpenSpec.ofChange fnExactSameFlocksSpec)

/-- ITS FALSE NEIGHBOUR: 'it returns false'. Refute it at one input. -/
def fnExactSameFlocksWrong : ChangeSpec := { name := "fnExactSameFlocks", fn := fun _ => fun
  | [d1, d2] => { results := [.lit (.bool false)], args := [d1, d2] }
  | _ => none }
def FnExactSameFlocksWrongFalsely : Prop := fnExactSameFlocksRow.holds Try.pinned (OpenSpec.ofChange fnExactSameFlocksWrong)

/- THE SECOND FORM. 'bulk': how many values and letters a reading holds, each counted each time it is reached (what is shared counts as often as it is met; a slice's spare places count too). A statement '..UptoSaid' is the law's where the arguments, and the package variables that the reading takes, are together of bulk at most 1048576: NARROWER than '..Said'. Prove '..Said' where nothing that the law and all that it calls make is longer than what came in: it says more and counts as full. Else prove '..UptoSaid'. A law counts once. -/
mutual
def uptoBulk {H : Type} : DataW H → Nat
  | .lit (.string bytes) => bytes.length + 1
  | .lit _ => 1
  | .nil => 1
  | .ptr d => uptoBulk d + 1
  | .slice elems spare => uptoBulkAll elems + uptoBulkAll spare + 1
  | .agg parts => uptoBulkAll parts + 1
  | .iface _ d => uptoBulk d + 1
  | .map entries => uptoBulkEntries entries + 1
  | .held _ => 1
def uptoBulkAll {H : Type} : List (DataW H) → Nat
  | [] => 0
  | d :: r => uptoBulk d + uptoBulkAll r
def uptoBulkEntries {H : Type} : List (Lit × DataW H) → Nat
  | [] => 0
  | x :: r => uptoBulkEntry x + uptoBulkEntries r
def uptoBulkEntry {H : Type} : Lit × DataW H → Nat
  | (.string bytes, d) => bytes.length + uptoBulk d + 1
  | (_, d) => uptoBulk d + 1
 end
def uptoSmall : (H : Type) → List (DataW H) → Bool := fun _ ds => decide (uptoBulkAll ds ≤ 1048576)
def OpenSpec.upto (s : _root_.Go.ChangeSpec) : _root_.Go.OpenSpec := { _root_.Go.OpenSpec.ofChange s with cond := some uptoSmall }

/-- 'laws.FnExactTakeSeeds', WHERE WHAT IT READS IS OF BULK AT MOST 1048576: true; the input reads as it did. -/
def fnExactTakeSeedsUptoRow : OpenClaim := { program := "ythiiampknelbjaa", sum := "c67c10e02973d7d8952a8a703110102e8161b21a44249b0bcf87b1aaba0bc6aa", func := "loop.example/g01338/laws.FnExactTakeSeeds", spec := "fnExactTakeSeeds", unfollowed := true, recurses := true, apart := false, narrowed := true }
def FnExactTakeSeedsUptoSaid : Prop := fnExactTakeSeedsUptoRow.holds Try.pinned (OpenSpec.upto fnExactTakeSeedsSpec)

/-- 'laws.FnExactMirrorField', WHERE WHAT IT READS IS OF BULK AT MOST 1048576: true; the input reads as it did. -/
def fnExactMirrorFieldUptoRow : OpenClaim := { program := "ythiiampknelbjaa", sum := "c67c10e02973d7d8952a8a703110102e8161b21a44249b0bcf87b1aaba0bc6aa", func := "loop.example/g01338/laws.FnExactMirrorField", spec := "fnExactMirrorField", unfollowed := true, recurses := true, apart := false, narrowed := true }
def FnExactMirrorFieldUptoSaid : Prop := fnExactMirrorFieldUptoRow.holds Try.pinned (OpenSpec.upto fnExactMirrorFieldSpec)

/-- 'laws.FnExactTurnField', WHERE WHAT IT READS IS OF BULK AT MOST 1048576: true; the input reads as it did. -/
def fnExactTurnFieldUptoRow : OpenClaim := { program := "ythiiampknelbjaa", sum := "c67c10e02973d7d8952a8a703110102e8161b21a44249b0bcf87b1aaba0bc6aa", func := "loop.example/g01338/laws.FnExactTurnField", spec := "fnExactTurnField", unfollowed := true, recurses := true, apart := false, narrowed := true }
def FnExactTurnFieldUptoSaid : Prop := fnExactTurnFieldUptoRow.holds Try.pinned (OpenSpec.upto fnExactTurnFieldSpec)

/-- 'laws.FnExactRingOf', WHERE WHAT IT READS IS OF BULK AT MOST 1048576: true; the input reads as it did. -/
def fnExactRingOfUptoRow : OpenClaim := { program := "ythiiampknelbjaa", sum := "c67c10e02973d7d8952a8a703110102e8161b21a44249b0bcf87b1aaba0bc6aa", func := "loop.example/g01338/laws.FnExactRingOf", spec := "fnExactRingOf", unfollowed := true, recurses := true, apart := false, narrowed := true }
def FnExactRingOfUptoSaid : Prop := fnExactRingOfUptoRow.holds Try.pinned (OpenSpec.upto fnExactRingOfSpec)

/-- 'laws.FnExactNeighboursOf', WHERE WHAT IT READS IS OF BULK AT MOST 1048576: true; the input reads as it did. -/
def fnExactNeighboursOfUptoRow : OpenClaim := { program := "ythiiampknelbjaa", sum := "c67c10e02973d7d8952a8a703110102e8161b21a44249b0bcf87b1aaba0bc6aa", func := "loop.example/g01338/laws.FnExactNeighboursOf", spec := "fnExactNeighboursOf", unfollowed := true, recurses := true, apart := false, narrowed := true }
def FnExactNeighboursOfUptoSaid : Prop := fnExactNeighboursOfUptoRow.holds Try.pinned (OpenSpec.upto fnExactNeighboursOfSpec)

/-- 'laws.FnExactNearestIn', WHERE WHAT IT READS IS OF BULK AT MOST 1048576: true; the input reads as it did. -/
def fnExactNearestInUptoRow : OpenClaim := { program := "ythiiampknelbjaa", sum := "c67c10e02973d7d8952a8a703110102e8161b21a44249b0bcf87b1aaba0bc6aa", func := "loop.example/g01338/laws.FnExactNearestIn", spec := "fnExactNearestIn", unfollowed := true, recurses := true, apart := false, narrowed := true }
def FnExactNearestInUptoSaid : Prop := fnExactNearestInUptoRow.holds Try.pinned (OpenSpec.upto fnExactNearestInSpec)

/-- 'laws.FnExactValidFears', WHERE WHAT IT READS IS OF BULK AT MOST 1048576: true; the input reads as it did. -/
def fnExactValidFearsUptoRow : OpenClaim := { program := "ythiiampknelbjaa", sum := "c67c10e02973d7d8952a8a703110102e8161b21a44249b0bcf87b1aaba0bc6aa", func := "loop.example/g01338/laws.FnExactValidFears", spec := "fnExactValidFears", apart := false, narrowed := true }
def FnExactValidFearsUptoSaid : Prop := fnExactValidFearsUptoRow.holds Try.pinned (OpenSpec.upto fnExactValidFearsSpec)

/-- 'laws.FnExactValidBeat', WHERE WHAT IT READS IS OF BULK AT MOST 1048576: true; the input reads as it did. -/
def fnExactValidBeatUptoRow : OpenClaim := { program := "ythiiampknelbjaa", sum := "c67c10e02973d7d8952a8a703110102e8161b21a44249b0bcf87b1aaba0bc6aa", func := "loop.example/g01338/laws.FnExactValidBeat", spec := "fnExactValidBeat", apart := false, narrowed := true }
def FnExactValidBeatUptoSaid : Prop := fnExactValidBeatUptoRow.holds Try.pinned (OpenSpec.upto fnExactValidBeatSpec)

/-- 'laws.FnExactTreeFor', WHERE WHAT IT READS IS OF BULK AT MOST 1048576: true; the input reads as it did. -/
def fnExactTreeForUptoRow : OpenClaim := { program := "ythiiampknelbjaa", sum := "c67c10e02973d7d8952a8a703110102e8161b21a44249b0bcf87b1aaba0bc6aa", func := "loop.example/g01338/laws.FnExactTreeFor", spec := "fnExactTreeFor", unfollowed := true, recurses := true, apart := false, narrowed := true }
def FnExactTreeForUptoSaid : Prop := fnExactTreeForUptoRow.holds Try.pinned (OpenSpec.upto fnExactTreeForSpec)

/-- 'laws.FnExactBackBeat', WHERE WHAT IT READS IS OF BULK AT MOST 1048576: true; the input reads as it did. -/
def fnExactBackBeatUptoRow : OpenClaim := { program := "ythiiampknelbjaa", sum := "c67c10e02973d7d8952a8a703110102e8161b21a44249b0bcf87b1aaba0bc6aa", func := "loop.example/g01338/laws.FnExactBackBeat", spec := "fnExactBackBeat", apart := false, narrowed := true }
def FnExactBackBeatUptoSaid : Prop := fnExactBackBeatUptoRow.holds Try.pinned (OpenSpec.upto fnExactBackBeatSpec)

/-- 'laws.FnExactSameScares', WHERE WHAT IT READS IS OF BULK AT MOST 1048576: true; the input reads as it did. -/
def fnExactSameScaresUptoRow : OpenClaim := { program := "ythiiampknelbjaa", sum := "c67c10e02973d7d8952a8a703110102e8161b21a44249b0bcf87b1aaba0bc6aa", func := "loop.example/g01338/laws.FnExactSameScares", spec := "fnExactSameScares", apart := false, narrowed := true }
def FnExactSameScaresUptoSaid : Prop := fnExactSameScaresUptoRow.holds Try.pinned (OpenSpec.upto fnExactSameScaresSpec)

/-- 'laws.FnExactSameFlocks', WHERE WHAT IT READS IS OF BULK AT MOST 1048576: true; the input reads as it did. -/
def fnExactSameFlocksUptoRow : OpenClaim := { program := "ythiiampknelbjaa", sum := "c67c10e02973d7d8952a8a703110102e8161b21a44249b0bcf87b1aaba0bc6aa", func := "loop.example/g01338/laws.FnExactSameFlocks", spec := "fnExactSameFlocks", apart := false, narrowed := true }
def FnExactSameFlocksUptoSaid : Prop := fnExactSameFlocksUptoRow.holds Try.pinned (OpenSpec.upto fnExactSameFlocksSpec)

end Rows
end Go.Proofs.Ythiiampknelbjaa
