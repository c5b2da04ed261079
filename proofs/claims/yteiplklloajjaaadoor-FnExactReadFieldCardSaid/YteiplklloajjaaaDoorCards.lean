/-
  DERIVED. GIVEN WITH THE SEED: THE CARDS: each row of YteiplklloajjaaaDoorRows.lean that lists a variable, with what it lists TIED to the program's text (the seventh form; the later family's looks); each row that meets fmt, with fmt's text TOLD by the authors' own Lean function (tested against real Go, not proved from fmt's source: count such statements apart). THE CARD IS WHAT COUNTS. Prove the row's statement (the work); the ties are given (YteiplklloajjaaaDoorTie.lean); close each card by the builder's one call (the guide's Derived/Test/ToyasCard.lean, 'card_holds'). Laid BY PROGRAM, IN A SANDBOX (cutbox-door.mjs). By AI agents, Wed Nov 11 2026. No macro, syntax, notation, axiom, sorry.
-/
import Derived.Test.YteiplklloajjaaaDoorRows
import GoSem.ClaimSeven
namespace Go.Proofs.YteiplklloajjaaaDoor
namespace Rows

/-- THE TIED CARD OF 'laws.FnExactFieldText'. -/
def fnExactFieldTextCard : Claim7 := { stood := { row := fnExactFieldTextRow, standIns := [], harness := (true, "df47870cd0a59abc92effd4ce5149c32d653f4e2e43fc72b231f7c429c2ad2d6"), looks := true }, kinds := [], alts := [], laidByText := true, laidKinds := [.data, .data, .data], laidTests := true, laidLooks := .later }
def FnExactFieldTextCardSaid : Prop := Claim7.holds Tryd.pinned (.plain (OpenSpec.ofChange fnExactFieldTextSpec)) fnExactFieldTextCard

/-- THE TIED CARD OF 'laws.FnExactReadScares'. -/
def fnExactReadScaresCard : Claim7 := { stood := { row := fnExactReadScaresRow, standIns := [], harness := (true, "df47870cd0a59abc92effd4ce5149c32d653f4e2e43fc72b231f7c429c2ad2d6"), looks := true }, kinds := [], alts := [], laidByText := true, laidKinds := [.data, .data, .data, .data, .sentinel, .sentinel, .pinned], laidTests := true, laidLooks := .later }
def FnExactReadScaresCardSaid : Prop := Claim7.holds Tryd.pinned (.plain (OpenSpec.ofChange fnExactReadScaresSpec)) fnExactReadScaresCard

/-- THE TIED CARD OF 'laws.FnExactReadNets'. -/
def fnExactReadNetsCard : Claim7 := { stood := { row := fnExactReadNetsRow, standIns := [], harness := (true, "df47870cd0a59abc92effd4ce5149c32d653f4e2e43fc72b231f7c429c2ad2d6"), looks := true }, kinds := [], alts := [], laidByText := true, laidKinds := [.data, .data, .data, .data, .sentinel, .sentinel, .pinned], laidTests := true, laidLooks := .later }
def FnExactReadNetsCardSaid : Prop := Claim7.holds Tryd.pinned (.plain (OpenSpec.ofChange fnExactReadNetsSpec)) fnExactReadNetsCard

/-- THE TIED CARD OF 'laws.FnExactReadFlocks'. -/
def fnExactReadFlocksCard : Claim7 := { stood := { row := fnExactReadFlocksRow, standIns := [], harness := (true, "df47870cd0a59abc92effd4ce5149c32d653f4e2e43fc72b231f7c429c2ad2d6"), looks := true }, kinds := [], alts := [], laidByText := true, laidKinds := [.data, .data, .data, .data, .sentinel, .sentinel, .pinned], laidTests := true, laidLooks := .later }
def FnExactReadFlocksCardSaid : Prop := Claim7.holds Tryd.pinned (.plain (OpenSpec.ofChange fnExactReadFlocksSpec)) fnExactReadFlocksCard

/-- THE TIED CARD OF 'laws.FnExactReadField'. -/
def fnExactReadFieldCard : Claim7 := { stood := { row := fnExactReadFieldRow, standIns := [], harness := (true, "df47870cd0a59abc92effd4ce5149c32d653f4e2e43fc72b231f7c429c2ad2d6"), looks := true }, kinds := [], alts := [], laidByText := true, laidKinds := [.data, .data, .data, .data, .sentinel, .sentinel, .pinned], laidTests := true, laidLooks := .later }
def FnExactReadFieldCardSaid : Prop := Claim7.holds Tryd.pinned (.plain (OpenSpec.ofChange fnExactReadFieldSpec)) fnExactReadFieldCard

/-- THE SECOND FORM's CARD OF 'laws.FnExactFieldText'. -/
def fnExactFieldTextUptoCard : Claim7 := { stood := { row := fnExactFieldTextUptoRow, standIns := [], harness := (true, "df47870cd0a59abc92effd4ce5149c32d653f4e2e43fc72b231f7c429c2ad2d6"), looks := true }, kinds := [], alts := [], laidByText := true, laidKinds := [.data, .data, .data], laidTests := true, laidLooks := .later }
def FnExactFieldTextUptoCardSaid : Prop := Claim7.holds Tryd.pinned (.plain (OpenSpec.upto fnExactFieldTextSpec)) fnExactFieldTextUptoCard

/-- THE SECOND FORM's CARD OF 'laws.FnExactReadScares'. -/
def fnExactReadScaresUptoCard : Claim7 := { stood := { row := fnExactReadScaresUptoRow, standIns := [], harness := (true, "df47870cd0a59abc92effd4ce5149c32d653f4e2e43fc72b231f7c429c2ad2d6"), looks := true }, kinds := [], alts := [], laidByText := true, laidKinds := [.data, .data, .data, .data, .sentinel, .sentinel, .pinned], laidTests := true, laidLooks := .later }
def FnExactReadScaresUptoCardSaid : Prop := Claim7.holds Tryd.pinned (.plain (OpenSpec.upto fnExactReadScaresSpec)) fnExactReadScaresUptoCard

/-- THE SECOND FORM's CARD OF 'laws.FnExactReadNets'. -/
def fnExactReadNetsUptoCard : Claim7 := { stood := { row := fnExactReadNetsUptoRow, standIns := [], harness := (true, "df47870cd0a59abc92effd4ce5149c32d653f4e2e43fc72b231f7c429c2ad2d6"), looks := true }, kinds := [], alts := [], laidByText := true, laidKinds := [.data, .data, .data, .data, .sentinel, .sentinel, .pinned], laidTests := true, laidLooks := .later }
def FnExactReadNetsUptoCardSaid : Prop := Claim7.holds Tryd.pinned (.plain (OpenSpec.upto fnExactReadNetsSpec)) fnExactReadNetsUptoCard

/-- THE SECOND FORM's CARD OF 'laws.FnExactReadFlocks'. -/
def fnExactReadFlocksUptoCard : Claim7 := { stood := { row := fnExactReadFlocksUptoRow, standIns := [], harness := (true, "df47870cd0a59abc92effd4ce5149c32d653f4e2e43fc72b231f7c429c2ad2d6"), looks := true }, kinds := [], alts := [], laidByText := true, laidKinds := [.data, .data, .data, .data, .sentinel, .sentinel, .pinned], laidTests := true, laidLooks := .later }
def FnExactReadFlocksUptoCardSaid : Prop := Claim7.holds Tryd.pinned (.plain (OpenSpec.upto fnExactReadFlocksSpec)) fnExactReadFlocksUptoCard

/-- THE SECOND FORM's CARD OF 'laws.FnExactReadField'. -/
def fnExactReadFieldUptoCard : Claim7 := { stood := { row := fnExactReadFieldUptoRow, standIns := [], harness := (true, "df47870cd0a59abc92effd4ce5149c32d653f4e2e43fc72b231f7c429c2ad2d6"), looks := true }, kinds := [], alts := [], laidByText := true, laidKinds := [.data, .data, .data, .data, .sentinel, .sentinel, .pinned], laidTests := true, laidLooks := .later }
def FnExactReadFieldUptoCardSaid : Prop := Claim7.holds Tryd.pinned (.plain (OpenSpec.upto fnExactReadFieldSpec)) fnExactReadFieldUptoCard
end Rows
end Go.Proofs.YteiplklloajjaaaDoor
