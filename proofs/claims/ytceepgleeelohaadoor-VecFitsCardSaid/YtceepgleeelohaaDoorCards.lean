/-
  DERIVED. GIVEN WITH THE SEED: THE CARDS: each row of YtceepgleeelohaaDoorRows.lean that lists a variable, with what it lists TIED to the program's text (the seventh form; the later family's looks); each row that meets fmt, with fmt's text TOLD by the authors' own Lean function (tested against real Go, not proved from fmt's source: count such statements apart). THE CARD IS WHAT COUNTS. Prove the row's statement (the work); the ties are given (YtceepgleeelohaaDoorTie.lean); close each card by the builder's one call (the guide's Derived/Test/ToyasCard.lean, 'card_holds'). Laid BY PROGRAM, IN A SANDBOX (cutbox-door.mjs). By AI agents, Wed Nov 11 2026. No macro, syntax, notation, axiom, sorry.
-/
import Derived.Test.YtceepgleeelohaaDoorRows
import GoSem.ClaimSeven
namespace Go.Proofs.YtceepgleeelohaaDoor
namespace Rows

/-- THE TIED CARD OF 'drayagelaw02.VecFits'. -/
def vecFitsCard : Claim7 := { stood := { row := vecFitsRow, standIns := [], harness := (true, "f809eb3f711677e67c51346431a78d20cda3e080077abe8f233affac2655afd6"), looks := false }, kinds := [], alts := [], laidByText := true, laidKinds := [.data, .data, .data, .data], laidTests := true, laidLooks := .later }
def VecFitsCardSaid : Prop := Claim7.holds Tryd.pinned (.plain (OpenSpec.ofChange vecFitsSpec)) vecFitsCard

/-- THE TIED CARD OF 'drayagelaw02.VecPrints'. -/
def vecPrintsCard : Claim7 := { stood := { row := vecPrintsRow, standIns := [], harness := (true, "f809eb3f711677e67c51346431a78d20cda3e080077abe8f233affac2655afd6"), looks := false }, kinds := [], alts := [], laidByText := true, laidKinds := [.data, .data, .data, .data], laidTests := true, laidLooks := .later }
def VecPrintsCardSaid : Prop := Claim7.holds Tryd.pinned (.plain (OpenSpec.ofChange vecPrintsSpec)) vecPrintsCard

/-- THE TIED CARD OF 'drayagelaw02.VecBack'. -/
def vecBackCard : Claim7 := { stood := { row := vecBackRow, standIns := [], harness := (true, "f809eb3f711677e67c51346431a78d20cda3e080077abe8f233affac2655afd6"), looks := false }, kinds := [], alts := [], laidByText := true, laidKinds := [.data, .data, .data, .data], laidTests := true, laidLooks := .later }
def VecBackCardSaid : Prop := Claim7.holds Tryd.pinned (.plain (OpenSpec.ofChange vecBackSpec)) vecBackCard

/-- THE TIED CARD OF 'drayagelaw02.VecShare'. -/
def vecShareCard : Claim7 := { stood := { row := vecShareRow, standIns := [], harness := (true, "f809eb3f711677e67c51346431a78d20cda3e080077abe8f233affac2655afd6"), looks := false }, kinds := [], alts := [], laidByText := true, laidKinds := [.data, .data, .data, .data], laidTests := true, laidLooks := .later }
def VecShareCardSaid : Prop := Claim7.holds Tryd.pinned (.plain (OpenSpec.ofChange vecShareSpec)) vecShareCard

/-- THE TIED CARD OF 'drayagelaw02.VecReckons'. -/
def vecReckonsCard : Claim7 := { stood := { row := vecReckonsRow, standIns := [], harness := (true, "f809eb3f711677e67c51346431a78d20cda3e080077abe8f233affac2655afd6"), looks := false }, kinds := [], alts := [], laidByText := true, laidKinds := [.data, .data, .data, .data], laidTests := true, laidLooks := .later }
def VecReckonsCardSaid : Prop := Claim7.holds Tryd.pinned (.plain (OpenSpec.ofChange vecReckonsSpec)) vecReckonsCard

/-- THE SECOND FORM's CARD OF 'drayagelaw02.VecFits'. -/
def vecFitsUptoCard : Claim7 := { stood := { row := vecFitsUptoRow, standIns := [], harness := (true, "f809eb3f711677e67c51346431a78d20cda3e080077abe8f233affac2655afd6"), looks := false }, kinds := [], alts := [], laidByText := true, laidKinds := [.data, .data, .data, .data], laidTests := true, laidLooks := .later }
def VecFitsUptoCardSaid : Prop := Claim7.holds Tryd.pinned (.plain (OpenSpec.upto vecFitsSpec)) vecFitsUptoCard

/-- THE SECOND FORM's CARD OF 'drayagelaw02.VecPrints'. -/
def vecPrintsUptoCard : Claim7 := { stood := { row := vecPrintsUptoRow, standIns := [], harness := (true, "f809eb3f711677e67c51346431a78d20cda3e080077abe8f233affac2655afd6"), looks := false }, kinds := [], alts := [], laidByText := true, laidKinds := [.data, .data, .data, .data], laidTests := true, laidLooks := .later }
def VecPrintsUptoCardSaid : Prop := Claim7.holds Tryd.pinned (.plain (OpenSpec.upto vecPrintsSpec)) vecPrintsUptoCard

/-- THE SECOND FORM's CARD OF 'drayagelaw02.VecBack'. -/
def vecBackUptoCard : Claim7 := { stood := { row := vecBackUptoRow, standIns := [], harness := (true, "f809eb3f711677e67c51346431a78d20cda3e080077abe8f233affac2655afd6"), looks := false }, kinds := [], alts := [], laidByText := true, laidKinds := [.data, .data, .data, .data], laidTests := true, laidLooks := .later }
def VecBackUptoCardSaid : Prop := Claim7.holds Tryd.pinned (.plain (OpenSpec.upto vecBackSpec)) vecBackUptoCard

/-- THE SECOND FORM's CARD OF 'drayagelaw02.VecShare'. -/
def vecShareUptoCard : Claim7 := { stood := { row := vecShareUptoRow, standIns := [], harness := (true, "f809eb3f711677e67c51346431a78d20cda3e080077abe8f233affac2655afd6"), looks := false }, kinds := [], alts := [], laidByText := true, laidKinds := [.data, .data, .data, .data], laidTests := true, laidLooks := .later }
def VecShareUptoCardSaid : Prop := Claim7.holds Tryd.pinned (.plain (OpenSpec.upto vecShareSpec)) vecShareUptoCard

/-- THE SECOND FORM's CARD OF 'drayagelaw02.VecReckons'. -/
def vecReckonsUptoCard : Claim7 := { stood := { row := vecReckonsUptoRow, standIns := [], harness := (true, "f809eb3f711677e67c51346431a78d20cda3e080077abe8f233affac2655afd6"), looks := false }, kinds := [], alts := [], laidByText := true, laidKinds := [.data, .data, .data, .data], laidTests := true, laidLooks := .later }
def VecReckonsUptoCardSaid : Prop := Claim7.holds Tryd.pinned (.plain (OpenSpec.upto vecReckonsSpec)) vecReckonsUptoCard
end Rows
end Go.Proofs.YtceepgleeelohaaDoor
