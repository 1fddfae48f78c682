/-
  DERIVED. GIVEN WITH THE SEED: THE CARDS: each row of YtkpoipjgbdcdjaaDoorRows.lean that lists a variable, with what it lists TIED to the program's text (the seventh form; the later family's looks); each row that meets fmt, with fmt's text TOLD by the authors' own Lean function (tested against real Go, not proved from fmt's source: count such statements apart). THE CARD IS WHAT COUNTS. Prove the row's statement (the work); the ties are given (YtkpoipjgbdcdjaaDoorTie.lean); close each card by the builder's one call (the guide's Derived/Test/ToyasCard.lean, 'card_holds'). Laid BY PROGRAM, IN A SANDBOX (cutbox-door.mjs). By AI agents, Wed Nov 11 2026. No macro, syntax, notation, axiom, sorry.
-/
import Derived.Test.YtkpoipjgbdcdjaaDoorRows
import GoSem.ClaimSeven
namespace Go.Proofs.YtkpoipjgbdcdjaaDoor
namespace Rows

/-- THE TIED CARD OF 'drayagelaw01.QuantParses'. -/
def quantParsesCard : Claim7 := { stood := { row := quantParsesRow, standIns := [], harness := (true, "17f57f907d61445941c6d7e94d59e2e05b3268286a1c465ca7783e5e7e4846fd"), looks := false }, kinds := [], alts := [], laidByText := true, laidKinds := [.data, .data, .data], laidTests := true, laidLooks := .later }
def QuantParsesCardSaid : Prop := Claim7.holds Tryd.pinned (.plain (OpenSpec.ofChange quantParsesSpec)) quantParsesCard

/-- THE TIED CARD OF 'drayagelaw01.QuantPrints'. -/
def quantPrintsCard : Claim7 := { stood := { row := quantPrintsRow, standIns := [], harness := (true, "17f57f907d61445941c6d7e94d59e2e05b3268286a1c465ca7783e5e7e4846fd"), looks := false }, kinds := [], alts := [], laidByText := true, laidKinds := [.data, .data, .data], laidTests := true, laidLooks := .later }
def QuantPrintsCardSaid : Prop := Claim7.holds Tryd.pinned (.plain (OpenSpec.ofChange quantPrintsSpec)) quantPrintsCard

/-- THE TIED CARD OF 'drayagelaw01.QuantBack'. -/
def quantBackCard : Claim7 := { stood := { row := quantBackRow, standIns := [], harness := (true, "17f57f907d61445941c6d7e94d59e2e05b3268286a1c465ca7783e5e7e4846fd"), looks := false }, kinds := [], alts := [], laidByText := true, laidKinds := [.data, .data, .data], laidTests := true, laidLooks := .later }
def QuantBackCardSaid : Prop := Claim7.holds Tryd.pinned (.plain (OpenSpec.ofChange quantBackSpec)) quantBackCard

/-- THE TIED CARD OF 'drayagelaw01.QuantSays'. -/
def quantSaysCard : Claim7 := { stood := { row := quantSaysRow, standIns := [], harness := (true, "17f57f907d61445941c6d7e94d59e2e05b3268286a1c465ca7783e5e7e4846fd"), looks := false }, kinds := [], alts := [], laidByText := true, laidKinds := [.data, .data, .data], laidTests := true, laidLooks := .later }
def QuantSaysCardSaid : Prop := Claim7.holds Tryd.pinned (.plain (OpenSpec.ofChange quantSaysSpec)) quantSaysCard

/-- THE TIED CARD OF 'drayagelaw01.QuantReckons'. -/
def quantReckonsCard : Claim7 := { stood := { row := quantReckonsRow, standIns := [], harness := (true, "17f57f907d61445941c6d7e94d59e2e05b3268286a1c465ca7783e5e7e4846fd"), looks := false }, kinds := [], alts := [], laidByText := true, laidKinds := [.data, .data, .data], laidTests := true, laidLooks := .later }
def QuantReckonsCardSaid : Prop := Claim7.holds Tryd.pinned (.plain (OpenSpec.ofChange quantReckonsSpec)) quantReckonsCard

/-- THE TIED CARD OF 'drayagelaw01.QuantSums'. -/
def quantSumsCard : Claim7 := { stood := { row := quantSumsRow, standIns := [], harness := (true, "17f57f907d61445941c6d7e94d59e2e05b3268286a1c465ca7783e5e7e4846fd"), looks := false }, kinds := [], alts := [], laidByText := true, laidKinds := [.data, .data, .data], laidTests := true, laidLooks := .later }
def QuantSumsCardSaid : Prop := Claim7.holds Tryd.pinned (.plain (OpenSpec.ofChange quantSumsSpec)) quantSumsCard

/-- THE TIED CARD OF 'drayagelaw01.QuantKnown'. -/
def quantKnownCard : Claim7 := { stood := { row := quantKnownRow, standIns := [], harness := (true, "17f57f907d61445941c6d7e94d59e2e05b3268286a1c465ca7783e5e7e4846fd"), looks := false }, kinds := [], alts := [], laidByText := true, laidKinds := [.data, .data, .data], laidTests := true, laidLooks := .later }
def QuantKnownCardSaid : Prop := Claim7.holds Tryd.pinned (.plain (OpenSpec.ofChange quantKnownSpec)) quantKnownCard

/-- THE TIED CARD OF 'drayagelaw01.QuantWhere'. -/
def quantWhereCard : Claim7 := { stood := { row := quantWhereRow, standIns := [], harness := (true, "17f57f907d61445941c6d7e94d59e2e05b3268286a1c465ca7783e5e7e4846fd"), looks := false }, kinds := [], alts := [], laidByText := true, laidKinds := [.data, .data, .data, .data, .pinned], laidTests := true, laidLooks := .later }
def QuantWhereCardSaid : Prop := Claim7.holds Tryd.pinned (.plain (OpenSpec.ofChange quantWhereSpec)) quantWhereCard

/-- THE SECOND FORM's CARD OF 'drayagelaw01.QuantParses'. -/
def quantParsesUptoCard : Claim7 := { stood := { row := quantParsesUptoRow, standIns := [], harness := (true, "17f57f907d61445941c6d7e94d59e2e05b3268286a1c465ca7783e5e7e4846fd"), looks := false }, kinds := [], alts := [], laidByText := true, laidKinds := [.data, .data, .data], laidTests := true, laidLooks := .later }
def QuantParsesUptoCardSaid : Prop := Claim7.holds Tryd.pinned (.plain (OpenSpec.upto quantParsesSpec)) quantParsesUptoCard

/-- THE SECOND FORM's CARD OF 'drayagelaw01.QuantPrints'. -/
def quantPrintsUptoCard : Claim7 := { stood := { row := quantPrintsUptoRow, standIns := [], harness := (true, "17f57f907d61445941c6d7e94d59e2e05b3268286a1c465ca7783e5e7e4846fd"), looks := false }, kinds := [], alts := [], laidByText := true, laidKinds := [.data, .data, .data], laidTests := true, laidLooks := .later }
def QuantPrintsUptoCardSaid : Prop := Claim7.holds Tryd.pinned (.plain (OpenSpec.upto quantPrintsSpec)) quantPrintsUptoCard

/-- THE SECOND FORM's CARD OF 'drayagelaw01.QuantBack'. -/
def quantBackUptoCard : Claim7 := { stood := { row := quantBackUptoRow, standIns := [], harness := (true, "17f57f907d61445941c6d7e94d59e2e05b3268286a1c465ca7783e5e7e4846fd"), looks := false }, kinds := [], alts := [], laidByText := true, laidKinds := [.data, .data, .data], laidTests := true, laidLooks := .later }
def QuantBackUptoCardSaid : Prop := Claim7.holds Tryd.pinned (.plain (OpenSpec.upto quantBackSpec)) quantBackUptoCard

/-- THE SECOND FORM's CARD OF 'drayagelaw01.QuantSays'. -/
def quantSaysUptoCard : Claim7 := { stood := { row := quantSaysUptoRow, standIns := [], harness := (true, "17f57f907d61445941c6d7e94d59e2e05b3268286a1c465ca7783e5e7e4846fd"), looks := false }, kinds := [], alts := [], laidByText := true, laidKinds := [.data, .data, .data], laidTests := true, laidLooks := .later }
def QuantSaysUptoCardSaid : Prop := Claim7.holds Tryd.pinned (.plain (OpenSpec.upto quantSaysSpec)) quantSaysUptoCard

/-- THE SECOND FORM's CARD OF 'drayagelaw01.QuantReckons'. -/
def quantReckonsUptoCard : Claim7 := { stood := { row := quantReckonsUptoRow, standIns := [], harness := (true, "17f57f907d61445941c6d7e94d59e2e05b3268286a1c465ca7783e5e7e4846fd"), looks := false }, kinds := [], alts := [], laidByText := true, laidKinds := [.data, .data, .data], laidTests := true, laidLooks := .later }
def QuantReckonsUptoCardSaid : Prop := Claim7.holds Tryd.pinned (.plain (OpenSpec.upto quantReckonsSpec)) quantReckonsUptoCard

/-- THE SECOND FORM's CARD OF 'drayagelaw01.QuantSums'. -/
def quantSumsUptoCard : Claim7 := { stood := { row := quantSumsUptoRow, standIns := [], harness := (true, "17f57f907d61445941c6d7e94d59e2e05b3268286a1c465ca7783e5e7e4846fd"), looks := false }, kinds := [], alts := [], laidByText := true, laidKinds := [.data, .data, .data], laidTests := true, laidLooks := .later }
def QuantSumsUptoCardSaid : Prop := Claim7.holds Tryd.pinned (.plain (OpenSpec.upto quantSumsSpec)) quantSumsUptoCard

/-- THE SECOND FORM's CARD OF 'drayagelaw01.QuantKnown'. -/
def quantKnownUptoCard : Claim7 := { stood := { row := quantKnownUptoRow, standIns := [], harness := (true, "17f57f907d61445941c6d7e94d59e2e05b3268286a1c465ca7783e5e7e4846fd"), looks := false }, kinds := [], alts := [], laidByText := true, laidKinds := [.data, .data, .data], laidTests := true, laidLooks := .later }
def QuantKnownUptoCardSaid : Prop := Claim7.holds Tryd.pinned (.plain (OpenSpec.upto quantKnownSpec)) quantKnownUptoCard

/-- THE SECOND FORM's CARD OF 'drayagelaw01.QuantWhere'. -/
def quantWhereUptoCard : Claim7 := { stood := { row := quantWhereUptoRow, standIns := [], harness := (true, "17f57f907d61445941c6d7e94d59e2e05b3268286a1c465ca7783e5e7e4846fd"), looks := false }, kinds := [], alts := [], laidByText := true, laidKinds := [.data, .data, .data, .data, .pinned], laidTests := true, laidLooks := .later }
def QuantWhereUptoCardSaid : Prop := Claim7.holds Tryd.pinned (.plain (OpenSpec.upto quantWhereSpec)) quantWhereUptoCard
end Rows
end Go.Proofs.YtkpoipjgbdcdjaaDoor
