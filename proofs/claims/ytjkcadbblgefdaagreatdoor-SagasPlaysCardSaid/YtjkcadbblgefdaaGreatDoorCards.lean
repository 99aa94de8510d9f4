/-
  DERIVED. GIVEN WITH THE SEED: THE CARDS: each row of YtjkcadbblgefdaaGreatDoorRows.lean that lists a variable, with what it lists TIED to the program's text (the seventh form; the later family's looks); each row that meets fmt, with fmt's text TOLD by the authors' own Lean function (tested against real Go, not proved from fmt's source: count such statements apart). THE CARD IS WHAT COUNTS. Prove the row's statement (the work); the ties are given (YtjkcadbblgefdaaGreatDoorTie.lean); close each card by the builder's one call (the guide's Derived/Test/ToyasCard.lean, 'card_holds'). Laid BY PROGRAM, IN A SANDBOX (cutbox-door.mjs). By AI agents, Wed Nov 11 2026. No macro, syntax, notation, axiom, sorry.
-/
import Derived.Test.YtjkcadbblgefdaaGreatDoorRows
import GoSem.ClaimSeven
namespace Go.Proofs.YtjkcadbblgefdaaGreatDoor
namespace Rows

/-- THE TIED CARD OF 'skaldlaw29.SagasPlays'. -/
def sagasPlaysCard : Claim7 := { stood := { row := sagasPlaysRow, standIns := [], harness := (true, "12c7b46d134702a3417119f3c46ac7bce2aabe5d47185281183e03b9a4ae5f68"), looks := false }, kinds := [], alts := [], laidByText := true, laidKinds := [.data, .data, .funcs, .pinned], laidTests := true, laidLooks := .later }
def SagasPlaysCardSaid : Prop := Claim7.holds Tryz.pinned (.plain (OpenSpec.ofChange sagasPlaysSpec)) sagasPlaysCard

/-- THE TIED CARD OF 'skaldlaw29.SagasNil'. -/
def sagasNilCard : Claim7 := { stood := { row := sagasNilRow, standIns := [], harness := (true, "12c7b46d134702a3417119f3c46ac7bce2aabe5d47185281183e03b9a4ae5f68"), looks := false }, kinds := [], alts := [], laidByText := true, laidKinds := [.data, .data, .funcs, .pinned], laidTests := true, laidLooks := .later }
def SagasNilCardSaid : Prop := Claim7.holds Tryz.pinned (.plain (OpenSpec.ofChange sagasNilSpec)) sagasNilCard

/-- THE TIED CARD OF 'skaldlaw29.SagasTurns'. -/
def sagasTurnsCard : Claim7 := { stood := { row := sagasTurnsRow, standIns := [], harness := (true, "12c7b46d134702a3417119f3c46ac7bce2aabe5d47185281183e03b9a4ae5f68"), looks := false }, kinds := [], alts := [], laidByText := true, laidKinds := [.data, .data, .funcs, .pinned], laidTests := true, laidLooks := .later }
def SagasTurnsCardSaid : Prop := Claim7.holds Tryz.pinned (.plain (OpenSpec.ofChange sagasTurnsSpec)) sagasTurnsCard

/-- THE TIED CARD OF 'skaldlaw29.SagasAlone'. -/
def sagasAloneCard : Claim7 := { stood := { row := sagasAloneRow, standIns := [], harness := (true, "12c7b46d134702a3417119f3c46ac7bce2aabe5d47185281183e03b9a4ae5f68"), looks := false }, kinds := [], alts := [], laidByText := true, laidKinds := [.data, .data, .funcs, .pinned], laidTests := true, laidLooks := .later }
def SagasAloneCardSaid : Prop := Claim7.holds Tryz.pinned (.plain (OpenSpec.ofChange sagasAloneSpec)) sagasAloneCard

/-- THE TIED CARD OF 'skaldlaw29.SagasEnds'. -/
def sagasEndsCard : Claim7 := { stood := { row := sagasEndsRow, standIns := [], harness := (true, "12c7b46d134702a3417119f3c46ac7bce2aabe5d47185281183e03b9a4ae5f68"), looks := false }, kinds := [], alts := [], laidByText := true, laidKinds := [.data, .data, .funcs, .pinned], laidTests := true, laidLooks := .later }
def SagasEndsCardSaid : Prop := Claim7.holds Tryz.pinned (.plain (OpenSpec.ofChange sagasEndsSpec)) sagasEndsCard

/-- THE TIED CARD OF 'skaldlaw29.SagasPuts'. -/
def sagasPutsCard : Claim7 := { stood := { row := sagasPutsRow, standIns := [], harness := (true, "12c7b46d134702a3417119f3c46ac7bce2aabe5d47185281183e03b9a4ae5f68"), looks := false }, kinds := [], alts := [], laidByText := true, laidKinds := [.data, .data, .funcs, .pinned], laidTests := true, laidLooks := .later }
def SagasPutsCardSaid : Prop := Claim7.holds Tryz.pinned (.plain (OpenSpec.ofChange sagasPutsSpec)) sagasPutsCard

/-- THE TIED CARD OF 'skaldlaw29.SagasFull'. -/
def sagasFullCard : Claim7 := { stood := { row := sagasFullRow, standIns := [], harness := (true, "12c7b46d134702a3417119f3c46ac7bce2aabe5d47185281183e03b9a4ae5f68"), looks := false }, kinds := [], alts := [], laidByText := true, laidKinds := [.data, .data, .funcs, .pinned], laidTests := true, laidLooks := .later }
def SagasFullCardSaid : Prop := Claim7.holds Tryz.pinned (.plain (OpenSpec.ofChange sagasFullSpec)) sagasFullCard

/-- THE SECOND FORM's CARD OF 'skaldlaw29.SagasPlays'. -/
def sagasPlaysUptoCard : Claim7 := { stood := { row := sagasPlaysUptoRow, standIns := [], harness := (true, "12c7b46d134702a3417119f3c46ac7bce2aabe5d47185281183e03b9a4ae5f68"), looks := false }, kinds := [], alts := [], laidByText := true, laidKinds := [.data, .data, .funcs, .pinned], laidTests := true, laidLooks := .later }
def SagasPlaysUptoCardSaid : Prop := Claim7.holds Tryz.pinned (.plain (OpenSpec.upto sagasPlaysSpec)) sagasPlaysUptoCard

/-- THE SECOND FORM's CARD OF 'skaldlaw29.SagasNil'. -/
def sagasNilUptoCard : Claim7 := { stood := { row := sagasNilUptoRow, standIns := [], harness := (true, "12c7b46d134702a3417119f3c46ac7bce2aabe5d47185281183e03b9a4ae5f68"), looks := false }, kinds := [], alts := [], laidByText := true, laidKinds := [.data, .data, .funcs, .pinned], laidTests := true, laidLooks := .later }
def SagasNilUptoCardSaid : Prop := Claim7.holds Tryz.pinned (.plain (OpenSpec.upto sagasNilSpec)) sagasNilUptoCard

/-- THE SECOND FORM's CARD OF 'skaldlaw29.SagasTurns'. -/
def sagasTurnsUptoCard : Claim7 := { stood := { row := sagasTurnsUptoRow, standIns := [], harness := (true, "12c7b46d134702a3417119f3c46ac7bce2aabe5d47185281183e03b9a4ae5f68"), looks := false }, kinds := [], alts := [], laidByText := true, laidKinds := [.data, .data, .funcs, .pinned], laidTests := true, laidLooks := .later }
def SagasTurnsUptoCardSaid : Prop := Claim7.holds Tryz.pinned (.plain (OpenSpec.upto sagasTurnsSpec)) sagasTurnsUptoCard

/-- THE SECOND FORM's CARD OF 'skaldlaw29.SagasAlone'. -/
def sagasAloneUptoCard : Claim7 := { stood := { row := sagasAloneUptoRow, standIns := [], harness := (true, "12c7b46d134702a3417119f3c46ac7bce2aabe5d47185281183e03b9a4ae5f68"), looks := false }, kinds := [], alts := [], laidByText := true, laidKinds := [.data, .data, .funcs, .pinned], laidTests := true, laidLooks := .later }
def SagasAloneUptoCardSaid : Prop := Claim7.holds Tryz.pinned (.plain (OpenSpec.upto sagasAloneSpec)) sagasAloneUptoCard

/-- THE SECOND FORM's CARD OF 'skaldlaw29.SagasEnds'. -/
def sagasEndsUptoCard : Claim7 := { stood := { row := sagasEndsUptoRow, standIns := [], harness := (true, "12c7b46d134702a3417119f3c46ac7bce2aabe5d47185281183e03b9a4ae5f68"), looks := false }, kinds := [], alts := [], laidByText := true, laidKinds := [.data, .data, .funcs, .pinned], laidTests := true, laidLooks := .later }
def SagasEndsUptoCardSaid : Prop := Claim7.holds Tryz.pinned (.plain (OpenSpec.upto sagasEndsSpec)) sagasEndsUptoCard

/-- THE SECOND FORM's CARD OF 'skaldlaw29.SagasPuts'. -/
def sagasPutsUptoCard : Claim7 := { stood := { row := sagasPutsUptoRow, standIns := [], harness := (true, "12c7b46d134702a3417119f3c46ac7bce2aabe5d47185281183e03b9a4ae5f68"), looks := false }, kinds := [], alts := [], laidByText := true, laidKinds := [.data, .data, .funcs, .pinned], laidTests := true, laidLooks := .later }
def SagasPutsUptoCardSaid : Prop := Claim7.holds Tryz.pinned (.plain (OpenSpec.upto sagasPutsSpec)) sagasPutsUptoCard

/-- THE SECOND FORM's CARD OF 'skaldlaw29.SagasFull'. -/
def sagasFullUptoCard : Claim7 := { stood := { row := sagasFullUptoRow, standIns := [], harness := (true, "12c7b46d134702a3417119f3c46ac7bce2aabe5d47185281183e03b9a4ae5f68"), looks := false }, kinds := [], alts := [], laidByText := true, laidKinds := [.data, .data, .funcs, .pinned], laidTests := true, laidLooks := .later }
def SagasFullUptoCardSaid : Prop := Claim7.holds Tryz.pinned (.plain (OpenSpec.upto sagasFullSpec)) sagasFullUptoCard
end Rows
end Go.Proofs.YtjkcadbblgefdaaGreatDoor
