/-
  DERIVED. GIVEN WITH THE SEED: THE CARDS: each row of YtonjnghiehdmmaaDoorRows.lean that lists a variable, with what it lists TIED to the program's text (the seventh form; the later family's looks); each row that meets fmt, with fmt's text TOLD by the authors' own Lean function (tested against real Go, not proved from fmt's source: count such statements apart). THE CARD IS WHAT COUNTS. Prove the row's statement (the work); the ties are given (YtonjnghiehdmmaaDoorTie.lean); close each card by the builder's one call (the guide's Derived/Test/ToyasCard.lean, 'card_holds'). Laid BY PROGRAM, IN A SANDBOX (cutbox-door.mjs). By AI agents, Wed Nov 11 2026. No macro, syntax, notation, axiom, sorry.
-/
import Derived.Test.YtonjnghiehdmmaaDoorRows
import GoSem.ClaimSeven
namespace Go.Proofs.YtonjnghiehdmmaaDoor
namespace Rows

/-- THE TIED CARD OF 'skaldlaw28.SagaResults'. -/
def sagaResultsCard : Claim7 := { stood := { row := sagaResultsRow, standIns := [], harness := (true, "b787fd107e9e62dccee60219ae3a609f6ea31df11659c6460c4b32d3252ea4ca"), looks := false }, kinds := [], alts := [], laidByText := true, laidKinds := [.data, .data, .data, .data, .data, .funcs, .pinned], laidTests := true, laidLooks := .later }
def SagaResultsCardSaid : Prop := Claim7.holds Tryd.pinned (.plain (OpenSpec.ofChange sagaResultsSpec)) sagaResultsCard

/-- THE TIED CARD OF 'skaldlaw28.SagaRetries'. -/
def sagaRetriesCard : Claim7 := { stood := { row := sagaRetriesRow, standIns := [], harness := (true, "b787fd107e9e62dccee60219ae3a609f6ea31df11659c6460c4b32d3252ea4ca"), looks := false }, kinds := [], alts := [], laidByText := true, laidKinds := [.data, .data, .data, .data, .data, .funcs, .pinned], laidTests := true, laidLooks := .later }
def SagaRetriesCardSaid : Prop := Claim7.holds Tryd.pinned (.plain (OpenSpec.ofChange sagaRetriesSpec)) sagaRetriesCard

/-- THE TIED CARD OF 'skaldlaw28.SagaRefuses'. -/
def sagaRefusesCard : Claim7 := { stood := { row := sagaRefusesRow, standIns := [], harness := (true, "b787fd107e9e62dccee60219ae3a609f6ea31df11659c6460c4b32d3252ea4ca"), looks := false }, kinds := [], alts := [], laidByText := true, laidKinds := [.data, .data, .data, .data, .data, .funcs, .pinned], laidTests := true, laidLooks := .later }
def SagaRefusesCardSaid : Prop := Claim7.holds Tryd.pinned (.plain (OpenSpec.ofChange sagaRefusesSpec)) sagaRefusesCard

/-- THE TIED CARD OF 'skaldlaw28.SagaPlain'. -/
def sagaPlainCard : Claim7 := { stood := { row := sagaPlainRow, standIns := [], harness := (true, "b787fd107e9e62dccee60219ae3a609f6ea31df11659c6460c4b32d3252ea4ca"), looks := false }, kinds := [], alts := [], laidByText := true, laidKinds := [.data, .data, .data, .data, .data, .funcs, .pinned], laidTests := true, laidLooks := .later }
def SagaPlainCardSaid : Prop := Claim7.holds Tryd.pinned (.plain (OpenSpec.ofChange sagaPlainSpec)) sagaPlainCard

/-- THE TIED CARD OF 'skaldlaw28.SagaStarts'. -/
def sagaStartsCard : Claim7 := { stood := { row := sagaStartsRow, standIns := [], harness := (true, "b787fd107e9e62dccee60219ae3a609f6ea31df11659c6460c4b32d3252ea4ca"), looks := false }, kinds := [], alts := [], laidByText := true, laidKinds := [.data, .data, .data, .data, .data, .funcs, .pinned], laidTests := true, laidLooks := .later }
def SagaStartsCardSaid : Prop := Claim7.holds Tryd.pinned (.plain (OpenSpec.ofChange sagaStartsSpec)) sagaStartsCard

/-- THE TIED CARD OF 'skaldlaw28.SagaOrders'. -/
def sagaOrdersCard : Claim7 := { stood := { row := sagaOrdersRow, standIns := [], harness := (true, "b787fd107e9e62dccee60219ae3a609f6ea31df11659c6460c4b32d3252ea4ca"), looks := false }, kinds := [], alts := [], laidByText := true, laidKinds := [.data, .data, .data, .data, .data, .funcs, .pinned], laidTests := true, laidLooks := .later }
def SagaOrdersCardSaid : Prop := Claim7.holds Tryd.pinned (.plain (OpenSpec.ofChange sagaOrdersSpec)) sagaOrdersCard

/-- THE TIED CARD OF 'skaldlaw28.SagaKnown'. -/
def sagaKnownCard : Claim7 := { stood := { row := sagaKnownRow, standIns := [], harness := (true, "b787fd107e9e62dccee60219ae3a609f6ea31df11659c6460c4b32d3252ea4ca"), looks := false }, kinds := [], alts := [], laidByText := true, laidKinds := [.data, .data, .data, .data, .data, .funcs, .pinned], laidTests := true, laidLooks := .later }
def SagaKnownCardSaid : Prop := Claim7.holds Tryd.pinned (.plain (OpenSpec.ofChange sagaKnownSpec)) sagaKnownCard

/-- THE TIED CARD OF 'skaldlaw28.SagaShows'. -/
def sagaShowsCard : Claim7 := { stood := { row := sagaShowsRow, standIns := [], harness := (true, "b787fd107e9e62dccee60219ae3a609f6ea31df11659c6460c4b32d3252ea4ca"), looks := false }, kinds := [], alts := [], laidByText := true, laidKinds := [.data, .data, .data, .data, .data, .funcs, .pinned], laidTests := true, laidLooks := .later }
def SagaShowsCardSaid : Prop := Claim7.holds Tryd.pinned (.plain (OpenSpec.ofChange sagaShowsSpec)) sagaShowsCard

/-- THE TIED CARD OF 'skaldlaw28.SagaEnds'. -/
def sagaEndsCard : Claim7 := { stood := { row := sagaEndsRow, standIns := [], harness := (true, "b787fd107e9e62dccee60219ae3a609f6ea31df11659c6460c4b32d3252ea4ca"), looks := false }, kinds := [], alts := [], laidByText := true, laidKinds := [.data, .data, .data, .data, .data, .funcs, .pinned], laidTests := true, laidLooks := .later }
def SagaEndsCardSaid : Prop := Claim7.holds Tryd.pinned (.plain (OpenSpec.ofChange sagaEndsSpec)) sagaEndsCard

/-- THE SECOND FORM's CARD OF 'skaldlaw28.SagaResults'. -/
def sagaResultsUptoCard : Claim7 := { stood := { row := sagaResultsUptoRow, standIns := [], harness := (true, "b787fd107e9e62dccee60219ae3a609f6ea31df11659c6460c4b32d3252ea4ca"), looks := false }, kinds := [], alts := [], laidByText := true, laidKinds := [.data, .data, .data, .data, .data, .funcs, .pinned], laidTests := true, laidLooks := .later }
def SagaResultsUptoCardSaid : Prop := Claim7.holds Tryd.pinned (.plain (OpenSpec.upto sagaResultsSpec)) sagaResultsUptoCard

/-- THE SECOND FORM's CARD OF 'skaldlaw28.SagaRetries'. -/
def sagaRetriesUptoCard : Claim7 := { stood := { row := sagaRetriesUptoRow, standIns := [], harness := (true, "b787fd107e9e62dccee60219ae3a609f6ea31df11659c6460c4b32d3252ea4ca"), looks := false }, kinds := [], alts := [], laidByText := true, laidKinds := [.data, .data, .data, .data, .data, .funcs, .pinned], laidTests := true, laidLooks := .later }
def SagaRetriesUptoCardSaid : Prop := Claim7.holds Tryd.pinned (.plain (OpenSpec.upto sagaRetriesSpec)) sagaRetriesUptoCard

/-- THE SECOND FORM's CARD OF 'skaldlaw28.SagaRefuses'. -/
def sagaRefusesUptoCard : Claim7 := { stood := { row := sagaRefusesUptoRow, standIns := [], harness := (true, "b787fd107e9e62dccee60219ae3a609f6ea31df11659c6460c4b32d3252ea4ca"), looks := false }, kinds := [], alts := [], laidByText := true, laidKinds := [.data, .data, .data, .data, .data, .funcs, .pinned], laidTests := true, laidLooks := .later }
def SagaRefusesUptoCardSaid : Prop := Claim7.holds Tryd.pinned (.plain (OpenSpec.upto sagaRefusesSpec)) sagaRefusesUptoCard

/-- THE SECOND FORM's CARD OF 'skaldlaw28.SagaPlain'. -/
def sagaPlainUptoCard : Claim7 := { stood := { row := sagaPlainUptoRow, standIns := [], harness := (true, "b787fd107e9e62dccee60219ae3a609f6ea31df11659c6460c4b32d3252ea4ca"), looks := false }, kinds := [], alts := [], laidByText := true, laidKinds := [.data, .data, .data, .data, .data, .funcs, .pinned], laidTests := true, laidLooks := .later }
def SagaPlainUptoCardSaid : Prop := Claim7.holds Tryd.pinned (.plain (OpenSpec.upto sagaPlainSpec)) sagaPlainUptoCard

/-- THE SECOND FORM's CARD OF 'skaldlaw28.SagaStarts'. -/
def sagaStartsUptoCard : Claim7 := { stood := { row := sagaStartsUptoRow, standIns := [], harness := (true, "b787fd107e9e62dccee60219ae3a609f6ea31df11659c6460c4b32d3252ea4ca"), looks := false }, kinds := [], alts := [], laidByText := true, laidKinds := [.data, .data, .data, .data, .data, .funcs, .pinned], laidTests := true, laidLooks := .later }
def SagaStartsUptoCardSaid : Prop := Claim7.holds Tryd.pinned (.plain (OpenSpec.upto sagaStartsSpec)) sagaStartsUptoCard

/-- THE SECOND FORM's CARD OF 'skaldlaw28.SagaOrders'. -/
def sagaOrdersUptoCard : Claim7 := { stood := { row := sagaOrdersUptoRow, standIns := [], harness := (true, "b787fd107e9e62dccee60219ae3a609f6ea31df11659c6460c4b32d3252ea4ca"), looks := false }, kinds := [], alts := [], laidByText := true, laidKinds := [.data, .data, .data, .data, .data, .funcs, .pinned], laidTests := true, laidLooks := .later }
def SagaOrdersUptoCardSaid : Prop := Claim7.holds Tryd.pinned (.plain (OpenSpec.upto sagaOrdersSpec)) sagaOrdersUptoCard

/-- THE SECOND FORM's CARD OF 'skaldlaw28.SagaKnown'. -/
def sagaKnownUptoCard : Claim7 := { stood := { row := sagaKnownUptoRow, standIns := [], harness := (true, "b787fd107e9e62dccee60219ae3a609f6ea31df11659c6460c4b32d3252ea4ca"), looks := false }, kinds := [], alts := [], laidByText := true, laidKinds := [.data, .data, .data, .data, .data, .funcs, .pinned], laidTests := true, laidLooks := .later }
def SagaKnownUptoCardSaid : Prop := Claim7.holds Tryd.pinned (.plain (OpenSpec.upto sagaKnownSpec)) sagaKnownUptoCard

/-- THE SECOND FORM's CARD OF 'skaldlaw28.SagaShows'. -/
def sagaShowsUptoCard : Claim7 := { stood := { row := sagaShowsUptoRow, standIns := [], harness := (true, "b787fd107e9e62dccee60219ae3a609f6ea31df11659c6460c4b32d3252ea4ca"), looks := false }, kinds := [], alts := [], laidByText := true, laidKinds := [.data, .data, .data, .data, .data, .funcs, .pinned], laidTests := true, laidLooks := .later }
def SagaShowsUptoCardSaid : Prop := Claim7.holds Tryd.pinned (.plain (OpenSpec.upto sagaShowsSpec)) sagaShowsUptoCard

/-- THE SECOND FORM's CARD OF 'skaldlaw28.SagaEnds'. -/
def sagaEndsUptoCard : Claim7 := { stood := { row := sagaEndsUptoRow, standIns := [], harness := (true, "b787fd107e9e62dccee60219ae3a609f6ea31df11659c6460c4b32d3252ea4ca"), looks := false }, kinds := [], alts := [], laidByText := true, laidKinds := [.data, .data, .data, .data, .data, .funcs, .pinned], laidTests := true, laidLooks := .later }
def SagaEndsUptoCardSaid : Prop := Claim7.holds Tryd.pinned (.plain (OpenSpec.upto sagaEndsSpec)) sagaEndsUptoCard
end Rows
end Go.Proofs.YtonjnghiehdmmaaDoor
