/-
  DERIVED. GIVEN WITH THE SEED: THE CARDS: each row of YtghcfpoccafbjaaDoorRows.lean that lists a variable, with what it lists TIED to the program's text (the seventh form; the later family's looks); each row that meets fmt, with fmt's text TOLD by the authors' own Lean function (tested against real Go, not proved from fmt's source: count such statements apart). THE CARD IS WHAT COUNTS. Prove the row's statement (the work); the ties are given (YtghcfpoccafbjaaDoorTie.lean); close each card by the builder's one call (the guide's Derived/Test/ToyasCard.lean, 'card_holds'). Laid BY PROGRAM, IN A SANDBOX (cutbox-door.mjs). By AI agents, Wed Nov 11 2026. No macro, syntax, notation, axiom, sorry.
-/
import Derived.Test.YtghcfpoccafbjaaDoorRows
import GoSem.ClaimSeven
namespace Go.Proofs.YtghcfpoccafbjaaDoor
namespace Rows

/-- THE TIED CARD OF 'skaldlaw32.MovesApart'. -/
def movesApartCard : Claim7 := { stood := { row := movesApartRow, standIns := [], harness := (true, "54c17d3b669c4a966f3d5f9f4a3d05ba57244a43d7cf49284c0d953a106a7d52"), looks := false }, kinds := [], alts := [], laidByText := true, laidKinds := [.data, .pinned], laidTests := true, laidLooks := .later }
def MovesApartCardSaid : Prop := Claim7.holds Tryd.pinned (.plain (OpenSpec.ofChange movesApartSpec)) movesApartCard

/-- THE TIED CARD OF 'skaldlaw32.MovesKnown'. -/
def movesKnownCard : Claim7 := { stood := { row := movesKnownRow, standIns := [], harness := (true, "54c17d3b669c4a966f3d5f9f4a3d05ba57244a43d7cf49284c0d953a106a7d52"), looks := false }, kinds := [], alts := [], laidByText := true, laidKinds := [.data, .pinned], laidTests := true, laidLooks := .later }
def MovesKnownCardSaid : Prop := Claim7.holds Tryd.pinned (.plain (OpenSpec.ofChange movesKnownSpec)) movesKnownCard

/-- THE TIED CARD OF 'skaldlaw32.MovesCourse'. -/
def movesCourseCard : Claim7 := { stood := { row := movesCourseRow, standIns := [], harness := (true, "54c17d3b669c4a966f3d5f9f4a3d05ba57244a43d7cf49284c0d953a106a7d52"), looks := false }, kinds := [], alts := [], laidByText := true, laidKinds := [.data, .pinned], laidTests := true, laidLooks := .later }
def MovesCourseCardSaid : Prop := Claim7.holds Tryd.pinned (.plain (OpenSpec.ofChange movesCourseSpec)) movesCourseCard

/-- THE TIED CARD OF 'skaldlaw32.MovesEnds'. -/
def movesEndsCard : Claim7 := { stood := { row := movesEndsRow, standIns := [], harness := (true, "54c17d3b669c4a966f3d5f9f4a3d05ba57244a43d7cf49284c0d953a106a7d52"), looks := false }, kinds := [], alts := [], laidByText := true, laidKinds := [.data, .pinned], laidTests := true, laidLooks := .later }
def MovesEndsCardSaid : Prop := Claim7.holds Tryd.pinned (.plain (OpenSpec.ofChange movesEndsSpec)) movesEndsCard

/-- THE TIED CARD OF 'skaldlaw32.MovesPlays'. -/
def movesPlaysCard : Claim7 := { stood := { row := movesPlaysRow, standIns := [], harness := (true, "54c17d3b669c4a966f3d5f9f4a3d05ba57244a43d7cf49284c0d953a106a7d52"), looks := false }, kinds := [], alts := [], laidByText := true, laidKinds := [.data, .pinned], laidTests := true, laidLooks := .later }
def MovesPlaysCardSaid : Prop := Claim7.holds Tryd.pinned (.plain (OpenSpec.ofChange movesPlaysSpec)) movesPlaysCard

/-- THE TIED CARD OF 'skaldlaw32.MovesNil'. -/
def movesNilCard : Claim7 := { stood := { row := movesNilRow, standIns := [], harness := (true, "54c17d3b669c4a966f3d5f9f4a3d05ba57244a43d7cf49284c0d953a106a7d52"), looks := false }, kinds := [], alts := [], laidByText := true, laidKinds := [.data, .pinned], laidTests := true, laidLooks := .later }
def MovesNilCardSaid : Prop := Claim7.holds Tryd.pinned (.plain (OpenSpec.ofChange movesNilSpec)) movesNilCard

/-- THE TIED CARD OF 'skaldlaw32.MovesStarts'. -/
def movesStartsCard : Claim7 := { stood := { row := movesStartsRow, standIns := [], harness := (true, "54c17d3b669c4a966f3d5f9f4a3d05ba57244a43d7cf49284c0d953a106a7d52"), looks := false }, kinds := [], alts := [], laidByText := true, laidKinds := [.data, .pinned], laidTests := true, laidLooks := .later }
def MovesStartsCardSaid : Prop := Claim7.holds Tryd.pinned (.plain (OpenSpec.ofChange movesStartsSpec)) movesStartsCard

/-- THE TIED CARD OF 'skaldlaw32.MovesCopies'. -/
def movesCopiesCard : Claim7 := { stood := { row := movesCopiesRow, standIns := [], harness := (true, "54c17d3b669c4a966f3d5f9f4a3d05ba57244a43d7cf49284c0d953a106a7d52"), looks := false }, kinds := [], alts := [], laidByText := true, laidKinds := [.data, .pinned], laidTests := true, laidLooks := .later }
def MovesCopiesCardSaid : Prop := Claim7.holds Tryd.pinned (.plain (OpenSpec.ofChange movesCopiesSpec)) movesCopiesCard

/-- THE SECOND FORM's CARD OF 'skaldlaw32.MovesApart'. -/
def movesApartUptoCard : Claim7 := { stood := { row := movesApartUptoRow, standIns := [], harness := (true, "54c17d3b669c4a966f3d5f9f4a3d05ba57244a43d7cf49284c0d953a106a7d52"), looks := false }, kinds := [], alts := [], laidByText := true, laidKinds := [.data, .pinned], laidTests := true, laidLooks := .later }
def MovesApartUptoCardSaid : Prop := Claim7.holds Tryd.pinned (.plain (OpenSpec.upto movesApartSpec)) movesApartUptoCard

/-- THE SECOND FORM's CARD OF 'skaldlaw32.MovesKnown'. -/
def movesKnownUptoCard : Claim7 := { stood := { row := movesKnownUptoRow, standIns := [], harness := (true, "54c17d3b669c4a966f3d5f9f4a3d05ba57244a43d7cf49284c0d953a106a7d52"), looks := false }, kinds := [], alts := [], laidByText := true, laidKinds := [.data, .pinned], laidTests := true, laidLooks := .later }
def MovesKnownUptoCardSaid : Prop := Claim7.holds Tryd.pinned (.plain (OpenSpec.upto movesKnownSpec)) movesKnownUptoCard

/-- THE SECOND FORM's CARD OF 'skaldlaw32.MovesCourse'. -/
def movesCourseUptoCard : Claim7 := { stood := { row := movesCourseUptoRow, standIns := [], harness := (true, "54c17d3b669c4a966f3d5f9f4a3d05ba57244a43d7cf49284c0d953a106a7d52"), looks := false }, kinds := [], alts := [], laidByText := true, laidKinds := [.data, .pinned], laidTests := true, laidLooks := .later }
def MovesCourseUptoCardSaid : Prop := Claim7.holds Tryd.pinned (.plain (OpenSpec.upto movesCourseSpec)) movesCourseUptoCard

/-- THE SECOND FORM's CARD OF 'skaldlaw32.MovesEnds'. -/
def movesEndsUptoCard : Claim7 := { stood := { row := movesEndsUptoRow, standIns := [], harness := (true, "54c17d3b669c4a966f3d5f9f4a3d05ba57244a43d7cf49284c0d953a106a7d52"), looks := false }, kinds := [], alts := [], laidByText := true, laidKinds := [.data, .pinned], laidTests := true, laidLooks := .later }
def MovesEndsUptoCardSaid : Prop := Claim7.holds Tryd.pinned (.plain (OpenSpec.upto movesEndsSpec)) movesEndsUptoCard

/-- THE SECOND FORM's CARD OF 'skaldlaw32.MovesPlays'. -/
def movesPlaysUptoCard : Claim7 := { stood := { row := movesPlaysUptoRow, standIns := [], harness := (true, "54c17d3b669c4a966f3d5f9f4a3d05ba57244a43d7cf49284c0d953a106a7d52"), looks := false }, kinds := [], alts := [], laidByText := true, laidKinds := [.data, .pinned], laidTests := true, laidLooks := .later }
def MovesPlaysUptoCardSaid : Prop := Claim7.holds Tryd.pinned (.plain (OpenSpec.upto movesPlaysSpec)) movesPlaysUptoCard

/-- THE SECOND FORM's CARD OF 'skaldlaw32.MovesNil'. -/
def movesNilUptoCard : Claim7 := { stood := { row := movesNilUptoRow, standIns := [], harness := (true, "54c17d3b669c4a966f3d5f9f4a3d05ba57244a43d7cf49284c0d953a106a7d52"), looks := false }, kinds := [], alts := [], laidByText := true, laidKinds := [.data, .pinned], laidTests := true, laidLooks := .later }
def MovesNilUptoCardSaid : Prop := Claim7.holds Tryd.pinned (.plain (OpenSpec.upto movesNilSpec)) movesNilUptoCard

/-- THE SECOND FORM's CARD OF 'skaldlaw32.MovesStarts'. -/
def movesStartsUptoCard : Claim7 := { stood := { row := movesStartsUptoRow, standIns := [], harness := (true, "54c17d3b669c4a966f3d5f9f4a3d05ba57244a43d7cf49284c0d953a106a7d52"), looks := false }, kinds := [], alts := [], laidByText := true, laidKinds := [.data, .pinned], laidTests := true, laidLooks := .later }
def MovesStartsUptoCardSaid : Prop := Claim7.holds Tryd.pinned (.plain (OpenSpec.upto movesStartsSpec)) movesStartsUptoCard

/-- THE SECOND FORM's CARD OF 'skaldlaw32.MovesCopies'. -/
def movesCopiesUptoCard : Claim7 := { stood := { row := movesCopiesUptoRow, standIns := [], harness := (true, "54c17d3b669c4a966f3d5f9f4a3d05ba57244a43d7cf49284c0d953a106a7d52"), looks := false }, kinds := [], alts := [], laidByText := true, laidKinds := [.data, .pinned], laidTests := true, laidLooks := .later }
def MovesCopiesUptoCardSaid : Prop := Claim7.holds Tryd.pinned (.plain (OpenSpec.upto movesCopiesSpec)) movesCopiesUptoCard
end Rows
end Go.Proofs.YtghcfpoccafbjaaDoor
