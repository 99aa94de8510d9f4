/-
  DERIVED. GIVEN WITH THE SEED: THE CARDS: each row of YtbhklepkcgbniaaDoorRows.lean that lists a variable, with what it lists TIED to the program's text (the seventh form; the later family's looks); each row that meets fmt, with fmt's text TOLD by the authors' own Lean function (tested against real Go, not proved from fmt's source: count such statements apart). THE CARD IS WHAT COUNTS. Prove the row's statement (the work); the ties are given (YtbhklepkcgbniaaDoorTie.lean); close each card by the builder's one call (the guide's Derived/Test/ToyasCard.lean, 'card_holds'). Laid BY PROGRAM, IN A SANDBOX (cutbox-door.mjs). By AI agents, Wed Nov 11 2026. No macro, syntax, notation, axiom, sorry.
-/
import Derived.Test.YtbhklepkcgbniaaDoorRows
import GoSem.ClaimSeven
namespace Go.Proofs.YtbhklepkcgbniaaDoor
namespace Rows

/-- THE TIED CARD OF 'skaldlaw27.BudgetStarts'. -/
def budgetStartsCard : Claim7 := { stood := { row := budgetStartsRow, standIns := [], harness := (true, "9c5a00a5c216bed83b29781a2c033213dcd3b24423337dd8039a487f87e78a47"), looks := false }, kinds := [], alts := [], laidByText := true, laidKinds := [.data, .pinned], laidTests := true, laidLooks := .later }
def BudgetStartsCardSaid : Prop := Claim7.holds Tryd.pinned (.plain (OpenSpec.ofChange budgetStartsSpec)) budgetStartsCard

/-- THE TIED CARD OF 'skaldlaw27.BudgetCounts'. -/
def budgetCountsCard : Claim7 := { stood := { row := budgetCountsRow, standIns := [], harness := (true, "9c5a00a5c216bed83b29781a2c033213dcd3b24423337dd8039a487f87e78a47"), looks := false }, kinds := [], alts := [], laidByText := true, laidKinds := [.data, .pinned], laidTests := true, laidLooks := .later }
def BudgetCountsCardSaid : Prop := Claim7.holds Tryd.pinned (.plain (OpenSpec.ofChange budgetCountsSpec)) budgetCountsCard

/-- THE TIED CARD OF 'skaldlaw27.BudgetTimes'. -/
def budgetTimesCard : Claim7 := { stood := { row := budgetTimesRow, standIns := [], harness := (true, "9c5a00a5c216bed83b29781a2c033213dcd3b24423337dd8039a487f87e78a47"), looks := false }, kinds := [], alts := [], laidByText := true, laidKinds := [.data, .pinned], laidTests := true, laidLooks := .later }
def BudgetTimesCardSaid : Prop := Claim7.holds Tryd.pinned (.plain (OpenSpec.ofChange budgetTimesSpec)) budgetTimesCard

/-- THE TIED CARD OF 'skaldlaw27.BudgetTries'. -/
def budgetTriesCard : Claim7 := { stood := { row := budgetTriesRow, standIns := [], harness := (true, "9c5a00a5c216bed83b29781a2c033213dcd3b24423337dd8039a487f87e78a47"), looks := false }, kinds := [], alts := [], laidByText := true, laidKinds := [.data, .pinned], laidTests := true, laidLooks := .later }
def BudgetTriesCardSaid : Prop := Claim7.holds Tryd.pinned (.plain (OpenSpec.ofChange budgetTriesSpec)) budgetTriesCard

/-- THE TIED CARD OF 'skaldlaw27.BudgetLates'. -/
def budgetLatesCard : Claim7 := { stood := { row := budgetLatesRow, standIns := [], harness := (true, "9c5a00a5c216bed83b29781a2c033213dcd3b24423337dd8039a487f87e78a47"), looks := false }, kinds := [], alts := [], laidByText := true, laidKinds := [.data, .pinned], laidTests := true, laidLooks := .later }
def BudgetLatesCardSaid : Prop := Claim7.holds Tryd.pinned (.plain (OpenSpec.ofChange budgetLatesSpec)) budgetLatesCard

/-- THE TIED CARD OF 'skaldlaw27.BudgetAgain'. -/
def budgetAgainCard : Claim7 := { stood := { row := budgetAgainRow, standIns := [], harness := (true, "9c5a00a5c216bed83b29781a2c033213dcd3b24423337dd8039a487f87e78a47"), looks := false }, kinds := [], alts := [], laidByText := true, laidKinds := [.data, .pinned], laidTests := true, laidLooks := .later }
def BudgetAgainCardSaid : Prop := Claim7.holds Tryd.pinned (.plain (OpenSpec.ofChange budgetAgainSpec)) budgetAgainCard

/-- THE TIED CARD OF 'skaldlaw27.BudgetRefuses'. -/
def budgetRefusesCard : Claim7 := { stood := { row := budgetRefusesRow, standIns := [], harness := (true, "9c5a00a5c216bed83b29781a2c033213dcd3b24423337dd8039a487f87e78a47"), looks := false }, kinds := [], alts := [], laidByText := true, laidKinds := [.data, .pinned], laidTests := true, laidLooks := .later }
def BudgetRefusesCardSaid : Prop := Claim7.holds Tryd.pinned (.plain (OpenSpec.ofChange budgetRefusesSpec)) budgetRefusesCard

/-- THE TIED CARD OF 'skaldlaw27.BudgetNexts'. -/
def budgetNextsCard : Claim7 := { stood := { row := budgetNextsRow, standIns := [], harness := (true, "9c5a00a5c216bed83b29781a2c033213dcd3b24423337dd8039a487f87e78a47"), looks := false }, kinds := [], alts := [], laidByText := true, laidKinds := [.data, .pinned], laidTests := true, laidLooks := .later }
def BudgetNextsCardSaid : Prop := Claim7.holds Tryd.pinned (.plain (OpenSpec.ofChange budgetNextsSpec)) budgetNextsCard

/-- THE SECOND FORM's CARD OF 'skaldlaw27.BudgetStarts'. -/
def budgetStartsUptoCard : Claim7 := { stood := { row := budgetStartsUptoRow, standIns := [], harness := (true, "9c5a00a5c216bed83b29781a2c033213dcd3b24423337dd8039a487f87e78a47"), looks := false }, kinds := [], alts := [], laidByText := true, laidKinds := [.data, .pinned], laidTests := true, laidLooks := .later }
def BudgetStartsUptoCardSaid : Prop := Claim7.holds Tryd.pinned (.plain (OpenSpec.upto budgetStartsSpec)) budgetStartsUptoCard

/-- THE SECOND FORM's CARD OF 'skaldlaw27.BudgetCounts'. -/
def budgetCountsUptoCard : Claim7 := { stood := { row := budgetCountsUptoRow, standIns := [], harness := (true, "9c5a00a5c216bed83b29781a2c033213dcd3b24423337dd8039a487f87e78a47"), looks := false }, kinds := [], alts := [], laidByText := true, laidKinds := [.data, .pinned], laidTests := true, laidLooks := .later }
def BudgetCountsUptoCardSaid : Prop := Claim7.holds Tryd.pinned (.plain (OpenSpec.upto budgetCountsSpec)) budgetCountsUptoCard

/-- THE SECOND FORM's CARD OF 'skaldlaw27.BudgetTimes'. -/
def budgetTimesUptoCard : Claim7 := { stood := { row := budgetTimesUptoRow, standIns := [], harness := (true, "9c5a00a5c216bed83b29781a2c033213dcd3b24423337dd8039a487f87e78a47"), looks := false }, kinds := [], alts := [], laidByText := true, laidKinds := [.data, .pinned], laidTests := true, laidLooks := .later }
def BudgetTimesUptoCardSaid : Prop := Claim7.holds Tryd.pinned (.plain (OpenSpec.upto budgetTimesSpec)) budgetTimesUptoCard

/-- THE SECOND FORM's CARD OF 'skaldlaw27.BudgetTries'. -/
def budgetTriesUptoCard : Claim7 := { stood := { row := budgetTriesUptoRow, standIns := [], harness := (true, "9c5a00a5c216bed83b29781a2c033213dcd3b24423337dd8039a487f87e78a47"), looks := false }, kinds := [], alts := [], laidByText := true, laidKinds := [.data, .pinned], laidTests := true, laidLooks := .later }
def BudgetTriesUptoCardSaid : Prop := Claim7.holds Tryd.pinned (.plain (OpenSpec.upto budgetTriesSpec)) budgetTriesUptoCard

/-- THE SECOND FORM's CARD OF 'skaldlaw27.BudgetLates'. -/
def budgetLatesUptoCard : Claim7 := { stood := { row := budgetLatesUptoRow, standIns := [], harness := (true, "9c5a00a5c216bed83b29781a2c033213dcd3b24423337dd8039a487f87e78a47"), looks := false }, kinds := [], alts := [], laidByText := true, laidKinds := [.data, .pinned], laidTests := true, laidLooks := .later }
def BudgetLatesUptoCardSaid : Prop := Claim7.holds Tryd.pinned (.plain (OpenSpec.upto budgetLatesSpec)) budgetLatesUptoCard

/-- THE SECOND FORM's CARD OF 'skaldlaw27.BudgetAgain'. -/
def budgetAgainUptoCard : Claim7 := { stood := { row := budgetAgainUptoRow, standIns := [], harness := (true, "9c5a00a5c216bed83b29781a2c033213dcd3b24423337dd8039a487f87e78a47"), looks := false }, kinds := [], alts := [], laidByText := true, laidKinds := [.data, .pinned], laidTests := true, laidLooks := .later }
def BudgetAgainUptoCardSaid : Prop := Claim7.holds Tryd.pinned (.plain (OpenSpec.upto budgetAgainSpec)) budgetAgainUptoCard

/-- THE SECOND FORM's CARD OF 'skaldlaw27.BudgetRefuses'. -/
def budgetRefusesUptoCard : Claim7 := { stood := { row := budgetRefusesUptoRow, standIns := [], harness := (true, "9c5a00a5c216bed83b29781a2c033213dcd3b24423337dd8039a487f87e78a47"), looks := false }, kinds := [], alts := [], laidByText := true, laidKinds := [.data, .pinned], laidTests := true, laidLooks := .later }
def BudgetRefusesUptoCardSaid : Prop := Claim7.holds Tryd.pinned (.plain (OpenSpec.upto budgetRefusesSpec)) budgetRefusesUptoCard

/-- THE SECOND FORM's CARD OF 'skaldlaw27.BudgetNexts'. -/
def budgetNextsUptoCard : Claim7 := { stood := { row := budgetNextsUptoRow, standIns := [], harness := (true, "9c5a00a5c216bed83b29781a2c033213dcd3b24423337dd8039a487f87e78a47"), looks := false }, kinds := [], alts := [], laidByText := true, laidKinds := [.data, .pinned], laidTests := true, laidLooks := .later }
def BudgetNextsUptoCardSaid : Prop := Claim7.holds Tryd.pinned (.plain (OpenSpec.upto budgetNextsSpec)) budgetNextsUptoCard
end Rows
end Go.Proofs.YtbhklepkcgbniaaDoor
