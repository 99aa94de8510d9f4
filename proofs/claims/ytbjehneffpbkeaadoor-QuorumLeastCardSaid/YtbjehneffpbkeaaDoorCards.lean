/-
  DERIVED. GIVEN WITH THE SEED: THE CARDS: each row of YtbjehneffpbkeaaDoorRows.lean that lists a variable, with what it lists TIED to the program's text (the seventh form; the later family's looks); each row that meets fmt, with fmt's text TOLD by the authors' own Lean function (tested against real Go, not proved from fmt's source: count such statements apart). THE CARD IS WHAT COUNTS. Prove the row's statement (the work); the ties are given (YtbjehneffpbkeaaDoorTie.lean); close each card by the builder's one call (the guide's Derived/Test/ToyasCard.lean, 'card_holds'). Laid BY PROGRAM, IN A SANDBOX (cutbox-door.mjs). By AI agents, Wed Nov 11 2026. No macro, syntax, notation, axiom, sorry.
-/
import Derived.Test.YtbjehneffpbkeaaDoorRows
import GoSem.ClaimSeven
namespace Go.Proofs.YtbjehneffpbkeaaDoor
namespace Rows

/-- THE TIED CARD OF 'skaldlaw11.QuorumSets'. -/
def quorumSetsCard : Claim7 := { stood := { row := quorumSetsRow, standIns := [], harness := (true, "0574b8f739ce2679a897221e27d5da4e85751d5a364b575fd360381bfbcf0812"), looks := false }, kinds := [], alts := [], laidByText := true, laidKinds := [.data], laidTests := true, laidLooks := .later }
def QuorumSetsCardSaid : Prop := Claim7.holds Tryd.pinned (.plain (OpenSpec.ofChange quorumSetsSpec)) quorumSetsCard

/-- THE TIED CARD OF 'skaldlaw11.QuorumMeets'. -/
def quorumMeetsCard : Claim7 := { stood := { row := quorumMeetsRow, standIns := [], harness := (true, "0574b8f739ce2679a897221e27d5da4e85751d5a364b575fd360381bfbcf0812"), looks := false }, kinds := [], alts := [], laidByText := true, laidKinds := [.data], laidTests := true, laidLooks := .later }
def QuorumMeetsCardSaid : Prop := Claim7.holds Tryd.pinned (.plain (OpenSpec.ofChange quorumMeetsSpec)) quorumMeetsCard

/-- THE TIED CARD OF 'skaldlaw11.QuorumSizes'. -/
def quorumSizesCard : Claim7 := { stood := { row := quorumSizesRow, standIns := [], harness := (true, "0574b8f739ce2679a897221e27d5da4e85751d5a364b575fd360381bfbcf0812"), looks := false }, kinds := [], alts := [], laidByText := true, laidKinds := [.data], laidTests := true, laidLooks := .later }
def QuorumSizesCardSaid : Prop := Claim7.holds Tryd.pinned (.plain (OpenSpec.ofChange quorumSizesSpec)) quorumSizesCard

/-- THE TIED CARD OF 'skaldlaw11.QuorumShares'. -/
def quorumSharesCard : Claim7 := { stood := { row := quorumSharesRow, standIns := [], harness := (true, "0574b8f739ce2679a897221e27d5da4e85751d5a364b575fd360381bfbcf0812"), looks := false }, kinds := [], alts := [], laidByText := true, laidKinds := [.data], laidTests := true, laidLooks := .later }
def QuorumSharesCardSaid : Prop := Claim7.holds Tryd.pinned (.plain (OpenSpec.ofChange quorumSharesSpec)) quorumSharesCard

/-- THE TIED CARD OF 'skaldlaw11.QuorumGrows'. -/
def quorumGrowsCard : Claim7 := { stood := { row := quorumGrowsRow, standIns := [], harness := (true, "0574b8f739ce2679a897221e27d5da4e85751d5a364b575fd360381bfbcf0812"), looks := false }, kinds := [], alts := [], laidByText := true, laidKinds := [.data], laidTests := true, laidLooks := .later }
def QuorumGrowsCardSaid : Prop := Claim7.holds Tryd.pinned (.plain (OpenSpec.ofChange quorumGrowsSpec)) quorumGrowsCard

/-- THE TIED CARD OF 'skaldlaw11.QuorumNodes'. -/
def quorumNodesCard : Claim7 := { stood := { row := quorumNodesRow, standIns := [], harness := (true, "0574b8f739ce2679a897221e27d5da4e85751d5a364b575fd360381bfbcf0812"), looks := false }, kinds := [], alts := [], laidByText := true, laidKinds := [.data], laidTests := true, laidLooks := .later }
def QuorumNodesCardSaid : Prop := Claim7.holds Tryd.pinned (.plain (OpenSpec.ofChange quorumNodesSpec)) quorumNodesCard

/-- THE TIED CARD OF 'skaldlaw11.QuorumCrashes'. -/
def quorumCrashesCard : Claim7 := { stood := { row := quorumCrashesRow, standIns := [], harness := (true, "0574b8f739ce2679a897221e27d5da4e85751d5a364b575fd360381bfbcf0812"), looks := false }, kinds := [], alts := [], laidByText := true, laidKinds := [.data], laidTests := true, laidLooks := .later }
def QuorumCrashesCardSaid : Prop := Claim7.holds Tryd.pinned (.plain (OpenSpec.ofChange quorumCrashesSpec)) quorumCrashesCard

/-- THE TIED CARD OF 'skaldlaw11.QuorumRefuses'. -/
def quorumRefusesCard : Claim7 := { stood := { row := quorumRefusesRow, standIns := [], harness := (true, "0574b8f739ce2679a897221e27d5da4e85751d5a364b575fd360381bfbcf0812"), looks := false }, kinds := [], alts := [], laidByText := true, laidKinds := [.data], laidTests := true, laidLooks := .later }
def QuorumRefusesCardSaid : Prop := Claim7.holds Tryd.pinned (.plain (OpenSpec.ofChange quorumRefusesSpec)) quorumRefusesCard

/-- THE TIED CARD OF 'skaldlaw11.QuorumLeast'. -/
def quorumLeastCard : Claim7 := { stood := { row := quorumLeastRow, standIns := [], harness := (true, "0574b8f739ce2679a897221e27d5da4e85751d5a364b575fd360381bfbcf0812"), looks := false }, kinds := [], alts := [], laidByText := true, laidKinds := [.data], laidTests := true, laidLooks := .later }
def QuorumLeastCardSaid : Prop := Claim7.holds Tryd.pinned (.plain (OpenSpec.ofChange quorumLeastSpec)) quorumLeastCard

/-- THE SECOND FORM's CARD OF 'skaldlaw11.QuorumSets'. -/
def quorumSetsUptoCard : Claim7 := { stood := { row := quorumSetsUptoRow, standIns := [], harness := (true, "0574b8f739ce2679a897221e27d5da4e85751d5a364b575fd360381bfbcf0812"), looks := false }, kinds := [], alts := [], laidByText := true, laidKinds := [.data], laidTests := true, laidLooks := .later }
def QuorumSetsUptoCardSaid : Prop := Claim7.holds Tryd.pinned (.plain (OpenSpec.upto quorumSetsSpec)) quorumSetsUptoCard

/-- THE SECOND FORM's CARD OF 'skaldlaw11.QuorumMeets'. -/
def quorumMeetsUptoCard : Claim7 := { stood := { row := quorumMeetsUptoRow, standIns := [], harness := (true, "0574b8f739ce2679a897221e27d5da4e85751d5a364b575fd360381bfbcf0812"), looks := false }, kinds := [], alts := [], laidByText := true, laidKinds := [.data], laidTests := true, laidLooks := .later }
def QuorumMeetsUptoCardSaid : Prop := Claim7.holds Tryd.pinned (.plain (OpenSpec.upto quorumMeetsSpec)) quorumMeetsUptoCard

/-- THE SECOND FORM's CARD OF 'skaldlaw11.QuorumSizes'. -/
def quorumSizesUptoCard : Claim7 := { stood := { row := quorumSizesUptoRow, standIns := [], harness := (true, "0574b8f739ce2679a897221e27d5da4e85751d5a364b575fd360381bfbcf0812"), looks := false }, kinds := [], alts := [], laidByText := true, laidKinds := [.data], laidTests := true, laidLooks := .later }
def QuorumSizesUptoCardSaid : Prop := Claim7.holds Tryd.pinned (.plain (OpenSpec.upto quorumSizesSpec)) quorumSizesUptoCard

/-- THE SECOND FORM's CARD OF 'skaldlaw11.QuorumShares'. -/
def quorumSharesUptoCard : Claim7 := { stood := { row := quorumSharesUptoRow, standIns := [], harness := (true, "0574b8f739ce2679a897221e27d5da4e85751d5a364b575fd360381bfbcf0812"), looks := false }, kinds := [], alts := [], laidByText := true, laidKinds := [.data], laidTests := true, laidLooks := .later }
def QuorumSharesUptoCardSaid : Prop := Claim7.holds Tryd.pinned (.plain (OpenSpec.upto quorumSharesSpec)) quorumSharesUptoCard

/-- THE SECOND FORM's CARD OF 'skaldlaw11.QuorumGrows'. -/
def quorumGrowsUptoCard : Claim7 := { stood := { row := quorumGrowsUptoRow, standIns := [], harness := (true, "0574b8f739ce2679a897221e27d5da4e85751d5a364b575fd360381bfbcf0812"), looks := false }, kinds := [], alts := [], laidByText := true, laidKinds := [.data], laidTests := true, laidLooks := .later }
def QuorumGrowsUptoCardSaid : Prop := Claim7.holds Tryd.pinned (.plain (OpenSpec.upto quorumGrowsSpec)) quorumGrowsUptoCard

/-- THE SECOND FORM's CARD OF 'skaldlaw11.QuorumNodes'. -/
def quorumNodesUptoCard : Claim7 := { stood := { row := quorumNodesUptoRow, standIns := [], harness := (true, "0574b8f739ce2679a897221e27d5da4e85751d5a364b575fd360381bfbcf0812"), looks := false }, kinds := [], alts := [], laidByText := true, laidKinds := [.data], laidTests := true, laidLooks := .later }
def QuorumNodesUptoCardSaid : Prop := Claim7.holds Tryd.pinned (.plain (OpenSpec.upto quorumNodesSpec)) quorumNodesUptoCard

/-- THE SECOND FORM's CARD OF 'skaldlaw11.QuorumCrashes'. -/
def quorumCrashesUptoCard : Claim7 := { stood := { row := quorumCrashesUptoRow, standIns := [], harness := (true, "0574b8f739ce2679a897221e27d5da4e85751d5a364b575fd360381bfbcf0812"), looks := false }, kinds := [], alts := [], laidByText := true, laidKinds := [.data], laidTests := true, laidLooks := .later }
def QuorumCrashesUptoCardSaid : Prop := Claim7.holds Tryd.pinned (.plain (OpenSpec.upto quorumCrashesSpec)) quorumCrashesUptoCard

/-- THE SECOND FORM's CARD OF 'skaldlaw11.QuorumRefuses'. -/
def quorumRefusesUptoCard : Claim7 := { stood := { row := quorumRefusesUptoRow, standIns := [], harness := (true, "0574b8f739ce2679a897221e27d5da4e85751d5a364b575fd360381bfbcf0812"), looks := false }, kinds := [], alts := [], laidByText := true, laidKinds := [.data], laidTests := true, laidLooks := .later }
def QuorumRefusesUptoCardSaid : Prop := Claim7.holds Tryd.pinned (.plain (OpenSpec.upto quorumRefusesSpec)) quorumRefusesUptoCard

/-- THE SECOND FORM's CARD OF 'skaldlaw11.QuorumLeast'. -/
def quorumLeastUptoCard : Claim7 := { stood := { row := quorumLeastUptoRow, standIns := [], harness := (true, "0574b8f739ce2679a897221e27d5da4e85751d5a364b575fd360381bfbcf0812"), looks := false }, kinds := [], alts := [], laidByText := true, laidKinds := [.data], laidTests := true, laidLooks := .later }
def QuorumLeastUptoCardSaid : Prop := Claim7.holds Tryd.pinned (.plain (OpenSpec.upto quorumLeastSpec)) quorumLeastUptoCard
end Rows
end Go.Proofs.YtbjehneffpbkeaaDoor
