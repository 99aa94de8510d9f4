/-
  NARROWER THAN 'FOR EVERY INPUT', by the rows' own cells (each row's printed sentence says how): BudgetStarts: laid · BudgetCounts: laid · BudgetTimes: laid · BudgetTries: laid · BudgetLates: laid · BudgetAgain: laid · BudgetRefuses: laid · BudgetNexts: laid.
  DERIVED. THE GIVEN ROWS OF THIS SEAT. 8 by the template 'for every input the law returns true; each argument reads behind the call as it read before'; 0 by the template 'total and deterministic' (their statements: YtbhklepkcgbniaaDoorTotals.lean).
  GIVEN WITH THE SEED: the statements are not yours to turn. If you find one false, say at which input.
  Laid BY PROGRAM, IN A SANDBOX (cutbox-rows.mjs): the forced cells as the released guide's own fill.sh prints them over the translation 912c933d5be0f461… (all of the seat's roots in one cut). By AI agents, Wed Nov 11 2026. No macro, syntax, notation, axiom, sorry.
-/
import Derived.Test.YtbhklepkcgbniaaDoorChecked
import GoSem.PinnedTables
import GoSem.Claim
import GoSem.ClaimJoined
import GoSem.ClaimMapViews
import Derived.JoinedTies
import Derived.KernelRfl
namespace Go.Proofs.YtbhklepkcgbniaaDoor
/- THE CELL 'sum', in the pinned program and in every row, IS THE sha256 OF THE DUMP (.gsa) THAT YtbhklepkcgbniaaDoorProg.lean LOADS. Nothing in Lean hashes anything: it is a label: what it is worth is what the hold of that sum in a sandbox is worth. -/
noncomputable def Tryd.pinned : Pinned := { name := "ytbhklepkcgbniaadoor", sum := "912c933d5be0f461c6cee14906d858b6bf36e4be8db4da22b3c4e1007d8f5704", checked := Tryd.checked }
namespace Rows
def none {H : Type} : Left H := { results := [], args := [] }

/- WHAT THE LISTED PACKAGE-LEVEL VARIABLES READ AS WHEN THE CALL BEGINS. Each datum BY PROGRAM (the guide's laid-datum.mjs) off the statement by which the dump's own 'gosem.cut.vars' lays the variable. In a bare row this is a premise. The card (YtbhklepkcgbniaaDoorCards.lean) ties it to the program's text. -/
def laid_unicode_utf8_acceptRanges {H : Type} : DataW H := .agg [.agg [.lit (.int .u8 128), .lit (.int .u8 191)], .agg [.lit (.int .u8 160), .lit (.int .u8 191)], .agg [.lit (.int .u8 128), .lit (.int .u8 159)], .agg [.lit (.int .u8 144), .lit (.int .u8 191)], .agg [.lit (.int .u8 128), .lit (.int .u8 143)], .agg [.lit (.int .u8 0), .lit (.int .u8 0)], .agg [.lit (.int .u8 0), .lit (.int .u8 0)], .agg [.lit (.int .u8 0), .lit (.int .u8 0)], .agg [.lit (.int .u8 0), .lit (.int .u8 0)], .agg [.lit (.int .u8 0), .lit (.int .u8 0)], .agg [.lit (.int .u8 0), .lit (.int .u8 0)], .agg [.lit (.int .u8 0), .lit (.int .u8 0)], .agg [.lit (.int .u8 0), .lit (.int .u8 0)], .agg [.lit (.int .u8 0), .lit (.int .u8 0)], .agg [.lit (.int .u8 0), .lit (.int .u8 0)], .agg [.lit (.int .u8 0), .lit (.int .u8 0)]]
/-- One of Go's own tables, pinned by name: the form's constant. -/
def laid_unicode_utf8_first : DataW Unit := Go.Pinned.utf8First

/-- 'skaldlaw27.BudgetStarts': WHATEVER THE INPUT: true; the input reads as it did. -/
def budgetStartsSpec : ChangeSpec := { name := "budgetStarts", fn := fun _ => fun
  | [d1, d2] => { results := [.lit (.bool true)], args := [d1, d2] }
  | _ => none }
def budgetStartsRow : OpenClaim := { program := "ytbhklepkcgbniaadoor", sum := "912c933d5be0f461c6cee14906d858b6bf36e4be8db4da22b3c4e1007d8f5704", func := "skald/skaldlaw27.BudgetStarts", spec := "budgetStarts", inPlace := ["internal/bytealg.IndexByteString", "internal/bytealg.IndexString"], unfollowed := true, recurses := true, named := ["unicode/utf8.first", "unicode/utf8.acceptRanges", "internal/bytealg.MaxLen"], apart := false, laid := [("unicode/utf8.acceptRanges", laid_unicode_utf8_acceptRanges), ("unicode/utf8.first", laid_unicode_utf8_first)] }
def BudgetStartsSaid : Prop := budgetStartsRow.holds Tryd.pinned (OpenSpec.ofChange budgetStartsSpec)

/-- ITS FALSE NEIGHBOUR: 'it returns false'. Refute it at one input. -/
def budgetStartsWrong : ChangeSpec := { name := "budgetStarts", fn := fun _ => fun
  | [d1, d2] => { results := [.lit (.bool false)], args := [d1, d2] }
  | _ => none }
def BudgetStartsWrongFalsely : Prop := budgetStartsRow.holds Tryd.pinned (OpenSpec.ofChange budgetStartsWrong)

/-- 'skaldlaw27.BudgetCounts': WHATEVER THE INPUT: true; the input reads as it did. -/
def budgetCountsSpec : ChangeSpec := { name := "budgetCounts", fn := fun _ => fun
  | [d1, d2, d3] => { results := [.lit (.bool true)], args := [d1, d2, d3] }
  | _ => none }
def budgetCountsRow : OpenClaim := { program := "ytbhklepkcgbniaadoor", sum := "912c933d5be0f461c6cee14906d858b6bf36e4be8db4da22b3c4e1007d8f5704", func := "skald/skaldlaw27.BudgetCounts", spec := "budgetCounts", inPlace := ["internal/bytealg.IndexByteString", "internal/bytealg.IndexString"], unfollowed := true, recurses := true, named := ["unicode/utf8.first", "unicode/utf8.acceptRanges", "internal/bytealg.MaxLen"], apart := false, laid := [("unicode/utf8.acceptRanges", laid_unicode_utf8_acceptRanges), ("unicode/utf8.first", laid_unicode_utf8_first)] }
def BudgetCountsSaid : Prop := budgetCountsRow.holds Tryd.pinned (OpenSpec.ofChange budgetCountsSpec)

/-- ITS FALSE NEIGHBOUR: 'it returns false'. Refute it at one input. -/
def budgetCountsWrong : ChangeSpec := { name := "budgetCounts", fn := fun _ => fun
  | [d1, d2, d3] => { results := [.lit (.bool false)], args := [d1, d2, d3] }
  | _ => none }
def BudgetCountsWrongFalsely : Prop := budgetCountsRow.holds Tryd.pinned (OpenSpec.ofChange budgetCountsWrong)

/-- 'skaldlaw27.BudgetTimes': WHATEVER THE INPUT: true; the input reads as it did. -/
def budgetTimesSpec : ChangeSpec := { name := "budgetTimes", fn := fun _ => fun
  | [d1, d2, d3] => { results := [.lit (.bool true)], args := [d1, d2, d3] }
  | _ => none }
def budgetTimesRow : OpenClaim := { program := "ytbhklepkcgbniaadoor", sum := "912c933d5be0f461c6cee14906d858b6bf36e4be8db4da22b3c4e1007d8f5704", func := "skald/skaldlaw27.BudgetTimes", spec := "budgetTimes", inPlace := ["internal/bytealg.IndexByteString", "internal/bytealg.IndexString"], unfollowed := true, recurses := true, named := ["unicode/utf8.first", "unicode/utf8.acceptRanges", "internal/bytealg.MaxLen"], apart := false, laid := [("unicode/utf8.acceptRanges", laid_unicode_utf8_acceptRanges), ("unicode/utf8.first", laid_unicode_utf8_first)] }
def BudgetTimesSaid : Prop := budgetTimesRow.holds Tryd.pinned (OpenSpec.ofChange budgetTimesSpec)

/-- ITS FALSE NEIGHBOUR: 'it returns false'. Refute it at one input. -/
def budgetTimesWrong : ChangeSpec := { name := "budgetTimes", fn := fun _ => fun
  | [d1, d2, d3] => { results := [.lit (.bool false)], args := [d1, d2, d3] }
  | _ => none }
def BudgetTimesWrongFalsely : Prop := budgetTimesRow.holds Tryd.pinned (OpenSpec.ofChange budgetTimesWrong)

/-- 'skaldlaw27.BudgetTries': WHATEVER THE INPUT: true; the input reads as it did. -/
def budgetTriesSpec : ChangeSpec := { name := "budgetTries", fn := fun _ => fun
  | [d1, d2, d3, d4] => { results := [.lit (.bool true)], args := [d1, d2, d3, d4] }
  | _ => none }
def budgetTriesRow : OpenClaim := { program := "ytbhklepkcgbniaadoor", sum := "912c933d5be0f461c6cee14906d858b6bf36e4be8db4da22b3c4e1007d8f5704", func := "skald/skaldlaw27.BudgetTries", spec := "budgetTries", inPlace := ["internal/bytealg.IndexByteString", "internal/bytealg.IndexString"], unfollowed := true, recurses := true, named := ["unicode/utf8.first", "unicode/utf8.acceptRanges", "internal/bytealg.MaxLen"], apart := false, laid := [("unicode/utf8.acceptRanges", laid_unicode_utf8_acceptRanges), ("unicode/utf8.first", laid_unicode_utf8_first)] }
def BudgetTriesSaid : Prop := budgetTriesRow.holds Tryd.pinned (OpenSpec.ofChange budgetTriesSpec)

/-- ITS FALSE NEIGHBOUR: 'it returns false'. Refute it at one input. -/
def budgetTriesWrong : ChangeSpec := { name := "budgetTries", fn := fun _ => fun
  | [d1, d2, d3, d4] => { results := [.lit (.bool false)], args := [d1, d2, d3, d4] }
  | _ => none }
def BudgetTriesWrongFalsely : Prop := budgetTriesRow.holds Tryd.pinned (OpenSpec.ofChange budgetTriesWrong)

/-- 'skaldlaw27.BudgetLates': WHATEVER THE INPUT: true; the input reads as it did. -/
def budgetLatesSpec : ChangeSpec := { name := "budgetLates", fn := fun _ => fun
  | [d1, d2, d3, d4, d5] => { results := [.lit (.bool true)], args := [d1, d2, d3, d4, d5] }
  | _ => none }
def budgetLatesRow : OpenClaim := { program := "ytbhklepkcgbniaadoor", sum := "912c933d5be0f461c6cee14906d858b6bf36e4be8db4da22b3c4e1007d8f5704", func := "skald/skaldlaw27.BudgetLates", spec := "budgetLates", inPlace := ["internal/bytealg.IndexByteString", "internal/bytealg.IndexString"], unfollowed := true, recurses := true, named := ["unicode/utf8.first", "unicode/utf8.acceptRanges", "internal/bytealg.MaxLen"], apart := false, laid := [("unicode/utf8.acceptRanges", laid_unicode_utf8_acceptRanges), ("unicode/utf8.first", laid_unicode_utf8_first)] }
def BudgetLatesSaid : Prop := budgetLatesRow.holds Tryd.pinned (OpenSpec.ofChange budgetLatesSpec)

/-- ITS FALSE NEIGHBOUR: 'it returns false'. Refute it at one input. -/
def budgetLatesWrong : ChangeSpec := { name := "budgetLates", fn := fun _ => fun
  | [d1, d2, d3, d4, d5] => { results := [.lit (.bool false)], args := [d1, d2, d3, d4, d5] }
  | _ => none }
def BudgetLatesWrongFalsely : Prop := budgetLatesRow.holds Tryd.pinned (OpenSpec.ofChange budgetLatesWrong)

/-- 'skaldlaw27.BudgetAgain': WHATEVER THE INPUT: true; the input reads as it did. -/
def budgetAgainSpec : ChangeSpec := { name := "budgetAgain", fn := fun _ => fun
  | [d1, d2, d3, d4, d5] => { results := [.lit (.bool true)], args := [d1, d2, d3, d4, d5] }
  | _ => none }
def budgetAgainRow : OpenClaim := { program := "ytbhklepkcgbniaadoor", sum := "912c933d5be0f461c6cee14906d858b6bf36e4be8db4da22b3c4e1007d8f5704", func := "skald/skaldlaw27.BudgetAgain", spec := "budgetAgain", inPlace := ["internal/bytealg.IndexByteString", "internal/bytealg.IndexString"], unfollowed := true, recurses := true, named := ["unicode/utf8.first", "unicode/utf8.acceptRanges", "internal/bytealg.MaxLen"], apart := false, laid := [("unicode/utf8.acceptRanges", laid_unicode_utf8_acceptRanges), ("unicode/utf8.first", laid_unicode_utf8_first)] }
def BudgetAgainSaid : Prop := budgetAgainRow.holds Tryd.pinned (OpenSpec.ofChange budgetAgainSpec)

/-- ITS FALSE NEIGHBOUR: 'it returns false'. Refute it at one input. -/
def budgetAgainWrong : ChangeSpec := { name := "budgetAgain", fn := fun _ => fun
  | [d1, d2, d3, d4, d5] => { results := [.lit (.bool false)], args := [d1, d2, d3, d4, d5] }
  | _ => none }
def BudgetAgainWrongFalsely : Prop := budgetAgainRow.holds Tryd.pinned (OpenSpec.ofChange budgetAgainWrong)

/-- 'skaldlaw27.BudgetRefuses': WHATEVER THE INPUT: true; the input reads as it did. -/
def budgetRefusesSpec : ChangeSpec := { name := "budgetRefuses", fn := fun _ => fun
  | [d1, d2, d3] => { results := [.lit (.bool true)], args := [d1, d2, d3] }
  | _ => none }
def budgetRefusesRow : OpenClaim := { program := "ytbhklepkcgbniaadoor", sum := "912c933d5be0f461c6cee14906d858b6bf36e4be8db4da22b3c4e1007d8f5704", func := "skald/skaldlaw27.BudgetRefuses", spec := "budgetRefuses", inPlace := ["internal/bytealg.IndexByteString", "internal/bytealg.IndexString"], unfollowed := true, recurses := true, named := ["unicode/utf8.first", "unicode/utf8.acceptRanges", "internal/bytealg.MaxLen"], apart := false, laid := [("unicode/utf8.acceptRanges", laid_unicode_utf8_acceptRanges), ("unicode/utf8.first", laid_unicode_utf8_first)] }
def BudgetRefusesSaid : Prop := budgetRefusesRow.holds Tryd.pinned (OpenSpec.ofChange budgetRefusesSpec)

/-- ITS FALSE NEIGHBOUR: 'it returns false'. Refute it at one input. -/
def budgetRefusesWrong : ChangeSpec := { name := "budgetRefuses", fn := fun _ => fun
  | [d1, d2, d3] => { results := [.lit (.bool false)], args := [d1, d2, d3] }
  | _ => none }
def BudgetRefusesWrongFalsely : Prop := budgetRefusesRow.holds Tryd.pinned (OpenSpec.ofChange budgetRefusesWrong)

/-- 'skaldlaw27.BudgetNexts': WHATEVER THE INPUT: true; the input reads as it did. -/
def budgetNextsSpec : ChangeSpec := { name := "budgetNexts", fn := fun _ => fun
  | [d1, d2] => { results := [.lit (.bool true)], args := [d1, d2] }
  | _ => none }
def budgetNextsRow : OpenClaim := { program := "ytbhklepkcgbniaadoor", sum := "912c933d5be0f461c6cee14906d858b6bf36e4be8db4da22b3c4e1007d8f5704", func := "skald/skaldlaw27.BudgetNexts", spec := "budgetNexts", inPlace := ["internal/bytealg.IndexByteString", "internal/bytealg.IndexString"], unfollowed := true, recurses := true, named := ["unicode/utf8.first", "unicode/utf8.acceptRanges", "internal/bytealg.MaxLen"], apart := false, laid := [("unicode/utf8.acceptRanges", laid_unicode_utf8_acceptRanges), ("unicode/utf8.first", laid_unicode_utf8_first)] }
def BudgetNextsSaid : Prop := budgetNextsRow.holds Tryd.pinned (OpenSpec.ofChange budgetNextsSpec)

/-- ITS FALSE NEIGHBOUR: 'it returns false'. Refute it at one input. -/
def budgetNextsWrong : ChangeSpec := { name := "budgetNexts", fn := fun _ => fun
  | [d1, d2] => { results := [.lit (.bool false)], args := [d1, d2] }
  | _ => none }
def BudgetNextsWrongFalsely : Prop := budgetNextsRow.holds Tryd.pinned (OpenSpec.ofChange budgetNextsWrong)

/- THE SECOND FORM. 'bulk': how many values and letters a reading holds, each counted each time it is reached (what is shared counts as often as it is met; a slice's spare places count too). A statement '..UptoSaid' is the law's where the arguments, and the package variables that the reading takes, are together of bulk at most 1048576: NARROWER than '..Said'. Prove '..Said' where nothing that the law and all that it calls make is longer than what came in: it says more and counts as full. Else prove '..UptoSaid'. A law counts once. -/
mutual
def uptoBulk {H : Type} : DataW H → Nat
  | .lit (.string bytes) => bytes.length + 1
  | .lit _ => 1
  | .nil => 1
  | .ptr d => uptoBulk d + 1
  | .slice elems spare => uptoBulkAll elems + uptoBulkAll spare + 1
  | .agg parts => uptoBulkAll parts + 1
  | .iface _ d => uptoBulk d + 1
  | .map entries => uptoBulkEntries entries + 1
  | .held _ => 1
def uptoBulkAll {H : Type} : List (DataW H) → Nat
  | [] => 0
  | d :: r => uptoBulk d + uptoBulkAll r
def uptoBulkEntries {H : Type} : List (Lit × DataW H) → Nat
  | [] => 0
  | x :: r => uptoBulkEntry x + uptoBulkEntries r
def uptoBulkEntry {H : Type} : Lit × DataW H → Nat
  | (.string bytes, d) => bytes.length + uptoBulk d + 1
  | (_, d) => uptoBulk d + 1
 end
def uptoSmall : (H : Type) → List (DataW H) → Bool := fun _ ds => decide (uptoBulkAll ds ≤ 1048576)
def OpenSpec.upto (s : _root_.Go.ChangeSpec) : _root_.Go.OpenSpec := { _root_.Go.OpenSpec.ofChange s with cond := some uptoSmall }

/-- 'skaldlaw27.BudgetStarts', WHERE WHAT IT READS IS OF BULK AT MOST 1048576: true; the input reads as it did. -/
def budgetStartsUptoRow : OpenClaim := { program := "ytbhklepkcgbniaadoor", sum := "912c933d5be0f461c6cee14906d858b6bf36e4be8db4da22b3c4e1007d8f5704", func := "skald/skaldlaw27.BudgetStarts", spec := "budgetStarts", inPlace := ["internal/bytealg.IndexByteString", "internal/bytealg.IndexString"], unfollowed := true, recurses := true, named := ["unicode/utf8.first", "unicode/utf8.acceptRanges", "internal/bytealg.MaxLen"], apart := false, laid := [("unicode/utf8.acceptRanges", laid_unicode_utf8_acceptRanges), ("unicode/utf8.first", laid_unicode_utf8_first)], narrowed := true }
def BudgetStartsUptoSaid : Prop := budgetStartsUptoRow.holds Tryd.pinned (OpenSpec.upto budgetStartsSpec)

/-- 'skaldlaw27.BudgetCounts', WHERE WHAT IT READS IS OF BULK AT MOST 1048576: true; the input reads as it did. -/
def budgetCountsUptoRow : OpenClaim := { program := "ytbhklepkcgbniaadoor", sum := "912c933d5be0f461c6cee14906d858b6bf36e4be8db4da22b3c4e1007d8f5704", func := "skald/skaldlaw27.BudgetCounts", spec := "budgetCounts", inPlace := ["internal/bytealg.IndexByteString", "internal/bytealg.IndexString"], unfollowed := true, recurses := true, named := ["unicode/utf8.first", "unicode/utf8.acceptRanges", "internal/bytealg.MaxLen"], apart := false, laid := [("unicode/utf8.acceptRanges", laid_unicode_utf8_acceptRanges), ("unicode/utf8.first", laid_unicode_utf8_first)], narrowed := true }
def BudgetCountsUptoSaid : Prop := budgetCountsUptoRow.holds Tryd.pinned (OpenSpec.upto budgetCountsSpec)

/-- 'skaldlaw27.BudgetTimes', WHERE WHAT IT READS IS OF BULK AT MOST 1048576: true; the input reads as it did. -/
def budgetTimesUptoRow : OpenClaim := { program := "ytbhklepkcgbniaadoor", sum := "912c933d5be0f461c6cee14906d858b6bf36e4be8db4da22b3c4e1007d8f5704", func := "skald/skaldlaw27.BudgetTimes", spec := "budgetTimes", inPlace := ["internal/bytealg.IndexByteString", "internal/bytealg.IndexString"], unfollowed := true, recurses := true, named := ["unicode/utf8.first", "unicode/utf8.acceptRanges", "internal/bytealg.MaxLen"], apart := false, laid := [("unicode/utf8.acceptRanges", laid_unicode_utf8_acceptRanges), ("unicode/utf8.first", laid_unicode_utf8_first)], narrowed := true }
def BudgetTimesUptoSaid : Prop := budgetTimesUptoRow.holds Tryd.pinned (OpenSpec.upto budgetTimesSpec)

/-- 'skaldlaw27.BudgetTries', WHERE WHAT IT READS IS OF BULK AT MOST 1048576: true; the input reads as it did. -/
def budgetTriesUptoRow : OpenClaim := { program := "ytbhklepkcgbniaadoor", sum := "912c933d5be0f461c6cee14906d858b6bf36e4be8db4da22b3c4e1007d8f5704", func := "skald/skaldlaw27.BudgetTries", spec := "budgetTries", inPlace := ["internal/bytealg.IndexByteString", "internal/bytealg.IndexString"], unfollowed := true, recurses := true, named := ["unicode/utf8.first", "unicode/utf8.acceptRanges", "internal/bytealg.MaxLen"], apart := false, laid := [("unicode/utf8.acceptRanges", laid_unicode_utf8_acceptRanges), ("unicode/utf8.first", laid_unicode_utf8_first)], narrowed := true }
def BudgetTriesUptoSaid : Prop := budgetTriesUptoRow.holds Tryd.pinned (OpenSpec.upto budgetTriesSpec)

/-- 'skaldlaw27.BudgetLates', WHERE WHAT IT READS IS OF BULK AT MOST 1048576: true; the input reads as it did. -/
def budgetLatesUptoRow : OpenClaim := { program := "ytbhklepkcgbniaadoor", sum := "912c933d5be0f461c6cee14906d858b6bf36e4be8db4da22b3c4e1007d8f5704", func := "skald/skaldlaw27.BudgetLates", spec := "budgetLates", inPlace := ["internal/bytealg.IndexByteString", "internal/bytealg.IndexString"], unfollowed := true, recurses := true, named := ["unicode/utf8.first", "unicode/utf8.acceptRanges", "internal/bytealg.MaxLen"], apart := false, laid := [("unicode/utf8.acceptRanges", laid_unicode_utf8_acceptRanges), ("unicode/utf8.first", laid_unicode_utf8_first)], narrowed := true }
def BudgetLatesUptoSaid : Prop := budgetLatesUptoRow.holds Tryd.pinned (OpenSpec.upto budgetLatesSpec)

/-- 'skaldlaw27.BudgetAgain', WHERE WHAT IT READS IS OF BULK AT MOST 1048576: true; the input reads as it did. -/
def budgetAgainUptoRow : OpenClaim := { program := "ytbhklepkcgbniaadoor", sum := "912c933d5be0f461c6cee14906d858b6bf36e4be8db4da22b3c4e1007d8f5704", func := "skald/skaldlaw27.BudgetAgain", spec := "budgetAgain", inPlace := ["internal/bytealg.IndexByteString", "internal/bytealg.IndexString"], unfollowed := true, recurses := true, named := ["unicode/utf8.first", "unicode/utf8.acceptRanges", "internal/bytealg.MaxLen"], apart := false, laid := [("unicode/utf8.acceptRanges", laid_unicode_utf8_acceptRanges), ("unicode/utf8.first", laid_unicode_utf8_first)], narrowed := true }
def BudgetAgainUptoSaid : Prop := budgetAgainUptoRow.holds Tryd.pinned (OpenSpec.upto budgetAgainSpec)

/-- 'skaldlaw27.BudgetRefuses', WHERE WHAT IT READS IS OF BULK AT MOST 1048576: true; the input reads as it did. -/
def budgetRefusesUptoRow : OpenClaim := { program := "ytbhklepkcgbniaadoor", sum := "912c933d5be0f461c6cee14906d858b6bf36e4be8db4da22b3c4e1007d8f5704", func := "skald/skaldlaw27.BudgetRefuses", spec := "budgetRefuses", inPlace := ["internal/bytealg.IndexByteString", "internal/bytealg.IndexString"], unfollowed := true, recurses := true, named := ["unicode/utf8.first", "unicode/utf8.acceptRanges", "internal/bytealg.MaxLen"], apart := false, laid := [("unicode/utf8.acceptRanges", laid_unicode_utf8_acceptRanges), ("unicode/utf8.first", laid_unicode_utf8_first)], narrowed := true }
def BudgetRefusesUptoSaid : Prop := budgetRefusesUptoRow.holds Tryd.pinned (OpenSpec.upto budgetRefusesSpec)

/-- 'skaldlaw27.BudgetNexts', WHERE WHAT IT READS IS OF BULK AT MOST 1048576: true; the input reads as it did. -/
def budgetNextsUptoRow : OpenClaim := { program := "ytbhklepkcgbniaadoor", sum := "912c933d5be0f461c6cee14906d858b6bf36e4be8db4da22b3c4e1007d8f5704", func := "skald/skaldlaw27.BudgetNexts", spec := "budgetNexts", inPlace := ["internal/bytealg.IndexByteString", "internal/bytealg.IndexString"], unfollowed := true, recurses := true, named := ["unicode/utf8.first", "unicode/utf8.acceptRanges", "internal/bytealg.MaxLen"], apart := false, laid := [("unicode/utf8.acceptRanges", laid_unicode_utf8_acceptRanges), ("unicode/utf8.first", laid_unicode_utf8_first)], narrowed := true }
def BudgetNextsUptoSaid : Prop := budgetNextsUptoRow.holds Tryd.pinned (OpenSpec.upto budgetNextsSpec)

end Rows
end Go.Proofs.YtbhklepkcgbniaaDoor
