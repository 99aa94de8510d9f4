/-
  NARROWER THAN 'FOR EVERY INPUT', by the rows' own cells (each row's printed sentence says how): MovesApart: laid · MovesKnown: laid · MovesCourse: laid · MovesEnds: laid · MovesPlays: laid · MovesNil: laid · MovesStarts: laid · MovesCopies: laid.
  DERIVED. THE GIVEN ROWS OF THIS SEAT. 8 by the template 'for every input the law returns true; each argument reads behind the call as it read before'; 0 by the template 'total and deterministic' (their statements: YtghcfpoccafbjaaDoorTotals.lean).
  GIVEN WITH THE SEED: the statements are not yours to turn. If you find one false, say at which input.
  Laid BY PROGRAM, IN A SANDBOX (cutbox-rows.mjs): the forced cells as the released guide's own fill.sh prints them over the translation bdc49e4fe5634406… (all of the seat's roots in one cut). By AI agents, Wed Nov 11 2026. No macro, syntax, notation, axiom, sorry.
-/
import Derived.Test.YtghcfpoccafbjaaDoorChecked
import GoSem.PinnedTables
import GoSem.Claim
import GoSem.ClaimJoined
import GoSem.ClaimMapViews
import Derived.JoinedTies
import Derived.KernelRfl
namespace Go.Proofs.YtghcfpoccafbjaaDoor
/- THE CELL 'sum', in the pinned program and in every row, IS THE sha256 OF THE DUMP (.gsa) THAT YtghcfpoccafbjaaDoorProg.lean LOADS. Nothing in Lean hashes anything: it is a label: what it is worth is what the hold of that sum in a sandbox is worth. -/
noncomputable def Tryd.pinned : Pinned := { name := "ytghcfpoccafbjaadoor", sum := "bdc49e4fe5634406eb0e3a8515dbd1f3f6151e1a84af0f818b02c00217fea05f", checked := Tryd.checked }
namespace Rows
def none {H : Type} : Left H := { results := [], args := [] }

/- WHAT THE LISTED PACKAGE-LEVEL VARIABLES READ AS WHEN THE CALL BEGINS. Each datum BY PROGRAM (the guide's laid-datum.mjs) off the statement by which the dump's own 'gosem.cut.vars' lays the variable. In a bare row this is a premise. The card (YtghcfpoccafbjaaDoorCards.lean) ties it to the program's text. -/
def laid_unicode_utf8_acceptRanges {H : Type} : DataW H := .agg [.agg [.lit (.int .u8 128), .lit (.int .u8 191)], .agg [.lit (.int .u8 160), .lit (.int .u8 191)], .agg [.lit (.int .u8 128), .lit (.int .u8 159)], .agg [.lit (.int .u8 144), .lit (.int .u8 191)], .agg [.lit (.int .u8 128), .lit (.int .u8 143)], .agg [.lit (.int .u8 0), .lit (.int .u8 0)], .agg [.lit (.int .u8 0), .lit (.int .u8 0)], .agg [.lit (.int .u8 0), .lit (.int .u8 0)], .agg [.lit (.int .u8 0), .lit (.int .u8 0)], .agg [.lit (.int .u8 0), .lit (.int .u8 0)], .agg [.lit (.int .u8 0), .lit (.int .u8 0)], .agg [.lit (.int .u8 0), .lit (.int .u8 0)], .agg [.lit (.int .u8 0), .lit (.int .u8 0)], .agg [.lit (.int .u8 0), .lit (.int .u8 0)], .agg [.lit (.int .u8 0), .lit (.int .u8 0)], .agg [.lit (.int .u8 0), .lit (.int .u8 0)]]
/-- One of Go's own tables, pinned by name: the form's constant. -/
def laid_unicode_utf8_first : DataW Unit := Go.Pinned.utf8First

/-- 'skaldlaw32.MovesApart': WHATEVER THE INPUT: true; the input reads as it did. -/
def movesApartSpec : ChangeSpec := { name := "movesApart", fn := fun _ => fun
  | [d1, d2] => { results := [.lit (.bool true)], args := [d1, d2] }
  | _ => none }
def movesApartRow : OpenClaim := { program := "ytghcfpoccafbjaadoor", sum := "bdc49e4fe5634406eb0e3a8515dbd1f3f6151e1a84af0f818b02c00217fea05f", func := "skald/skaldlaw32.MovesApart", spec := "movesApart", inPlace := ["internal/bytealg.IndexByteString", "internal/bytealg.IndexString"], unfollowed := true, recurses := true, named := ["unicode/utf8.first", "unicode/utf8.acceptRanges", "internal/bytealg.MaxLen"], apart := false, laid := [("unicode/utf8.acceptRanges", laid_unicode_utf8_acceptRanges), ("unicode/utf8.first", laid_unicode_utf8_first)] }
def MovesApartSaid : Prop := movesApartRow.holds Tryd.pinned (OpenSpec.ofChange movesApartSpec)

/-- ITS FALSE NEIGHBOUR: 'it returns false'. Refute it at one input. -/
def movesApartWrong : ChangeSpec := { name := "movesApart", fn := fun _ => fun
  | [d1, d2] => { results := [.lit (.bool false)], args := [d1, d2] }
  | _ => none }
def MovesApartWrongFalsely : Prop := movesApartRow.holds Tryd.pinned (OpenSpec.ofChange movesApartWrong)

/-- 'skaldlaw32.MovesKnown': WHATEVER THE INPUT: true; the input reads as it did. -/
def movesKnownSpec : ChangeSpec := { name := "movesKnown", fn := fun _ => fun
  | [] => { results := [.lit (.bool true)], args := [] }
  | _ => none }
def movesKnownRow : OpenClaim := { program := "ytghcfpoccafbjaadoor", sum := "bdc49e4fe5634406eb0e3a8515dbd1f3f6151e1a84af0f818b02c00217fea05f", func := "skald/skaldlaw32.MovesKnown", spec := "movesKnown", inPlace := ["internal/bytealg.IndexByteString", "internal/bytealg.IndexString"], unfollowed := true, recurses := true, named := ["unicode/utf8.first", "unicode/utf8.acceptRanges", "internal/bytealg.MaxLen"], apart := false, laid := [("unicode/utf8.acceptRanges", laid_unicode_utf8_acceptRanges), ("unicode/utf8.first", laid_unicode_utf8_first)] }
def MovesKnownSaid : Prop := movesKnownRow.holds Tryd.pinned (OpenSpec.ofChange movesKnownSpec)

/-- ITS FALSE NEIGHBOUR: 'it returns false'. Refute it at one input. -/
def movesKnownWrong : ChangeSpec := { name := "movesKnown", fn := fun _ => fun
  | [] => { results := [.lit (.bool false)], args := [] }
  | _ => none }
def MovesKnownWrongFalsely : Prop := movesKnownRow.holds Tryd.pinned (OpenSpec.ofChange movesKnownWrong)

/-- 'skaldlaw32.MovesCourse': WHATEVER THE INPUT: true; the input reads as it did. -/
def movesCourseSpec : ChangeSpec := { name := "movesCourse", fn := fun _ => fun
  | [d] => { results := [.lit (.bool true)], args := [d] }
  | _ => none }
def movesCourseRow : OpenClaim := { program := "ytghcfpoccafbjaadoor", sum := "bdc49e4fe5634406eb0e3a8515dbd1f3f6151e1a84af0f818b02c00217fea05f", func := "skald/skaldlaw32.MovesCourse", spec := "movesCourse", inPlace := ["internal/bytealg.IndexByteString", "internal/bytealg.IndexString"], unfollowed := true, recurses := true, named := ["unicode/utf8.first", "unicode/utf8.acceptRanges", "internal/bytealg.MaxLen"], apart := false, laid := [("unicode/utf8.acceptRanges", laid_unicode_utf8_acceptRanges), ("unicode/utf8.first", laid_unicode_utf8_first)] }
def MovesCourseSaid : Prop := movesCourseRow.holds Tryd.pinned (OpenSpec.ofChange movesCourseSpec)

/-- ITS FALSE NEIGHBOUR: 'it returns false'. Refute it at one input. -/
def movesCourseWrong : ChangeSpec := { name := "movesCourse", fn := fun _ => fun
  | [d] => { results := [.lit (.bool false)], args := [d] }
  | _ => none }
def MovesCourseWrongFalsely : Prop := movesCourseRow.holds Tryd.pinned (OpenSpec.ofChange movesCourseWrong)

/-- 'skaldlaw32.MovesEnds': WHATEVER THE INPUT: true; the input reads as it did. -/
def movesEndsSpec : ChangeSpec := { name := "movesEnds", fn := fun _ => fun
  | [d1, d2] => { results := [.lit (.bool true)], args := [d1, d2] }
  | _ => none }
def movesEndsRow : OpenClaim := { program := "ytghcfpoccafbjaadoor", sum := "bdc49e4fe5634406eb0e3a8515dbd1f3f6151e1a84af0f818b02c00217fea05f", func := "skald/skaldlaw32.MovesEnds", spec := "movesEnds", inPlace := ["internal/bytealg.IndexByteString", "internal/bytealg.IndexString"], unfollowed := true, recurses := true, named := ["unicode/utf8.first", "unicode/utf8.acceptRanges", "internal/bytealg.MaxLen"], apart := false, laid := [("unicode/utf8.acceptRanges", laid_unicode_utf8_acceptRanges), ("unicode/utf8.first", laid_unicode_utf8_first)] }
def MovesEndsSaid : Prop := movesEndsRow.holds Tryd.pinned (OpenSpec.ofChange movesEndsSpec)

/-- ITS FALSE NEIGHBOUR: 'it returns false'. Refute it at one input. -/
def movesEndsWrong : ChangeSpec := { name := "movesEnds", fn := fun _ => fun
  | [d1, d2] => { results := [.lit (.bool false)], args := [d1, d2] }
  | _ => none }
def MovesEndsWrongFalsely : Prop := movesEndsRow.holds Tryd.pinned (OpenSpec.ofChange movesEndsWrong)

/-- 'skaldlaw32.MovesPlays': WHATEVER THE INPUT: true; the input reads as it did. -/
def movesPlaysSpec : ChangeSpec := { name := "movesPlays", fn := fun _ => fun
  | [d1, d2] => { results := [.lit (.bool true)], args := [d1, d2] }
  | _ => none }
def movesPlaysRow : OpenClaim := { program := "ytghcfpoccafbjaadoor", sum := "bdc49e4fe5634406eb0e3a8515dbd1f3f6151e1a84af0f818b02c00217fea05f", func := "skald/skaldlaw32.MovesPlays", spec := "movesPlays", inPlace := ["internal/bytealg.IndexByteString", "internal/bytealg.IndexString"], unfollowed := true, recurses := true, named := ["unicode/utf8.first", "unicode/utf8.acceptRanges", "internal/bytealg.MaxLen"], apart := false, laid := [("unicode/utf8.acceptRanges", laid_unicode_utf8_acceptRanges), ("unicode/utf8.first", laid_unicode_utf8_first)] }
def MovesPlaysSaid : Prop := movesPlaysRow.holds Tryd.pinned (OpenSpec.ofChange movesPlaysSpec)

/-- ITS FALSE NEIGHBOUR: 'it returns false'. Refute it at one input. -/
def movesPlaysWrong : ChangeSpec := { name := "movesPlays", fn := fun _ => fun
  | [d1, d2] => { results := [.lit (.bool false)], args := [d1, d2] }
  | _ => none }
def MovesPlaysWrongFalsely : Prop := movesPlaysRow.holds Tryd.pinned (OpenSpec.ofChange movesPlaysWrong)

/-- 'skaldlaw32.MovesNil': WHATEVER THE INPUT: true; the input reads as it did. -/
def movesNilSpec : ChangeSpec := { name := "movesNil", fn := fun _ => fun
  | [d] => { results := [.lit (.bool true)], args := [d] }
  | _ => none }
def movesNilRow : OpenClaim := { program := "ytghcfpoccafbjaadoor", sum := "bdc49e4fe5634406eb0e3a8515dbd1f3f6151e1a84af0f818b02c00217fea05f", func := "skald/skaldlaw32.MovesNil", spec := "movesNil", inPlace := ["internal/bytealg.IndexByteString", "internal/bytealg.IndexString"], unfollowed := true, recurses := true, named := ["unicode/utf8.first", "unicode/utf8.acceptRanges", "internal/bytealg.MaxLen"], apart := false, laid := [("unicode/utf8.acceptRanges", laid_unicode_utf8_acceptRanges), ("unicode/utf8.first", laid_unicode_utf8_first)] }
def MovesNilSaid : Prop := movesNilRow.holds Tryd.pinned (OpenSpec.ofChange movesNilSpec)

/-- ITS FALSE NEIGHBOUR: 'it returns false'. Refute it at one input. -/
def movesNilWrong : ChangeSpec := { name := "movesNil", fn := fun _ => fun
  | [d] => { results := [.lit (.bool false)], args := [d] }
  | _ => none }
def MovesNilWrongFalsely : Prop := movesNilRow.holds Tryd.pinned (OpenSpec.ofChange movesNilWrong)

/-- 'skaldlaw32.MovesStarts': WHATEVER THE INPUT: true; the input reads as it did. -/
def movesStartsSpec : ChangeSpec := { name := "movesStarts", fn := fun _ => fun
  | [d1, d2, d3, d4] => { results := [.lit (.bool true)], args := [d1, d2, d3, d4] }
  | _ => none }
def movesStartsRow : OpenClaim := { program := "ytghcfpoccafbjaadoor", sum := "bdc49e4fe5634406eb0e3a8515dbd1f3f6151e1a84af0f818b02c00217fea05f", func := "skald/skaldlaw32.MovesStarts", spec := "movesStarts", inPlace := ["internal/bytealg.IndexByteString", "internal/bytealg.IndexString"], unfollowed := true, recurses := true, named := ["unicode/utf8.first", "unicode/utf8.acceptRanges", "internal/bytealg.MaxLen"], apart := false, laid := [("unicode/utf8.acceptRanges", laid_unicode_utf8_acceptRanges), ("unicode/utf8.first", laid_unicode_utf8_first)] }
def MovesStartsSaid : Prop := movesStartsRow.holds Tryd.pinned (OpenSpec.ofChange movesStartsSpec)

/-- ITS FALSE NEIGHBOUR: 'it returns false'. Refute it at one input. -/
def movesStartsWrong : ChangeSpec := { name := "movesStarts", fn := fun _ => fun
  | [d1, d2, d3, d4] => { results := [.lit (.bool false)], args := [d1, d2, d3, d4] }
  | _ => none }
def MovesStartsWrongFalsely : Prop := movesStartsRow.holds Tryd.pinned (OpenSpec.ofChange movesStartsWrong)

/-- 'skaldlaw32.MovesCopies': WHATEVER THE INPUT: true; the input reads as it did. -/
def movesCopiesSpec : ChangeSpec := { name := "movesCopies", fn := fun _ => fun
  | [d1, d2] => { results := [.lit (.bool true)], args := [d1, d2] }
  | _ => none }
def movesCopiesRow : OpenClaim := { program := "ytghcfpoccafbjaadoor", sum := "bdc49e4fe5634406eb0e3a8515dbd1f3f6151e1a84af0f818b02c00217fea05f", func := "skald/skaldlaw32.MovesCopies", spec := "movesCopies", inPlace := ["internal/bytealg.IndexByteString", "internal/bytealg.IndexString"], unfollowed := true, recurses := true, named := ["unicode/utf8.first", "unicode/utf8.acceptRanges", "internal/bytealg.MaxLen"], apart := false, laid := [("unicode/utf8.acceptRanges", laid_unicode_utf8_acceptRanges), ("unicode/utf8.first", laid_unicode_utf8_first)] }
def MovesCopiesSaid : Prop := movesCopiesRow.holds Tryd.pinned (OpenSpec.ofChange movesCopiesSpec)

/-- ITS FALSE NEIGHBOUR: 'it returns false'. Refute it at one input. -/
def movesCopiesWrong : ChangeSpec := { name := "movesCopies", fn := fun _ => fun
  | [d1, d2] => { results := [.lit (.bool false)], args := [d1, d2] }
  | _ => none }
def MovesCopiesWrongFalsely : Prop := movesCopiesRow.holds Tryd.pinned (OpenSpec.ofChange movesCopiesWrong)

/- THE SECOND FORM. 'bulk': how many values and letters a reading holds, each counted each time it is reached (what is shared counts as often as it is met; a slice's spare places count too). A statement '..UptoSaid' is the law's where the arguments, and the package variables that the reading takes, are together of bulk at most 1048576: NARROWER than '..Said'. Prove '..Said' where nothing that the law and all that it calls make is longer than what came in: it says more and counts as full. Else prove '..UptoSaid'. A law counts once. -/
mutual
def uptoBulk {H : Type} : DataW H → Nat
  | .lit (.string bytes) => bytes.length + 1
  | .lit _ => 1
  | .nil => 1
  | .ptr d => uptoBulk d + 1
  | .slice elems spare => uptoBulkAll elems + uptoBulkAll spare + 1
  | .agg parts => uptoBulkAll parts + 1
  | .iface _ d => uptoBulk d + 1
  | .map entries => uptoBulkEntries entries + 1
  | .held _ => 1
def uptoBulkAll {H : Type} : List (DataW H) → Nat
  | [] => 0
  | d :: r => uptoBulk d + uptoBulkAll r
def uptoBulkEntries {H : Type} : List (Lit × DataW H) → Nat
  | [] => 0
  | x :: r => uptoBulkEntry x + uptoBulkEntries r
def uptoBulkEntry {H : Type} : Lit × DataW H → Nat
  | (.string bytes, d) => bytes.length + uptoBulk d + 1
  | (_, d) => uptoBulk d + 1
 end
def uptoSmall : (H : Type) → List (DataW H) → Bool := fun _ ds => decide (uptoBulkAll ds ≤ 1048576)
def OpenSpec.upto (s : _root_.Go.ChangeSpec) : _root_.Go.OpenSpec := { _root_.Go.OpenSpec.ofChange s with cond := some uptoSmall }

/-- 'skaldlaw32.MovesApart', WHERE WHAT IT READS IS OF BULK AT MOST 1048576: true; the input reads as it did. -/
def movesApartUptoRow : OpenClaim := { program := "ytghcfpoccafbjaadoor", sum := "bdc49e4fe5634406eb0e3a8515dbd1f3f6151e1a84af0f818b02c00217fea05f", func := "skald/skaldlaw32.MovesApart", spec := "movesApart", inPlace := ["internal/bytealg.IndexByteString", "internal/bytealg.IndexString"], unfollowed := true, recurses := true, named := ["unicode/utf8.first", "unicode/utf8.acceptRanges", "internal/bytealg.MaxLen"], apart := false, laid := [("unicode/utf8.acceptRanges", laid_unicode_utf8_acceptRanges), ("unicode/utf8.first", laid_unicode_utf8_first)], narrowed := true }
def MovesApartUptoSaid : Prop := movesApartUptoRow.holds Tryd.pinned (OpenSpec.upto movesApartSpec)

/-- 'skaldlaw32.MovesKnown', WHERE WHAT IT READS IS OF BULK AT MOST 1048576: true; the input reads as it did. -/
def movesKnownUptoRow : OpenClaim := { program := "ytghcfpoccafbjaadoor", sum := "bdc49e4fe5634406eb0e3a8515dbd1f3f6151e1a84af0f818b02c00217fea05f", func := "skald/skaldlaw32.MovesKnown", spec := "movesKnown", inPlace := ["internal/bytealg.IndexByteString", "internal/bytealg.IndexString"], unfollowed := true, recurses := true, named := ["unicode/utf8.first", "unicode/utf8.acceptRanges", "internal/bytealg.MaxLen"], apart := false, laid := [("unicode/utf8.acceptRanges", laid_unicode_utf8_acceptRanges), ("unicode/utf8.first", laid_unicode_utf8_first)], narrowed := true }
def MovesKnownUptoSaid : Prop := movesKnownUptoRow.holds Tryd.pinned (OpenSpec.upto movesKnownSpec)

/-- 'skaldlaw32.MovesCourse', WHERE WHAT IT READS IS OF BULK AT MOST 1048576: true; the input reads as it did. -/
def movesCourseUptoRow : OpenClaim := { program := "ytghcfpoccafbjaadoor", sum := "bdc49e4fe5634406eb0e3a8515dbd1f3f6151e1a84af0f818b02c00217fea05f", func := "skald/skaldlaw32.MovesCourse", spec := "movesCourse", inPlace := ["internal/bytealg.IndexByteString", "internal/bytealg.IndexString"], unfollowed := true, recurses := true, named := ["unicode/utf8.first", "unicode/utf8.acceptRanges", "internal/bytealg.MaxLen"], apart := false, laid := [("unicode/utf8.acceptRanges", laid_unicode_utf8_acceptRanges), ("unicode/utf8.first", laid_unicode_utf8_first)], narrowed := true }
def MovesCourseUptoSaid : Prop := movesCourseUptoRow.holds Tryd.pinned (OpenSpec.upto movesCourseSpec)

/-- 'skaldlaw32.MovesEnds', WHERE WHAT IT READS IS OF BULK AT MOST 1048576: true; the input reads as it did. -/
def movesEndsUptoRow : OpenClaim := { program := "ytghcfpoccafbjaadoor", sum := "bdc49e4fe5634406eb0e3a8515dbd1f3f6151e1a84af0f818b02c00217fea05f", func := "skald/skaldlaw32.MovesEnds", spec := "movesEnds", inPlace := ["internal/bytealg.IndexByteString", "internal/bytealg.IndexString"], unfollowed := true, recurses := true, named := ["unicode/utf8.first", "unicode/utf8.acceptRanges", "internal/bytealg.MaxLen"], apart := false, laid := [("unicode/utf8.acceptRanges", laid_unicode_utf8_acceptRanges), ("unicode/utf8.first", laid_unicode_utf8_first)], narrowed := true }
def MovesEndsUptoSaid : Prop := movesEndsUptoRow.holds Tryd.pinned (OpenSpec.upto movesEndsSpec)

/-- 'skaldlaw32.MovesPlays', WHERE WHAT IT READS IS OF BULK AT MOST 1048576: true; the input reads as it did. -/
def movesPlaysUptoRow : OpenClaim := { program := "ytghcfpoccafbjaadoor", sum := "bdc49e4fe5634406eb0e3a8515dbd1f3f6151e1a84af0f818b02c00217fea05f", func := "skald/skaldlaw32.MovesPlays", spec := "movesPlays", inPlace := ["internal/bytealg.IndexByteString", "internal/bytealg.IndexString"], unfollowed := true, recurses := true, named := ["unicode/utf8.first", "unicode/utf8.acceptRanges", "internal/bytealg.MaxLen"], apart := false, laid := [("unicode/utf8.acceptRanges", laid_unicode_utf8_acceptRanges), ("unicode/utf8.first", laid_unicode_utf8_first)], narrowed := true }
def MovesPlaysUptoSaid : Prop := movesPlaysUptoRow.holds Tryd.pinned (OpenSpec.upto movesPlaysSpec)

/-- 'skaldlaw32.MovesNil', WHERE WHAT IT READS IS OF BULK AT MOST 1048576: true; the input reads as it did. -/
def movesNilUptoRow : OpenClaim := { program := "ytghcfpoccafbjaadoor", sum := "bdc49e4fe5634406eb0e3a8515dbd1f3f6151e1a84af0f818b02c00217fea05f", func := "skald/skaldlaw32.MovesNil", spec := "movesNil", inPlace := ["internal/bytealg.IndexByteString", "internal/bytealg.IndexString"], unfollowed := true, recurses := true, named := ["unicode/utf8.first", "unicode/utf8.acceptRanges", "internal/bytealg.MaxLen"], apart := false, laid := [("unicode/utf8.acceptRanges", laid_unicode_utf8_acceptRanges), ("unicode/utf8.first", laid_unicode_utf8_first)], narrowed := true }
def MovesNilUptoSaid : Prop := movesNilUptoRow.holds Tryd.pinned (OpenSpec.upto movesNilSpec)

/-- 'skaldlaw32.MovesStarts', WHERE WHAT IT READS IS OF BULK AT MOST 1048576: true; the input reads as it did. -/
def movesStartsUptoRow : OpenClaim := { program := "ytghcfpoccafbjaadoor", sum := "bdc49e4fe5634406eb0e3a8515dbd1f3f6151e1a84af0f818b02c00217fea05f", func := "skald/skaldlaw32.MovesStarts", spec := "movesStarts", inPlace := ["internal/bytealg.IndexByteString", "internal/bytealg.IndexString"], unfollowed := true, recurses := true, named := ["unicode/utf8.first", "unicode/utf8.acceptRanges", "internal/bytealg.MaxLen"], apart := false, laid := [("unicode/utf8.acceptRanges", laid_unicode_utf8_acceptRanges), ("unicode/utf8.first", laid_unicode_utf8_first)], narrowed := true }
def MovesStartsUptoSaid : Prop := movesStartsUptoRow.holds Tryd.pinned (OpenSpec.upto movesStartsSpec)

/-- 'skaldlaw32.MovesCopies', WHERE WHAT IT READS IS OF BULK AT MOST 1048576: true; the input reads as it did. -/
def movesCopiesUptoRow : OpenClaim := { program := "ytghcfpoccafbjaadoor", sum := "bdc49e4fe5634406eb0e3a8515dbd1f3f6151e1a84af0f818b02c00217fea05f", func := "skald/skaldlaw32.MovesCopies", spec := "movesCopies", inPlace := ["internal/bytealg.IndexByteString", "internal/bytealg.IndexString"], unfollowed := true, recurses := true, named := ["unicode/utf8.first", "unicode/utf8.acceptRanges", "internal/bytealg.MaxLen"], apart := false, laid := [("unicode/utf8.acceptRanges", laid_unicode_utf8_acceptRanges), ("unicode/utf8.first", laid_unicode_utf8_first)], narrowed := true }
def MovesCopiesUptoSaid : Prop := movesCopiesUptoRow.holds Tryd.pinned (OpenSpec.upto movesCopiesSpec)

end Rows
end Go.Proofs.YtghcfpoccafbjaaDoor
