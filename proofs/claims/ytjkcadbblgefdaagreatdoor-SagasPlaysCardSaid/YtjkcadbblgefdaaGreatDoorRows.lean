/-
  NARROWER THAN 'FOR EVERY INPUT', by the rows' own cells (each row's printed sentence says how): SagasPlays: laid · SagasNil: laid · SagasTurns: laid · SagasAlone: laid · SagasEnds: laid · SagasPuts: laid · SagasFull: laid.
  DERIVED. THE GIVEN ROWS OF THIS SEAT. 7 by the template 'for every input the law returns true; each argument reads behind the call as it read before'; 0 by the template 'total and deterministic' (their statements: YtjkcadbblgefdaaGreatDoorTotals.lean).
  GIVEN WITH THE SEED: the statements are not yours to turn. If you find one false, say at which input.
  Laid BY PROGRAM, IN A SANDBOX (cutbox-rows.mjs): the forced cells as the released guide's own fill.sh prints them over the translation f5a2c2513c4496dd… (all of the seat's roots in one cut). By AI agents, Wed Nov 11 2026. No macro, syntax, notation, axiom, sorry.
-/
import Derived.Test.YtjkcadbblgefdaaGreatDoorChecked
import GoSem.PinnedTables
import GoSem.Claim
import GoSem.ClaimJoined
import GoSem.ClaimMapViews
import Derived.JoinedTies
import Derived.KernelRfl
namespace Go.Proofs.YtjkcadbblgefdaaGreatDoor
/- THE CELL 'sum', in the pinned program and in every row, IS THE sha256 OF THE DUMP (.gsa) THAT YtjkcadbblgefdaaGreatDoorProg.lean LOADS. Nothing in Lean hashes anything: it is a label: what it is worth is what the hold of that sum in a sandbox is worth. -/
noncomputable def Tryz.pinned : Pinned := { name := "ytjkcadbblgefdaagreatdoor", sum := "f5a2c2513c4496dd32f73e195b99bc05775a59e217d7b506d1cfe3e08dfa14e2", checked := Tryz.checked }
namespace Rows
def none {H : Type} : Left H := { results := [], args := [] }

/- WHAT THE LISTED PACKAGE-LEVEL VARIABLES READ AS WHEN THE CALL BEGINS. Each datum BY PROGRAM (the guide's laid-datum.mjs) off the statement by which the dump's own 'gosem.cut.vars' lays the variable. In a bare row this is a premise. The card (YtjkcadbblgefdaaGreatDoorCards.lean) ties it to the program's text. -/
def laid_unicode_utf8_acceptRanges {H : Type} : DataW H := .agg [.agg [.lit (.int .u8 128), .lit (.int .u8 191)], .agg [.lit (.int .u8 160), .lit (.int .u8 191)], .agg [.lit (.int .u8 128), .lit (.int .u8 159)], .agg [.lit (.int .u8 144), .lit (.int .u8 191)], .agg [.lit (.int .u8 128), .lit (.int .u8 143)], .agg [.lit (.int .u8 0), .lit (.int .u8 0)], .agg [.lit (.int .u8 0), .lit (.int .u8 0)], .agg [.lit (.int .u8 0), .lit (.int .u8 0)], .agg [.lit (.int .u8 0), .lit (.int .u8 0)], .agg [.lit (.int .u8 0), .lit (.int .u8 0)], .agg [.lit (.int .u8 0), .lit (.int .u8 0)], .agg [.lit (.int .u8 0), .lit (.int .u8 0)], .agg [.lit (.int .u8 0), .lit (.int .u8 0)], .agg [.lit (.int .u8 0), .lit (.int .u8 0)], .agg [.lit (.int .u8 0), .lit (.int .u8 0)], .agg [.lit (.int .u8 0), .lit (.int .u8 0)]]
def laid_skald_saga_phases {H : Type} : DataW H := .agg [.lit (.int .i64 0), .lit (.int .i64 1), .lit (.int .i64 3), .lit (.int .i64 2)]
def laid_skald_saga_follow {H : Type} : DataW H := .iface "func table" (.agg [.nil, .iface "func" (.lit (.string [40, 115, 107, 97, 108, 100, 47, 115, 97, 103, 97, 46, 83, 97, 103, 97, 41, 46, 102, 111, 114, 119, 97, 114, 100])), .iface "func" (.lit (.string [40, 115, 107, 97, 108, 100, 47, 115, 97, 103, 97, 46, 83, 97, 103, 97, 41, 46, 102, 114, 101, 101])), .iface "func" (.lit (.string [40, 115, 107, 97, 108, 100, 47, 115, 97, 103, 97, 46, 83, 97, 103, 97, 41, 46, 117, 110, 100, 111]))])
/-- One of Go's own tables, pinned by name: the form's constant. -/
def laid_unicode_utf8_first : DataW Unit := Go.Pinned.utf8First

/-- 'skaldlaw29.SagasPlays': WHATEVER THE INPUT: true; the input reads as it did. -/
def sagasPlaysSpec : ChangeSpec := { name := "sagasPlays", fn := fun _ => fun
  | [d1, d2] => { results := [.lit (.bool true)], args := [d1, d2] }
  | _ => none }
def sagasPlaysRow : OpenClaim := { program := "ytjkcadbblgefdaagreatdoor", sum := "f5a2c2513c4496dd32f73e195b99bc05775a59e217d7b506d1cfe3e08dfa14e2", func := "skald/skaldlaw29.SagasPlays", spec := "sagasPlays", inPlace := ["internal/bytealg.IndexByteString", "internal/bytealg.IndexString"], unfollowed := true, recurses := true, named := ["unicode/utf8.first", "unicode/utf8.acceptRanges", "skald/saga.follow", "skald/saga.phases", "internal/bytealg.MaxLen"], apart := false, laid := [("unicode/utf8.acceptRanges", laid_unicode_utf8_acceptRanges), ("skald/saga.phases", laid_skald_saga_phases), ("skald/saga.follow", laid_skald_saga_follow), ("unicode/utf8.first", laid_unicode_utf8_first)] }
def SagasPlaysSaid : Prop := sagasPlaysRow.holds Tryz.pinned (OpenSpec.ofChange sagasPlaysSpec)

/-- ITS FALSE NEIGHBOUR: 'it returns false'. Refute it at one input. -/
def sagasPlaysWrong : ChangeSpec := { name := "sagasPlays", fn := fun _ => fun
  | [d1, d2] => { results := [.lit (.bool false)], args := [d1, d2] }
  | _ => none }
def SagasPlaysWrongFalsely : Prop := sagasPlaysRow.holds Tryz.pinned (OpenSpec.ofChange sagasPlaysWrong)

/-- 'skaldlaw29.SagasNil': WHATEVER THE INPUT: true; the input reads as it did. -/
def sagasNilSpec : ChangeSpec := { name := "sagasNil", fn := fun _ => fun
  | [d] => { results := [.lit (.bool true)], args := [d] }
  | _ => none }
def sagasNilRow : OpenClaim := { program := "ytjkcadbblgefdaagreatdoor", sum := "f5a2c2513c4496dd32f73e195b99bc05775a59e217d7b506d1cfe3e08dfa14e2", func := "skald/skaldlaw29.SagasNil", spec := "sagasNil", inPlace := ["internal/bytealg.IndexByteString", "internal/bytealg.IndexString"], unfollowed := true, recurses := true, named := ["unicode/utf8.first", "unicode/utf8.acceptRanges", "skald/saga.follow", "skald/saga.phases", "internal/bytealg.MaxLen"], apart := false, laid := [("unicode/utf8.acceptRanges", laid_unicode_utf8_acceptRanges), ("skald/saga.phases", laid_skald_saga_phases), ("skald/saga.follow", laid_skald_saga_follow), ("unicode/utf8.first", laid_unicode_utf8_first)] }
def SagasNilSaid : Prop := sagasNilRow.holds Tryz.pinned (OpenSpec.ofChange sagasNilSpec)

/-- ITS FALSE NEIGHBOUR: 'it returns false'. Refute it at one input. -/
def sagasNilWrong : ChangeSpec := { name := "sagasNil", fn := fun _ => fun
  | [d] => { results := [.lit (.bool false)], args := [d] }
  | _ => none }
def SagasNilWrongFalsely : Prop := sagasNilRow.holds Tryz.pinned (OpenSpec.ofChange sagasNilWrong)

/-- 'skaldlaw29.SagasTurns': WHATEVER THE INPUT: true; the input reads as it did. -/
def sagasTurnsSpec : ChangeSpec := { name := "sagasTurns", fn := fun _ => fun
  | [d1, d2] => { results := [.lit (.bool true)], args := [d1, d2] }
  | _ => none }
def sagasTurnsRow : OpenClaim := { program := "ytjkcadbblgefdaagreatdoor", sum := "f5a2c2513c4496dd32f73e195b99bc05775a59e217d7b506d1cfe3e08dfa14e2", func := "skald/skaldlaw29.SagasTurns", spec := "sagasTurns", inPlace := ["internal/bytealg.IndexByteString", "internal/bytealg.IndexString"], unfollowed := true, recurses := true, named := ["unicode/utf8.first", "unicode/utf8.acceptRanges", "skald/saga.phases", "skald/saga.follow", "internal/bytealg.MaxLen"], apart := false, laid := [("unicode/utf8.acceptRanges", laid_unicode_utf8_acceptRanges), ("skald/saga.phases", laid_skald_saga_phases), ("skald/saga.follow", laid_skald_saga_follow), ("unicode/utf8.first", laid_unicode_utf8_first)] }
def SagasTurnsSaid : Prop := sagasTurnsRow.holds Tryz.pinned (OpenSpec.ofChange sagasTurnsSpec)

/-- ITS FALSE NEIGHBOUR: 'it returns false'. Refute it at one input. -/
def sagasTurnsWrong : ChangeSpec := { name := "sagasTurns", fn := fun _ => fun
  | [d1, d2] => { results := [.lit (.bool false)], args := [d1, d2] }
  | _ => none }
def SagasTurnsWrongFalsely : Prop := sagasTurnsRow.holds Tryz.pinned (OpenSpec.ofChange sagasTurnsWrong)

/-- 'skaldlaw29.SagasAlone': WHATEVER THE INPUT: true; the input reads as it did. -/
def sagasAloneSpec : ChangeSpec := { name := "sagasAlone", fn := fun _ => fun
  | [d] => { results := [.lit (.bool true)], args := [d] }
  | _ => none }
def sagasAloneRow : OpenClaim := { program := "ytjkcadbblgefdaagreatdoor", sum := "f5a2c2513c4496dd32f73e195b99bc05775a59e217d7b506d1cfe3e08dfa14e2", func := "skald/skaldlaw29.SagasAlone", spec := "sagasAlone", inPlace := ["internal/bytealg.IndexByteString", "internal/bytealg.IndexString"], unfollowed := true, recurses := true, named := ["unicode/utf8.first", "unicode/utf8.acceptRanges", "skald/saga.phases", "skald/saga.follow", "internal/bytealg.MaxLen"], apart := false, laid := [("unicode/utf8.acceptRanges", laid_unicode_utf8_acceptRanges), ("skald/saga.phases", laid_skald_saga_phases), ("skald/saga.follow", laid_skald_saga_follow), ("unicode/utf8.first", laid_unicode_utf8_first)] }
def SagasAloneSaid : Prop := sagasAloneRow.holds Tryz.pinned (OpenSpec.ofChange sagasAloneSpec)

/-- ITS FALSE NEIGHBOUR: 'it returns false'. Refute it at one input. -/
def sagasAloneWrong : ChangeSpec := { name := "sagasAlone", fn := fun _ => fun
  | [d] => { results := [.lit (.bool false)], args := [d] }
  | _ => none }
def SagasAloneWrongFalsely : Prop := sagasAloneRow.holds Tryz.pinned (OpenSpec.ofChange sagasAloneWrong)

/-- 'skaldlaw29.SagasEnds': WHATEVER THE INPUT: true; the input reads as it did. -/
def sagasEndsSpec : ChangeSpec := { name := "sagasEnds", fn := fun _ => fun
  | [d1, d2] => { results := [.lit (.bool true)], args := [d1, d2] }
  | _ => none }
def sagasEndsRow : OpenClaim := { program := "ytjkcadbblgefdaagreatdoor", sum := "f5a2c2513c4496dd32f73e195b99bc05775a59e217d7b506d1cfe3e08dfa14e2", func := "skald/skaldlaw29.SagasEnds", spec := "sagasEnds", inPlace := ["internal/bytealg.IndexByteString", "internal/bytealg.IndexString"], unfollowed := true, recurses := true, named := ["unicode/utf8.first", "unicode/utf8.acceptRanges", "skald/saga.phases", "skald/saga.follow", "internal/bytealg.MaxLen"], apart := false, laid := [("unicode/utf8.acceptRanges", laid_unicode_utf8_acceptRanges), ("skald/saga.phases", laid_skald_saga_phases), ("skald/saga.follow", laid_skald_saga_follow), ("unicode/utf8.first", laid_unicode_utf8_first)] }
def SagasEndsSaid : Prop := sagasEndsRow.holds Tryz.pinned (OpenSpec.ofChange sagasEndsSpec)

/-- ITS FALSE NEIGHBOUR: 'it returns false'. Refute it at one input. -/
def sagasEndsWrong : ChangeSpec := { name := "sagasEnds", fn := fun _ => fun
  | [d1, d2] => { results := [.lit (.bool false)], args := [d1, d2] }
  | _ => none }
def SagasEndsWrongFalsely : Prop := sagasEndsRow.holds Tryz.pinned (OpenSpec.ofChange sagasEndsWrong)

/-- 'skaldlaw29.SagasPuts': WHATEVER THE INPUT: true; the input reads as it did. -/
def sagasPutsSpec : ChangeSpec := { name := "sagasPuts", fn := fun _ => fun
  | [d1, d2] => { results := [.lit (.bool true)], args := [d1, d2] }
  | _ => none }
def sagasPutsRow : OpenClaim := { program := "ytjkcadbblgefdaagreatdoor", sum := "f5a2c2513c4496dd32f73e195b99bc05775a59e217d7b506d1cfe3e08dfa14e2", func := "skald/skaldlaw29.SagasPuts", spec := "sagasPuts", inPlace := ["internal/bytealg.IndexByteString", "internal/bytealg.IndexString"], unfollowed := true, recurses := true, named := ["unicode/utf8.first", "unicode/utf8.acceptRanges", "skald/saga.phases", "skald/saga.follow", "internal/bytealg.MaxLen"], apart := false, laid := [("unicode/utf8.acceptRanges", laid_unicode_utf8_acceptRanges), ("skald/saga.phases", laid_skald_saga_phases), ("skald/saga.follow", laid_skald_saga_follow), ("unicode/utf8.first", laid_unicode_utf8_first)] }
def SagasPutsSaid : Prop := sagasPutsRow.holds Tryz.pinned (OpenSpec.ofChange sagasPutsSpec)

/-- ITS FALSE NEIGHBOUR: 'it returns false'. Refute it at one input. -/
def sagasPutsWrong : ChangeSpec := { name := "sagasPuts", fn := fun _ => fun
  | [d1, d2] => { results := [.lit (.bool false)], args := [d1, d2] }
  | _ => none }
def SagasPutsWrongFalsely : Prop := sagasPutsRow.holds Tryz.pinned (OpenSpec.ofChange sagasPutsWrong)

/-- 'skaldlaw29.SagasFull': WHATEVER THE INPUT: true; the input reads as it did. -/
def sagasFullSpec : ChangeSpec := { name := "sagasFull", fn := fun _ => fun
  | [d1, d2] => { results := [.lit (.bool true)], args := [d1, d2] }
  | _ => none }
def sagasFullRow : OpenClaim := { program := "ytjkcadbblgefdaagreatdoor", sum := "f5a2c2513c4496dd32f73e195b99bc05775a59e217d7b506d1cfe3e08dfa14e2", func := "skald/skaldlaw29.SagasFull", spec := "sagasFull", inPlace := ["internal/bytealg.IndexByteString", "internal/bytealg.IndexString"], unfollowed := true, recurses := true, named := ["unicode/utf8.first", "unicode/utf8.acceptRanges", "skald/saga.follow", "skald/saga.phases", "internal/bytealg.MaxLen"], apart := false, laid := [("unicode/utf8.acceptRanges", laid_unicode_utf8_acceptRanges), ("skald/saga.phases", laid_skald_saga_phases), ("skald/saga.follow", laid_skald_saga_follow), ("unicode/utf8.first", laid_unicode_utf8_first)] }
def SagasFullSaid : Prop := sagasFullRow.holds Tryz.pinned (OpenSpec.ofChange sagasFullSpec)

/-- ITS FALSE NEIGHBOUR: 'it returns false'. Refute it at one input. -/
def sagasFullWrong : ChangeSpec := { name := "sagasFull", fn := fun _ => fun
  | [d1, d2] => { results := [.lit (.bool false)], args := [d1, d2] }
  | _ => none }
def SagasFullWrongFalsely : Prop := sagasFullRow.holds Tryz.pinned (OpenSpec.ofChange sagasFullWrong)

/- THE SECOND FORM. 'bulk': how many values and letters a reading holds, each counted each time it is reached (what is shared counts as often as it is met; a slice's spare places count too). A statement '..UptoSaid' is the law's where the arguments, and the package variables that the reading takes, are together of bulk at most 1048576: NARROWER than '..Said'. Prove '..Said' where nothing that the law and all that it calls make is longer than what came in: it says more and counts as full. Else prove '..UptoSaid'. A law counts once. -/
mutual
def uptoBulk {H : Type} : DataW H → Nat
  | .lit (.string bytes) => bytes.length + 1
  | .lit _ => 1
  | .nil => 1
  | .ptr d => uptoBulk d + 1
  | .slice elems spare => uptoBulkAll elems + uptoBulkAll spare + 1
  | .agg parts => uptoBulkAll parts + 1
  | .iface _ d => uptoBulk d + 1
  | .map entries => uptoBulkEntries entries + 1
  | .held _ => 1
def uptoBulkAll {H : Type} : List (DataW H) → Nat
  | [] => 0
  | d :: r => uptoBulk d + uptoBulkAll r
def uptoBulkEntries {H : Type} : List (Lit × DataW H) → Nat
  | [] => 0
  | x :: r => uptoBulkEntry x + uptoBulkEntries r
def uptoBulkEntry {H : Type} : Lit × DataW H → Nat
  | (.string bytes, d) => bytes.length + uptoBulk d + 1
  | (_, d) => uptoBulk d + 1
 end
def uptoSmall : (H : Type) → List (DataW H) → Bool := fun _ ds => decide (uptoBulkAll ds ≤ 1048576)
def OpenSpec.upto (s : _root_.Go.ChangeSpec) : _root_.Go.OpenSpec := { _root_.Go.OpenSpec.ofChange s with cond := some uptoSmall }

/-- 'skaldlaw29.SagasPlays', WHERE WHAT IT READS IS OF BULK AT MOST 1048576: true; the input reads as it did. -/
def sagasPlaysUptoRow : OpenClaim := { program := "ytjkcadbblgefdaagreatdoor", sum := "f5a2c2513c4496dd32f73e195b99bc05775a59e217d7b506d1cfe3e08dfa14e2", func := "skald/skaldlaw29.SagasPlays", spec := "sagasPlays", inPlace := ["internal/bytealg.IndexByteString", "internal/bytealg.IndexString"], unfollowed := true, recurses := true, named := ["unicode/utf8.first", "unicode/utf8.acceptRanges", "skald/saga.follow", "skald/saga.phases", "internal/bytealg.MaxLen"], apart := false, laid := [("unicode/utf8.acceptRanges", laid_unicode_utf8_acceptRanges), ("skald/saga.phases", laid_skald_saga_phases), ("skald/saga.follow", laid_skald_saga_follow), ("unicode/utf8.first", laid_unicode_utf8_first)], narrowed := true }
def SagasPlaysUptoSaid : Prop := sagasPlaysUptoRow.holds Tryz.pinned (OpenSpec.upto sagasPlaysSpec)

/-- 'skaldlaw29.SagasNil', WHERE WHAT IT READS IS OF BULK AT MOST 1048576: true; the input reads as it did. -/
def sagasNilUptoRow : OpenClaim := { program := "ytjkcadbblgefdaagreatdoor", sum := "f5a2c2513c4496dd32f73e195b99bc05775a59e217d7b506d1cfe3e08dfa14e2", func := "skald/skaldlaw29.SagasNil", spec := "sagasNil", inPlace := ["internal/bytealg.IndexByteString", "internal/bytealg.IndexString"], unfollowed := true, recurses := true, named := ["unicode/utf8.first", "unicode/utf8.acceptRanges", "skald/saga.follow", "skald/saga.phases", "internal/bytealg.MaxLen"], apart := false, laid := [("unicode/utf8.acceptRanges", laid_unicode_utf8_acceptRanges), ("skald/saga.phases", laid_skald_saga_phases), ("skald/saga.follow", laid_skald_saga_follow), ("unicode/utf8.first", laid_unicode_utf8_first)], narrowed := true }
def SagasNilUptoSaid : Prop := sagasNilUptoRow.holds Tryz.pinned (OpenSpec.upto sagasNilSpec)

/-- 'skaldlaw29.SagasTurns', WHERE WHAT IT READS IS OF BULK AT MOST 1048576: true; the input reads as it did. -/
def sagasTurnsUptoRow : OpenClaim := { program := "ytjkcadbblgefdaagreatdoor", sum := "f5a2c2513c4496dd32f73e195b99bc05775a59e217d7b506d1cfe3e08dfa14e2", func := "skald/skaldlaw29.SagasTurns", spec := "sagasTurns", inPlace := ["internal/bytealg.IndexByteString", "internal/bytealg.IndexString"], unfollowed := true, recurses := true, named := ["unicode/utf8.first", "unicode/utf8.acceptRanges", "skald/saga.phases", "skald/saga.follow", "internal/bytealg.MaxLen"], apart := false, laid := [("unicode/utf8.acceptRanges", laid_unicode_utf8_acceptRanges), ("skald/saga.phases", laid_skald_saga_phases), ("skald/saga.follow", laid_skald_saga_follow), ("unicode/utf8.first", laid_unicode_utf8_first)], narrowed := true }
def SagasTurnsUptoSaid : Prop := sagasTurnsUptoRow.holds Tryz.pinned (OpenSpec.upto sagasTurnsSpec)

/-- 'skaldlaw29.SagasAlone', WHERE WHAT IT READS IS OF BULK AT MOST 1048576: true; the input reads as it did. -/
def sagasAloneUptoRow : OpenClaim := { program := "ytjkcadbblgefdaagreatdoor", sum := "f5a2c2513c4496dd32f73e195b99bc05775a59e217d7b506d1cfe3e08dfa14e2", func := "skald/skaldlaw29.SagasAlone", spec := "sagasAlone", inPlace := ["internal/bytealg.IndexByteString", "internal/bytealg.IndexString"], unfollowed := true, recurses := true, named := ["unicode/utf8.first", "unicode/utf8.acceptRanges", "skald/saga.phases", "skald/saga.follow", "internal/bytealg.MaxLen"], apart := false, laid := [("unicode/utf8.acceptRanges", laid_unicode_utf8_acceptRanges), ("skald/saga.phases", laid_skald_saga_phases), ("skald/saga.follow", laid_skald_saga_follow), ("unicode/utf8.first", laid_unicode_utf8_first)], narrowed := true }
def SagasAloneUptoSaid : Prop := sagasAloneUptoRow.holds Tryz.pinned (OpenSpec.upto sagasAloneSpec)

/-- 'skaldlaw29.SagasEnds', WHERE WHAT IT READS IS OF BULK AT MOST 1048576: true; the input reads as it did. -/
def sagasEndsUptoRow : OpenClaim := { program := "ytjkcadbblgefdaagreatdoor", sum := "f5a2c2513c4496dd32f73e195b99bc05775a59e217d7b506d1cfe3e08dfa14e2", func := "skald/skaldlaw29.SagasEnds", spec := "sagasEnds", inPlace := ["internal/bytealg.IndexByteString", "internal/bytealg.IndexString"], unfollowed := true, recurses := true, named := ["unicode/utf8.first", "unicode/utf8.acceptRanges", "skald/saga.phases", "skald/saga.follow", "internal/bytealg.MaxLen"], apart := false, laid := [("unicode/utf8.acceptRanges", laid_unicode_utf8_acceptRanges), ("skald/saga.phases", laid_skald_saga_phases), ("skald/saga.follow", laid_skald_saga_follow), ("unicode/utf8.first", laid_unicode_utf8_first)], narrowed := true }
def SagasEndsUptoSaid : Prop := sagasEndsUptoRow.holds Tryz.pinned (OpenSpec.upto sagasEndsSpec)

/-- 'skaldlaw29.SagasPuts', WHERE WHAT IT READS IS OF BULK AT MOST 1048576: true; the input reads as it did. -/
def sagasPutsUptoRow : OpenClaim := { program := "ytjkcadbblgefdaagreatdoor", sum := "f5a2c2513c4496dd32f73e195b99bc05775a59e217d7b506d1cfe3e08dfa14e2", func := "skald/skaldlaw29.SagasPuts", spec := "sagasPuts", inPlace := ["internal/bytealg.IndexByteString", "internal/bytealg.IndexString"], unfollowed := true, recurses := true, named := ["unicode/utf8.first", "unicode/utf8.acceptRanges", "skald/saga.phases", "skald/saga.follow", "internal/bytealg.MaxLen"], apart := false, laid := [("unicode/utf8.acceptRanges", laid_unicode_utf8_acceptRanges), ("skald/saga.phases", laid_skald_saga_phases), ("skald/saga.follow", laid_skald_saga_follow), ("unicode/utf8.first", laid_unicode_utf8_first)], narrowed := true }
def SagasPutsUptoSaid : Prop := sagasPutsUptoRow.holds Tryz.pinned (OpenSpec.upto sagasPutsSpec)

/-- 'skaldlaw29.SagasFull', WHERE WHAT IT READS IS OF BULK AT MOST 1048576: true; the input reads as it did. -/
def sagasFullUptoRow : OpenClaim := { program := "ytjkcadbblgefdaagreatdoor", sum := "f5a2c2513c4496dd32f73e195b99bc05775a59e217d7b506d1cfe3e08dfa14e2", func := "skald/skaldlaw29.SagasFull", spec := "sagasFull", inPlace := ["internal/bytealg.IndexByteString", "internal/bytealg.IndexString"], unfollowed := true, recurses := true, named := ["unicode/utf8.first", "unicode/utf8.acceptRanges", "skald/saga.follow", "skald/saga.phases", "internal/bytealg.MaxLen"], apart := false, laid := [("unicode/utf8.acceptRanges", laid_unicode_utf8_acceptRanges), ("skald/saga.phases", laid_skald_saga_phases), ("skald/saga.follow", laid_skald_saga_follow), ("unicode/utf8.first", laid_unicode_utf8_first)], narrowed := true }
def SagasFullUptoSaid : Prop := sagasFullUptoRow.holds Tryz.pinned (OpenSpec.upto sagasFullSpec)

end Rows
end Go.Proofs.YtjkcadbblgefdaaGreatDoor
