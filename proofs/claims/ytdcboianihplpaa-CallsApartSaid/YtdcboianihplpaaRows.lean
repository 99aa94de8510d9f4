/-
  No cell of these rows narrows 'for every input' (looked for: loops, veiled, ifaces, maps, wideKeys, modest, calm, conditions, laid).
  DERIVED. THE GIVEN ROWS OF THIS SEAT. 8 by the template 'for every input the law returns true; each argument reads behind the call as it read before'; 0 by the template 'total and deterministic' (their statements: YtdcboianihplpaaTotals.lean).
  GIVEN WITH THE SEED: the statements are not yours to turn. If you find one false, say at which input.
  Laid BY PROGRAM, IN A SANDBOX (cutbox-rows.mjs): the forced cells as the released guide's own fill.sh prints them over the translation 06b2b5857429d351… (all of the seat's roots in one cut). By AI agents, Wed Nov 11 2026. No macro, syntax, notation, axiom, sorry.
-/
import Derived.Test.YtdcboianihplpaaChecked
import GoSem.Claim
import GoSem.ClaimJoined
import GoSem.ClaimMapViews
import Derived.JoinedTies
import Derived.KernelRfl
namespace Go.Proofs.Ytdcboianihplpaa
/- THE CELL 'sum', in the pinned program and in every row, IS THE sha256 OF THE DUMP (.gsa) THAT YtdcboianihplpaaProg.lean LOADS. Nothing in Lean hashes anything: it is a label: what it is worth is what the hold of that sum in a sandbox is worth. -/
noncomputable def Try.pinned : Pinned := { name := "ytdcboianihplpaa", sum := "06b2b5857429d3512d0090bf797a5910207490e660c85c2e014753559b3f9116", checked := Try.checked }
namespace Rows
def none {H : Type} : Left H := { results := [], args := [] }

/-- 'skaldlaw36.CallsOrder': WHATEVER THE INPUT: true; the input reads as it did. -/
def callsOrderSpec : ChangeSpec := { name := "callsOrder", fn := fun _ => fun
  | [d1, d2, d3, d4, d5] => { results := [.lit (.bool true)], args := [d1, d2, d3, d4, d5] }
  | _ => none }
def callsOrderRow : OpenClaim := { program := "ytdcboianihplpaa", sum := "06b2b5857429d3512d0090bf797a5910207490e660c85c2e014753559b3f9116", func := "skald/skaldlaw36.CallsOrder", spec := "callsOrder", unfollowed := true, recurses := true, apart := false }
def CallsOrderSaid : Prop := callsOrderRow.holds Try.pinned (OpenSpec.ofChange callsOrderSpec)

/-- ITS FALSE NEIGHBOUR: 'it returns false'. Refute it at one input. -/
def callsOrderWrong : ChangeSpec := { name := "callsOrder", fn := fun _ => fun
  | [d1, d2, d3, d4, d5] => { results := [.lit (.bool false)], args := [d1, d2, d3, d4, d5] }
  | _ => none }
def CallsOrderWrongFalsely : Prop := callsOrderRow.holds Try.pinned (OpenSpec.ofChange callsOrderWrong)

/-- 'skaldlaw36.CallsKnown': WHATEVER THE INPUT: true; the input reads as it did. -/
def callsKnownSpec : ChangeSpec := { name := "callsKnown", fn := fun _ => fun
  | [] => { results := [.lit (.bool true)], args := [] }
  | _ => none }
def callsKnownRow : OpenClaim := { program := "ytdcboianihplpaa", sum := "06b2b5857429d3512d0090bf797a5910207490e660c85c2e014753559b3f9116", func := "skald/skaldlaw36.CallsKnown", spec := "callsKnown", unfollowed := true, recurses := true, apart := false }
def CallsKnownSaid : Prop := callsKnownRow.holds Try.pinned (OpenSpec.ofChange callsKnownSpec)

/-- ITS FALSE NEIGHBOUR: 'it returns false'. Refute it at one input. -/
def callsKnownWrong : ChangeSpec := { name := "callsKnown", fn := fun _ => fun
  | [] => { results := [.lit (.bool false)], args := [] }
  | _ => none }
def CallsKnownWrongFalsely : Prop := callsKnownRow.holds Try.pinned (OpenSpec.ofChange callsKnownWrong)

/-- 'skaldlaw36.CallsWaiting': WHATEVER THE INPUT: true; the input reads as it did. -/
def callsWaitingSpec : ChangeSpec := { name := "callsWaiting", fn := fun _ => fun
  | [d1, d2, d3] => { results := [.lit (.bool true)], args := [d1, d2, d3] }
  | _ => none }
def callsWaitingRow : OpenClaim := { program := "ytdcboianihplpaa", sum := "06b2b5857429d3512d0090bf797a5910207490e660c85c2e014753559b3f9116", func := "skald/skaldlaw36.CallsWaiting", spec := "callsWaiting", unfollowed := true, recurses := true, apart := false }
def CallsWaitingSaid : Prop := callsWaitingRow.holds Try.pinned (OpenSpec.ofChange callsWaitingSpec)

/-- ITS FALSE NEIGHBOUR: 'it returns false'. Refute it at one input. -/
def callsWaitingWrong : ChangeSpec := { name := "callsWaiting", fn := fun _ => fun
  | [d1, d2, d3] => { results := [.lit (.bool false)], args := [d1, d2, d3] }
  | _ => none }
def CallsWaitingWrongFalsely : Prop := callsWaitingRow.holds Try.pinned (OpenSpec.ofChange callsWaitingWrong)

/-- 'skaldlaw36.CallsPlays': WHATEVER THE INPUT: true; the input reads as it did. -/
def callsPlaysSpec : ChangeSpec := { name := "callsPlays", fn := fun _ => fun
  | [d1, d2, d3, d4] => { results := [.lit (.bool true)], args := [d1, d2, d3, d4] }
  | _ => none }
def callsPlaysRow : OpenClaim := { program := "ytdcboianihplpaa", sum := "06b2b5857429d3512d0090bf797a5910207490e660c85c2e014753559b3f9116", func := "skald/skaldlaw36.CallsPlays", spec := "callsPlays", unfollowed := true, recurses := true, apart := false }
def CallsPlaysSaid : Prop := callsPlaysRow.holds Try.pinned (OpenSpec.ofChange callsPlaysSpec)

/-- ITS FALSE NEIGHBOUR: 'it returns false'. Refute it at one input. -/
def callsPlaysWrong : ChangeSpec := { name := "callsPlays", fn := fun _ => fun
  | [d1, d2, d3, d4] => { results := [.lit (.bool false)], args := [d1, d2, d3, d4] }
  | _ => none }
def CallsPlaysWrongFalsely : Prop := callsPlaysRow.holds Try.pinned (OpenSpec.ofChange callsPlaysWrong)

/-- 'skaldlaw36.CallsNil': WHATEVER THE INPUT: true; the input reads as it did. -/
def callsNilSpec : ChangeSpec := { name := "callsNil", fn := fun _ => fun
  | [d1, d2, d3] => { results := [.lit (.bool true)], args := [d1, d2, d3] }
  | _ => none }
def callsNilRow : OpenClaim := { program := "ytdcboianihplpaa", sum := "06b2b5857429d3512d0090bf797a5910207490e660c85c2e014753559b3f9116", func := "skald/skaldlaw36.CallsNil", spec := "callsNil", unfollowed := true, recurses := true, apart := false }
def CallsNilSaid : Prop := callsNilRow.holds Try.pinned (OpenSpec.ofChange callsNilSpec)

/-- ITS FALSE NEIGHBOUR: 'it returns false'. Refute it at one input. -/
def callsNilWrong : ChangeSpec := { name := "callsNil", fn := fun _ => fun
  | [d1, d2, d3] => { results := [.lit (.bool false)], args := [d1, d2, d3] }
  | _ => none }
def CallsNilWrongFalsely : Prop := callsNilRow.holds Try.pinned (OpenSpec.ofChange callsNilWrong)

/-- 'skaldlaw36.CallsCopies': WHATEVER THE INPUT: true; the input reads as it did. -/
def callsCopiesSpec : ChangeSpec := { name := "callsCopies", fn := fun _ => fun
  | [d1, d2] => { results := [.lit (.bool true)], args := [d1, d2] }
  | _ => none }
def callsCopiesRow : OpenClaim := { program := "ytdcboianihplpaa", sum := "06b2b5857429d3512d0090bf797a5910207490e660c85c2e014753559b3f9116", func := "skald/skaldlaw36.CallsCopies", spec := "callsCopies", unfollowed := true, recurses := true, apart := false }
def CallsCopiesSaid : Prop := callsCopiesRow.holds Try.pinned (OpenSpec.ofChange callsCopiesSpec)

/-- ITS FALSE NEIGHBOUR: 'it returns false'. Refute it at one input. -/
def callsCopiesWrong : ChangeSpec := { name := "callsCopies", fn := fun _ => fun
  | [d1, d2] => { results := [.lit (.bool false)], args := [d1, d2] }
  | _ => none }
def CallsCopiesWrongFalsely : Prop := callsCopiesRow.holds Try.pinned (OpenSpec.ofChange callsCopiesWrong)

/-- 'skaldlaw36.CallsApart': WHATEVER THE INPUT: true; the input reads as it did. -/
def callsApartSpec : ChangeSpec := { name := "callsApart", fn := fun _ => fun
  | [d1, d2] => { results := [.lit (.bool true)], args := [d1, d2] }
  | _ => none }
def callsApartRow : OpenClaim := { program := "ytdcboianihplpaa", sum := "06b2b5857429d3512d0090bf797a5910207490e660c85c2e014753559b3f9116", func := "skald/skaldlaw36.CallsApart", spec := "callsApart", unfollowed := true, recurses := true, apart := false }
def CallsApartSaid : Prop := callsApartRow.holds Try.pinned (OpenSpec.ofChange callsApartSpec)

/-- ITS FALSE NEIGHBOUR: 'it returns false'. Refute it at one input. -/
def callsApartWrong : ChangeSpec := { name := "callsApart", fn := fun _ => fun
  | [d1, d2] => { results := [.lit (.bool false)], args := [d1, d2] }
  | _ => none }
def CallsApartWrongFalsely : Prop := callsApartRow.holds Try.pinned (OpenSpec.ofChange callsApartWrong)

/-- 'skaldlaw36.CallsEvents': WHATEVER THE INPUT: true; the input reads as it did. -/
def callsEventsSpec : ChangeSpec := { name := "callsEvents", fn := fun _ => fun
  | [d1, d2] => { results := [.lit (.bool true)], args := [d1, d2] }
  | _ => none }
def callsEventsRow : OpenClaim := { program := "ytdcboianihplpaa", sum := "06b2b5857429d3512d0090bf797a5910207490e660c85c2e014753559b3f9116", func := "skald/skaldlaw36.CallsEvents", spec := "callsEvents", unfollowed := true, recurses := true, apart := false }
def CallsEventsSaid : Prop := callsEventsRow.holds Try.pinned (OpenSpec.ofChange callsEventsSpec)

/-- ITS FALSE NEIGHBOUR: 'it returns false'. Refute it at one input. -/
def callsEventsWrong : ChangeSpec := { name := "callsEvents", fn := fun _ => fun
  | [d1, d2] => { results := [.lit (.bool false)], args := [d1, d2] }
  | _ => none }
def CallsEventsWrongFalsely : Prop := callsEventsRow.holds Try.pinned (OpenSpec.ofChange callsEventsWrong)

/- THE SECOND FORM. 'bulk': how many values and letters a reading holds, each counted each time it is reached (what is shared counts as often as it is met; a slice's spare places count too). A statement '..UptoSaid' is the law's where the arguments, and the package variables that the reading takes, are together of bulk at most 1048576: NARROWER than '..Said'. Prove '..Said' where nothing that the law and all that it calls make is longer than what came in: it says more and counts as full. Else prove '..UptoSaid'. A law counts once. -/
mutual
def uptoBulk {H : Type} : DataW H → Nat
  | .lit (.string bytes) => bytes.length + 1
  | .lit _ => 1
  | .nil => 1
  | .ptr d => uptoBulk d + 1
  | .slice elems spare => uptoBulkAll elems + uptoBulkAll spare + 1
  | .agg parts => uptoBulkAll parts + 1
  | .iface _ d => uptoBulk d + 1
  | .map entries => uptoBulkEntries entries + 1
  | .held _ => 1
def uptoBulkAll {H : Type} : List (DataW H) → Nat
  | [] => 0
  | d :: r => uptoBulk d + uptoBulkAll r
def uptoBulkEntries {H : Type} : List (Lit × DataW H) → Nat
  | [] => 0
  | x :: r => uptoBulkEntry x + uptoBulkEntries r
def uptoBulkEntry {H : Type} : Lit × DataW H → Nat
  | (.string bytes, d) => bytes.length + uptoBulk d + 1
  | (_, d) => uptoBulk d + 1
 end
def uptoSmall : (H : Type) → List (DataW H) → Bool := fun _ ds => decide (uptoBulkAll ds ≤ 1048576)
def OpenSpec.upto (s : _root_.Go.ChangeSpec) : _root_.Go.OpenSpec := { _root_.Go.OpenSpec.ofChange s with cond := some uptoSmall }

/-- 'skaldlaw36.CallsOrder', WHERE WHAT IT READS IS OF BULK AT MOST 1048576: true; the input reads as it did. -/
def callsOrderUptoRow : OpenClaim := { program := "ytdcboianihplpaa", sum := "06b2b5857429d3512d0090bf797a5910207490e660c85c2e014753559b3f9116", func := "skald/skaldlaw36.CallsOrder", spec := "callsOrder", unfollowed := true, recurses := true, apart := false, narrowed := true }
def CallsOrderUptoSaid : Prop := callsOrderUptoRow.holds Try.pinned (OpenSpec.upto callsOrderSpec)

/-- 'skaldlaw36.CallsKnown', WHERE WHAT IT READS IS OF BULK AT MOST 1048576: true; the input reads as it did. -/
def callsKnownUptoRow : OpenClaim := { program := "ytdcboianihplpaa", sum := "06b2b5857429d3512d0090bf797a5910207490e660c85c2e014753559b3f9116", func := "skald/skaldlaw36.CallsKnown", spec := "callsKnown", unfollowed := true, recurses := true, apart := false, narrowed := true }
def CallsKnownUptoSaid : Prop := callsKnownUptoRow.holds Try.pinned (OpenSpec.upto callsKnownSpec)

/-- 'skaldlaw36.CallsWaiting', WHERE WHAT IT READS IS OF BULK AT MOST 1048576: true; the input reads as it did. -/
def callsWaitingUptoRow : OpenClaim := { program := "ytdcboianihplpaa", sum := "06b2b5857429d3512d0090bf797a5910207490e660c85c2e014753559b3f9116", func := "skald/skaldlaw36.CallsWaiting", spec := "callsWaiting", unfollowed := true, recurses := true, apart := false, narrowed := true }
def CallsWaitingUptoSaid : Prop := callsWaitingUptoRow.holds Try.pinned (OpenSpec.upto callsWaitingSpec)

/-- 'skaldlaw36.CallsPlays', WHERE WHAT IT READS IS OF BULK AT MOST 1048576: true; the input reads as it did. -/
def callsPlaysUptoRow : OpenClaim := { program := "ytdcboianihplpaa", sum := "06b2b5857429d3512d0090bf797a5910207490e660c85c2e014753559b3f9116", func := "skald/skaldlaw36.CallsPlays", spec := "callsPlays", unfollowed := true, recurses := true, apart := false, narrowed := true }
def CallsPlaysUptoSaid : Prop := callsPlaysUptoRow.holds Try.pinned (OpenSpec.upto callsPlaysSpec)

/-- 'skaldlaw36.CallsNil', WHERE WHAT IT READS IS OF BULK AT MOST 1048576: true; the input reads as it did. -/
def callsNilUptoRow : OpenClaim := { program := "ytdcboianihplpaa", sum := "06b2b5857429d3512d0090bf797a5910207490e660c85c2e014753559b3f9116", func := "skald/skaldlaw36.CallsNil", spec := "callsNil", unfollowed := true, recurses := true, apart := false, narrowed := true }
def CallsNilUptoSaid : Prop := callsNilUptoRow.holds Try.pinned (OpenSpec.upto callsNilSpec)

/-- 'skaldlaw36.CallsCopies', WHERE WHAT IT READS IS OF BULK AT MOST 1048576: true; the input reads as it did. -/
def callsCopiesUptoRow : OpenClaim := { program := "ytdcboianihplpaa", sum := "06b2b5857429d3512d0090bf797a5910207490e660c85c2e014753559b3f9116", func := "skald/skaldlaw36.CallsCopies", spec := "callsCopies", unfollowed := true, recurses := true, apart := false, narrowed := true }
def CallsCopiesUptoSaid : Prop := callsCopiesUptoRow.holds Try.pinned (OpenSpec.upto callsCopiesSpec)

/-- 'skaldlaw36.CallsApart', WHERE WHAT IT READS IS OF BULK AT MOST 1048576: true; the input reads as it did. -/
def callsApartUptoRow : OpenClaim := { program := "ytdcboianihplpaa", sum := "06b2b5857429d3512d0090bf797a5910207490e660c85c2e014753559b3f9116", func := "skald/skaldlaw36.CallsApart", spec := "callsApart", unfollowed := true, recurses := true, apart := false, narrowed := true }
def CallsApartUptoSaid : Prop := callsApartUptoRow.holds Try.pinned (OpenSpec.upto callsApartSpec)

/-- 'skaldlaw36.CallsEvents', WHERE WHAT IT READS IS OF BULK AT MOST 1048576: true; the input reads as it did. -/
def callsEventsUptoRow : OpenClaim := { program := "ytdcboianihplpaa", sum := "06b2b5857429d3512d0090bf797a5910207490e660c85c2e014753559b3f9116", func := "skald/skaldlaw36.CallsEvents", spec := "callsEvents", unfollowed := true, recurses := true, apart := false, narrowed := true }
def CallsEventsUptoSaid : Prop := callsEventsUptoRow.holds Try.pinned (OpenSpec.upto callsEventsSpec)

end Rows
end Go.Proofs.Ytdcboianihplpaa
