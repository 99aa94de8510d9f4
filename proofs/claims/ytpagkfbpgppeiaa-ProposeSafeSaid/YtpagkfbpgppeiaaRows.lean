/-
  No cell of these rows narrows 'for every input' (looked for: loops, veiled, ifaces, maps, wideKeys, modest, calm, conditions, laid).
  DERIVED. THE GIVEN ROWS OF THIS SEAT. 7 by the template 'for every input the law returns true; each argument reads behind the call as it read before'; 0 by the template 'total and deterministic' (their statements: YtpagkfbpgppeiaaTotals.lean).
  GIVEN WITH THE SEED: the statements are not yours to turn. If you find one false, say at which input.
  Laid BY PROGRAM, IN A SANDBOX (cutbox-rows.mjs): the forced cells as the released guide's own fill.sh prints them over the translation aa60a017c3181603… (all of the seat's roots in one cut). By AI agents, Wed Nov 11 2026. No macro, syntax, notation, axiom, sorry.
-/
import Derived.Test.YtpagkfbpgppeiaaChecked
import GoSem.Claim
import GoSem.ClaimJoined
import GoSem.ClaimMapViews
import Derived.JoinedTies
import Derived.KernelRfl
namespace Go.Proofs.Ytpagkfbpgppeiaa
/- THE CELL 'sum', in the pinned program and in every row, IS THE sha256 OF THE DUMP (.gsa) THAT YtpagkfbpgppeiaaProg.lean LOADS. Nothing in Lean hashes anything: it is a label: what it is worth is what the hold of that sum in a sandbox is worth. -/
noncomputable def Try.pinned : Pinned := { name := "ytpagkfbpgppeiaa", sum := "aa60a017c31816036704ba6d28632bf188dc08c1565f40510451973266472b01", checked := Try.checked }
namespace Rows
def none {H : Type} : Left H := { results := [], args := [] }

/-- 'skaldlaw14.ProposeSafe': WHATEVER THE INPUT: true; the input reads as it did. -/
def proposeSafeSpec : ChangeSpec := { name := "proposeSafe", fn := fun _ => fun
  | [d1, d2] => { results := [.lit (.bool true)], args := [d1, d2] }
  | _ => none }
def proposeSafeRow : OpenClaim := { program := "ytpagkfbpgppeiaa", sum := "aa60a017c31816036704ba6d28632bf188dc08c1565f40510451973266472b01", func := "skald/skaldlaw14.ProposeSafe", spec := "proposeSafe", unfollowed := true, recurses := true, plainKeys := false, apart := false }
def ProposeSafeSaid : Prop := proposeSafeRow.holds Try.pinned (OpenSpec.ofChange proposeSafeSpec)

/-- ITS FALSE NEIGHBOUR: 'it returns false'. Refute it at one input. -/
def proposeSafeWrong : ChangeSpec := { name := "proposeSafe", fn := fun _ => fun
  | [d1, d2] => { results := [.lit (.bool false)], args := [d1, d2] }
  | _ => none }
def ProposeSafeWrongFalsely : Prop := proposeSafeRow.holds Try.pinned (OpenSpec.ofChange proposeSafeWrong)

/-- 'skaldlaw14.ProposeOrder': WHATEVER THE INPUT: true; the input reads as it did. -/
def proposeOrderSpec : ChangeSpec := { name := "proposeOrder", fn := fun _ => fun
  | [d1, d2, d3, d4] => { results := [.lit (.bool true)], args := [d1, d2, d3, d4] }
  | _ => none }
def proposeOrderRow : OpenClaim := { program := "ytpagkfbpgppeiaa", sum := "aa60a017c31816036704ba6d28632bf188dc08c1565f40510451973266472b01", func := "skald/skaldlaw14.ProposeOrder", spec := "proposeOrder", unfollowed := true, recurses := true, plainKeys := false, apart := false }
def ProposeOrderSaid : Prop := proposeOrderRow.holds Try.pinned (OpenSpec.ofChange proposeOrderSpec)

/-- ITS FALSE NEIGHBOUR: 'it returns false'. Refute it at one input. -/
def proposeOrderWrong : ChangeSpec := { name := "proposeOrder", fn := fun _ => fun
  | [d1, d2, d3, d4] => { results := [.lit (.bool false)], args := [d1, d2, d3, d4] }
  | _ => none }
def ProposeOrderWrongFalsely : Prop := proposeOrderRow.holds Try.pinned (OpenSpec.ofChange proposeOrderWrong)

/-- 'skaldlaw14.ProposeGreatest': WHATEVER THE INPUT: true; the input reads as it did. -/
def proposeGreatestSpec : ChangeSpec := { name := "proposeGreatest", fn := fun _ => fun
  | [d1, d2] => { results := [.lit (.bool true)], args := [d1, d2] }
  | _ => none }
def proposeGreatestRow : OpenClaim := { program := "ytpagkfbpgppeiaa", sum := "aa60a017c31816036704ba6d28632bf188dc08c1565f40510451973266472b01", func := "skald/skaldlaw14.ProposeGreatest", spec := "proposeGreatest", unfollowed := true, recurses := true, plainKeys := false, apart := false }
def ProposeGreatestSaid : Prop := proposeGreatestRow.holds Try.pinned (OpenSpec.ofChange proposeGreatestSpec)

/-- ITS FALSE NEIGHBOUR: 'it returns false'. Refute it at one input. -/
def proposeGreatestWrong : ChangeSpec := { name := "proposeGreatest", fn := fun _ => fun
  | [d1, d2] => { results := [.lit (.bool false)], args := [d1, d2] }
  | _ => none }
def ProposeGreatestWrongFalsely : Prop := proposeGreatestRow.holds Try.pinned (OpenSpec.ofChange proposeGreatestWrong)

/-- 'skaldlaw14.ProposeEnough': WHATEVER THE INPUT: true; the input reads as it did. -/
def proposeEnoughSpec : ChangeSpec := { name := "proposeEnough", fn := fun _ => fun
  | [d1, d2] => { results := [.lit (.bool true)], args := [d1, d2] }
  | _ => none }
def proposeEnoughRow : OpenClaim := { program := "ytpagkfbpgppeiaa", sum := "aa60a017c31816036704ba6d28632bf188dc08c1565f40510451973266472b01", func := "skald/skaldlaw14.ProposeEnough", spec := "proposeEnough", unfollowed := true, recurses := true, plainKeys := false, apart := false }
def ProposeEnoughSaid : Prop := proposeEnoughRow.holds Try.pinned (OpenSpec.ofChange proposeEnoughSpec)

/-- ITS FALSE NEIGHBOUR: 'it returns false'. Refute it at one input. -/
def proposeEnoughWrong : ChangeSpec := { name := "proposeEnough", fn := fun _ => fun
  | [d1, d2] => { results := [.lit (.bool false)], args := [d1, d2] }
  | _ => none }
def ProposeEnoughWrongFalsely : Prop := proposeEnoughRow.holds Try.pinned (OpenSpec.ofChange proposeEnoughWrong)

/-- 'skaldlaw14.ProposeKeeps': WHATEVER THE INPUT: true; the input reads as it did. -/
def proposeKeepsSpec : ChangeSpec := { name := "proposeKeeps", fn := fun _ => fun
  | [d1, d2, d3, d4, d5] => { results := [.lit (.bool true)], args := [d1, d2, d3, d4, d5] }
  | _ => none }
def proposeKeepsRow : OpenClaim := { program := "ytpagkfbpgppeiaa", sum := "aa60a017c31816036704ba6d28632bf188dc08c1565f40510451973266472b01", func := "skald/skaldlaw14.ProposeKeeps", spec := "proposeKeeps", unfollowed := true, recurses := true, plainKeys := false, apart := false }
def ProposeKeepsSaid : Prop := proposeKeepsRow.holds Try.pinned (OpenSpec.ofChange proposeKeepsSpec)

/-- ITS FALSE NEIGHBOUR: 'it returns false'. Refute it at one input. -/
def proposeKeepsWrong : ChangeSpec := { name := "proposeKeeps", fn := fun _ => fun
  | [d1, d2, d3, d4, d5] => { results := [.lit (.bool false)], args := [d1, d2, d3, d4, d5] }
  | _ => none }
def ProposeKeepsWrongFalsely : Prop := proposeKeepsRow.holds Try.pinned (OpenSpec.ofChange proposeKeepsWrong)

/-- 'skaldlaw14.ProposePlays': WHATEVER THE INPUT: true; the input reads as it did. -/
def proposePlaysSpec : ChangeSpec := { name := "proposePlays", fn := fun _ => fun
  | [d1, d2, d3, d4, d5] => { results := [.lit (.bool true)], args := [d1, d2, d3, d4, d5] }
  | _ => none }
def proposePlaysRow : OpenClaim := { program := "ytpagkfbpgppeiaa", sum := "aa60a017c31816036704ba6d28632bf188dc08c1565f40510451973266472b01", func := "skald/skaldlaw14.ProposePlays", spec := "proposePlays", unfollowed := true, recurses := true, plainKeys := false, apart := false }
def ProposePlaysSaid : Prop := proposePlaysRow.holds Try.pinned (OpenSpec.ofChange proposePlaysSpec)

/-- ITS FALSE NEIGHBOUR: 'it returns false'. Refute it at one input. -/
def proposePlaysWrong : ChangeSpec := { name := "proposePlays", fn := fun _ => fun
  | [d1, d2, d3, d4, d5] => { results := [.lit (.bool false)], args := [d1, d2, d3, d4, d5] }
  | _ => none }
def ProposePlaysWrongFalsely : Prop := proposePlaysRow.holds Try.pinned (OpenSpec.ofChange proposePlaysWrong)

/-- 'skaldlaw14.ProposeNil': WHATEVER THE INPUT: true; the input reads as it did. -/
def proposeNilSpec : ChangeSpec := { name := "proposeNil", fn := fun _ => fun
  | [d1, d2] => { results := [.lit (.bool true)], args := [d1, d2] }
  | _ => none }
def proposeNilRow : OpenClaim := { program := "ytpagkfbpgppeiaa", sum := "aa60a017c31816036704ba6d28632bf188dc08c1565f40510451973266472b01", func := "skald/skaldlaw14.ProposeNil", spec := "proposeNil", unfollowed := true, recurses := true, plainKeys := false, apart := false }
def ProposeNilSaid : Prop := proposeNilRow.holds Try.pinned (OpenSpec.ofChange proposeNilSpec)

/-- ITS FALSE NEIGHBOUR: 'it returns false'. Refute it at one input. -/
def proposeNilWrong : ChangeSpec := { name := "proposeNil", fn := fun _ => fun
  | [d1, d2] => { results := [.lit (.bool false)], args := [d1, d2] }
  | _ => none }
def ProposeNilWrongFalsely : Prop := proposeNilRow.holds Try.pinned (OpenSpec.ofChange proposeNilWrong)

/- THE SECOND FORM. 'bulk': how many values and letters a reading holds, each counted each time it is reached (what is shared counts as often as it is met; a slice's spare places count too). A statement '..UptoSaid' is the law's where the arguments, and the package variables that the reading takes, are together of bulk at most 1048576: NARROWER than '..Said'. Prove '..Said' where nothing that the law and all that it calls make is longer than what came in: it says more and counts as full. Else prove '..UptoSaid'. A law counts once. -/
mutual
def uptoBulk {H : Type} : DataW H → Nat
  | .lit (.string bytes) => bytes.length + 1
  | .lit _ => 1
  | .nil => 1
  | .ptr d => uptoBulk d + 1
  | .slice elems spare => uptoBulkAll elems + uptoBulkAll spare + 1
  | .agg parts => uptoBulkAll parts + 1
  | .iface _ d => uptoBulk d + 1
  | .map entries => uptoBulkEntries entries + 1
  | .held _ => 1
def uptoBulkAll {H : Type} : List (DataW H) → Nat
  | [] => 0
  | d :: r => uptoBulk d + uptoBulkAll r
def uptoBulkEntries {H : Type} : List (Lit × DataW H) → Nat
  | [] => 0
  | x :: r => uptoBulkEntry x + uptoBulkEntries r
def uptoBulkEntry {H : Type} : Lit × DataW H → Nat
  | (.string bytes, d) => bytes.length + uptoBulk d + 1
  | (_, d) => uptoBulk d + 1
 end
def uptoSmall : (H : Type) → List (DataW H) → Bool := fun _ ds => decide (uptoBulkAll ds ≤ 1048576)
def OpenSpec.upto (s : _root_.Go.ChangeSpec) : _root_.Go.OpenSpec := { _root_.Go.OpenSpec.ofChange s with cond := some uptoSmall }

/-- 'skaldlaw14.ProposeSafe', WHERE WHAT IT READS IS OF BULK AT MOST 1048576: true; the input reads as it did. -/
def proposeSafeUptoRow : OpenClaim := { program := "ytpagkfbpgppeiaa", sum := "aa60a017c31816036704ba6d28632bf188dc08c1565f40510451973266472b01", func := "skald/skaldlaw14.ProposeSafe", spec := "proposeSafe", unfollowed := true, recurses := true, plainKeys := false, apart := false, narrowed := true }
def ProposeSafeUptoSaid : Prop := proposeSafeUptoRow.holds Try.pinned (OpenSpec.upto proposeSafeSpec)

/-- 'skaldlaw14.ProposeOrder', WHERE WHAT IT READS IS OF BULK AT MOST 1048576: true; the input reads as it did. -/
def proposeOrderUptoRow : OpenClaim := { program := "ytpagkfbpgppeiaa", sum := "aa60a017c31816036704ba6d28632bf188dc08c1565f40510451973266472b01", func := "skald/skaldlaw14.ProposeOrder", spec := "proposeOrder", unfollowed := true, recurses := true, plainKeys := false, apart := false, narrowed := true }
def ProposeOrderUptoSaid : Prop := proposeOrderUptoRow.holds Try.pinned (OpenSpec.upto proposeOrderSpec)

/-- 'skaldlaw14.ProposeGreatest', WHERE WHAT IT READS IS OF BULK AT MOST 1048576: true; the input reads as it did. -/
def proposeGreatestUptoRow : OpenClaim := { program := "ytpagkfbpgppeiaa", sum := "aa60a017c31816036704ba6d28632bf188dc08c1565f40510451973266472b01", func := "skald/skaldlaw14.ProposeGreatest", spec := "proposeGreatest", unfollowed := true, recurses := true, plainKeys := false, apart := false, narrowed := true }
def ProposeGreatestUptoSaid : Prop := proposeGreatestUptoRow.holds Try.pinned (OpenSpec.upto proposeGreatestSpec)

/-- 'skaldlaw14.ProposeEnough', WHERE WHAT IT READS IS OF BULK AT MOST 1048576: true; the input reads as it did. -/
def proposeEnoughUptoRow : OpenClaim := { program := "ytpagkfbpgppeiaa", sum := "aa60a017c31816036704ba6d28632bf188dc08c1565f40510451973266472b01", func := "skald/skaldlaw14.ProposeEnough", spec := "proposeEnough", unfollowed := true, recurses := true, plainKeys := false, apart := false, narrowed := true }
def ProposeEnoughUptoSaid : Prop := proposeEnoughUptoRow.holds Try.pinned (OpenSpec.upto proposeEnoughSpec)

/-- 'skaldlaw14.ProposeKeeps', WHERE WHAT IT READS IS OF BULK AT MOST 1048576: true; the input reads as it did. -/
def proposeKeepsUptoRow : OpenClaim := { program := "ytpagkfbpgppeiaa", sum := "aa60a017c31816036704ba6d28632bf188dc08c1565f40510451973266472b01", func := "skald/skaldlaw14.ProposeKeeps", spec := "proposeKeeps", unfollowed := true, recurses := true, plainKeys := false, apart := false, narrowed := true }
def ProposeKeepsUptoSaid : Prop := proposeKeepsUptoRow.holds Try.pinned (OpenSpec.upto proposeKeepsSpec)

/-- 'skaldlaw14.ProposePlays', WHERE WHAT IT READS IS OF BULK AT MOST 1048576: true; the input reads as it did. -/
def proposePlaysUptoRow : OpenClaim := { program := "ytpagkfbpgppeiaa", sum := "aa60a017c31816036704ba6d28632bf188dc08c1565f40510451973266472b01", func := "skald/skaldlaw14.ProposePlays", spec := "proposePlays", unfollowed := true, recurses := true, plainKeys := false, apart := false, narrowed := true }
def ProposePlaysUptoSaid : Prop := proposePlaysUptoRow.holds Try.pinned (OpenSpec.upto proposePlaysSpec)

/-- 'skaldlaw14.ProposeNil', WHERE WHAT IT READS IS OF BULK AT MOST 1048576: true; the input reads as it did. -/
def proposeNilUptoRow : OpenClaim := { program := "ytpagkfbpgppeiaa", sum := "aa60a017c31816036704ba6d28632bf188dc08c1565f40510451973266472b01", func := "skald/skaldlaw14.ProposeNil", spec := "proposeNil", unfollowed := true, recurses := true, plainKeys := false, apart := false, narrowed := true }
def ProposeNilUptoSaid : Prop := proposeNilUptoRow.holds Try.pinned (OpenSpec.upto proposeNilSpec)

end Rows
end Go.Proofs.Ytpagkfbpgppeiaa
