/-
  NARROWER THAN 'FOR EVERY INPUT', by the rows' own cells (each row's printed sentence says how): SagaResults: laid · SagaRetries: laid · SagaRefuses: laid · SagaPlain: laid · SagaStarts: laid · SagaOrders: laid · SagaKnown: laid · SagaShows: laid · SagaEnds: laid.
  DERIVED. THE GIVEN ROWS OF THIS SEAT. 9 by the template 'for every input the law returns true; each argument reads behind the call as it read before'; 0 by the template 'total and deterministic' (their statements: YtonjnghiehdmmaaDoorTotals.lean).
  GIVEN WITH THE SEED: the statements are not yours to turn. If you find one false, say at which input.
  Laid BY PROGRAM, IN A SANDBOX (cutbox-rows.mjs): the forced cells as the released guide's own fill.sh prints them over the translation 7e66b460fce0cff2… (all of the seat's roots in one cut). By AI agents, Wed Nov 11 2026. No macro, syntax, notation, axiom, sorry.
-/
import Derived.Test.YtonjnghiehdmmaaDoorChecked
import GoSem.PinnedTables
import GoSem.Claim
import GoSem.ClaimJoined
import GoSem.ClaimMapViews
import Derived.JoinedTies
import Derived.KernelRfl
namespace Go.Proofs.YtonjnghiehdmmaaDoor
/- THE CELL 'sum', in the pinned program and in every row, IS THE sha256 OF THE DUMP (.gsa) THAT YtonjnghiehdmmaaDoorProg.lean LOADS. Nothing in Lean hashes anything: it is a label: what it is worth is what the hold of that sum in a sandbox is worth. -/
noncomputable def Tryd.pinned : Pinned := { name := "ytonjnghiehdmmaadoor", sum := "7e66b460fce0cff2456e40b9dbf2cf39295de43aaba51a4c5f4895ff5e096889", checked := Tryd.checked }
namespace Rows
def none {H : Type} : Left H := { results := [], args := [] }

/- WHAT THE LISTED PACKAGE-LEVEL VARIABLES READ AS WHEN THE CALL BEGINS. Each datum BY PROGRAM (the guide's laid-datum.mjs) off the statement by which the dump's own 'gosem.cut.vars' lays the variable. In a bare row this is a premise. The card (YtonjnghiehdmmaaDoorCards.lean) ties it to the program's text. -/
def laid_math_bits_deBruijn32tab {H : Type} : DataW H := .agg [.lit (.int .u8 0), .lit (.int .u8 1), .lit (.int .u8 28), .lit (.int .u8 2), .lit (.int .u8 29), .lit (.int .u8 14), .lit (.int .u8 24), .lit (.int .u8 3), .lit (.int .u8 30), .lit (.int .u8 22), .lit (.int .u8 20), .lit (.int .u8 15), .lit (.int .u8 25), .lit (.int .u8 17), .lit (.int .u8 4), .lit (.int .u8 8), .lit (.int .u8 31), .lit (.int .u8 27), .lit (.int .u8 13), .lit (.int .u8 23), .lit (.int .u8 21), .lit (.int .u8 19), .lit (.int .u8 16), .lit (.int .u8 7), .lit (.int .u8 26), .lit (.int .u8 12), .lit (.int .u8 18), .lit (.int .u8 6), .lit (.int .u8 11), .lit (.int .u8 5), .lit (.int .u8 10), .lit (.int .u8 9)]
def laid_math_bits_deBruijn64tab {H : Type} : DataW H := .agg [.lit (.int .u8 0), .lit (.int .u8 1), .lit (.int .u8 56), .lit (.int .u8 2), .lit (.int .u8 57), .lit (.int .u8 49), .lit (.int .u8 28), .lit (.int .u8 3), .lit (.int .u8 61), .lit (.int .u8 58), .lit (.int .u8 42), .lit (.int .u8 50), .lit (.int .u8 38), .lit (.int .u8 29), .lit (.int .u8 17), .lit (.int .u8 4), .lit (.int .u8 62), .lit (.int .u8 47), .lit (.int .u8 59), .lit (.int .u8 36), .lit (.int .u8 45), .lit (.int .u8 43), .lit (.int .u8 51), .lit (.int .u8 22), .lit (.int .u8 53), .lit (.int .u8 39), .lit (.int .u8 33), .lit (.int .u8 30), .lit (.int .u8 24), .lit (.int .u8 18), .lit (.int .u8 12), .lit (.int .u8 5), .lit (.int .u8 63), .lit (.int .u8 55), .lit (.int .u8 48), .lit (.int .u8 27), .lit (.int .u8 60), .lit (.int .u8 41), .lit (.int .u8 37), .lit (.int .u8 16), .lit (.int .u8 46), .lit (.int .u8 35), .lit (.int .u8 44), .lit (.int .u8 21), .lit (.int .u8 52), .lit (.int .u8 32), .lit (.int .u8 23), .lit (.int .u8 11), .lit (.int .u8 54), .lit (.int .u8 26), .lit (.int .u8 40), .lit (.int .u8 15), .lit (.int .u8 34), .lit (.int .u8 20), .lit (.int .u8 31), .lit (.int .u8 10), .lit (.int .u8 25), .lit (.int .u8 14), .lit (.int .u8 19), .lit (.int .u8 9), .lit (.int .u8 13), .lit (.int .u8 8), .lit (.int .u8 7), .lit (.int .u8 6)]
def laid_internal_strconv_uint64pow10 {H : Type} : DataW H := .agg [.lit (.int .u64 1), .lit (.int .u64 10), .lit (.int .u64 100), .lit (.int .u64 1000), .lit (.int .u64 10000), .lit (.int .u64 100000), .lit (.int .u64 1000000), .lit (.int .u64 10000000), .lit (.int .u64 100000000), .lit (.int .u64 1000000000), .lit (.int .u64 10000000000), .lit (.int .u64 100000000000), .lit (.int .u64 1000000000000), .lit (.int .u64 10000000000000), .lit (.int .u64 100000000000000), .lit (.int .u64 1000000000000000), .lit (.int .u64 10000000000000000), .lit (.int .u64 100000000000000000), .lit (.int .u64 1000000000000000000), .lit (.int .u64 10000000000000000000)]
def laid_unicode_utf8_acceptRanges {H : Type} : DataW H := .agg [.agg [.lit (.int .u8 128), .lit (.int .u8 191)], .agg [.lit (.int .u8 160), .lit (.int .u8 191)], .agg [.lit (.int .u8 128), .lit (.int .u8 159)], .agg [.lit (.int .u8 144), .lit (.int .u8 191)], .agg [.lit (.int .u8 128), .lit (.int .u8 143)], .agg [.lit (.int .u8 0), .lit (.int .u8 0)], .agg [.lit (.int .u8 0), .lit (.int .u8 0)], .agg [.lit (.int .u8 0), .lit (.int .u8 0)], .agg [.lit (.int .u8 0), .lit (.int .u8 0)], .agg [.lit (.int .u8 0), .lit (.int .u8 0)], .agg [.lit (.int .u8 0), .lit (.int .u8 0)], .agg [.lit (.int .u8 0), .lit (.int .u8 0)], .agg [.lit (.int .u8 0), .lit (.int .u8 0)], .agg [.lit (.int .u8 0), .lit (.int .u8 0)], .agg [.lit (.int .u8 0), .lit (.int .u8 0)], .agg [.lit (.int .u8 0), .lit (.int .u8 0)]]
def laid_skald_saga_phases {H : Type} : DataW H := .agg [.lit (.int .i64 0), .lit (.int .i64 1), .lit (.int .i64 3), .lit (.int .i64 2)]
def laid_skald_saga_follow {H : Type} : DataW H := .iface "func table" (.agg [.nil, .iface "func" (.lit (.string [40, 115, 107, 97, 108, 100, 47, 115, 97, 103, 97, 46, 83, 97, 103, 97, 41, 46, 102, 111, 114, 119, 97, 114, 100])), .iface "func" (.lit (.string [40, 115, 107, 97, 108, 100, 47, 115, 97, 103, 97, 46, 83, 97, 103, 97, 41, 46, 102, 114, 101, 101])), .iface "func" (.lit (.string [40, 115, 107, 97, 108, 100, 47, 115, 97, 103, 97, 46, 83, 97, 103, 97, 41, 46, 117, 110, 100, 111]))])
/-- One of Go's own tables, pinned by name: the form's constant. -/
def laid_unicode_utf8_first : DataW Unit := Go.Pinned.utf8First

/-- 'skaldlaw28.SagaResults': WHATEVER THE INPUT: true; the input reads as it did. -/
def sagaResultsSpec : ChangeSpec := { name := "sagaResults", fn := fun _ => fun
  | [d1, d2, d3, d4, d5] => { results := [.lit (.bool true)], args := [d1, d2, d3, d4, d5] }
  | _ => none }
def sagaResultsRow : OpenClaim := { program := "ytonjnghiehdmmaadoor", sum := "7e66b460fce0cff2456e40b9dbf2cf39295de43aaba51a4c5f4895ff5e096889", func := "skald/skaldlaw28.SagaResults", spec := "sagaResults", inPlace := ["internal/bytealg.IndexByteString", "internal/bytealg.IndexString"], unfollowed := true, recurses := true, named := ["unicode/utf8.first", "unicode/utf8.acceptRanges", "internal/strconv.uint64pow10", "math/bits.deBruijn32tab", "math/bits.deBruijn64tab", "skald/saga.phases", "skald/saga.follow", "internal/bytealg.MaxLen"], apart := false, laid := [("math/bits.deBruijn32tab", laid_math_bits_deBruijn32tab), ("math/bits.deBruijn64tab", laid_math_bits_deBruijn64tab), ("internal/strconv.uint64pow10", laid_internal_strconv_uint64pow10), ("unicode/utf8.acceptRanges", laid_unicode_utf8_acceptRanges), ("skald/saga.phases", laid_skald_saga_phases), ("skald/saga.follow", laid_skald_saga_follow), ("unicode/utf8.first", laid_unicode_utf8_first)] }
def SagaResultsSaid : Prop := sagaResultsRow.holds Tryd.pinned (OpenSpec.ofChange sagaResultsSpec)

/-- ITS FALSE NEIGHBOUR: 'it returns false'. Refute it at one input. -/
def sagaResultsWrong : ChangeSpec := { name := "sagaResults", fn := fun _ => fun
  | [d1, d2, d3, d4, d5] => { results := [.lit (.bool false)], args := [d1, d2, d3, d4, d5] }
  | _ => none }
def SagaResultsWrongFalsely : Prop := sagaResultsRow.holds Tryd.pinned (OpenSpec.ofChange sagaResultsWrong)

/-- 'skaldlaw28.SagaRetries': WHATEVER THE INPUT: true; the input reads as it did. -/
def sagaRetriesSpec : ChangeSpec := { name := "sagaRetries", fn := fun _ => fun
  | [d1, d2] => { results := [.lit (.bool true)], args := [d1, d2] }
  | _ => none }
def sagaRetriesRow : OpenClaim := { program := "ytonjnghiehdmmaadoor", sum := "7e66b460fce0cff2456e40b9dbf2cf39295de43aaba51a4c5f4895ff5e096889", func := "skald/skaldlaw28.SagaRetries", spec := "sagaRetries", inPlace := ["internal/bytealg.IndexByteString", "internal/bytealg.IndexString"], unfollowed := true, recurses := true, named := ["unicode/utf8.first", "unicode/utf8.acceptRanges", "internal/strconv.uint64pow10", "math/bits.deBruijn32tab", "math/bits.deBruijn64tab", "skald/saga.phases", "skald/saga.follow", "internal/bytealg.MaxLen"], apart := false, laid := [("math/bits.deBruijn32tab", laid_math_bits_deBruijn32tab), ("math/bits.deBruijn64tab", laid_math_bits_deBruijn64tab), ("internal/strconv.uint64pow10", laid_internal_strconv_uint64pow10), ("unicode/utf8.acceptRanges", laid_unicode_utf8_acceptRanges), ("skald/saga.phases", laid_skald_saga_phases), ("skald/saga.follow", laid_skald_saga_follow), ("unicode/utf8.first", laid_unicode_utf8_first)] }
def SagaRetriesSaid : Prop := sagaRetriesRow.holds Tryd.pinned (OpenSpec.ofChange sagaRetriesSpec)

/-- ITS FALSE NEIGHBOUR: 'it returns false'. Refute it at one input. -/
def sagaRetriesWrong : ChangeSpec := { name := "sagaRetries", fn := fun _ => fun
  | [d1, d2] => { results := [.lit (.bool false)], args := [d1, d2] }
  | _ => none }
def SagaRetriesWrongFalsely : Prop := sagaRetriesRow.holds Tryd.pinned (OpenSpec.ofChange sagaRetriesWrong)

/-- 'skaldlaw28.SagaRefuses': WHATEVER THE INPUT: true; the input reads as it did. -/
def sagaRefusesSpec : ChangeSpec := { name := "sagaRefuses", fn := fun _ => fun
  | [d1, d2, d3, d4] => { results := [.lit (.bool true)], args := [d1, d2, d3, d4] }
  | _ => none }
def sagaRefusesRow : OpenClaim := { program := "ytonjnghiehdmmaadoor", sum := "7e66b460fce0cff2456e40b9dbf2cf39295de43aaba51a4c5f4895ff5e096889", func := "skald/skaldlaw28.SagaRefuses", spec := "sagaRefuses", inPlace := ["internal/bytealg.IndexByteString", "internal/bytealg.IndexString"], unfollowed := true, recurses := true, named := ["unicode/utf8.first", "unicode/utf8.acceptRanges", "internal/strconv.uint64pow10", "math/bits.deBruijn32tab", "math/bits.deBruijn64tab", "skald/saga.phases", "skald/saga.follow", "internal/bytealg.MaxLen"], apart := false, laid := [("math/bits.deBruijn32tab", laid_math_bits_deBruijn32tab), ("math/bits.deBruijn64tab", laid_math_bits_deBruijn64tab), ("internal/strconv.uint64pow10", laid_internal_strconv_uint64pow10), ("unicode/utf8.acceptRanges", laid_unicode_utf8_acceptRanges), ("skald/saga.phases", laid_skald_saga_phases), ("skald/saga.follow", laid_skald_saga_follow), ("unicode/utf8.first", laid_unicode_utf8_first)] }
def SagaRefusesSaid : Prop := sagaRefusesRow.holds Tryd.pinned (OpenSpec.ofChange sagaRefusesSpec)

/-- ITS FALSE NEIGHBOUR: 'it returns false'. Refute it at one input. -/
def sagaRefusesWrong : ChangeSpec := { name := "sagaRefuses", fn := fun _ => fun
  | [d1, d2, d3, d4] => { results := [.lit (.bool false)], args := [d1, d2, d3, d4] }
  | _ => none }
def SagaRefusesWrongFalsely : Prop := sagaRefusesRow.holds Tryd.pinned (OpenSpec.ofChange sagaRefusesWrong)

/-- 'skaldlaw28.SagaPlain': WHATEVER THE INPUT: true; the input reads as it did. -/
def sagaPlainSpec : ChangeSpec := { name := "sagaPlain", fn := fun _ => fun
  | [d1, d2, d3] => { results := [.lit (.bool true)], args := [d1, d2, d3] }
  | _ => none }
def sagaPlainRow : OpenClaim := { program := "ytonjnghiehdmmaadoor", sum := "7e66b460fce0cff2456e40b9dbf2cf39295de43aaba51a4c5f4895ff5e096889", func := "skald/skaldlaw28.SagaPlain", spec := "sagaPlain", inPlace := ["internal/bytealg.IndexByteString", "internal/bytealg.IndexString"], unfollowed := true, recurses := true, named := ["unicode/utf8.first", "unicode/utf8.acceptRanges", "internal/strconv.uint64pow10", "math/bits.deBruijn32tab", "math/bits.deBruijn64tab", "skald/saga.phases", "skald/saga.follow", "internal/bytealg.MaxLen"], apart := false, laid := [("math/bits.deBruijn32tab", laid_math_bits_deBruijn32tab), ("math/bits.deBruijn64tab", laid_math_bits_deBruijn64tab), ("internal/strconv.uint64pow10", laid_internal_strconv_uint64pow10), ("unicode/utf8.acceptRanges", laid_unicode_utf8_acceptRanges), ("skald/saga.phases", laid_skald_saga_phases), ("skald/saga.follow", laid_skald_saga_follow), ("unicode/utf8.first", laid_unicode_utf8_first)] }
def SagaPlainSaid : Prop := sagaPlainRow.holds Tryd.pinned (OpenSpec.ofChange sagaPlainSpec)

/-- ITS FALSE NEIGHBOUR: 'it returns false'. Refute it at one input. -/
def sagaPlainWrong : ChangeSpec := { name := "sagaPlain", fn := fun _ => fun
  | [d1, d2, d3] => { results := [.lit (.bool false)], args := [d1, d2, d3] }
  | _ => none }
def SagaPlainWrongFalsely : Prop := sagaPlainRow.holds Tryd.pinned (OpenSpec.ofChange sagaPlainWrong)

/-- 'skaldlaw28.SagaStarts': WHATEVER THE INPUT: true; the input reads as it did. -/
def sagaStartsSpec : ChangeSpec := { name := "sagaStarts", fn := fun _ => fun
  | [d1, d2] => { results := [.lit (.bool true)], args := [d1, d2] }
  | _ => none }
def sagaStartsRow : OpenClaim := { program := "ytonjnghiehdmmaadoor", sum := "7e66b460fce0cff2456e40b9dbf2cf39295de43aaba51a4c5f4895ff5e096889", func := "skald/skaldlaw28.SagaStarts", spec := "sagaStarts", inPlace := ["internal/bytealg.IndexByteString", "internal/bytealg.IndexString"], unfollowed := true, recurses := true, named := ["unicode/utf8.first", "unicode/utf8.acceptRanges", "internal/strconv.uint64pow10", "math/bits.deBruijn32tab", "math/bits.deBruijn64tab", "skald/saga.phases", "skald/saga.follow", "internal/bytealg.MaxLen"], apart := false, laid := [("math/bits.deBruijn32tab", laid_math_bits_deBruijn32tab), ("math/bits.deBruijn64tab", laid_math_bits_deBruijn64tab), ("internal/strconv.uint64pow10", laid_internal_strconv_uint64pow10), ("unicode/utf8.acceptRanges", laid_unicode_utf8_acceptRanges), ("skald/saga.phases", laid_skald_saga_phases), ("skald/saga.follow", laid_skald_saga_follow), ("unicode/utf8.first", laid_unicode_utf8_first)] }
def SagaStartsSaid : Prop := sagaStartsRow.holds Tryd.pinned (OpenSpec.ofChange sagaStartsSpec)

/-- ITS FALSE NEIGHBOUR: 'it returns false'. Refute it at one input. -/
def sagaStartsWrong : ChangeSpec := { name := "sagaStarts", fn := fun _ => fun
  | [d1, d2] => { results := [.lit (.bool false)], args := [d1, d2] }
  | _ => none }
def SagaStartsWrongFalsely : Prop := sagaStartsRow.holds Tryd.pinned (OpenSpec.ofChange sagaStartsWrong)

/-- 'skaldlaw28.SagaOrders': WHATEVER THE INPUT: true; the input reads as it did. -/
def sagaOrdersSpec : ChangeSpec := { name := "sagaOrders", fn := fun _ => fun
  | [d1, d2, d3] => { results := [.lit (.bool true)], args := [d1, d2, d3] }
  | _ => none }
def sagaOrdersRow : OpenClaim := { program := "ytonjnghiehdmmaadoor", sum := "7e66b460fce0cff2456e40b9dbf2cf39295de43aaba51a4c5f4895ff5e096889", func := "skald/skaldlaw28.SagaOrders", spec := "sagaOrders", inPlace := ["internal/bytealg.IndexByteString", "internal/bytealg.IndexString"], unfollowed := true, recurses := true, named := ["unicode/utf8.first", "unicode/utf8.acceptRanges", "internal/strconv.uint64pow10", "math/bits.deBruijn32tab", "math/bits.deBruijn64tab", "skald/saga.phases", "skald/saga.follow", "internal/bytealg.MaxLen"], apart := false, laid := [("math/bits.deBruijn32tab", laid_math_bits_deBruijn32tab), ("math/bits.deBruijn64tab", laid_math_bits_deBruijn64tab), ("internal/strconv.uint64pow10", laid_internal_strconv_uint64pow10), ("unicode/utf8.acceptRanges", laid_unicode_utf8_acceptRanges), ("skald/saga.phases", laid_skald_saga_phases), ("skald/saga.follow", laid_skald_saga_follow), ("unicode/utf8.first", laid_unicode_utf8_first)] }
def SagaOrdersSaid : Prop := sagaOrdersRow.holds Tryd.pinned (OpenSpec.ofChange sagaOrdersSpec)

/-- ITS FALSE NEIGHBOUR: 'it returns false'. Refute it at one input. -/
def sagaOrdersWrong : ChangeSpec := { name := "sagaOrders", fn := fun _ => fun
  | [d1, d2, d3] => { results := [.lit (.bool false)], args := [d1, d2, d3] }
  | _ => none }
def SagaOrdersWrongFalsely : Prop := sagaOrdersRow.holds Tryd.pinned (OpenSpec.ofChange sagaOrdersWrong)

/-- 'skaldlaw28.SagaKnown': WHATEVER THE INPUT: true; the input reads as it did. -/
def sagaKnownSpec : ChangeSpec := { name := "sagaKnown", fn := fun _ => fun
  | [] => { results := [.lit (.bool true)], args := [] }
  | _ => none }
def sagaKnownRow : OpenClaim := { program := "ytonjnghiehdmmaadoor", sum := "7e66b460fce0cff2456e40b9dbf2cf39295de43aaba51a4c5f4895ff5e096889", func := "skald/skaldlaw28.SagaKnown", spec := "sagaKnown", inPlace := ["internal/bytealg.IndexByteString", "internal/bytealg.IndexString"], unfollowed := true, recurses := true, named := ["unicode/utf8.first", "unicode/utf8.acceptRanges", "skald/saga.follow", "skald/saga.phases", "internal/strconv.uint64pow10", "math/bits.deBruijn32tab", "math/bits.deBruijn64tab", "internal/bytealg.MaxLen"], apart := false, laid := [("math/bits.deBruijn32tab", laid_math_bits_deBruijn32tab), ("math/bits.deBruijn64tab", laid_math_bits_deBruijn64tab), ("internal/strconv.uint64pow10", laid_internal_strconv_uint64pow10), ("unicode/utf8.acceptRanges", laid_unicode_utf8_acceptRanges), ("skald/saga.phases", laid_skald_saga_phases), ("skald/saga.follow", laid_skald_saga_follow), ("unicode/utf8.first", laid_unicode_utf8_first)] }
def SagaKnownSaid : Prop := sagaKnownRow.holds Tryd.pinned (OpenSpec.ofChange sagaKnownSpec)

/-- ITS FALSE NEIGHBOUR: 'it returns false'. Refute it at one input. -/
def sagaKnownWrong : ChangeSpec := { name := "sagaKnown", fn := fun _ => fun
  | [] => { results := [.lit (.bool false)], args := [] }
  | _ => none }
def SagaKnownWrongFalsely : Prop := sagaKnownRow.holds Tryd.pinned (OpenSpec.ofChange sagaKnownWrong)

/-- 'skaldlaw28.SagaShows': WHATEVER THE INPUT: true; the input reads as it did. -/
def sagaShowsSpec : ChangeSpec := { name := "sagaShows", fn := fun _ => fun
  | [d] => { results := [.lit (.bool true)], args := [d] }
  | _ => none }
def sagaShowsRow : OpenClaim := { program := "ytonjnghiehdmmaadoor", sum := "7e66b460fce0cff2456e40b9dbf2cf39295de43aaba51a4c5f4895ff5e096889", func := "skald/skaldlaw28.SagaShows", spec := "sagaShows", inPlace := ["internal/bytealg.IndexByteString", "internal/bytealg.IndexString"], unfollowed := true, recurses := true, named := ["unicode/utf8.first", "unicode/utf8.acceptRanges", "internal/strconv.uint64pow10", "math/bits.deBruijn32tab", "math/bits.deBruijn64tab", "skald/saga.phases", "skald/saga.follow", "internal/bytealg.MaxLen"], apart := false, laid := [("math/bits.deBruijn32tab", laid_math_bits_deBruijn32tab), ("math/bits.deBruijn64tab", laid_math_bits_deBruijn64tab), ("internal/strconv.uint64pow10", laid_internal_strconv_uint64pow10), ("unicode/utf8.acceptRanges", laid_unicode_utf8_acceptRanges), ("skald/saga.phases", laid_skald_saga_phases), ("skald/saga.follow", laid_skald_saga_follow), ("unicode/utf8.first", laid_unicode_utf8_first)] }
def SagaShowsSaid : Prop := sagaShowsRow.holds Tryd.pinned (OpenSpec.ofChange sagaShowsSpec)

/-- ITS FALSE NEIGHBOUR: 'it returns false'. Refute it at one input. -/
def sagaShowsWrong : ChangeSpec := { name := "sagaShows", fn := fun _ => fun
  | [d] => { results := [.lit (.bool false)], args := [d] }
  | _ => none }
def SagaShowsWrongFalsely : Prop := sagaShowsRow.holds Tryd.pinned (OpenSpec.ofChange sagaShowsWrong)

/-- 'skaldlaw28.SagaEnds': WHATEVER THE INPUT: true; the input reads as it did. -/
def sagaEndsSpec : ChangeSpec := { name := "sagaEnds", fn := fun _ => fun
  | [d1, d2] => { results := [.lit (.bool true)], args := [d1, d2] }
  | _ => none }
def sagaEndsRow : OpenClaim := { program := "ytonjnghiehdmmaadoor", sum := "7e66b460fce0cff2456e40b9dbf2cf39295de43aaba51a4c5f4895ff5e096889", func := "skald/skaldlaw28.SagaEnds", spec := "sagaEnds", inPlace := ["internal/bytealg.IndexByteString", "internal/bytealg.IndexString"], unfollowed := true, recurses := true, named := ["unicode/utf8.first", "unicode/utf8.acceptRanges", "internal/strconv.uint64pow10", "math/bits.deBruijn32tab", "math/bits.deBruijn64tab", "skald/saga.phases", "skald/saga.follow", "internal/bytealg.MaxLen"], apart := false, laid := [("math/bits.deBruijn32tab", laid_math_bits_deBruijn32tab), ("math/bits.deBruijn64tab", laid_math_bits_deBruijn64tab), ("internal/strconv.uint64pow10", laid_internal_strconv_uint64pow10), ("unicode/utf8.acceptRanges", laid_unicode_utf8_acceptRanges), ("skald/saga.phases", laid_skald_saga_phases), ("skald/saga.follow", laid_skald_saga_follow), ("unicode/utf8.first", laid_unicode_utf8_first)] }
def SagaEndsSaid : Prop := sagaEndsRow.holds Tryd.pinned (OpenSpec.ofChange sagaEndsSpec)

/-- ITS FALSE NEIGHBOUR: 'it returns false'. Refute it at one input. -/
def sagaEndsWrong : ChangeSpec := { name := "sagaEnds", fn := fun _ => fun
  | [d1, d2] => { results := [.lit (.bool false)], args := [d1, d2] }
  | _ => none }
def SagaEndsWrongFalsely : Prop := sagaEndsRow.holds Tryd.pinned (OpenSpec.ofChange sagaEndsWrong)

/- THE SECOND FORM. 'bulk': how many values and letters a reading holds, each counted each time it is reached (what is shared counts as often as it is met; a slice's spare places count too). A statement '..UptoSaid' is the law's where the arguments, and the package variables that the reading takes, are together of bulk at most 1048576: NARROWER than '..Said'. Prove '..Said' where nothing that the law and all that it calls make is longer than what came in: it says more and counts as full. Else prove '..UptoSaid'. A law counts once. -/
mutual
def uptoBulk {H : Type} : DataW H → Nat
  | .lit (.string bytes) => bytes.length + 1
  | .lit _ => 1
  | .nil => 1
  | .ptr d => uptoBulk d + 1
  | .slice elems spare => uptoBulkAll elems + uptoBulkAll spare + 1
  | .agg parts => uptoBulkAll parts + 1
  | .iface _ d => uptoBulk d + 1
  | .map entries => uptoBulkEntries entries + 1
  | .held _ => 1
def uptoBulkAll {H : Type} : List (DataW H) → Nat
  | [] => 0
  | d :: r => uptoBulk d + uptoBulkAll r
def uptoBulkEntries {H : Type} : List (Lit × DataW H) → Nat
  | [] => 0
  | x :: r => uptoBulkEntry x + uptoBulkEntries r
def uptoBulkEntry {H : Type} : Lit × DataW H → Nat
  | (.string bytes, d) => bytes.length + uptoBulk d + 1
  | (_, d) => uptoBulk d + 1
 end
def uptoSmall : (H : Type) → List (DataW H) → Bool := fun _ ds => decide (uptoBulkAll ds ≤ 1048576)
def OpenSpec.upto (s : _root_.Go.ChangeSpec) : _root_.Go.OpenSpec := { _root_.Go.OpenSpec.ofChange s with cond := some uptoSmall }

/-- 'skaldlaw28.SagaResults', WHERE WHAT IT READS IS OF BULK AT MOST 1048576: true; the input reads as it did. -/
def sagaResultsUptoRow : OpenClaim := { program := "ytonjnghiehdmmaadoor", sum := "7e66b460fce0cff2456e40b9dbf2cf39295de43aaba51a4c5f4895ff5e096889", func := "skald/skaldlaw28.SagaResults", spec := "sagaResults", inPlace := ["internal/bytealg.IndexByteString", "internal/bytealg.IndexString"], unfollowed := true, recurses := true, named := ["unicode/utf8.first", "unicode/utf8.acceptRanges", "internal/strconv.uint64pow10", "math/bits.deBruijn32tab", "math/bits.deBruijn64tab", "skald/saga.phases", "skald/saga.follow", "internal/bytealg.MaxLen"], apart := false, laid := [("math/bits.deBruijn32tab", laid_math_bits_deBruijn32tab), ("math/bits.deBruijn64tab", laid_math_bits_deBruijn64tab), ("internal/strconv.uint64pow10", laid_internal_strconv_uint64pow10), ("unicode/utf8.acceptRanges", laid_unicode_utf8_acceptRanges), ("skald/saga.phases", laid_skald_saga_phases), ("skald/saga.follow", laid_skald_saga_follow), ("unicode/utf8.first", laid_unicode_utf8_first)], narrowed := true }
def SagaResultsUptoSaid : Prop := sagaResultsUptoRow.holds Tryd.pinned (OpenSpec.upto sagaResultsSpec)

/-- 'skaldlaw28.SagaRetries', WHERE WHAT IT READS IS OF BULK AT MOST 1048576: true; the input reads as it did. -/
def sagaRetriesUptoRow : OpenClaim := { program := "ytonjnghiehdmmaadoor", sum := "7e66b460fce0cff2456e40b9dbf2cf39295de43aaba51a4c5f4895ff5e096889", func := "skald/skaldlaw28.SagaRetries", spec := "sagaRetries", inPlace := ["internal/bytealg.IndexByteString", "internal/bytealg.IndexString"], unfollowed := true, recurses := true, named := ["unicode/utf8.first", "unicode/utf8.acceptRanges", "internal/strconv.uint64pow10", "math/bits.deBruijn32tab", "math/bits.deBruijn64tab", "skald/saga.phases", "skald/saga.follow", "internal/bytealg.MaxLen"], apart := false, laid := [("math/bits.deBruijn32tab", laid_math_bits_deBruijn32tab), ("math/bits.deBruijn64tab", laid_math_bits_deBruijn64tab), ("internal/strconv.uint64pow10", laid_internal_strconv_uint64pow10), ("unicode/utf8.acceptRanges", laid_unicode_utf8_acceptRanges), ("skald/saga.phases", laid_skald_saga_phases), ("skald/saga.follow", laid_skald_saga_follow), ("unicode/utf8.first", laid_unicode_utf8_first)], narrowed := true }
def SagaRetriesUptoSaid : Prop := sagaRetriesUptoRow.holds Tryd.pinned (OpenSpec.upto sagaRetriesSpec)

/-- 'skaldlaw28.SagaRefuses', WHERE WHAT IT READS IS OF BULK AT MOST 1048576: true; the input reads as it did. -/
def sagaRefusesUptoRow : OpenClaim := { program := "ytonjnghiehdmmaadoor", sum := "7e66b460fce0cff2456e40b9dbf2cf39295de43aaba51a4c5f4895ff5e096889", func := "skald/skaldlaw28.SagaRefuses", spec := "sagaRefuses", inPlace := ["internal/bytealg.IndexByteString", "internal/bytealg.IndexString"], unfollowed := true, recurses := true, named := ["unicode/utf8.first", "unicode/utf8.acceptRanges", "internal/strconv.uint64pow10", "math/bits.deBruijn32tab", "math/bits.deBruijn64tab", "skald/saga.phases", "skald/saga.follow", "internal/bytealg.MaxLen"], apart := false, laid := [("math/bits.deBruijn32tab", laid_math_bits_deBruijn32tab), ("math/bits.deBruijn64tab", laid_math_bits_deBruijn64tab), ("internal/strconv.uint64pow10", laid_internal_strconv_uint64pow10), ("unicode/utf8.acceptRanges", laid_unicode_utf8_acceptRanges), ("skald/saga.phases", laid_skald_saga_phases), ("skald/saga.follow", laid_skald_saga_follow), ("unicode/utf8.first", laid_unicode_utf8_first)], narrowed := true }
def SagaRefusesUptoSaid : Prop := sagaRefusesUptoRow.holds Tryd.pinned (OpenSpec.upto sagaRefusesSpec)

/-- 'skaldlaw28.SagaPlain', WHERE WHAT IT READS IS OF BULK AT MOST 1048576: true; the input reads as it did. -/
def sagaPlainUptoRow : OpenClaim := { program := "ytonjnghiehdmmaadoor", sum := "7e66b460fce0cff2456e40b9dbf2cf39295de43aaba51a4c5f4895ff5e096889", func := "skald/skaldlaw28.SagaPlain", spec := "sagaPlain", inPlace := ["internal/bytealg.IndexByteString", "internal/bytealg.IndexString"], unfollowed := true, recurses := true, named := ["unicode/utf8.first", "unicode/utf8.acceptRanges", "internal/strconv.uint64pow10", "math/bits.deBruijn32tab", "math/bits.deBruijn64tab", "skald/saga.phases", "skald/saga.follow", "internal/bytealg.MaxLen"], apart := false, laid := [("math/bits.deBruijn32tab", laid_math_bits_deBruijn32tab), ("math/bits.deBruijn64tab", laid_math_bits_deBruijn64tab), ("internal/strconv.uint64pow10", laid_internal_strconv_uint64pow10), ("unicode/utf8.acceptRanges", laid_unicode_utf8_acceptRanges), ("skald/saga.phases", laid_skald_saga_phases), ("skald/saga.follow", laid_skald_saga_follow), ("unicode/utf8.first", laid_unicode_utf8_first)], narrowed := true }
def SagaPlainUptoSaid : Prop := sagaPlainUptoRow.holds Tryd.pinned (OpenSpec.upto sagaPlainSpec)

/-- 'skaldlaw28.SagaStarts', WHERE WHAT IT READS IS OF BULK AT MOST 1048576: true; the input reads as it did. -/
def sagaStartsUptoRow : OpenClaim := { program := "ytonjnghiehdmmaadoor", sum := "7e66b460fce0cff2456e40b9dbf2cf39295de43aaba51a4c5f4895ff5e096889", func := "skald/skaldlaw28.SagaStarts", spec := "sagaStarts", inPlace := ["internal/bytealg.IndexByteString", "internal/bytealg.IndexString"], unfollowed := true, recurses := true, named := ["unicode/utf8.first", "unicode/utf8.acceptRanges", "internal/strconv.uint64pow10", "math/bits.deBruijn32tab", "math/bits.deBruijn64tab", "skald/saga.phases", "skald/saga.follow", "internal/bytealg.MaxLen"], apart := false, laid := [("math/bits.deBruijn32tab", laid_math_bits_deBruijn32tab), ("math/bits.deBruijn64tab", laid_math_bits_deBruijn64tab), ("internal/strconv.uint64pow10", laid_internal_strconv_uint64pow10), ("unicode/utf8.acceptRanges", laid_unicode_utf8_acceptRanges), ("skald/saga.phases", laid_skald_saga_phases), ("skald/saga.follow", laid_skald_saga_follow), ("unicode/utf8.first", laid_unicode_utf8_first)], narrowed := true }
def SagaStartsUptoSaid : Prop := sagaStartsUptoRow.holds Tryd.pinned (OpenSpec.upto sagaStartsSpec)

/-- 'skaldlaw28.SagaOrders', WHERE WHAT IT READS IS OF BULK AT MOST 1048576: true; the input reads as it did. -/
def sagaOrdersUptoRow : OpenClaim := { program := "ytonjnghiehdmmaadoor", sum := "7e66b460fce0cff2456e40b9dbf2cf39295de43aaba51a4c5f4895ff5e096889", func := "skald/skaldlaw28.SagaOrders", spec := "sagaOrders", inPlace := ["internal/bytealg.IndexByteString", "internal/bytealg.IndexString"], unfollowed := true, recurses := true, named := ["unicode/utf8.first", "unicode/utf8.acceptRanges", "internal/strconv.uint64pow10", "math/bits.deBruijn32tab", "math/bits.deBruijn64tab", "skald/saga.phases", "skald/saga.follow", "internal/bytealg.MaxLen"], apart := false, laid := [("math/bits.deBruijn32tab", laid_math_bits_deBruijn32tab), ("math/bits.deBruijn64tab", laid_math_bits_deBruijn64tab), ("internal/strconv.uint64pow10", laid_internal_strconv_uint64pow10), ("unicode/utf8.acceptRanges", laid_unicode_utf8_acceptRanges), ("skald/saga.phases", laid_skald_saga_phases), ("skald/saga.follow", laid_skald_saga_follow), ("unicode/utf8.first", laid_unicode_utf8_first)], narrowed := true }
def SagaOrdersUptoSaid : Prop := sagaOrdersUptoRow.holds Tryd.pinned (OpenSpec.upto sagaOrdersSpec)

/-- 'skaldlaw28.SagaKnown', WHERE WHAT IT READS IS OF BULK AT MOST 1048576: true; the input reads as it did. -/
def sagaKnownUptoRow : OpenClaim := { program := "ytonjnghiehdmmaadoor", sum := "7e66b460fce0cff2456e40b9dbf2cf39295de43aaba51a4c5f4895ff5e096889", func := "skald/skaldlaw28.SagaKnown", spec := "sagaKnown", inPlace := ["internal/bytealg.IndexByteString", "internal/bytealg.IndexString"], unfollowed := true, recurses := true, named := ["unicode/utf8.first", "unicode/utf8.acceptRanges", "skald/saga.follow", "skald/saga.phases", "internal/strconv.uint64pow10", "math/bits.deBruijn32tab", "math/bits.deBruijn64tab", "internal/bytealg.MaxLen"], apart := false, laid := [("math/bits.deBruijn32tab", laid_math_bits_deBruijn32tab), ("math/bits.deBruijn64tab", laid_math_bits_deBruijn64tab), ("internal/strconv.uint64pow10", laid_internal_strconv_uint64pow10), ("unicode/utf8.acceptRanges", laid_unicode_utf8_acceptRanges), ("skald/saga.phases", laid_skald_saga_phases), ("skald/saga.follow", laid_skald_saga_follow), ("unicode/utf8.first", laid_unicode_utf8_first)], narrowed := true }
def SagaKnownUptoSaid : Prop := sagaKnownUptoRow.holds Tryd.pinned (OpenSpec.upto sagaKnownSpec)

/-- 'skaldlaw28.SagaShows', WHERE WHAT IT READS IS OF BULK AT MOST 1048576: true; the input reads as it did. -/
def sagaShowsUptoRow : OpenClaim := { program := "ytonjnghiehdmmaadoor", sum := "7e66b460fce0cff2456e40b9dbf2cf39295de43aaba51a4c5f4895ff5e096889", func := "skald/skaldlaw28.SagaShows", spec := "sagaShows", inPlace := ["internal/bytealg.IndexByteString", "internal/bytealg.IndexString"], unfollowed := true, recurses := true, named := ["unicode/utf8.first", "unicode/utf8.acceptRanges", "internal/strconv.uint64pow10", "math/bits.deBruijn32tab", "math/bits.deBruijn64tab", "skald/saga.phases", "skald/saga.follow", "internal/bytealg.MaxLen"], apart := false, laid := [("math/bits.deBruijn32tab", laid_math_bits_deBruijn32tab), ("math/bits.deBruijn64tab", laid_math_bits_deBruijn64tab), ("internal/strconv.uint64pow10", laid_internal_strconv_uint64pow10), ("unicode/utf8.acceptRanges", laid_unicode_utf8_acceptRanges), ("skald/saga.phases", laid_skald_saga_phases), ("skald/saga.follow", laid_skald_saga_follow), ("unicode/utf8.first", laid_unicode_utf8_first)], narrowed := true }
def SagaShowsUptoSaid : Prop := sagaShowsUptoRow.holds Tryd.pinned (OpenSpec.upto sagaShowsSpec)

/-- 'skaldlaw28.SagaEnds', WHERE WHAT IT READS IS OF BULK AT MOST 1048576: true; the input reads as it did. -/
def sagaEndsUptoRow : OpenClaim := { program := "ytonjnghiehdmmaadoor", sum := "7e66b460fce0cff2456e40b9dbf2cf39295de43aaba51a4c5f4895ff5e096889", func := "skald/skaldlaw28.SagaEnds", spec := "sagaEnds", inPlace := ["internal/bytealg.IndexByteString", "internal/bytealg.IndexString"], unfollowed := true, recurses := true, named := ["unicode/utf8.first", "unicode/utf8.acceptRanges", "internal/strconv.uint64pow10", "math/bits.deBruijn32tab", "math/bits.deBruijn64tab", "skald/saga.phases", "skald/saga.follow", "internal/bytealg.MaxLen"], apart := false, laid := [("math/bits.deBruijn32tab", laid_math_bits_deBruijn32tab), ("math/bits.deBruijn64tab", laid_math_bits_deBruijn64tab), ("internal/strconv.uint64pow10", laid_internal_strconv_uint64pow10), ("unicode/utf8.acceptRanges", laid_unicode_utf8_acceptRanges), ("skald/saga.phases", laid_skald_saga_phases), ("skald/saga.follow", laid_skald_saga_follow), ("unicode/utf8.first", laid_unicode_utf8_first)], narrowed := true }
def SagaEndsUptoSaid : Prop := sagaEndsUptoRow.holds Tryd.pinned (OpenSpec.upto sagaEndsSpec)

end Rows
end Go.Proofs.YtonjnghiehdmmaaDoor
