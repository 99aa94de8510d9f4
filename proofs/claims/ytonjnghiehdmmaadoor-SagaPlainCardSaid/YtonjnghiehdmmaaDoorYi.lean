/- A saga without disturbance goes forward through all steps and then gives back, and one whose step is refused for good undoes those before it: for every definition, step and error; the condition is the library table that the row names. -/
import Derived.Test.YtonjnghiehdmmaaDoorCards
import Derived.Test.YtonjnghiehdmmaaDoorTie
import Derived.Test.YtonjnghiehdmmaaDoorPi
import Derived.Test.YtonjnghiehdmmaaDoorYt
import Derived.Test.YtonjnghiehdmmaaDoorMy
import Derived.WalkKit
import Derived.ProofKit
import Derived.OpenShut
import Derived.WideShapes
import Derived.Deep.DeepHandedRow
import Derived.Lib.LaidTab
import Derived.LaidMore
import Derived.Stop.Joined
import Derived.Deep.DeepWitnessRowRef
namespace Go.Proofs.YtonjnghiehdmmaaDoor.sagaPlain
open Go.ChangeShapes Go.WideShapes Go.ChangeAt Go.RowKit Go.AM C28

theorem own : ownKnob Tryd.prog.godebug = none := by kernel_rfl
theorem laid : laidOutB Tryd.prog = true := by kernel_rfl
theorem bool4 : Tryd.prog.underlying 4 = some .bool := by kernel_rfl
theorem readable : ∀ t ∈ Tryd.f6.params.toList, Tryd.prog.readableRec t = true ∧ t < Tryd.prog.types.size := by
  rw [Tryd.params6]
  intro t ht
  simp only [List.mem_cons, List.not_mem_nil, or_false] at ht
  rcases ht with rfl | rfl | rfl
  all_goals exact ⟨by kernel_rfl, of_decide_eq_true (by kernel_rfl)⟩
set_option maxRecDepth 100000 in
theorem contract (H : Type) (enc : TypeId × Value → H) (W : World) (base : Nat) (args : Array Value) (ds gs : List (DataW H)) (before : List MemPlace)
    (hval0 : ∀ (j : Nat) t v, Tryd.f6.params[j]? = some t → args[j]? = some v → Value.okWide Tryd.prog W .any base t v)
    (hW : DataW.Whole enc Tryd.prog Tryd.f6.params.toList Rows.sagaPlainSpec.vars false W args.toList ds gs before) (hLd : laidMetH Tryd.prog Rows.sagaPlainRow.laid W) (hS : W.ShapedOpen Tryd.prog) :
    Calls Tryd.prog 6 args W fun e W' => ∃ v, e = .returned v ∧ Rows.sagaPlainSpec.post enc Tryd.prog Tryd.f6 false true false false W args v W' := by
  have hW' := hW
  obtain ⟨p, q, hA0, hV, rfl, hfz, hnd⟩ := hW
  have hA : DataW.TrodAll enc Tryd.prog W 0 (fun _ => true) true Tryd.f6.params.toList args.toList ds p := hA0
  have hval := hval0
  rw [Tryd.params6] at hA hval
  obtain ⟨v0, vs0, d0, ds0, p0, q0, ha0, rfl, rfl, h0, r0⟩ := trodAll_cons hA
  obtain ⟨v1, vs1, d1, ds1, p1, q1, rfl, rfl, rfl, h1, r1⟩ := trodAll_cons r0
  obtain ⟨v2, vs2, d2, ds2, p2, q2, rfl, rfl, rfl, h2, r2⟩ := trodAll_cons r1
  obtain ⟨rfl, rfl, rfl⟩ := trodAll_nil r2
  obtain rfl : args = #[v0, v1, v2] := by cases args; simp_all
  obtain ⟨rfl, rfl⟩ := trodVars_none hV
  have R0 : Reads enc Tryd.prog W 24 v0.cells.toList := by obtain ⟨fuel, hf⟩ := h0; exact ⟨fuel, _, hf⟩
  have hv0 := hval 0 24 v0 rfl rfl
  obtain ⟨c0, rfl, z0⟩ := okWide_struct (fs := (match Tryd.prog.underlying 24 with | some (.struct fs) => fs | _ => #[])) (by kernel_rfl) hv0
  have R1 : Reads enc Tryd.prog W 5 v1.cells.toList := by obtain ⟨fuel, hf⟩ := h1; exact ⟨fuel, _, hf⟩
  have hv1 := hval 1 5 v1 rfl rfl
  obtain ⟨n1, rfl, _, _, w1⟩ := open_int (show Tryd.prog.underlying 5 = some (.int .u8) by kernel_rfl) hv1 h1
  have R2 : Reads enc Tryd.prog W 5 v2.cells.toList := by obtain ⟨fuel, hf⟩ := h2; exact ⟨fuel, _, hf⟩
  have hv2 := hval 2 5 v2 rfl rfl
  obtain ⟨n2, rfl, _, _, w2⟩ := open_int (show Tryd.prog.underlying 5 = some (.int .u8) by kernel_rfl) hv2 h2
  obtain ⟨L, eL⟩ : ∃ L, L = badL W #[(.agg c0), (.int .u8 n1), (.int .u8 n2)] := ⟨_, rfl⟩
  obtain ⟨s0_0, n0_1, n0_2, v0_3, g0, f0_0, f0_1, f0_2, f0_3, _⟩ := open24 (cs := c0.toList) (by simpa [Value.cells] using R0)
  have g0' : c0 = #[.string s0_0, .int .i64 n0_1, .int .i64 n0_2, v0_3] := by apply Array.toList_inj.1; rw [g0]
  have i0_1 : -9223372036854775808 ≤ n0_1 ∧ n0_1 ≤ 9223372036854775807 := by simpa [IntKind.min, IntKind.max, IntKind.signed, IntKind.bits] using f0_1
  have i0_2 : -9223372036854775808 ≤ n0_2 ∧ n0_2 ≤ 9223372036854775807 := by simpa [IntKind.min, IntKind.max, IntKind.signed, IntKind.bits] using f0_2
  obtain ⟨xs0, sa0, cp0, e0, k0, l0, q0⟩ := bridge_steps (L := L) f0_3 (by rw [eL]; exact listed_arg (v := .agg c0) (by simp) (by rw [g0']; simp [Value.cells]))
  have b1 : 0 ≤ n1 ∧ n1 ≤ 255 := by simpa [Lit.wf, IntKind.min, IntKind.max, IntKind.signed, IntKind.bits] using w1
  have b2 : 0 ≤ n2 ∧ n2 ≤ 255 := by simpa [Lit.wf, IntKind.min, IntKind.max, IntKind.signed, IntKind.bits] using w2
  have ec : #[(.agg c0), (.int .u8 n1), (.int .u8 n2)].map (canonV W L) = #[.agg #[.string s0_0, .int .i64 n0_1, .int .i64 n0_2, .slice sa0 xs0.length cp0], .int .u8 n1, .int .u8 n2] := by simp [canonV, g0', e0]
  have hT := tables hLd hS (by simp [Rows.sagaPlainRow, laidP]) (by simp [Rows.sagaPlainRow, laidF])
  obtain ⟨v, h1, s, rfl, x⟩ := law_plain_x (heap0 W L) s0_0 f0_0 n0_1 i0_1 n0_2 i0_2 xs0 sa0 cp0 k0 l0 q0 n1 b1 n2 b2 (tab0 hT.1) (tab1 hT.2)
  have c := lift_call (P := Tryd.prog) (W := W) (L := L) (f := 6) (args := #[(.agg c0), (.int .u8 n1), (.int .u8 n2)]) (b := true) (h1 := h1) (tabG hT.1 hT.2) (by rw [ec]; exact s) (fun k hk => by rw [x k _ (Array.getElem?_eq_getElem hk), Array.getElem?_eq_getElem hk])
  refine c.mono fun e W' he => ⟨_, he.1, ?_⟩
  exact law_post (tb := 4) hW' rfl (by kernel_rfl) bool4 rfl laid readable he.2

/-- What the library's text lays into its table. -/
def tabU : Obj → Obj
  | .cells _ t frozen => .cells (Go.Pinned.utf8FirstZ.map fun (z : Nat) => Value.int .u8 z).toArray t frozen
  | o => o
/-- A world for the witness: what the door's own run leaves, and the library's table. -/
noncomputable def laidWorld (os : Os) : World := { World.doorLaid Tryd.prog 1500 os with heap := (World.doorLaid Tryd.prog 1500 os).heap.modify 3 tabU }
theorem laid_met (os : Os) : laidMetH Tryd.prog Rows.sagaPlainRow.laid ((laidWorld os).forCall (fun _ _ => 0) ⟨#[], #[.agg #[.string .empty, .int .i64 0, .int .i64 0, .slice none 0 0], .int .u8 0, .int .u8 0], []⟩).memory :=
  laidMetH_of_parts3 (fuel := 8) (laidMet_of_run' 8 (by kernel_rfl) (by kernel_rfl)) (by kernel_rfl) (by kernel_rfl)
theorem reads (os : Os) {H : Type} (enc : TypeId × Value → H) : ∃ places, DataW.whole enc Tryd.prog ((laidWorld os).forCall (fun _ _ => 0) ⟨#[], #[.agg #[.string .empty, .int .i64 0, .int .i64 0, .slice none 0 0], .int .u8 0, .int .u8 0], []⟩).memory Tryd.f6.params.toList Rows.sagaPlainSpec.vars false (#[.agg #[.string .empty, .int .i64 0, .int .i64 0, .slice none 0 0], .int .u8 0, .int .u8 0] : Array Value).toList 8 = some ([.agg [.lit (.string []), .lit (.int .i64 0), .lit (.int .i64 0), .nil], .lit (.int .u8 0), .lit (.int .u8 0)], [], places) :=
  ⟨[], by kernel_rfl⟩

set_option maxRecDepth 100000 in
theorem lifted (os : Os) (started : os.Started) (H : Type) (enc : TypeId × Value → H) (F : Stop.Interp) :
    ReturnsInHanded {} Tryd.checked os 6 .any ((OpenSpec.ofChange Rows.sagaPlainSpec).preRow enc Tryd.prog Tryd.f6 Rows.sagaPlainRow.domain false Rows.sagaPlainRow.laid) (((OpenSpec.ofChange Rows.sagaPlainSpec).at F).post enc Tryd.prog Tryd.f6 false true false false) := by
  obtain ⟨places, hx⟩ := reads os enc
  refine returnsInHanded_of_row (C := Tryd.checked) (s := OpenSpec.ofChange Rows.sagaPlainSpec) own started (by kernel_rfl) Tryd.func6
    (witness_row_atRef (enc := enc) (C := Tryd.checked) false (laidWorld os) #[.agg #[.string .empty, .int .i64 0, .int .i64 0, .slice none 0 0], .int .u8 0, .int .u8 0] rfl (by kernel_rfl) (by kernel_rfl) (by kernel_rfl)
      (OpenSpec.preRow_of_cond 8 hx (by kernel_rfl) (fun k hk => by cases hk) (by kernel_rfl) (laid_met os))) ?_
  intro W base args ds gs before hval hW _ _ _ hL hS _
  exact contract H enc W base args ds gs before hval hW hL hS

theorem said : Rows.SagaPlainSaid :=
  OpenClaim.holds_of_cond 6 Tryd.f6 rfl rfl rfl rfl rfl rfl rfl ⟨rfl, rfl, rfl, rfl, rfl⟩ rfl rfl rfl rfl rfl (by kernel_rfl) Tryd.func6 (by kernel_rfl)
    (of_decide_eq_true (by kernel_rfl)) (by unfold Func.isWrapper; first | (rw [if_pos (by decide +kernel)]; kernel_rfl) | (rw [if_neg (by decide +kernel)]; exact ⟨rfl, rfl⟩))
    (fun os started H enc _ F => by rw [OpenClaim.pre_eq_preRow]; exact lifted os started H enc F)
theorem plain (f : FuncId) (fn : Func) (hf : Tryd.pinned.checked.prog.funcNamed "skald/skaldlaw28.SagaPlain" = some f) (hfn : Tryd.pinned.checked.prog.funcs[f]? = some fn) :
    false = Tryd.pinned.checked.prog.looks [] ∧ ∀ (j : Nat) t, fn.params[j]? = some t → Tryd.pinned.checked.prog.wantsStandIn t = false := by
  obtain rfl : f = 6 := Option.some.inj ((show Tryd.prog.funcNamed "skald/skaldlaw28.SagaPlain" = some 6 by kernel_rfl).symm.trans hf) |>.symm
  obtain rfl : fn = Tryd.f6 := (Option.some.inj (Tryd.func6.symm.trans hfn)).symm
  refine ⟨by kernel_rfl, fun j t ht => ?_⟩
  have hm : t ∈ Tryd.f6.params.toList := by simpa using Array.mem_of_getElem? ht
  rw [Tryd.params6] at hm
  simp only [List.mem_cons, List.not_mem_nil, or_false] at hm
  rcases hm with rfl | rfl | rfl
  · exact (show Tryd.prog.wantsStandIn 24 = false by kernel_rfl)
  · exact (show Tryd.prog.wantsStandIn 5 = false by kernel_rfl)
  · exact (show Tryd.prog.wantsStandIn 5 = false by kernel_rfl)
/-- The card. -/
theorem card : Rows.SagaPlainCardSaid :=
  Claim7.holds_tied_plain_at .later [] _ _ _ _ said (fun _ h => by cases h) (by kernel_rfl) (fun _ h => by cases h) sagaPlain_row_tie rfl ⟨rfl, rfl⟩ (by kernel_rfl) rfl plain (by kernel_rfl)
end Go.Proofs.YtonjnghiehdmmaaDoor.sagaPlain
