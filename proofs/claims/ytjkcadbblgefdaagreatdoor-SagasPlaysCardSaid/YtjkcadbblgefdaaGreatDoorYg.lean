/- SagasPlays: what is done with sagas is the document's. -/
import Derived.Test.YtjkcadbblgefdaaGreatDoorCards
import Derived.Test.YtjkcadbblgefdaaGreatDoorTie
import Derived.Test.YtjkcadbblgefdaaGreatDoorPg
import Derived.Test.YtjkcadbblgefdaaGreatDoorYt
import Derived.Test.YtjkcadbblgefdaaGreatDoorRy
import Derived.WalkKit
import Derived.ProofKit
import Derived.OpenShut
import Derived.WideShapes
import Derived.Deep.DeepHandedRow
import Derived.Lib.LaidTab
import Derived.LaidMore
import Derived.Stop.Joined
import Derived.Deep.DeepWitnessRowRef
namespace Go.Proofs.YtjkcadbblgefdaaGreatDoor.sagasPlays
open Go.ChangeShapes Go.WideShapes Go.ChangeAt Go.RowKit Go.AM C29

theorem own : ownKnob Tryz.prog.godebug = none := by kernel_rfl
theorem laid : laidOutB Tryz.prog = true := by kernel_rfl
theorem bool4 : Tryz.prog.underlying 4 = some .bool := by kernel_rfl
theorem readable : ∀ t ∈ Tryz.f3.params.toList, Tryz.prog.readableRec t = true ∧ t < Tryz.prog.types.size := by
  rw [Tryz.params3]
  intro t ht
  simp only [List.mem_cons, List.not_mem_nil, or_false] at ht
  rcases ht with rfl | rfl
  all_goals exact ⟨by kernel_rfl, of_decide_eq_true (by kernel_rfl)⟩
set_option maxRecDepth 100000 in
theorem contract (H : Type) (enc : TypeId × Value → H) (W : World) (base : Nat) (args : Array Value) (ds gs : List (DataW H)) (before : List MemPlace)
    (hval0 : ∀ (j : Nat) t v, Tryz.f3.params[j]? = some t → args[j]? = some v → Value.okWide Tryz.prog W .any base t v)
    (hW : DataW.Whole enc Tryz.prog Tryz.f3.params.toList Rows.sagasPlaysSpec.vars false W args.toList ds gs before) (hLd : laidMetH Tryz.prog Rows.sagasPlaysRow.laid W) (hS : W.ShapedOpen Tryz.prog) :
    Calls Tryz.prog 3 args W fun e W' => ∃ v, e = .returned v ∧ Rows.sagasPlaysSpec.post enc Tryz.prog Tryz.f3 false true false false W args v W' := by
  have hW' := hW
  obtain ⟨p, q, hA0, hV, rfl, hfz, hnd⟩ := hW
  have hA : DataW.TrodAll enc Tryz.prog W 0 (fun _ => true) true Tryz.f3.params.toList args.toList ds p := hA0
  have hval := hval0
  rw [Tryz.params3] at hA hval
  obtain ⟨v0, vs0, d0, ds0, p0, q0, ha0, rfl, rfl, h0, r0⟩ := trodAll_cons hA
  obtain ⟨v1, vs1, d1, ds1, p1, q1, rfl, rfl, rfl, h1, r1⟩ := trodAll_cons r0
  obtain ⟨rfl, rfl, rfl⟩ := trodAll_nil r1
  obtain rfl : args = #[v0, v1] := by cases args; simp_all
  obtain ⟨rfl, rfl⟩ := trodVars_none hV
  have R0 : Reads enc Tryz.prog W 22 v0.cells.toList := by obtain ⟨fuel, hf⟩ := h0; exact ⟨fuel, _, hf⟩
  have hv0 := hval 0 22 v0 rfl rfl
  obtain ⟨a0, nn0, cc0, rfl⟩ := okWide_slice (show Tryz.prog.underlying 22 = some (.slice 40) by kernel_rfl) hv0
  have R1 : Reads enc Tryz.prog W 3 v1.cells.toList := by obtain ⟨fuel, hf⟩ := h1; exact ⟨fuel, _, hf⟩
  have hv1 := hval 1 3 v1 rfl rfl
  obtain ⟨n1, rfl, _, _, w1⟩ := open_int (show Tryz.prog.underlying 3 = some (.int .i64) by kernel_rfl) hv1 h1
  obtain ⟨L, eL⟩ : ∃ L, L = badL W #[(.slice a0 nn0 cc0), (.int .i64 n1)] := ⟨_, rfl⟩
  obtain ⟨xs0, sa0, cp0, e0, k0, l0, q0⟩ := bridge_scr2 eL (L := L) (v := .slice a0 nn0 cc0) R0 (by rw [eL]; exact listed_arg (v := .slice a0 nn0 cc0) (by simp) (by simp [Value.cells]))
  have b1 : -9223372036854775808 ≤ n1 ∧ n1 ≤ 9223372036854775807 := by simpa [Lit.wf, IntKind.min, IntKind.max, IntKind.signed, IntKind.bits] using w1
  have ec : #[(.slice a0 nn0 cc0), (.int .i64 n1)].map (canonV W L) = #[.slice sa0 xs0.length cp0, .int .i64 n1] := by simp [canonV, e0]
  have hT := tables hLd hS (by simp [Rows.sagasPlaysRow, laidP]) (by simp [Rows.sagasPlaysRow, laidF])
  obtain ⟨v, h1, s, rfl, x⟩ := law_plays (heap0 W L) xs0 sa0 cp0 k0 l0 q0 n1 b1 (tab1 hT.2) (tab0 hT.1)
  have c := lift_call (P := Tryz.prog) (W := W) (L := L) (f := 3) (args := #[(.slice a0 nn0 cc0), (.int .i64 n1)]) (b := true) (h1 := h1) (tabG hT.1 hT.2) (by rw [ec]; exact s) (fun k hk => by rw [x k _ (Array.getElem?_eq_getElem hk), Array.getElem?_eq_getElem hk])
  refine c.mono fun e W' he => ⟨_, he.1, ?_⟩
  exact law_post (tb := 4) hW' rfl (by kernel_rfl) bool4 rfl laid readable he.2

/-- What the library's text lays into its table. -/
def tabU : Obj → Obj
  | .cells _ t frozen => .cells (Go.Pinned.utf8FirstZ.map fun (z : Nat) => Value.int .u8 z).toArray t frozen
  | o => o
/-- A world for the witness: what the door's own run leaves, and the library's table. -/
noncomputable def laidWorld (os : Os) : World := { World.doorLaid Tryz.prog 1500 os with heap := (World.doorLaid Tryz.prog 1500 os).heap.modify 2 tabU }
theorem laid_met (os : Os) : laidMetH Tryz.prog Rows.sagasPlaysRow.laid ((laidWorld os).forCall (fun _ _ => 0) ⟨#[], #[.slice none 0 0, .int .i64 0], []⟩).memory :=
  laidMetH_of_parts3 (fuel := 8) (laidMet_of_run' 8 (by kernel_rfl) (by kernel_rfl)) (by kernel_rfl) (by kernel_rfl)
theorem reads (os : Os) {H : Type} (enc : TypeId × Value → H) : ∃ places, DataW.whole enc Tryz.prog ((laidWorld os).forCall (fun _ _ => 0) ⟨#[], #[.slice none 0 0, .int .i64 0], []⟩).memory Tryz.f3.params.toList Rows.sagasPlaysSpec.vars false (#[.slice none 0 0, .int .i64 0] : Array Value).toList 8 = some ([.nil, .lit (.int .i64 0)], [], places) :=
  ⟨[], by kernel_rfl⟩

set_option maxRecDepth 100000 in
theorem lifted (os : Os) (started : os.Started) (H : Type) (enc : TypeId × Value → H) (F : Stop.Interp) :
    ReturnsInHanded {} Tryz.checked os 3 .any ((OpenSpec.ofChange Rows.sagasPlaysSpec).preRow enc Tryz.prog Tryz.f3 Rows.sagasPlaysRow.domain false Rows.sagasPlaysRow.laid) (((OpenSpec.ofChange Rows.sagasPlaysSpec).at F).post enc Tryz.prog Tryz.f3 false true false false) := by
  obtain ⟨places, hx⟩ := reads os enc
  refine returnsInHanded_of_row (C := Tryz.checked) (s := OpenSpec.ofChange Rows.sagasPlaysSpec) own started (by kernel_rfl) Tryz.func3
    (witness_row_atRef (enc := enc) (C := Tryz.checked) false (laidWorld os) #[.slice none 0 0, .int .i64 0] rfl (by kernel_rfl) (by kernel_rfl) (by kernel_rfl)
      (OpenSpec.preRow_of_cond 8 hx (by kernel_rfl) (fun k hk => by cases hk) (by kernel_rfl) (laid_met os))) ?_
  intro W base args ds gs before hval hW _ _ _ hL hS _
  exact contract H enc W base args ds gs before hval hW hL hS

theorem said : Rows.SagasPlaysSaid :=
  OpenClaim.holds_of_cond 3 Tryz.f3 rfl rfl rfl rfl rfl rfl rfl ⟨rfl, rfl, rfl, rfl, rfl⟩ rfl rfl rfl rfl rfl (by kernel_rfl) Tryz.func3 (by kernel_rfl)
    (of_decide_eq_true (by kernel_rfl)) (by unfold Func.isWrapper; first | (rw [if_pos (by decide +kernel)]; kernel_rfl) | (rw [if_neg (by decide +kernel)]; exact ⟨rfl, rfl⟩))
    (fun os started H enc _ F => by rw [OpenClaim.pre_eq_preRow]; exact lifted os started H enc F)
theorem plain (f : FuncId) (fn : Func) (hf : Tryz.pinned.checked.prog.funcNamed "skald/skaldlaw29.SagasPlays" = some f) (hfn : Tryz.pinned.checked.prog.funcs[f]? = some fn) :
    false = Tryz.pinned.checked.prog.looks [] ∧ ∀ (j : Nat) t, fn.params[j]? = some t → Tryz.pinned.checked.prog.wantsStandIn t = false := by
  obtain rfl : f = 3 := Option.some.inj ((show Tryz.prog.funcNamed "skald/skaldlaw29.SagasPlays" = some 3 by kernel_rfl).symm.trans hf) |>.symm
  obtain rfl : fn = Tryz.f3 := (Option.some.inj (Tryz.func3.symm.trans hfn)).symm
  refine ⟨by kernel_rfl, fun j t ht => ?_⟩
  have hm : t ∈ Tryz.f3.params.toList := by simpa using Array.mem_of_getElem? ht
  rw [Tryz.params3] at hm
  simp only [List.mem_cons, List.not_mem_nil, or_false] at hm
  rcases hm with rfl | rfl
  · exact (show Tryz.prog.wantsStandIn 22 = false by kernel_rfl)
  · exact (show Tryz.prog.wantsStandIn 3 = false by kernel_rfl)
/-- The card. -/
theorem card : Rows.SagasPlaysCardSaid :=
  Claim7.holds_tied_plain_at .later [] _ _ _ _ said (fun _ h => by cases h) (by kernel_rfl) (fun _ h => by cases h) sagasPlays_row_tie rfl ⟨rfl, rfl⟩ (by kernel_rfl) rfl plain (by kernel_rfl)
end Go.Proofs.YtjkcadbblgefdaaGreatDoor.sagasPlays
