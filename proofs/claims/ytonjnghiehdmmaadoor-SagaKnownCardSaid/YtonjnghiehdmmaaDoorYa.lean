/- The examples of the saga chapter hold: cancelled and late sagas, and errors in their order; the condition is the library table that the row names. -/
import Derived.Test.YtonjnghiehdmmaaDoorCards
import Derived.Test.YtonjnghiehdmmaaDoorTie
import Derived.Test.YtonjnghiehdmmaaDoorPa
import Derived.Test.YtonjnghiehdmmaaDoorYt
import Derived.WalkKit
import Derived.ProofKit
import Derived.OpenShut
import Derived.WideShapes
import Derived.Deep.DeepHandedRow
import Derived.Lib.LaidTab
import Derived.LaidMore
import Derived.Stop.Joined
import Derived.Deep.DeepWitnessRowRef
namespace Go.Proofs.YtonjnghiehdmmaaDoor.sagaKnown
open Go.ChangeShapes Go.WideShapes Go.ChangeAt Go.RowKit Go.AM C28

theorem own : ownKnob Tryd.prog.godebug = none := by kernel_rfl
theorem laid : laidOutB Tryd.prog = true := by kernel_rfl
theorem bool4 : Tryd.prog.underlying 4 = some .bool := by kernel_rfl
theorem readable : ∀ t ∈ Tryd.f9.params.toList, Tryd.prog.readableRec t = true ∧ t < Tryd.prog.types.size := by
  rw [Tryd.params9]
  intro t ht
  skip
  exact absurd ht (by simp)
set_option maxRecDepth 100000 in
theorem contract (H : Type) (enc : TypeId × Value → H) (W : World) (base : Nat) (args : Array Value) (ds gs : List (DataW H)) (before : List MemPlace)
    (hval0 : ∀ (j : Nat) t v, Tryd.f9.params[j]? = some t → args[j]? = some v → Value.okWide Tryd.prog W .any base t v)
    (hW : DataW.Whole enc Tryd.prog Tryd.f9.params.toList Rows.sagaKnownSpec.vars false W args.toList ds gs before) (hLd : laidMetH Tryd.prog Rows.sagaKnownRow.laid W) (hS : W.ShapedOpen Tryd.prog) :
    Calls Tryd.prog 9 args W fun e W' => ∃ v, e = .returned v ∧ Rows.sagaKnownSpec.post enc Tryd.prog Tryd.f9 false true false false W args v W' := by
  have hW' := hW
  obtain ⟨p, q, hA0, hV, rfl, hfz, hnd⟩ := hW
  have hA : DataW.TrodAll enc Tryd.prog W 0 (fun _ => true) true Tryd.f9.params.toList args.toList ds p := hA0
  have hval := hval0
  rw [Tryd.params9] at hA hval
  obtain ⟨ha0, rfl, rfl⟩ := trodAll_nil hA
  obtain rfl : args = #[] := by cases args; simp_all
  obtain ⟨rfl, rfl⟩ := trodVars_none hV
  obtain ⟨L, eL⟩ : ∃ L : List Addr, L = [] := ⟨_, rfl⟩
  have ec : #[].map (Fv.canonV W L) = #[] := by simp [Fv.canonV]
  have hT := tables hLd hS (by simp [Rows.sagaKnownRow, laidP]) (by simp [Rows.sagaKnownRow, laidF])
  obtain ⟨v, h1, s, rfl, x⟩ := law_known (Fv.heap0 W L)  (tab0 hT.1) (tab1 hT.2)
  have c := Fv.lift_call (P := Tryd.prog) (W := W) (L := L) (f := 9) (args := #[]) (b := true) (h1 := h1) (tabG hT.1 hT.2) (by rw [ec]; exact s) (fun k hk => by rw [x k _ (Array.getElem?_eq_getElem hk), Array.getElem?_eq_getElem hk])
  refine c.mono fun e W' he => ⟨_, he.1, ?_⟩
  exact law_post (tb := 4) hW' rfl (by kernel_rfl) bool4 rfl laid readable he.2

/-- What the library's text lays into its table. -/
def tabU : Obj → Obj
  | .cells _ t frozen => .cells (Go.Pinned.utf8FirstZ.map fun (z : Nat) => Value.int .u8 z).toArray t frozen
  | o => o
/-- A world for the witness: what the door's own run leaves, and the library's table. -/
noncomputable def laidWorld (os : Os) : World := { World.doorLaid Tryd.prog 1500 os with heap := (World.doorLaid Tryd.prog 1500 os).heap.modify 3 tabU }
theorem laid_met (os : Os) : laidMetH Tryd.prog Rows.sagaKnownRow.laid ((laidWorld os).forCall (fun _ _ => 0) ⟨#[], #[], []⟩).memory :=
  laidMetH_of_parts3 (fuel := 8) (laidMet_of_run' 8 (by kernel_rfl) (by kernel_rfl)) (by kernel_rfl) (by kernel_rfl)
theorem reads (os : Os) {H : Type} (enc : TypeId × Value → H) : ∃ places, DataW.whole enc Tryd.prog ((laidWorld os).forCall (fun _ _ => 0) ⟨#[], #[], []⟩).memory Tryd.f9.params.toList Rows.sagaKnownSpec.vars false (#[] : Array Value).toList 8 = some ([], [], places) :=
  ⟨[], by kernel_rfl⟩

set_option maxRecDepth 100000 in
theorem lifted (os : Os) (started : os.Started) (H : Type) (enc : TypeId × Value → H) (F : Stop.Interp) :
    ReturnsInHanded {} Tryd.checked os 9 .any ((OpenSpec.ofChange Rows.sagaKnownSpec).preRow enc Tryd.prog Tryd.f9 Rows.sagaKnownRow.domain false Rows.sagaKnownRow.laid) (((OpenSpec.ofChange Rows.sagaKnownSpec).at F).post enc Tryd.prog Tryd.f9 false true false false) := by
  obtain ⟨places, hx⟩ := reads os enc
  refine returnsInHanded_of_row (C := Tryd.checked) (s := OpenSpec.ofChange Rows.sagaKnownSpec) own started (by kernel_rfl) Tryd.func9
    (witness_row_atRef (enc := enc) (C := Tryd.checked) false (laidWorld os) #[] rfl (by kernel_rfl) (by kernel_rfl) (by kernel_rfl)
      (OpenSpec.preRow_of_cond 8 hx (by kernel_rfl) (fun k hk => by cases hk) (by kernel_rfl) (laid_met os))) ?_
  intro W base args ds gs before hval hW _ _ _ hL hS _
  exact contract H enc W base args ds gs before hval hW hL hS

theorem said : Rows.SagaKnownSaid :=
  OpenClaim.holds_of_cond 9 Tryd.f9 rfl rfl rfl rfl rfl rfl rfl ⟨rfl, rfl, rfl, rfl, rfl⟩ rfl rfl rfl rfl rfl (by kernel_rfl) Tryd.func9 (by kernel_rfl)
    (of_decide_eq_true (by kernel_rfl)) (by unfold Func.isWrapper; first | (rw [if_pos (by decide +kernel)]; kernel_rfl) | (rw [if_neg (by decide +kernel)]; exact ⟨rfl, rfl⟩))
    (fun os started H enc _ F => by rw [OpenClaim.pre_eq_preRow]; exact lifted os started H enc F)
theorem plain (f : FuncId) (fn : Func) (hf : Tryd.pinned.checked.prog.funcNamed "skald/skaldlaw28.SagaKnown" = some f) (hfn : Tryd.pinned.checked.prog.funcs[f]? = some fn) :
    false = Tryd.pinned.checked.prog.looks [] ∧ ∀ (j : Nat) t, fn.params[j]? = some t → Tryd.pinned.checked.prog.wantsStandIn t = false := by
  obtain rfl : f = 9 := Option.some.inj ((show Tryd.prog.funcNamed "skald/skaldlaw28.SagaKnown" = some 9 by kernel_rfl).symm.trans hf) |>.symm
  obtain rfl : fn = Tryd.f9 := (Option.some.inj (Tryd.func9.symm.trans hfn)).symm
  refine ⟨by kernel_rfl, fun j t ht => ?_⟩
  have hm : t ∈ Tryd.f9.params.toList := by simpa using Array.mem_of_getElem? ht
  rw [Tryd.params9] at hm
  skip
  exact absurd hm (by simp)
/-- The card. -/
theorem card : Rows.SagaKnownCardSaid :=
  Claim7.holds_tied_plain_at .later [] _ _ _ _ said (fun _ h => by cases h) (by kernel_rfl) (fun _ h => by cases h) sagaKnown_row_tie rfl ⟨rfl, rfl⟩ (by kernel_rfl) rfl plain (by kernel_rfl)
end Go.Proofs.YtonjnghiehdmmaaDoor.sagaKnown
