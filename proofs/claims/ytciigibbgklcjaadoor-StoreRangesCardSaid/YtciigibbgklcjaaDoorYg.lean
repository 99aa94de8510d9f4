/- StoreRanges: the keys below a text and those from it on are all keys; each key is in just the ranges that have it; for every script of at most 100 steps whose texts are short (others are not looked at). -/
import Derived.Test.YtciigibbgklcjaaDoorCards
import Derived.Test.YtciigibbgklcjaaDoorTie
import Derived.Test.YtciigibbgklcjaaDoorPg
import Derived.Test.YtciigibbgklcjaaDoorMy
import Derived.WalkKit
import Derived.ProofKit
import Derived.OpenShut
import Derived.WideShapes
import Derived.Deep.DeepHandedRow
import Derived.Lib.LaidTab
namespace Go.Proofs.YtciigibbgklcjaaDoor.storeRanges
open Go.ChangeShapes Go.WideShapes Go.ChangeAt Go.RowKit Go.AM C08

theorem own : ownKnob Tryd.prog.godebug = none := by kernel_rfl
theorem laid : laidOutB Tryd.prog = true := by kernel_rfl
theorem bool4 : Tryd.prog.underlying 4 = some .bool := by kernel_rfl
theorem readable : ∀ t ∈ Tryd.f3.params.toList, Tryd.prog.readableRec t = true ∧ t < Tryd.prog.types.size := by
  rw [Tryd.params3]
  intro t ht
  simp only [List.mem_cons, List.not_mem_nil, or_false] at ht
  rcases ht with rfl | rfl | rfl
  all_goals exact ⟨by kernel_rfl, of_decide_eq_true (by kernel_rfl)⟩
set_option maxRecDepth 100000 in
theorem contract (H : Type) (enc : TypeId × Value → H) (W : World) (base : Nat) (args : Array Value) (ds gs : List (DataW H)) (before : List MemPlace)
    (hval0 : ∀ (j : Nat) t v, Tryd.f3.params[j]? = some t → args[j]? = some v → Value.okWide Tryd.prog W .any base t v)
    (hW : DataW.Whole enc Tryd.prog Tryd.f3.params.toList Rows.storeRangesSpec.vars false W args.toList ds gs before) :
    Calls Tryd.prog 3 args W fun e W' => ∃ v, e = .returned v ∧ Rows.storeRangesSpec.post enc Tryd.prog Tryd.f3 false true false false W args v W' := by
  have hW' := hW
  obtain ⟨p, q, hA0, hV, rfl, hfz, hnd⟩ := hW
  have hA : DataW.TrodAll enc Tryd.prog W 0 (fun _ => true) true Tryd.f3.params.toList args.toList ds p := hA0
  have hval := hval0
  rw [Tryd.params3] at hA hval
  obtain ⟨v0, vs0, d0, ds0, p0, q0, ha0, rfl, rfl, h0, r0⟩ := trodAll_cons hA
  obtain ⟨v1, vs1, d1, ds1, p1, q1, rfl, rfl, rfl, h1, r1⟩ := trodAll_cons r0
  obtain ⟨v2, vs2, d2, ds2, p2, q2, rfl, rfl, rfl, h2, r2⟩ := trodAll_cons r1
  obtain ⟨rfl, rfl, rfl⟩ := trodAll_nil r2
  obtain rfl : args = #[v0, v1, v2] := by cases args; simp_all
  obtain ⟨rfl, rfl⟩ := trodVars_none hV
  have R0 : Reads enc Tryd.prog W 22 v0.cells.toList := by obtain ⟨fuel, hf⟩ := h0; exact ⟨fuel, _, hf⟩
  have hv0 := hval 0 22 v0 rfl rfl
  obtain ⟨a0, nn0, cc0, rfl⟩ := okWide_slice (show Tryd.prog.underlying 22 = some (.slice 47) by kernel_rfl) hv0
  have R1 : Reads enc Tryd.prog W 9 v1.cells.toList := by obtain ⟨fuel, hf⟩ := h1; exact ⟨fuel, _, hf⟩
  have hv1 := hval 1 9 v1 rfl rfl
  obtain ⟨s1, rfl⟩ := okWide_string (show Tryd.prog.underlying 9 = some .string by kernel_rfl) hv1
  have R2 : Reads enc Tryd.prog W 24 v2.cells.toList := by obtain ⟨fuel, hf⟩ := h2; exact ⟨fuel, _, hf⟩
  have hv2 := hval 2 24 v2 rfl rfl
  obtain ⟨c2, rfl, z2⟩ := okWide_struct (fs := (match Tryd.prog.underlying 24 with | some (.struct fs) => fs | _ => #[])) (by kernel_rfl) hv2
  obtain ⟨L, eL⟩ : ∃ L, L = badL W #[(.slice a0 nn0 cc0), (.string s1), (.agg c2)] := ⟨_, rfl⟩
  obtain ⟨xs0, sa0, cp0, e0, k0, l0, q0⟩ := bridge_steps (L := L) (v := .slice a0 nn0 cc0) R0 (by rw [eL]; exact listed_arg (v := .slice a0 nn0 cc0) (by simp) (by simp [Value.cells]))
  obtain ⟨t1, e1, l1⟩ := reads_string (show Tryd.prog.underlying 9 = some .string by kernel_rfl) R1
  obtain ⟨s2_0, s2_1, g2, f2_0, f2_1, _⟩ := open24 (cs := c2.toList) (by simpa [Value.cells] using R2)
  have g2' : c2 = #[.string s2_0, .string s2_1] := by apply Array.toList_inj.1; rw [g2]
  have ec : #[(.slice a0 nn0 cc0), (.string s1), (.agg c2)].map (canonV W L) = #[.slice sa0 xs0.length cp0, .string s1, .agg #[.string s2_0, .string s2_1]] := by simp [canonV, e0, g2']
  obtain ⟨v, h1, s, rfl, x⟩ := law_ranges_x (heap0 W L) xs0 sa0 cp0 k0 l0 q0 s1 s2_0 s2_1
  have c := lift_call (P := Tryd.prog) (W := W) (L := L) (f := 3) (args := #[(.slice a0 nn0 cc0), (.string s1), (.agg c2)]) (b := true) (h1 := h1) (fun g hg => by cases hg) (by rw [ec]; exact s) (fun k hk => by rw [x k _ (Array.getElem?_eq_getElem hk), Array.getElem?_eq_getElem hk])
  refine c.mono fun e W' he => ⟨_, he.1, ?_⟩
  exact law_post (tb := 4) hW' rfl (by kernel_rfl) bool4 rfl laid readable he.2

/-- What the library's tables hold. -/
def tab0 : Obj → Obj
  | .cells _ t frozen => .cells (Go.Pinned.utf8FirstZ.map fun (z : Nat) => Value.int .u8 z).toArray t frozen
  | o => o
def tab1 : Obj → Obj
  | .cells _ t frozen => .cells (([128, 191, 160, 191, 128, 159, 144, 191, 128, 143] ++ List.replicate 22 0).map fun (z : Nat) => Value.int .u8 z).toArray t frozen
  | o => o
/-- A world for the witness: the settled one, the tables holding what their initialisers lay. -/
noncomputable def laidWorld (os : Os) : World :=
  { World.holding Tryd.prog os ⟨#[], #[], []⟩ with heap := ((World.holding Tryd.prog os ⟨#[], #[], []⟩).heap.modify 0 tab0).modify 1 tab1 }
theorem laid_met (os : Os) : laidMet Tryd.prog Rows.storeRangesRow.laid ((laidWorld os).forCall (fun _ _ => 0) ⟨#[], #[.slice none 0 0, .string .empty, .agg #[.string .empty, .string .empty]], []⟩).memory :=
  laidMet_of_run' 8 (by kernel_rfl) (by kernel_rfl)
theorem reads (os : Os) {H : Type} (enc : TypeId × Value → H) : ∃ places, DataW.whole enc Tryd.prog ((laidWorld os).forCall (fun _ _ => 0) ⟨#[], #[.slice none 0 0, .string .empty, .agg #[.string .empty, .string .empty]], []⟩).memory Tryd.f3.params.toList Rows.storeRangesSpec.vars false (#[.slice none 0 0, .string .empty, .agg #[.string .empty, .string .empty]] : Array Value).toList 8 = some ([.nil, .lit (.string []), .agg [.lit (.string []), .lit (.string [])]], [], places) :=
  ⟨[], by kernel_rfl⟩

set_option maxRecDepth 100000 in
theorem lifted (os : Os) (started : os.Started) (H : Type) (enc : TypeId × Value → H) (F : Stop.Interp) :
    ReturnsInHanded {} Tryd.checked os 3 .any ((OpenSpec.ofChange Rows.storeRangesSpec).preRow enc Tryd.prog Tryd.f3 Rows.storeRangesRow.domain false Rows.storeRangesRow.laid) (((OpenSpec.ofChange Rows.storeRangesSpec).at F).post enc Tryd.prog Tryd.f3 false true false false) := by
  obtain ⟨places, hx⟩ := reads os enc
  refine returnsInHanded_of_row (C := Tryd.checked) (s := OpenSpec.ofChange Rows.storeRangesSpec) own started (by kernel_rfl) Tryd.func3
    (witness_row_at (enc := enc) (C := Tryd.checked) false (laidWorld os) #[.slice none 0 0, .string .empty, .agg #[.string .empty, .string .empty]] rfl (by kernel_rfl) (by kernel_rfl) (by kernel_rfl)
      (OpenSpec.preRow_of_cond 8 hx (by kernel_rfl) (fun k hk => by cases hk) (by kernel_rfl) (laid_met os))) ?_
  intro W base args ds gs before hval hW _ _ _ hL hS _
  exact contract H enc W base args ds gs before hval hW

theorem said : Rows.StoreRangesSaid :=
  OpenClaim.holds_of_cond 3 Tryd.f3 rfl rfl rfl rfl rfl rfl rfl ⟨rfl, rfl, rfl, rfl, rfl⟩ rfl rfl rfl rfl rfl (by kernel_rfl) Tryd.func3 (by kernel_rfl)
    (of_decide_eq_true (by kernel_rfl)) (by unfold Func.isWrapper; first | (rw [if_pos (by decide +kernel)]; kernel_rfl) | (rw [if_neg (by decide +kernel)]; exact ⟨rfl, rfl⟩))
    (fun os started H enc _ F => by rw [OpenClaim.pre_eq_preRow]; exact lifted os started H enc F)
theorem plain (f : FuncId) (fn : Func) (hf : Tryd.pinned.checked.prog.funcNamed "skald/skaldlaw08.StoreRanges" = some f) (hfn : Tryd.pinned.checked.prog.funcs[f]? = some fn) :
    true = Tryd.pinned.checked.prog.looks [] ∧ ∀ (j : Nat) t, fn.params[j]? = some t → Tryd.pinned.checked.prog.wantsStandIn t = false := by
  obtain rfl : f = 3 := Option.some.inj ((show Tryd.prog.funcNamed "skald/skaldlaw08.StoreRanges" = some 3 by kernel_rfl).symm.trans hf) |>.symm
  obtain rfl : fn = Tryd.f3 := (Option.some.inj (Tryd.func3.symm.trans hfn)).symm
  refine ⟨by kernel_rfl, fun j t ht => ?_⟩
  have hm : t ∈ Tryd.f3.params.toList := by simpa using Array.mem_of_getElem? ht
  rw [Tryd.params3] at hm
  simp only [List.mem_cons, List.not_mem_nil, or_false] at hm
  rcases hm with rfl | rfl | rfl
  · exact (show Tryd.prog.wantsStandIn 22 = false by kernel_rfl)
  · exact (show Tryd.prog.wantsStandIn 9 = false by kernel_rfl)
  · exact (show Tryd.prog.wantsStandIn 24 = false by kernel_rfl)
/-- The card. -/
theorem card : Rows.StoreRangesCardSaid :=
  Claim7.holds_tied_plain_at .later [] _ _ _ _ said (fun _ h => by cases h) (by kernel_rfl) (fun _ h => by cases h) storeRanges_row_tie rfl ⟨rfl, rfl⟩ (by kernel_rfl) rfl plain (by kernel_rfl)
end Go.Proofs.YtciigibbgklcjaaDoor.storeRanges
