/- CallsEvents: for every input the law CallsEvents answers true, and what it was given reads as before. Conditions: none. -/
import Derived.Test.YtdcboianihplpaaRows
import Derived.Test.YtdcboianihplpaaXj
import Derived.Test.YtdcboianihplpaaXy
import Derived.WalkKit
import Derived.ProofKit
import Derived.OpenShut
import Derived.WideShapes
namespace Go.Proofs.Ytdcboianihplpaa.callsEvents
open Go.ChangeShapes Go.WideShapes Go.ChangeAt Go.RowKit Go.AM C36

theorem own : ownKnob Try.prog.godebug = none := by kernel_rfl
theorem laid : laidOutB Try.prog = true := by kernel_rfl
theorem bool4 : Try.prog.underlying 4 = some .bool := by kernel_rfl
theorem readable : ∀ t ∈ Try.f10.params.toList, Try.prog.readableRec t = true ∧ t < Try.prog.types.size := by
  rw [Try.params10]
  intro t ht
  simp only [List.mem_cons, List.not_mem_nil, or_false] at ht
  rcases ht with rfl | rfl
  all_goals exact ⟨by kernel_rfl, of_decide_eq_true (by kernel_rfl)⟩
theorem slack0 (W : World) (L : List Addr) (b : Nat) : slackElem (heap0 W L) b = none := by
  have key : ∀ o, (heap0 W L)[b]? = some o → isSlack (some o) = false := by
    intro o hb
    simp only [heap0] at hb
    rw [Array.getElem?_append] at hb
    split at hb
    · rw [Array.getElem?_map] at hb
      cases ho : W.heap[b]? with
      | none => rw [ho] at hb; cases hb
      | some o' =>
        rw [ho] at hb
        simp only [Option.map_some, Option.some.injEq] at hb
        subst hb
        cases o' with
        | cells c e fr => exact isSlack_canon _ _ _
        | _ => rfl
    · simp only [List.getElem?_toArray, List.getElem?_map] at hb
      simp only [Option.map_eq_some_iff] at hb
      obtain ⟨a, _, rfl⟩ := hb
      rfl
  unfold slackElem
  split
  · rename_i c e fr hb
    have := key _ hb
    simp only [isSlack, decide_eq_false_iff_not] at this
    rw [if_neg this]
  · rfl
theorem contract (H : Type) (enc : TypeId × Value → H) (W : World) (base : Nat) (args : Array Value) (ds gs : List (DataW H)) (before : List MemPlace)
    (hval0 : ∀ (j : Nat) t v, Try.f10.params[j]? = some t → args[j]? = some v → Value.okWide Try.prog W .any base t v)
    (hW : DataW.Whole enc Try.prog Try.f10.params.toList Rows.callsEventsSpec.vars false W args.toList ds gs before) :
    Calls Try.prog 10 args W fun e W' => ∃ v, e = .returned v ∧ Rows.callsEventsSpec.post enc Try.prog Try.f10 false true false false W args v W' := by
  have hW' := hW
  obtain ⟨p, q, hA0, hV, rfl, hfz, hnd⟩ := hW
  have hA : DataW.TrodAll enc Try.prog W 0 (fun _ => true) true Try.f10.params.toList args.toList ds p := hA0
  have hval := hval0
  rw [Try.params10] at hA hval
  obtain ⟨v0, vs0, d0, ds0, p0, q0, ha0, rfl, rfl, h0, r0⟩ := trodAll_cons hA
  obtain ⟨v1, vs1, d1, ds1, p1, q1, rfl, rfl, rfl, h1, r1⟩ := trodAll_cons r0
  obtain ⟨rfl, rfl, rfl⟩ := trodAll_nil r1
  obtain rfl : args = #[v0, v1] := by cases args; simp_all
  obtain ⟨rfl, rfl⟩ := trodVars_none hV
  have R0 : Reads enc Try.prog W 22 v0.cells.toList := by obtain ⟨fuel, hf⟩ := h0; exact ⟨fuel, _, hf⟩
  have hv0 := hval 0 22 v0 rfl rfl
  have R1 : Reads enc Try.prog W 5 v1.cells.toList := by obtain ⟨fuel, hf⟩ := h1; exact ⟨fuel, _, hf⟩
  have hv1 := hval 1 5 v1 rfl rfl
  obtain ⟨a0, n0, c0, rfl⟩ := okWide_slice und1_22 hv0
  obtain ⟨n1, rfl, _, _, w1⟩ := open_int (show Try.prog.underlying 5 = some (.int .u8) by kernel_rfl) hv1 h1
  obtain ⟨L, eL⟩ : ∃ L, L = badL W #[(.slice a0 n0 c0), (.int .u8 n1)] := ⟨_, rfl⟩
  obtain ⟨xs0, sa0, cp0, e0, k0, l0, s0, t0⟩ := bridge_script (args := #[(.slice a0 n0 c0), (.int .u8 n1)]) R0 (listed_arg (v := .slice a0 n0 c0) (by simp) (by simp [Value.cells]))
  rw [← eL] at e0 k0 s0
  have b1 : 0 ≤ n1 ∧ n1 ≤ 255 := by simpa [Lit.wf, IntKind.min, IntKind.max, IntKind.signed, IntKind.bits] using w1
  have ec : #[(.slice a0 n0 c0), (.int .u8 n1)].map (canonV W L) = #[.slice sa0 xs0.length cp0, .int .u8 n1] := by simp [canonV, e0]
  obtain ⟨v, h1, s, rfl, x⟩ := calls_events (heap0 W L) xs0 sa0 cp0 k0 s0 l0 t0 (fun b _ e0 he => by rw [slack0] at he; cases he) n1 b1
  have c := lift_call (P := Try.prog) (W := W) (L := L) (f := 10) (args := #[(.slice a0 n0 c0), (.int .u8 n1)]) (b := true) (h1 := h1) (by rw [ec]; exact s) (fun k hk => by rw [x k _ (Array.getElem?_eq_getElem hk), Array.getElem?_eq_getElem hk])
  refine c.mono fun e W' he => ⟨_, he.1, ?_⟩
  exact law_post (tb := 4) hW' rfl (by kernel_rfl) bool4 rfl laid readable he.2

set_option maxRecDepth 100000 in
theorem lifted (os : Os) (started : os.Started) (H : Type) (enc : TypeId × Value → H) :
    ReturnsInHanded {} Try.checked os 10 .any (Rows.callsEventsSpec.pre6 enc Try.prog Try.f10 Rows.callsEventsRow.domain false) (Rows.callsEventsSpec.post enc Try.prog Try.f10 false true false false) := by
  refine returnsInHanded_of_change (C := Try.checked) own started (by kernel_rfl) Try.func10
    (ChangeSpec.witness6 (enc := enc) (C := Try.checked) false ⟨#[], #[.slice none 0 0, .int .u8 0], []⟩ 8 (by kernel_rfl) (by kernel_rfl) (by kernel_rfl) (by kernel_rfl)) ?_
  intro W base args ds gs before hval hW _ _
  exact contract H enc W base args ds gs before hval hW

theorem proved : Rows.CallsEventsSaid :=
  OpenClaim.holds_of_wide 10 Try.f10 rfl rfl rfl rfl rfl rfl rfl ⟨rfl, rfl, rfl, rfl, rfl⟩ rfl rfl rfl rfl rfl (by kernel_rfl) Try.func10 (by kernel_rfl)
    (of_decide_eq_true (by kernel_rfl)) (by unfold Func.isWrapper; first | (rw [if_pos (by decide +kernel)]; kernel_rfl) | (rw [if_neg (by decide +kernel)]; exact ⟨rfl, rfl⟩))
    (fun os started H enc _ => lifted os started H enc)
end Go.Proofs.Ytdcboianihplpaa.callsEvents
