/- CallsNil: for every input the law CallsNil answers true, and what it was given reads as before. Conditions: none. -/
import Derived.Test.YtdcboianihplpaaRows
import Derived.Test.YtdcboianihplpaaXg
import Derived.Test.YtdcboianihplpaaXy
import Derived.WalkKit
import Derived.ProofKit
import Derived.OpenShut
import Derived.WideShapes
namespace Go.Proofs.Ytdcboianihplpaa.callsNil
open Go.ChangeShapes Go.WideShapes Go.ChangeAt Go.RowKit Go.AM C36

theorem own : ownKnob Try.prog.godebug = none := by kernel_rfl
theorem laid : laidOutB Try.prog = true := by kernel_rfl
theorem bool4 : Try.prog.underlying 4 = some .bool := by kernel_rfl
theorem readable : ∀ t ∈ Try.f7.params.toList, Try.prog.readableRec t = true ∧ t < Try.prog.types.size := by
  rw [Try.params7]
  intro t ht
  simp only [List.mem_cons, List.not_mem_nil, or_false] at ht
  rcases ht with rfl | rfl | rfl
  all_goals exact ⟨by kernel_rfl, of_decide_eq_true (by kernel_rfl)⟩
theorem contract (H : Type) (enc : TypeId × Value → H) (W : World) (base : Nat) (args : Array Value) (ds gs : List (DataW H)) (before : List MemPlace)
    (hval0 : ∀ (j : Nat) t v, Try.f7.params[j]? = some t → args[j]? = some v → Value.okWide Try.prog W .any base t v)
    (hW : DataW.Whole enc Try.prog Try.f7.params.toList Rows.callsNilSpec.vars false W args.toList ds gs before) :
    Calls Try.prog 7 args W fun e W' => ∃ v, e = .returned v ∧ Rows.callsNilSpec.post enc Try.prog Try.f7 false true false false W args v W' := by
  have hW' := hW
  obtain ⟨p, q, hA0, hV, rfl, hfz, hnd⟩ := hW
  have hA : DataW.TrodAll enc Try.prog W 0 (fun _ => true) true Try.f7.params.toList args.toList ds p := hA0
  have hval := hval0
  rw [Try.params7] at hA hval
  obtain ⟨v0, vs0, d0, ds0, p0, q0, ha0, rfl, rfl, h0, r0⟩ := trodAll_cons hA
  obtain ⟨v1, vs1, d1, ds1, p1, q1, rfl, rfl, rfl, h1, r1⟩ := trodAll_cons r0
  obtain ⟨v2, vs2, d2, ds2, p2, q2, rfl, rfl, rfl, h2, r2⟩ := trodAll_cons r1
  obtain ⟨rfl, rfl, rfl⟩ := trodAll_nil r2
  obtain rfl : args = #[v0, v1, v2] := by cases args; simp_all
  obtain ⟨rfl, rfl⟩ := trodVars_none hV
  have R0 : Reads enc Try.prog W 62 v0.cells.toList := by obtain ⟨fuel, hf⟩ := h0; exact ⟨fuel, _, hf⟩
  have hv0 := hval 0 62 v0 rfl rfl
  have R1 : Reads enc Try.prog W 3 v1.cells.toList := by obtain ⟨fuel, hf⟩ := h1; exact ⟨fuel, _, hf⟩
  have hv1 := hval 1 3 v1 rfl rfl
  have R2 : Reads enc Try.prog W 3 v2.cells.toList := by obtain ⟨fuel, hf⟩ := h2; exact ⟨fuel, _, hf⟩
  have hv2 := hval 2 3 v2 rfl rfl
  obtain ⟨c0, rfl, z0⟩ := okWide_struct (fs := (match Try.prog.underlying 62 with | some (.struct fs) => fs | _ => #[])) (by kernel_rfl) hv0
  obtain ⟨n1, rfl, _, _, w1⟩ := open_int (show Try.prog.underlying 3 = some (.int .i64) by kernel_rfl) hv1 h1
  obtain ⟨n2, rfl, _, _, w2⟩ := open_int (show Try.prog.underlying 3 = some (.int .i64) by kernel_rfl) hv2 h2
  obtain ⟨L, eL⟩ : ∃ L, L = badL W #[(.agg c0), (.int .i64 n1), (.int .i64 n2)] := ⟨_, rfl⟩
  obtain ⟨b0_0, n0_1, n0_2, n0_3, n0_4, n0_5, n0_6, s0_7, n0_8, n0_9, s0_10, s0_11, n0_12, s0_13, n0_14, n0_15, v0_16, n0_17, n0_18, n0_19, n0_20, b0_21, n0_22, n0_23, s0_24, n0_25, n0_26, n0_27, s0_28, g0, f0_1, f0_2, f0_3, f0_4, f0_5, f0_6, f0_7, f0_8, f0_9, f0_10, f0_11, f0_12, f0_13, f0_14, f0_15, f0_16, f0_17, f0_18, f0_19, f0_20, f0_22, f0_23, f0_24, f0_25, f0_26, f0_27, f0_28, _⟩ := open62 (cs := c0.toList) (by simpa [Value.cells] using R0)
  have g0' : c0 = #[.bool b0_0, .int .i64 n0_1, .int .i64 n0_2, .int .i64 n0_3, .int .i64 n0_4, .int .i64 n0_5, .int .i64 n0_6, .string s0_7, .int .i64 n0_8, .int .i64 n0_9, .string s0_10, .string s0_11, .int .i64 n0_12, .string s0_13, .int .i64 n0_14, .int .i64 n0_15, v0_16, .int .i64 n0_17, .int .i64 n0_18, .int .i64 n0_19, .int .i64 n0_20, .bool b0_21, .int .i64 n0_22, .int .i64 n0_23, .string s0_24, .int .i64 n0_25, .int .i64 n0_26, .int .i64 n0_27, .string s0_28] := by apply Array.toList_inj.1; rw [g0]
  obtain ⟨xs0, sa0, cp0, e0, k0, l0, _⟩ := bridge_steps (L := L) f0_16 (by rw [eL]; exact listed_arg (v := .agg c0) (by simp) (by rw [g0']; simp [Value.cells]))
  have b1 : -9223372036854775808 ≤ n1 ∧ n1 ≤ 9223372036854775807 := by simpa [Lit.wf, IntKind.min, IntKind.max, IntKind.signed, IntKind.bits] using w1
  have b2 : -9223372036854775808 ≤ n2 ∧ n2 ≤ 9223372036854775807 := by simpa [Lit.wf, IntKind.min, IntKind.max, IntKind.signed, IntKind.bits] using w2
  have ec : #[(.agg c0), (.int .i64 n1), (.int .i64 n2)].map (canonV W L) = #[.agg #[.bool b0_0, .int .i64 n0_1, .int .i64 n0_2, .int .i64 n0_3, .int .i64 n0_4, .int .i64 n0_5, .int .i64 n0_6, .string s0_7, .int .i64 n0_8, .int .i64 n0_9, .string s0_10, .string s0_11, .int .i64 n0_12, .string s0_13, .int .i64 n0_14, .int .i64 n0_15, .slice sa0 xs0.length cp0, .int .i64 n0_17, .int .i64 n0_18, .int .i64 n0_19, .int .i64 n0_20, .bool b0_21, .int .i64 n0_22, .int .i64 n0_23, .string s0_24, .int .i64 n0_25, .int .i64 n0_26, .int .i64 n0_27, .string s0_28], .int .i64 n1, .int .i64 n2] := by simp [canonV, g0', e0]
  obtain ⟨v, h1, s, rfl, x⟩ := calls_nil (heap0 W L) ⟨b0_0, ⟨n0_1, n0_2, n0_3, n0_4, n0_5, n0_6, s0_7, n0_8, n0_9, s0_10, s0_11, n0_12, s0_13, n0_14, n0_15, xs0, n0_17, n0_18, n0_19, n0_20, b0_21, n0_22, n0_23, s0_24⟩, n0_25, n0_26, n0_27, s0_28⟩ sa0 cp0 k0 l0 n1 b1 n2 b2
  have c := lift_call (P := Try.prog) (W := W) (L := L) (f := 7) (args := #[(.agg c0), (.int .i64 n1), (.int .i64 n2)]) (b := true) (h1 := h1) (by rw [ec]; exact s) (fun k hk => by rw [x k _ (Array.getElem?_eq_getElem hk), Array.getElem?_eq_getElem hk])
  refine c.mono fun e W' he => ⟨_, he.1, ?_⟩
  exact law_post (tb := 4) hW' rfl (by kernel_rfl) bool4 rfl laid readable he.2

set_option maxRecDepth 100000 in
theorem lifted (os : Os) (started : os.Started) (H : Type) (enc : TypeId × Value → H) :
    ReturnsInHanded {} Try.checked os 7 .any (Rows.callsNilSpec.pre6 enc Try.prog Try.f7 Rows.callsNilRow.domain false) (Rows.callsNilSpec.post enc Try.prog Try.f7 false true false false) := by
  refine returnsInHanded_of_change (C := Try.checked) own started (by kernel_rfl) Try.func7
    (ChangeSpec.witness6 (enc := enc) (C := Try.checked) false ⟨#[], #[.agg #[.bool false, .int .i64 0, .int .i64 0, .int .i64 0, .int .i64 0, .int .i64 0, .int .i64 0, .string .empty, .int .i64 0, .int .i64 0, .string .empty, .string .empty, .int .i64 0, .string .empty, .int .i64 0, .int .i64 0, .slice none 0 0, .int .i64 0, .int .i64 0, .int .i64 0, .int .i64 0, .bool false, .int .i64 0, .int .i64 0, .string .empty, .int .i64 0, .int .i64 0, .int .i64 0, .string .empty], .int .i64 0, .int .i64 0], []⟩ 8 (by kernel_rfl) (by kernel_rfl) (by kernel_rfl) (by kernel_rfl)) ?_
  intro W base args ds gs before hval hW _ _
  exact contract H enc W base args ds gs before hval hW

theorem proved : Rows.CallsNilSaid :=
  OpenClaim.holds_of_wide 7 Try.f7 rfl rfl rfl rfl rfl rfl rfl ⟨rfl, rfl, rfl, rfl, rfl⟩ rfl rfl rfl rfl rfl (by kernel_rfl) Try.func7 (by kernel_rfl)
    (of_decide_eq_true (by kernel_rfl)) (by unfold Func.isWrapper; first | (rw [if_pos (by decide +kernel)]; kernel_rfl) | (rw [if_neg (by decide +kernel)]; exact ⟨rfl, rfl⟩))
    (fun os started H enc _ => lifted os started H enc)
end Go.Proofs.Ytdcboianihplpaa.callsNil
