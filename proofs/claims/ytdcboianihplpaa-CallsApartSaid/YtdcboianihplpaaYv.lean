/- For every script of at most 60 steps and every small command, what was given to a table and what it returns can be changed without changing the table: the law CallsApart answers true. -/
import Derived.Test.YtdcboianihplpaaRows
import Derived.Test.YtdcboianihplpaaXv
import Derived.Test.YtdcboianihplpaaXy
import Derived.WalkKit
import Derived.ProofKit
import Derived.OpenShut
import Derived.WideShapes
namespace Go.Proofs.Ytdcboianihplpaa.callsApart
open Go.ChangeShapes Go.WideShapes Go.ChangeAt Go.RowKit Go.AM C36

theorem own : ownKnob Try.prog.godebug = none := by kernel_rfl
theorem laid : laidOutB Try.prog = true := by kernel_rfl
theorem bool4 : Try.prog.underlying 4 = some .bool := by kernel_rfl
theorem readable : ∀ t ∈ Try.f9.params.toList, Try.prog.readableRec t = true ∧ t < Try.prog.types.size := by
  rw [Try.params9]
  intro t ht
  simp only [List.mem_cons, List.not_mem_nil, or_false] at ht
  rcases ht with rfl | rfl
  all_goals exact ⟨by kernel_rfl, of_decide_eq_true (by kernel_rfl)⟩
theorem contract (H : Type) (enc : TypeId × Value → H) (W : World) (base : Nat) (args : Array Value) (ds gs : List (DataW H)) (before : List MemPlace)
    (hval0 : ∀ (j : Nat) t v, Try.f9.params[j]? = some t → args[j]? = some v → Value.okWide Try.prog W .any base t v)
    (hW : DataW.Whole enc Try.prog Try.f9.params.toList Rows.callsApartSpec.vars false W args.toList ds gs before) :
    Calls Try.prog 9 args W fun e W' => ∃ v, e = .returned v ∧ Rows.callsApartSpec.post enc Try.prog Try.f9 false true false false W args v W' := by
  have hW' := hW
  obtain ⟨p, q, hA0, hV, rfl, hfz, hnd⟩ := hW
  have hA : DataW.TrodAll enc Try.prog W 0 (fun _ => true) true Try.f9.params.toList args.toList ds p := hA0
  have hval := hval0
  rw [Try.params9] at hA hval
  obtain ⟨v0, vs0, d0, ds0, p0, q0, ha0, rfl, rfl, h0, r0⟩ := trodAll_cons hA
  obtain ⟨v1, vs1, d1, ds1, p1, q1, rfl, rfl, rfl, h1, r1⟩ := trodAll_cons r0
  obtain ⟨rfl, rfl, rfl⟩ := trodAll_nil r1
  obtain rfl : args = #[v0, v1] := by cases args; simp_all
  obtain ⟨rfl, rfl⟩ := trodVars_none hV
  have R0 : Reads enc Try.prog W 22 v0.cells.toList := by obtain ⟨fuel, hf⟩ := h0; exact ⟨fuel, _, hf⟩
  have hv0 := hval 0 22 v0 rfl rfl
  have R1 : Reads enc Try.prog W 43 v1.cells.toList := by obtain ⟨fuel, hf⟩ := h1; exact ⟨fuel, _, hf⟩
  have hv1 := hval 1 43 v1 rfl rfl
  obtain ⟨a0, n0, c0, rfl⟩ := okWide_slice und1_22 hv0
  obtain ⟨c1, rfl, z1⟩ := okWide_struct (fs := (match Try.prog.underlying 43 with | some (.struct fs) => fs | _ => #[])) (by kernel_rfl) hv1
  obtain ⟨L, eL⟩ : ∃ L, L = badL W #[(.slice a0 n0 c0), (.agg c1)] := ⟨_, rfl⟩
  obtain ⟨xs0, sa0, cp0, e0, k0, l0, s0, t0⟩ := bridge_script (args := #[(.slice a0 n0 c0), (.agg c1)]) R0 (listed_arg (v := .slice a0 n0 c0) (by simp) (by simp [Value.cells]))
  rw [← eL] at e0 k0 s0
  obtain ⟨n1_0, n1_1, n1_2, n1_3, n1_4, n1_5, s1_6, n1_7, n1_8, s1_9, s1_10, n1_11, s1_12, n1_13, n1_14, v1_15, n1_16, n1_17, n1_18, n1_19, b1_20, n1_21, n1_22, s1_23, g1, f1_0, f1_1, f1_2, f1_3, f1_4, f1_5, f1_6, f1_7, f1_8, f1_9, f1_10, f1_11, f1_12, f1_13, f1_14, f1_15, f1_16, f1_17, f1_18, f1_19, f1_21, f1_22, f1_23, _⟩ := open43 (cs := c1.toList) (by simpa [Value.cells] using R1)
  have g1' : c1 = #[.int .i64 n1_0, .int .i64 n1_1, .int .i64 n1_2, .int .i64 n1_3, .int .i64 n1_4, .int .i64 n1_5, .string s1_6, .int .i64 n1_7, .int .i64 n1_8, .string s1_9, .string s1_10, .int .i64 n1_11, .string s1_12, .int .i64 n1_13, .int .i64 n1_14, v1_15, .int .i64 n1_16, .int .i64 n1_17, .int .i64 n1_18, .int .i64 n1_19, .bool b1_20, .int .i64 n1_21, .int .i64 n1_22, .string s1_23] := by apply Array.toList_inj.1; rw [g1]
  obtain ⟨xs1, sa1, cp1, e1, k1, l1, _⟩ := bridge_steps (L := L) f1_15 (by rw [eL]; exact listed_arg (v := .agg c1) (by simp) (by rw [g1']; simp [Value.cells]))
  have ec : #[(.slice a0 n0 c0), (.agg c1)].map (canonV W L) = #[.slice sa0 xs0.length cp0, .agg #[.int .i64 n1_0, .int .i64 n1_1, .int .i64 n1_2, .int .i64 n1_3, .int .i64 n1_4, .int .i64 n1_5, .string s1_6, .int .i64 n1_7, .int .i64 n1_8, .string s1_9, .string s1_10, .int .i64 n1_11, .string s1_12, .int .i64 n1_13, .int .i64 n1_14, .slice sa1 xs1.length cp1, .int .i64 n1_16, .int .i64 n1_17, .int .i64 n1_18, .int .i64 n1_19, .bool b1_20, .int .i64 n1_21, .int .i64 n1_22, .string s1_23]] := by simp [canonV, e0, g1', e1]
  obtain ⟨v, h1, s, rfl, x⟩ := calls_apart (heap0 W L) xs0 sa0 cp0 k0 s0 l0 t0 ⟨n1_0, n1_1, n1_2, n1_3, n1_4, n1_5, s1_6, n1_7, n1_8, s1_9, s1_10, n1_11, s1_12, n1_13, n1_14, xs1, n1_16, n1_17, n1_18, n1_19, b1_20, n1_21, n1_22, s1_23⟩ sa1 cp1 k1 l1
  have c := lift_call (P := Try.prog) (W := W) (L := L) (f := 9) (args := #[(.slice a0 n0 c0), (.agg c1)]) (b := true) (h1 := h1) (by rw [ec]; exact s) (fun k hk => by rw [x k _ (Array.getElem?_eq_getElem hk), Array.getElem?_eq_getElem hk])
  refine c.mono fun e W' he => ⟨_, he.1, ?_⟩
  exact law_post (tb := 4) hW' rfl (by kernel_rfl) bool4 rfl laid readable he.2

set_option maxRecDepth 100000 in
theorem lifted (os : Os) (started : os.Started) (H : Type) (enc : TypeId × Value → H) :
    ReturnsInHanded {} Try.checked os 9 .any (Rows.callsApartSpec.pre6 enc Try.prog Try.f9 Rows.callsApartRow.domain false) (Rows.callsApartSpec.post enc Try.prog Try.f9 false true false false) := by
  refine returnsInHanded_of_change (C := Try.checked) own started (by kernel_rfl) Try.func9
    (ChangeSpec.witness6 (enc := enc) (C := Try.checked) false ⟨#[], #[.slice none 0 0, .agg #[.int .i64 0, .int .i64 0, .int .i64 0, .int .i64 0, .int .i64 0, .int .i64 0, .string .empty, .int .i64 0, .int .i64 0, .string .empty, .string .empty, .int .i64 0, .string .empty, .int .i64 0, .int .i64 0, .slice none 0 0, .int .i64 0, .int .i64 0, .int .i64 0, .int .i64 0, .bool false, .int .i64 0, .int .i64 0, .string .empty]], []⟩ 8 (by kernel_rfl) (by kernel_rfl) (by kernel_rfl) (by kernel_rfl)) ?_
  intro W base args ds gs before hval hW _ _
  exact contract H enc W base args ds gs before hval hW

theorem proved : Rows.CallsApartSaid :=
  OpenClaim.holds_of_wide 9 Try.f9 rfl rfl rfl rfl rfl rfl rfl ⟨rfl, rfl, rfl, rfl, rfl⟩ rfl rfl rfl rfl rfl (by kernel_rfl) Try.func9 (by kernel_rfl)
    (of_decide_eq_true (by kernel_rfl)) (by unfold Func.isWrapper; first | (rw [if_pos (by decide +kernel)]; kernel_rfl) | (rw [if_neg (by decide +kernel)]; exact ⟨rfl, rfl⟩))
    (fun os started H enc _ => lifted os started H enc)
end Go.Proofs.Ytdcboianihplpaa.callsApart
