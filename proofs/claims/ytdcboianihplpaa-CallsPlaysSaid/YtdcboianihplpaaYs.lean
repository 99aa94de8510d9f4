/- For every script of at most 80 steps, every two numbers and every place of a copy, the table of calls does what the reference does: the law CallsPlays answers true. -/
import Derived.Test.YtdcboianihplpaaRows
import Derived.Test.YtdcboianihplpaaXs
import Derived.Test.YtdcboianihplpaaXy
import Derived.WalkKit
import Derived.ProofKit
import Derived.OpenShut
import Derived.WideShapes
namespace Go.Proofs.Ytdcboianihplpaa.callsPlays
open Go.ChangeShapes Go.WideShapes Go.ChangeAt Go.RowKit Go.AM C36

theorem own : ownKnob Try.prog.godebug = none := by kernel_rfl
theorem laid : laidOutB Try.prog = true := by kernel_rfl
theorem bool4 : Try.prog.underlying 4 = some .bool := by kernel_rfl
theorem readable : ∀ t ∈ Try.f6.params.toList, Try.prog.readableRec t = true ∧ t < Try.prog.types.size := by
  rw [Try.params6]
  intro t ht
  simp only [List.mem_cons, List.not_mem_nil, or_false] at ht
  rcases ht with rfl | rfl | rfl | rfl
  all_goals exact ⟨by kernel_rfl, of_decide_eq_true (by kernel_rfl)⟩
theorem contract (H : Type) (enc : TypeId × Value → H) (W : World) (base : Nat) (args : Array Value) (ds gs : List (DataW H)) (before : List MemPlace)
    (hval0 : ∀ (j : Nat) t v, Try.f6.params[j]? = some t → args[j]? = some v → Value.okWide Try.prog W .any base t v)
    (hW : DataW.Whole enc Try.prog Try.f6.params.toList Rows.callsPlaysSpec.vars false W args.toList ds gs before) :
    Calls Try.prog 6 args W fun e W' => ∃ v, e = .returned v ∧ Rows.callsPlaysSpec.post enc Try.prog Try.f6 false true false false W args v W' := by
  have hW' := hW
  obtain ⟨p, q, hA0, hV, rfl, hfz, hnd⟩ := hW
  have hA : DataW.TrodAll enc Try.prog W 0 (fun _ => true) true Try.f6.params.toList args.toList ds p := hA0
  have hval := hval0
  rw [Try.params6] at hA hval
  obtain ⟨v0, vs0, d0, ds0, p0, q0, ha0, rfl, rfl, h0, r0⟩ := trodAll_cons hA
  obtain ⟨v1, vs1, d1, ds1, p1, q1, rfl, rfl, rfl, h1, r1⟩ := trodAll_cons r0
  obtain ⟨v2, vs2, d2, ds2, p2, q2, rfl, rfl, rfl, h2, r2⟩ := trodAll_cons r1
  obtain ⟨v3, vs3, d3, ds3, p3, q3, rfl, rfl, rfl, h3, r3⟩ := trodAll_cons r2
  obtain ⟨rfl, rfl, rfl⟩ := trodAll_nil r3
  obtain rfl : args = #[v0, v1, v2, v3] := by cases args; simp_all
  obtain ⟨rfl, rfl⟩ := trodVars_none hV
  have R0 : Reads enc Try.prog W 22 v0.cells.toList := by obtain ⟨fuel, hf⟩ := h0; exact ⟨fuel, _, hf⟩
  have hv0 := hval 0 22 v0 rfl rfl
  have R1 : Reads enc Try.prog W 3 v1.cells.toList := by obtain ⟨fuel, hf⟩ := h1; exact ⟨fuel, _, hf⟩
  have hv1 := hval 1 3 v1 rfl rfl
  have R2 : Reads enc Try.prog W 3 v2.cells.toList := by obtain ⟨fuel, hf⟩ := h2; exact ⟨fuel, _, hf⟩
  have hv2 := hval 2 3 v2 rfl rfl
  have R3 : Reads enc Try.prog W 5 v3.cells.toList := by obtain ⟨fuel, hf⟩ := h3; exact ⟨fuel, _, hf⟩
  have hv3 := hval 3 5 v3 rfl rfl
  obtain ⟨a0, n0, c0, rfl⟩ := okWide_slice und1_22 hv0
  obtain ⟨n1, rfl, _, _, w1⟩ := open_int (show Try.prog.underlying 3 = some (.int .i64) by kernel_rfl) hv1 h1
  obtain ⟨n2, rfl, _, _, w2⟩ := open_int (show Try.prog.underlying 3 = some (.int .i64) by kernel_rfl) hv2 h2
  obtain ⟨n3, rfl, _, _, w3⟩ := open_int (show Try.prog.underlying 5 = some (.int .u8) by kernel_rfl) hv3 h3
  obtain ⟨L, eL⟩ : ∃ L, L = badL W #[(.slice a0 n0 c0), (.int .i64 n1), (.int .i64 n2), (.int .u8 n3)] := ⟨_, rfl⟩
  obtain ⟨xs0, sa0, cp0, e0, k0, l0, s0, t0⟩ := bridge_script (args := #[(.slice a0 n0 c0), (.int .i64 n1), (.int .i64 n2), (.int .u8 n3)]) R0 (listed_arg (v := .slice a0 n0 c0) (by simp) (by simp [Value.cells]))
  rw [← eL] at e0 k0 s0
  have b1 : -9223372036854775808 ≤ n1 ∧ n1 ≤ 9223372036854775807 := by simpa [Lit.wf, IntKind.min, IntKind.max, IntKind.signed, IntKind.bits] using w1
  have b2 : -9223372036854775808 ≤ n2 ∧ n2 ≤ 9223372036854775807 := by simpa [Lit.wf, IntKind.min, IntKind.max, IntKind.signed, IntKind.bits] using w2
  have b3 : 0 ≤ n3 ∧ n3 ≤ 255 := by simpa [Lit.wf, IntKind.min, IntKind.max, IntKind.signed, IntKind.bits] using w3
  have ec : #[(.slice a0 n0 c0), (.int .i64 n1), (.int .i64 n2), (.int .u8 n3)].map (canonV W L) = #[.slice sa0 xs0.length cp0, .int .i64 n1, .int .i64 n2, .int .u8 n3] := by simp [canonV, e0]
  obtain ⟨v, h1, s, rfl, x⟩ := calls_plays (heap0 W L) xs0 sa0 cp0 k0 s0 l0 t0 n1 b1 n2 b2 n3 b3
  have c := lift_call (P := Try.prog) (W := W) (L := L) (f := 6) (args := #[(.slice a0 n0 c0), (.int .i64 n1), (.int .i64 n2), (.int .u8 n3)]) (b := true) (h1 := h1) (by rw [ec]; exact s) (fun k hk => by rw [x k _ (Array.getElem?_eq_getElem hk), Array.getElem?_eq_getElem hk])
  refine c.mono fun e W' he => ⟨_, he.1, ?_⟩
  exact law_post (tb := 4) hW' rfl (by kernel_rfl) bool4 rfl laid readable he.2

set_option maxRecDepth 100000 in
theorem lifted (os : Os) (started : os.Started) (H : Type) (enc : TypeId × Value → H) :
    ReturnsInHanded {} Try.checked os 6 .any (Rows.callsPlaysSpec.pre6 enc Try.prog Try.f6 Rows.callsPlaysRow.domain false) (Rows.callsPlaysSpec.post enc Try.prog Try.f6 false true false false) := by
  refine returnsInHanded_of_change (C := Try.checked) own started (by kernel_rfl) Try.func6
    (ChangeSpec.witness6 (enc := enc) (C := Try.checked) false ⟨#[], #[.slice none 0 0, .int .i64 0, .int .i64 0, .int .u8 0], []⟩ 8 (by kernel_rfl) (by kernel_rfl) (by kernel_rfl) (by kernel_rfl)) ?_
  intro W base args ds gs before hval hW _ _
  exact contract H enc W base args ds gs before hval hW

theorem proved : Rows.CallsPlaysSaid :=
  OpenClaim.holds_of_wide 6 Try.f6 rfl rfl rfl rfl rfl rfl rfl ⟨rfl, rfl, rfl, rfl, rfl⟩ rfl rfl rfl rfl rfl (by kernel_rfl) Try.func6 (by kernel_rfl)
    (of_decide_eq_true (by kernel_rfl)) (by unfold Func.isWrapper; first | (rw [if_pos (by decide +kernel)]; kernel_rfl) | (rw [if_neg (by decide +kernel)]; exact ⟨rfl, rfl⟩))
    (fun os started H enc _ => lifted os started H enc)
end Go.Proofs.Ytdcboianihplpaa.callsPlays
