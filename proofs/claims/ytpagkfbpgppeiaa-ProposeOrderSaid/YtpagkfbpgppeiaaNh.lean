/- ProposeOrder: the order of promises does not matter, and each further one makes the first slot no smaller and leaves the ballot; for every ballot of seven nodes, first slot and all promises. -/
import Derived.Test.YtpagkfbpgppeiaaRows
import Derived.Test.YtpagkfbpgppeiaaNd
import Derived.Test.YtpagkfbpgppeiaaMy
import Derived.WalkKit
import Derived.ProofKit
import Derived.OpenShut
import Derived.WideShapes
namespace Go.Proofs.Ytpagkfbpgppeiaa.proposeOrder
open Go.ChangeShapes Go.WideShapes Go.ChangeAt Go.RowKit Go.AM C14

theorem own : ownKnob Try.prog.godebug = none := by kernel_rfl
theorem laid : laidOutB Try.prog = true := by kernel_rfl
theorem bool4 : Try.prog.underlying 4 = some .bool := by kernel_rfl
theorem readable : ∀ t ∈ Try.f4.params.toList, Try.prog.readableRec t = true ∧ t < Try.prog.types.size := by
  rw [Try.params4]
  intro t ht
  simp only [List.mem_cons, List.not_mem_nil, or_false] at ht
  rcases ht with rfl | rfl | rfl | rfl
  all_goals exact ⟨by kernel_rfl, of_decide_eq_true (by kernel_rfl)⟩
theorem contract (H : Type) (enc : TypeId × Value → H) (W : World) (base : Nat) (args : Array Value) (ds gs : List (DataW H)) (before : List MemPlace)
    (hval0 : ∀ (j : Nat) t v, Try.f4.params[j]? = some t → args[j]? = some v → Value.okWide Try.prog W .any base t v)
    (hW : DataW.Whole enc Try.prog Try.f4.params.toList Rows.proposeOrderSpec.vars false W args.toList ds gs before) :
    Calls Try.prog 4 args W fun e W' => ∃ v, e = .returned v ∧ Rows.proposeOrderSpec.post enc Try.prog Try.f4 false true false false W args v W' := by
  have hW' := hW
  obtain ⟨p, q, hA0, hV, rfl, hfz, hnd⟩ := hW
  have hA : DataW.TrodAll enc Try.prog W 0 (fun _ => true) true Try.f4.params.toList args.toList ds p := hA0
  have hval := hval0
  rw [Try.params4] at hA hval
  obtain ⟨v0, vs0, d0, ds0, p0, q0, ha0, rfl, rfl, h0, r0⟩ := trodAll_cons hA
  obtain ⟨v1, vs1, d1, ds1, p1, q1, rfl, rfl, rfl, h1, r1⟩ := trodAll_cons r0
  obtain ⟨v2, vs2, d2, ds2, p2, q2, rfl, rfl, rfl, h2, r2⟩ := trodAll_cons r1
  obtain ⟨v3, vs3, d3, ds3, p3, q3, rfl, rfl, rfl, h3, r3⟩ := trodAll_cons r2
  obtain ⟨rfl, rfl, rfl⟩ := trodAll_nil r3
  obtain rfl : args = #[v0, v1, v2, v3] := by cases args; simp_all
  obtain ⟨rfl, rfl⟩ := trodVars_none hV
  have R0 : Reads enc Try.prog W 5 v0.cells.toList := by obtain ⟨fuel, hf⟩ := h0; exact ⟨fuel, _, hf⟩
  have hv0 := hval 0 5 v0 rfl rfl
  have R1 : Reads enc Try.prog W 5 v1.cells.toList := by obtain ⟨fuel, hf⟩ := h1; exact ⟨fuel, _, hf⟩
  have hv1 := hval 1 5 v1 rfl rfl
  have R2 : Reads enc Try.prog W 5 v2.cells.toList := by obtain ⟨fuel, hf⟩ := h2; exact ⟨fuel, _, hf⟩
  have hv2 := hval 2 5 v2 rfl rfl
  have R3 : Reads enc Try.prog W 46 v3.cells.toList := by obtain ⟨fuel, hf⟩ := h3; exact ⟨fuel, _, hf⟩
  have hv3 := hval 3 46 v3 rfl rfl
  obtain ⟨n0, rfl, _, _, w0⟩ := open_int (show Try.prog.underlying 5 = some (.int .u8) by kernel_rfl) hv0 h0
  obtain ⟨n1, rfl, _, _, w1⟩ := open_int (show Try.prog.underlying 5 = some (.int .u8) by kernel_rfl) hv1 h1
  obtain ⟨n2, rfl, _, _, w2⟩ := open_int (show Try.prog.underlying 5 = some (.int .u8) by kernel_rfl) hv2 h2
  obtain ⟨a3, n3, c3, rfl⟩ := okWide_slice und1_46 hv3
  obtain ⟨L, eL⟩ : ∃ L, L = badL W #[(.int .u8 n0), (.int .u8 n1), (.int .u8 n2), (.slice a3 n3 c3)] := ⟨_, rfl⟩
  have b0 : 0 ≤ n0 ∧ n0 ≤ 255 := by simpa [Lit.wf, IntKind.min, IntKind.max, IntKind.signed, IntKind.bits] using w0
  have b1 : 0 ≤ n1 ∧ n1 ≤ 255 := by simpa [Lit.wf, IntKind.min, IntKind.max, IntKind.signed, IntKind.bits] using w1
  have b2 : 0 ≤ n2 ∧ n2 ≤ 255 := by simpa [Lit.wf, IntKind.min, IntKind.max, IntKind.signed, IntKind.bits] using w2
  obtain ⟨xs3, sa3, cp3, e3, k3, l3, s3, t3⟩ := bridge_told (args := #[(.int .u8 n0), (.int .u8 n1), (.int .u8 n2), (.slice a3 n3 c3)]) R3 (listed_arg (v := .slice a3 n3 c3) (by simp) (by simp [Value.cells]))
  rw [← eL] at e3 k3 s3
  have ec : #[(.int .u8 n0), (.int .u8 n1), (.int .u8 n2), (.slice a3 n3 c3)].map (canonV W L) = #[.int .u8 n0, .int .u8 n1, .int .u8 n2, .slice sa3 xs3.length cp3] := by simp [canonV, e3]
  obtain ⟨v, h1, s, rfl, x⟩ := law_order (heap0 W L) n0 b0 n1 b1 n2 b2 xs3 sa3 cp3 k3 s3 l3 t3
  have c := lift_call (P := Try.prog) (W := W) (L := L) (f := 4) (args := #[(.int .u8 n0), (.int .u8 n1), (.int .u8 n2), (.slice a3 n3 c3)]) (b := true) (h1 := h1) (fun g hg => by cases hg) (by rw [ec]; exact s) (fun k hk => by rw [x k _ (Array.getElem?_eq_getElem hk), Array.getElem?_eq_getElem hk])
  refine c.mono fun e W' he => ⟨_, he.1, ?_⟩
  exact law_post (tb := 4) hW' rfl (by kernel_rfl) bool4 rfl laid readable he.2

set_option maxRecDepth 100000 in
theorem lifted (os : Os) (started : os.Started) (H : Type) (enc : TypeId × Value → H) :
    ReturnsInHanded {} Try.checked os 4 .any (Rows.proposeOrderSpec.pre6 enc Try.prog Try.f4 Rows.proposeOrderRow.domain false) (Rows.proposeOrderSpec.post enc Try.prog Try.f4 false true false false) := by
  refine returnsInHanded_of_change (C := Try.checked) own started (by kernel_rfl) Try.func4
    (ChangeSpec.witness6 (enc := enc) (C := Try.checked) false ⟨#[], #[.int .u8 0, .int .u8 0, .int .u8 0, .slice none 0 0], []⟩ 8 (by kernel_rfl) (by kernel_rfl) (by kernel_rfl) (by kernel_rfl)) ?_
  intro W base args ds gs before hval hW _ _
  exact contract H enc W base args ds gs before hval hW

theorem proved : Rows.ProposeOrderSaid :=
  OpenClaim.holds_of_wide 4 Try.f4 rfl rfl rfl rfl rfl rfl rfl ⟨rfl, rfl, rfl, rfl, rfl⟩ rfl rfl rfl rfl rfl (by kernel_rfl) Try.func4 (by kernel_rfl)
    (of_decide_eq_true (by kernel_rfl)) (by unfold Func.isWrapper; first | (rw [if_pos (by decide +kernel)]; kernel_rfl) | (rw [if_neg (by decide +kernel)]; exact ⟨rfl, rfl⟩))
    (fun os started H enc _ => lifted os started H enc)
end Go.Proofs.Ytpagkfbpgppeiaa.proposeOrder
