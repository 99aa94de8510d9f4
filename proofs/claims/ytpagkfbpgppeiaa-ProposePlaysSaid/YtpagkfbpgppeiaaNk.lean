/- For every number of nodes, ballot, first slot, list of promises and place of a copy: after each promise the proposer returns and shows what the document's proposer does. -/
import Derived.Test.YtpagkfbpgppeiaaRows
import Derived.Test.YtpagkfbpgppeiaaNj
import Derived.Test.YtpagkfbpgppeiaaMy
import Derived.WalkKit
import Derived.ProofKit
import Derived.OpenShut
import Derived.WideShapes
namespace Go.Proofs.Ytpagkfbpgppeiaa.proposePlays
open Go.ChangeShapes Go.WideShapes Go.ChangeAt Go.RowKit Go.AM C14

theorem own : ownKnob Try.prog.godebug = none := by kernel_rfl
theorem laid : laidOutB Try.prog = true := by kernel_rfl
theorem bool4 : Try.prog.underlying 4 = some .bool := by kernel_rfl
theorem readable : ∀ t ∈ Try.f8.params.toList, Try.prog.readableRec t = true ∧ t < Try.prog.types.size := by
  rw [Try.params8]
  intro t ht
  simp only [List.mem_cons, List.not_mem_nil, or_false] at ht
  rcases ht with rfl | rfl | rfl | rfl | rfl
  all_goals exact ⟨by kernel_rfl, of_decide_eq_true (by kernel_rfl)⟩
theorem contract (H : Type) (enc : TypeId × Value → H) (W : World) (base : Nat) (args : Array Value) (ds gs : List (DataW H)) (before : List MemPlace)
    (hval0 : ∀ (j : Nat) t v, Try.f8.params[j]? = some t → args[j]? = some v → Value.okWide Try.prog W .any base t v)
    (hW : DataW.Whole enc Try.prog Try.f8.params.toList Rows.proposePlaysSpec.vars false W args.toList ds gs before) :
    Calls Try.prog 8 args W fun e W' => ∃ v, e = .returned v ∧ Rows.proposePlaysSpec.post enc Try.prog Try.f8 false true false false W args v W' := by
  have hW' := hW
  obtain ⟨p, q, hA0, hV, rfl, hfz, hnd⟩ := hW
  have hA : DataW.TrodAll enc Try.prog W 0 (fun _ => true) true Try.f8.params.toList args.toList ds p := hA0
  have hval := hval0
  rw [Try.params8] at hA hval
  obtain ⟨v0, vs0, d0, ds0, p0, q0, ha0, rfl, rfl, h0, r0⟩ := trodAll_cons hA
  obtain ⟨v1, vs1, d1, ds1, p1, q1, rfl, rfl, rfl, h1, r1⟩ := trodAll_cons r0
  obtain ⟨v2, vs2, d2, ds2, p2, q2, rfl, rfl, rfl, h2, r2⟩ := trodAll_cons r1
  obtain ⟨v3, vs3, d3, ds3, p3, q3, rfl, rfl, rfl, h3, r3⟩ := trodAll_cons r2
  obtain ⟨v4, vs4, d4, ds4, p4, q4, rfl, rfl, rfl, h4, r4⟩ := trodAll_cons r3
  obtain ⟨rfl, rfl, rfl⟩ := trodAll_nil r4
  obtain rfl : args = #[v0, v1, v2, v3, v4] := by cases args; simp_all
  obtain ⟨rfl, rfl⟩ := trodVars_none hV
  have R0 : Reads enc Try.prog W 3 v0.cells.toList := by obtain ⟨fuel, hf⟩ := h0; exact ⟨fuel, _, hf⟩
  have hv0 := hval 0 3 v0 rfl rfl
  have R1 : Reads enc Try.prog W 29 v1.cells.toList := by obtain ⟨fuel, hf⟩ := h1; exact ⟨fuel, _, hf⟩
  have hv1 := hval 1 29 v1 rfl rfl
  have R2 : Reads enc Try.prog W 3 v2.cells.toList := by obtain ⟨fuel, hf⟩ := h2; exact ⟨fuel, _, hf⟩
  have hv2 := hval 2 3 v2 rfl rfl
  have R3 : Reads enc Try.prog W 46 v3.cells.toList := by obtain ⟨fuel, hf⟩ := h3; exact ⟨fuel, _, hf⟩
  have hv3 := hval 3 46 v3 rfl rfl
  have R4 : Reads enc Try.prog W 5 v4.cells.toList := by obtain ⟨fuel, hf⟩ := h4; exact ⟨fuel, _, hf⟩
  have hv4 := hval 4 5 v4 rfl rfl
  obtain ⟨n0, rfl, _, _, w0⟩ := open_int (show Try.prog.underlying 3 = some (.int .i64) by kernel_rfl) hv0 h0
  obtain ⟨c1, rfl, z1⟩ := okWide_struct (fs := (match Try.prog.underlying 29 with | some (.struct fs) => fs | _ => #[])) (by kernel_rfl) hv1
  obtain ⟨n2, rfl, _, _, w2⟩ := open_int (show Try.prog.underlying 3 = some (.int .i64) by kernel_rfl) hv2 h2
  obtain ⟨a3, n3, c3, rfl⟩ := okWide_slice und1_46 hv3
  obtain ⟨n4, rfl, _, _, w4⟩ := open_int (show Try.prog.underlying 5 = some (.int .u8) by kernel_rfl) hv4 h4
  obtain ⟨L, eL⟩ : ∃ L, L = badL W #[(.int .i64 n0), (.agg c1), (.int .i64 n2), (.slice a3 n3 c3), (.int .u8 n4)] := ⟨_, rfl⟩
  have b0 : -9223372036854775808 ≤ n0 ∧ n0 ≤ 9223372036854775807 := by simpa [Lit.wf, IntKind.min, IntKind.max, IntKind.signed, IntKind.bits] using w0
  obtain ⟨n1_0, n1_1, g1, f1_0, f1_1, _⟩ := open29 (cs := c1.toList) (by simpa [Value.cells] using R1)
  have g1' : c1 = #[.int .i64 n1_0, .int .i64 n1_1] := by apply Array.toList_inj.1; rw [g1]
  have i1_0 : I64 n1_0 := by simpa [I64, IntKind.min, IntKind.max, IntKind.signed, IntKind.bits] using f1_0
  have i1_1 : I64 n1_1 := by simpa [I64, IntKind.min, IntKind.max, IntKind.signed, IntKind.bits] using f1_1
  have b2 : -9223372036854775808 ≤ n2 ∧ n2 ≤ 9223372036854775807 := by simpa [Lit.wf, IntKind.min, IntKind.max, IntKind.signed, IntKind.bits] using w2
  obtain ⟨xs3, sa3, cp3, e3, k3, l3, s3, t3⟩ := bridge_told (args := #[(.int .i64 n0), (.agg c1), (.int .i64 n2), (.slice a3 n3 c3), (.int .u8 n4)]) R3 (listed_arg (v := .slice a3 n3 c3) (by simp) (by simp [Value.cells]))
  rw [← eL] at e3 k3 s3
  have b4 : 0 ≤ n4 ∧ n4 ≤ 255 := by simpa [Lit.wf, IntKind.min, IntKind.max, IntKind.signed, IntKind.bits] using w4
  have ec : #[(.int .i64 n0), (.agg c1), (.int .i64 n2), (.slice a3 n3 c3), (.int .u8 n4)].map (canonV W L) = #[.int .i64 n0, .agg #[.int .i64 n1_0, .int .i64 n1_1], .int .i64 n2, .slice sa3 xs3.length cp3, .int .u8 n4] := by simp [canonV, g1', e3]
  obtain ⟨v, h1, s, rfl, x⟩ := law_plays (heap0 W L) n0 b0 n1_0 n1_1 i1_0 i1_1 n2 b2 xs3 sa3 cp3 k3 s3 l3 t3 n4 b4
  have c := lift_call (P := Try.prog) (W := W) (L := L) (f := 8) (args := #[(.int .i64 n0), (.agg c1), (.int .i64 n2), (.slice a3 n3 c3), (.int .u8 n4)]) (b := true) (h1 := h1) (fun g hg => by cases hg) (by rw [ec]; exact s) (fun k hk => by rw [x k _ (Array.getElem?_eq_getElem hk), Array.getElem?_eq_getElem hk])
  refine c.mono fun e W' he => ⟨_, he.1, ?_⟩
  exact law_post (tb := 4) hW' rfl (by kernel_rfl) bool4 rfl laid readable he.2

set_option maxRecDepth 100000 in
theorem lifted (os : Os) (started : os.Started) (H : Type) (enc : TypeId × Value → H) :
    ReturnsInHanded {} Try.checked os 8 .any (Rows.proposePlaysSpec.pre6 enc Try.prog Try.f8 Rows.proposePlaysRow.domain false) (Rows.proposePlaysSpec.post enc Try.prog Try.f8 false true false false) := by
  refine returnsInHanded_of_change (C := Try.checked) own started (by kernel_rfl) Try.func8
    (ChangeSpec.witness6 (enc := enc) (C := Try.checked) false ⟨#[], #[.int .i64 0, .agg #[.int .i64 0, .int .i64 0], .int .i64 0, .slice none 0 0, .int .u8 0], []⟩ 8 (by kernel_rfl) (by kernel_rfl) (by kernel_rfl) (by kernel_rfl)) ?_
  intro W base args ds gs before hval hW _ _
  exact contract H enc W base args ds gs before hval hW

theorem proved : Rows.ProposePlaysSaid :=
  OpenClaim.holds_of_wide 8 Try.f8 rfl rfl rfl rfl rfl rfl rfl ⟨rfl, rfl, rfl, rfl, rfl⟩ rfl rfl rfl rfl rfl (by kernel_rfl) Try.func8 (by kernel_rfl)
    (of_decide_eq_true (by kernel_rfl)) (by unfold Func.isWrapper; first | (rw [if_pos (by decide +kernel)]; kernel_rfl) | (rw [if_neg (by decide +kernel)]; exact ⟨rfl, rfl⟩))
    (fun os started H enc _ => lifted os started H enc)
end Go.Proofs.Ytpagkfbpgppeiaa.proposePlays
