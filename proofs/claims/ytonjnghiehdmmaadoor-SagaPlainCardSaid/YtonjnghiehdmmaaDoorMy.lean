/- Arguments that can be read, in the canonical heap. -/
import Derived.Test.YtonjnghiehdmmaaDoorMl
import Derived.Test.YtonjnghiehdmmaaDoorBmf
import Derived.KernelRfl
open Go Go.AM Go.Proofs
namespace C28
theorem und1_2 : Tryd.prog.underlying 2 = some (.int .i64) := by kernel_rfl
theorem und1_3 : Tryd.prog.underlying 3 = some (.int .i64) := by kernel_rfl
theorem und1_4 : Tryd.prog.underlying 4 = some (.bool) := by kernel_rfl
theorem und1_5 : Tryd.prog.underlying 5 = some (.int .u8) := by kernel_rfl
theorem und1_9 : Tryd.prog.underlying 9 = some (.string) := by kernel_rfl
theorem und1_22 : Tryd.prog.underlying 22 = some (.slice 65) := by kernel_rfl
theorem und1_25 : Tryd.prog.underlying 25 = some (.int .i64) := by kernel_rfl
theorem und1_68 : Tryd.prog.underlying 68 = some (.slice 70) := by kernel_rfl
theorem open65 {H : Type} {enc : TypeId × Value → H} {W : World} {cs : List Value} (h : Reads enc Tryd.prog W 65 cs) : ∃ (s0 : ByteArray) (n1 : Int), cs = [.string s0, .int .i64 n1] ∧ s0.size ≤ maxLen ∧ (IntKind.min .i64 ≤ n1 ∧ n1 ≤ IntKind.max .i64) ∧ True := by
  have hl : cs.length = 2 := (reads_size (fs := (match Tryd.prog.underlying 65 with | some (.struct fs) => fs | _ => #[])) (by kernel_rfl) h).trans (by kernel_rfl)
  match cs, hl, h with
  | [c0, c1], _, h =>
    obtain ⟨w0, e0, r0⟩ := reads_at 12 (o := 0) (u := 9) h (by kernel_rfl)
    have q0 : c0 = w0 := by simpa using e0
    obtain ⟨s0, z0, l0⟩ := reads_string und1_9 r0
    simp only [List.cons.injEq, and_true] at z0; subst q0; subst z0
    obtain ⟨w1, e1, r1⟩ := reads_at 12 (o := 1) (u := 2) h (by kernel_rfl)
    have q1 : c1 = w1 := by simpa using e1
    obtain ⟨n1, z1, l1⟩ := reads_int und1_2 r1
    simp only [List.cons.injEq, and_true] at z1; subst q1; subst z1
    exact ⟨_, _, rfl, l0, l1, trivial⟩
theorem open24 {H : Type} {enc : TypeId × Value → H} {W : World} {cs : List Value} (h : Reads enc Tryd.prog W 24 cs) : ∃ (s0 : ByteArray) (n1 : Int) (n2 : Int) (v3 : Value), cs = [.string s0, .int .i64 n1, .int .i64 n2, v3] ∧ s0.size ≤ maxLen ∧ (IntKind.min .i64 ≤ n1 ∧ n1 ≤ IntKind.max .i64) ∧ (IntKind.min .i64 ≤ n2 ∧ n2 ≤ IntKind.max .i64) ∧ Reads enc Tryd.prog W 22 [v3] ∧ True := by
  have hl : cs.length = 4 := (reads_size (fs := (match Tryd.prog.underlying 24 with | some (.struct fs) => fs | _ => #[])) (by kernel_rfl) h).trans (by kernel_rfl)
  match cs, hl, h with
  | [c0, c1, c2, c3], _, h =>
    obtain ⟨w0, e0, r0⟩ := reads_at 12 (o := 0) (u := 9) h (by kernel_rfl)
    have q0 : c0 = w0 := by simpa using e0
    obtain ⟨s0, z0, l0⟩ := reads_string und1_9 r0
    simp only [List.cons.injEq, and_true] at z0; subst q0; subst z0
    obtain ⟨w1, e1, r1⟩ := reads_at 12 (o := 1) (u := 3) h (by kernel_rfl)
    have q1 : c1 = w1 := by simpa using e1
    obtain ⟨n1, z1, l1⟩ := reads_int und1_3 r1
    simp only [List.cons.injEq, and_true] at z1; subst q1; subst z1
    obtain ⟨w2, e2, r2⟩ := reads_at 12 (o := 2) (u := 3) h (by kernel_rfl)
    have q2 : c2 = w2 := by simpa using e2
    obtain ⟨n2, z2, l2⟩ := reads_int und1_3 r2
    simp only [List.cons.injEq, and_true] at z2; subst q2; subst z2
    obtain ⟨w3, e3, r3⟩ := reads_at 12 (o := 3) (u := 22) h (by kernel_rfl)
    have q3 : c3 = w3 := by simpa using e3
    subst q3
    exact ⟨_, _, _, _, rfl, l0, l1, l2, r3, trivial⟩
theorem open29 {H : Type} {enc : TypeId × Value → H} {W : World} {cs : List Value} (h : Reads enc Tryd.prog W 29 cs) : ∃ (n0 : Int) (n1 : Int) (n2 : Int), cs = [.int .i64 n0, .int .i64 n1, .int .i64 n2] ∧ (IntKind.min .i64 ≤ n0 ∧ n0 ≤ IntKind.max .i64) ∧ (IntKind.min .i64 ≤ n1 ∧ n1 ≤ IntKind.max .i64) ∧ (IntKind.min .i64 ≤ n2 ∧ n2 ≤ IntKind.max .i64) ∧ True := by
  have hl : cs.length = 3 := (reads_size (fs := (match Tryd.prog.underlying 29 with | some (.struct fs) => fs | _ => #[])) (by kernel_rfl) h).trans (by kernel_rfl)
  match cs, hl, h with
  | [c0, c1, c2], _, h =>
    obtain ⟨w0, e0, r0⟩ := reads_at 12 (o := 0) (u := 3) h (by kernel_rfl)
    have q0 : c0 = w0 := by simpa using e0
    obtain ⟨n0, z0, l0⟩ := reads_int und1_3 r0
    simp only [List.cons.injEq, and_true] at z0; subst q0; subst z0
    obtain ⟨w1, e1, r1⟩ := reads_at 12 (o := 1) (u := 3) h (by kernel_rfl)
    have q1 : c1 = w1 := by simpa using e1
    obtain ⟨n1, z1, l1⟩ := reads_int und1_3 r1
    simp only [List.cons.injEq, and_true] at z1; subst q1; subst z1
    obtain ⟨w2, e2, r2⟩ := reads_at 12 (o := 2) (u := 3) h (by kernel_rfl)
    have q2 : c2 = w2 := by simpa using e2
    obtain ⟨n2, z2, l2⟩ := reads_int und1_3 r2
    simp only [List.cons.injEq, and_true] at z2; subst q2; subst z2
    exact ⟨_, _, _, rfl, l0, l1, l2, trivial⟩
theorem open27 {H : Type} {enc : TypeId × Value → H} {W : World} {cs : List Value} (h : Reads enc Tryd.prog W 27 cs) : ∃ (s0 : ByteArray) (n1 : Int) (n2 : Int) (v3 : Value) (n4 : Int) (n5 : Int) (b6 : Bool) (n7 : Int) (n8 : Int) (n9 : Int), cs = [.string s0, .int .i64 n1, .int .i64 n2, v3, .int .i64 n4, .int .i64 n5, .bool b6, .int .i64 n7, .int .i64 n8, .int .i64 n9] ∧ s0.size ≤ maxLen ∧ (IntKind.min .i64 ≤ n1 ∧ n1 ≤ IntKind.max .i64) ∧ (IntKind.min .i64 ≤ n2 ∧ n2 ≤ IntKind.max .i64) ∧ Reads enc Tryd.prog W 22 [v3] ∧ (IntKind.min .i64 ≤ n4 ∧ n4 ≤ IntKind.max .i64) ∧ (IntKind.min .i64 ≤ n5 ∧ n5 ≤ IntKind.max .i64) ∧ (IntKind.min .i64 ≤ n7 ∧ n7 ≤ IntKind.max .i64) ∧ (IntKind.min .i64 ≤ n8 ∧ n8 ≤ IntKind.max .i64) ∧ (IntKind.min .i64 ≤ n9 ∧ n9 ≤ IntKind.max .i64) ∧ True := by
  have hl : cs.length = 10 := (reads_size (fs := (match Tryd.prog.underlying 27 with | some (.struct fs) => fs | _ => #[])) (by kernel_rfl) h).trans (by kernel_rfl)
  match cs, hl, h with
  | [c0, c1, c2, c3, c4, c5, c6, c7, c8, c9], _, h =>
    obtain ⟨w0, e0, r0⟩ := reads_at 12 (o := 0) (u := 9) h (by kernel_rfl)
    have q0 : c0 = w0 := by simpa using e0
    obtain ⟨s0, z0, l0⟩ := reads_string und1_9 r0
    simp only [List.cons.injEq, and_true] at z0; subst q0; subst z0
    obtain ⟨w1, e1, r1⟩ := reads_at 12 (o := 1) (u := 3) h (by kernel_rfl)
    have q1 : c1 = w1 := by simpa using e1
    obtain ⟨n1, z1, l1⟩ := reads_int und1_3 r1
    simp only [List.cons.injEq, and_true] at z1; subst q1; subst z1
    obtain ⟨w2, e2, r2⟩ := reads_at 12 (o := 2) (u := 3) h (by kernel_rfl)
    have q2 : c2 = w2 := by simpa using e2
    obtain ⟨n2, z2, l2⟩ := reads_int und1_3 r2
    simp only [List.cons.injEq, and_true] at z2; subst q2; subst z2
    obtain ⟨w3, e3, r3⟩ := reads_at 12 (o := 3) (u := 22) h (by kernel_rfl)
    have q3 : c3 = w3 := by simpa using e3
    subst q3
    obtain ⟨w4, e4, r4⟩ := reads_at 12 (o := 4) (u := 3) h (by kernel_rfl)
    have q4 : c4 = w4 := by simpa using e4
    obtain ⟨n4, z4, l4⟩ := reads_int und1_3 r4
    simp only [List.cons.injEq, and_true] at z4; subst q4; subst z4
    obtain ⟨w5, e5, r5⟩ := reads_at 12 (o := 5) (u := 3) h (by kernel_rfl)
    have q5 : c5 = w5 := by simpa using e5
    obtain ⟨n5, z5, l5⟩ := reads_int und1_3 r5
    simp only [List.cons.injEq, and_true] at z5; subst q5; subst z5
    obtain ⟨w6, e6, r6⟩ := reads_at 12 (o := 6) (u := 4) h (by kernel_rfl)
    have q6 : c6 = w6 := by simpa using e6
    obtain ⟨b6, z6⟩ := reads_bool und1_4 r6
    simp only [List.cons.injEq, and_true] at z6; subst q6; subst z6
    obtain ⟨w7, e7, r7⟩ := reads_at 12 (o := 7) (u := 3) h (by kernel_rfl)
    have q7 : c7 = w7 := by simpa using e7
    obtain ⟨n7, z7, l7⟩ := reads_int und1_3 r7
    simp only [List.cons.injEq, and_true] at z7; subst q7; subst z7
    obtain ⟨w8, e8, r8⟩ := reads_at 12 (o := 8) (u := 3) h (by kernel_rfl)
    have q8 : c8 = w8 := by simpa using e8
    obtain ⟨n8, z8, l8⟩ := reads_int und1_3 r8
    simp only [List.cons.injEq, and_true] at z8; subst q8; subst z8
    obtain ⟨w9, e9, r9⟩ := reads_at 12 (o := 9) (u := 25) h (by kernel_rfl)
    have q9 : c9 = w9 := by simpa using e9
    obtain ⟨n9, z9, l9⟩ := reads_int und1_25 r9
    simp only [List.cons.injEq, and_true] at z9; subst q9; subst z9
    exact ⟨_, _, _, _, _, _, _, _, _, _, rfl, l0, l1, l2, r3, l4, l5, l7, l8, l9, trivial⟩
theorem open70 {H : Type} {enc : TypeId × Value → H} {W : World} {cs : List Value} (h : Reads enc Tryd.prog W 70 cs) : ∃ (n0 : Int) (b1 : Bool) (n2 : Int), cs = [.int .i64 n0, .bool b1, .int .u8 n2] ∧ (IntKind.min .i64 ≤ n0 ∧ n0 ≤ IntKind.max .i64) ∧ (IntKind.min .u8 ≤ n2 ∧ n2 ≤ IntKind.max .u8) ∧ True := by
  have hl : cs.length = 3 := (reads_size (fs := (match Tryd.prog.underlying 70 with | some (.struct fs) => fs | _ => #[])) (by kernel_rfl) h).trans (by kernel_rfl)
  match cs, hl, h with
  | [c0, c1, c2], _, h =>
    obtain ⟨w0, e0, r0⟩ := reads_at 12 (o := 0) (u := 25) h (by kernel_rfl)
    have q0 : c0 = w0 := by simpa using e0
    obtain ⟨n0, z0, l0⟩ := reads_int und1_25 r0
    simp only [List.cons.injEq, and_true] at z0; subst q0; subst z0
    obtain ⟨w1, e1, r1⟩ := reads_at 12 (o := 1) (u := 4) h (by kernel_rfl)
    have q1 : c1 = w1 := by simpa using e1
    obtain ⟨b1, z1⟩ := reads_bool und1_4 r1
    simp only [List.cons.injEq, and_true] at z1; subst q1; subst z1
    obtain ⟨w2, e2, r2⟩ := reads_at 12 (o := 2) (u := 5) h (by kernel_rfl)
    have q2 : c2 = w2 := by simpa using e2
    obtain ⟨n2, z2, l2⟩ := reads_int und1_5 r2
    simp only [List.cons.injEq, and_true] at z2; subst q2; subst z2
    exact ⟨_, _, _, rfl, l0, l2, trivial⟩
theorem slack0 (W : World) (L : List Addr) (b : Nat) : slackElem (heap0 W L) b = none := by
  have key : ∀ o, (heap0 W L)[b]? = some o → isSlack (some o) = false := by
    intro o hb
    simp only [heap0] at hb
    rw [Array.getElem?_append] at hb
    split at hb
    · rw [Array.getElem?_map] at hb
      cases ho : W.heap[b]? with
      | none => rw [ho] at hb; cases hb
      | some o' =>
        rw [ho] at hb
        simp only [Option.map_some, Option.some.injEq] at hb
        subst hb
        cases o' with
        | cells c e fr => exact isSlack_canon _ _ _
        | _ => rfl
    · simp only [List.getElem?_toArray, List.getElem?_map] at hb
      simp only [Option.map_eq_some_iff] at hb
      obtain ⟨a, _, rfl⟩ := hb
      rfl
  unfold slackElem
  split
  · rename_i c e fr hb
    have := key _ hb
    simp only [isSlack, decide_eq_false_iff_not] at this
    rw [if_neg this]
  · rfl
theorem bridge_steps {H : Type} {enc : TypeId × Value → H} {W : World} {L : List Addr} {v : Value} (h : Reads enc Tryd.prog W 22 [v]) (hv : Listed L v) :
    ∃ (xs : List StepM) (sa : Option Addr) (cp : Nat), canonV W L v = .slice sa xs.length cp ∧ LAt (heap0 W L) stepc 2 xs (.slice sa xs.length cp) ∧ xs.length ≤ 9223372036854775807 ∧ ∀ x ∈ xs, x.key.size ≤ 9223372036854775807 := by
  obtain ⟨xs, sa, cp, e, k, l, q⟩ := bridge_slice (Q := fun x : StepM => x.key.size ≤ maxLen) und1_22 (by kernel_rfl) (by decide) stepc_size h hv fun cs hr _ => by
    obtain ⟨s0, n1, rfl, l0, l1, _⟩ := open65 hr
    exact ⟨⟨s0, n1⟩, by simp [stepc, canonV], l0⟩
  exact ⟨xs, sa, cp, e, lat_of k fun b _ => slack0 W L b, l, q⟩
theorem bridge_walks {H : Type} {enc : TypeId × Value → H} {W : World} {L : List Addr} {v : Value} (h : Reads enc Tryd.prog W 68 [v]) (hv : Listed L v) :
    ∃ (xs : List WalkM) (sa : Option Addr) (cp : Nat), canonV W L v = .slice sa xs.length cp ∧ SliceAt (heap0 W L) walkc 3 xs (.slice sa xs.length cp) ∧ xs.length ≤ 9223372036854775807 ∧ ∀ x ∈ xs, WOk x :=
  bridge_slice (Q := WOk) und1_68 (by kernel_rfl) (by decide) walkc_size h hv fun cs hr _ => by
    obtain ⟨n0, b1, n2, rfl, l0, l2, _⟩ := open70 hr
    exact ⟨⟨n0, b1, n2⟩, by simp [walkc, canonV], by simpa [WOk, I64, IntKind.min, IntKind.max, IntKind.signed, IntKind.bits] using And.intro l0 l2⟩
end C28
