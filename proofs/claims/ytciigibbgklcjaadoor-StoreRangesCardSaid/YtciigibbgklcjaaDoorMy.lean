/- Scripts that can be read, in the canonical heap. -/
import Derived.Test.YtciigibbgklcjaaDoorMg
import Derived.Test.YtciigibbgklcjaaDoorBmf
import Derived.KernelRfl
open Go Go.AM Go.Proofs
namespace C08
theorem und1_2 : Tryd.prog.underlying 2 = some (.int .i64) := by kernel_rfl
theorem und1_3 : Tryd.prog.underlying 3 = some (.int .i64) := by kernel_rfl
theorem und1_9 : Tryd.prog.underlying 9 = some (.string) := by kernel_rfl
theorem und1_22 : Tryd.prog.underlying 22 = some (.slice 47) := by kernel_rfl
theorem open47 {H : Type} {enc : TypeId × Value → H} {W : World} {cs : List Value} (h : Reads enc Tryd.prog W 47 cs) : ∃ (n0 : Int) (s1 : ByteArray) (n2 : Int) (n3 : Int) (n4 : Int) (n5 : Int) (n6 : Int) (n7 : Int) (n8 : Int) (s9 : ByteArray) (s10 : ByteArray), cs = [.int .i64 n0, .string s1, .int .i64 n2, .int .i64 n3, .int .i64 n4, .int .i64 n5, .int .i64 n6, .int .i64 n7, .int .i64 n8, .string s9, .string s10] ∧ (IntKind.min .i64 ≤ n0 ∧ n0 ≤ IntKind.max .i64) ∧ s1.size ≤ maxLen ∧ (IntKind.min .i64 ≤ n2 ∧ n2 ≤ IntKind.max .i64) ∧ (IntKind.min .i64 ≤ n3 ∧ n3 ≤ IntKind.max .i64) ∧ (IntKind.min .i64 ≤ n4 ∧ n4 ≤ IntKind.max .i64) ∧ (IntKind.min .i64 ≤ n5 ∧ n5 ≤ IntKind.max .i64) ∧ (IntKind.min .i64 ≤ n6 ∧ n6 ≤ IntKind.max .i64) ∧ (IntKind.min .i64 ≤ n7 ∧ n7 ≤ IntKind.max .i64) ∧ (IntKind.min .i64 ≤ n8 ∧ n8 ≤ IntKind.max .i64) ∧ s9.size ≤ maxLen ∧ s10.size ≤ maxLen ∧ True := by
  have hl : cs.length = 11 := (reads_size (fs := (match Tryd.prog.underlying 47 with | some (.struct fs) => fs | _ => #[])) (by kernel_rfl) h).trans (by kernel_rfl)
  match cs, hl, h with
  | [c0, c1, c2, c3, c4, c5, c6, c7, c8, c9, c10], _, h =>
    obtain ⟨w0, e0, r0⟩ := reads_at 12 (o := 0) (u := 3) h (by kernel_rfl)
    have q0 : c0 = w0 := by simpa using e0
    obtain ⟨n0, z0, l0⟩ := reads_int und1_3 r0
    simp only [List.cons.injEq, and_true] at z0; subst q0; subst z0
    obtain ⟨w1, e1, r1⟩ := reads_at 12 (o := 1) (u := 9) h (by kernel_rfl)
    have q1 : c1 = w1 := by simpa using e1
    obtain ⟨s1, z1, l1⟩ := reads_string und1_9 r1
    simp only [List.cons.injEq, and_true] at z1; subst q1; subst z1
    obtain ⟨w2, e2, r2⟩ := reads_at 12 (o := 2) (u := 2) h (by kernel_rfl)
    have q2 : c2 = w2 := by simpa using e2
    obtain ⟨n2, z2, l2⟩ := reads_int und1_2 r2
    simp only [List.cons.injEq, and_true] at z2; subst q2; subst z2
    obtain ⟨w3, e3, r3⟩ := reads_at 12 (o := 3) (u := 2) h (by kernel_rfl)
    have q3 : c3 = w3 := by simpa using e3
    obtain ⟨n3, z3, l3⟩ := reads_int und1_2 r3
    simp only [List.cons.injEq, and_true] at z3; subst q3; subst z3
    obtain ⟨w4, e4, r4⟩ := reads_at 12 (o := 4) (u := 2) h (by kernel_rfl)
    have q4 : c4 = w4 := by simpa using e4
    obtain ⟨n4, z4, l4⟩ := reads_int und1_2 r4
    simp only [List.cons.injEq, and_true] at z4; subst q4; subst z4
    obtain ⟨w5, e5, r5⟩ := reads_at 12 (o := 5) (u := 2) h (by kernel_rfl)
    have q5 : c5 = w5 := by simpa using e5
    obtain ⟨n5, z5, l5⟩ := reads_int und1_2 r5
    simp only [List.cons.injEq, and_true] at z5; subst q5; subst z5
    obtain ⟨w6, e6, r6⟩ := reads_at 12 (o := 6) (u := 2) h (by kernel_rfl)
    have q6 : c6 = w6 := by simpa using e6
    obtain ⟨n6, z6, l6⟩ := reads_int und1_2 r6
    simp only [List.cons.injEq, and_true] at z6; subst q6; subst z6
    obtain ⟨w7, e7, r7⟩ := reads_at 12 (o := 7) (u := 3) h (by kernel_rfl)
    have q7 : c7 = w7 := by simpa using e7
    obtain ⟨n7, z7, l7⟩ := reads_int und1_3 r7
    simp only [List.cons.injEq, and_true] at z7; subst q7; subst z7
    obtain ⟨w8, e8, r8⟩ := reads_at 12 (o := 8) (u := 2) h (by kernel_rfl)
    have q8 : c8 = w8 := by simpa using e8
    obtain ⟨n8, z8, l8⟩ := reads_int und1_2 r8
    simp only [List.cons.injEq, and_true] at z8; subst q8; subst z8
    obtain ⟨w9, e9, r9⟩ := reads_at 12 (o := 9) (u := 9) h (by kernel_rfl)
    have q9 : c9 = w9 := by simpa using e9
    obtain ⟨s9, z9, l9⟩ := reads_string und1_9 r9
    simp only [List.cons.injEq, and_true] at z9; subst q9; subst z9
    obtain ⟨w10, e10, r10⟩ := reads_at 12 (o := 10) (u := 9) h (by kernel_rfl)
    have q10 : c10 = w10 := by simpa using e10
    obtain ⟨s10, z10, l10⟩ := reads_string und1_9 r10
    simp only [List.cons.injEq, and_true] at z10; subst q10; subst z10
    exact ⟨_, _, _, _, _, _, _, _, _, _, _, rfl, l0, l1, l2, l3, l4, l5, l6, l7, l8, l9, l10, trivial⟩
theorem open24 {H : Type} {enc : TypeId × Value → H} {W : World} {cs : List Value} (h : Reads enc Tryd.prog W 24 cs) : ∃ (s0 : ByteArray) (s1 : ByteArray), cs = [.string s0, .string s1] ∧ s0.size ≤ maxLen ∧ s1.size ≤ maxLen ∧ True := by
  have hl : cs.length = 2 := (reads_size (fs := (match Tryd.prog.underlying 24 with | some (.struct fs) => fs | _ => #[])) (by kernel_rfl) h).trans (by kernel_rfl)
  match cs, hl, h with
  | [c0, c1], _, h =>
    obtain ⟨w0, e0, r0⟩ := reads_at 12 (o := 0) (u := 9) h (by kernel_rfl)
    have q0 : c0 = w0 := by simpa using e0
    obtain ⟨s0, z0, l0⟩ := reads_string und1_9 r0
    simp only [List.cons.injEq, and_true] at z0; subst q0; subst z0
    obtain ⟨w1, e1, r1⟩ := reads_at 12 (o := 1) (u := 9) h (by kernel_rfl)
    have q1 : c1 = w1 := by simpa using e1
    obtain ⟨s1, z1, l1⟩ := reads_string und1_9 r1
    simp only [List.cons.injEq, and_true] at z1; subst q1; subst z1
    exact ⟨_, _, rfl, l0, l1, trivial⟩
theorem open39 {H : Type} {enc : TypeId × Value → H} {W : World} {cs : List Value} (h : Reads enc Tryd.prog W 39 cs) : ∃ (n0 : Int) (n1 : Int) (n2 : Int) (n3 : Int) (n4 : Int), cs = [.int .i64 n0, .int .i64 n1, .int .i64 n2, .int .i64 n3, .int .i64 n4] ∧ (IntKind.min .i64 ≤ n0 ∧ n0 ≤ IntKind.max .i64) ∧ (IntKind.min .i64 ≤ n1 ∧ n1 ≤ IntKind.max .i64) ∧ (IntKind.min .i64 ≤ n2 ∧ n2 ≤ IntKind.max .i64) ∧ (IntKind.min .i64 ≤ n3 ∧ n3 ≤ IntKind.max .i64) ∧ (IntKind.min .i64 ≤ n4 ∧ n4 ≤ IntKind.max .i64) ∧ True := by
  have hl : cs.length = 5 := (reads_size (fs := (match Tryd.prog.underlying 39 with | some (.struct fs) => fs | _ => #[])) (by kernel_rfl) h).trans (by kernel_rfl)
  match cs, hl, h with
  | [c0, c1, c2, c3, c4], _, h =>
    obtain ⟨w0, e0, r0⟩ := reads_at 12 (o := 0) (u := 2) h (by kernel_rfl)
    have q0 : c0 = w0 := by simpa using e0
    obtain ⟨n0, z0, l0⟩ := reads_int und1_2 r0
    simp only [List.cons.injEq, and_true] at z0; subst q0; subst z0
    obtain ⟨w1, e1, r1⟩ := reads_at 12 (o := 1) (u := 2) h (by kernel_rfl)
    have q1 : c1 = w1 := by simpa using e1
    obtain ⟨n1, z1, l1⟩ := reads_int und1_2 r1
    simp only [List.cons.injEq, and_true] at z1; subst q1; subst z1
    obtain ⟨w2, e2, r2⟩ := reads_at 12 (o := 2) (u := 2) h (by kernel_rfl)
    have q2 : c2 = w2 := by simpa using e2
    obtain ⟨n2, z2, l2⟩ := reads_int und1_2 r2
    simp only [List.cons.injEq, and_true] at z2; subst q2; subst z2
    obtain ⟨w3, e3, r3⟩ := reads_at 12 (o := 3) (u := 2) h (by kernel_rfl)
    have q3 : c3 = w3 := by simpa using e3
    obtain ⟨n3, z3, l3⟩ := reads_int und1_2 r3
    simp only [List.cons.injEq, and_true] at z3; subst q3; subst z3
    obtain ⟨w4, e4, r4⟩ := reads_at 12 (o := 4) (u := 2) h (by kernel_rfl)
    have q4 : c4 = w4 := by simpa using e4
    obtain ⟨n4, z4, l4⟩ := reads_int und1_2 r4
    simp only [List.cons.injEq, and_true] at z4; subst q4; subst z4
    exact ⟨_, _, _, _, _, rfl, l0, l1, l2, l3, l4, trivial⟩
theorem bridge_steps {H : Type} {enc : TypeId × Value → H} {W : World} {L : List Addr} {v : Value} (h : Reads enc Tryd.prog W 22 [v]) (hv : Listed L v) :
    ∃ (xs : List StepA) (sa : Option Addr) (cp : Nat), canonV W L v = .slice sa xs.length cp ∧ SliceAt (heap0 W L) scell 11 xs (.slice sa xs.length cp) ∧ xs.length ≤ 9223372036854775807 ∧ ∀ x ∈ xs, True :=
  bridge_slice (Q := fun _ : StepA => True) und1_22 (by kernel_rfl) (by decide) scell_size h hv fun cs hr _ => by
    obtain ⟨n0, s1, n2, n3, n4, n5, n6, n7, n8, s9, s10, rfl, _⟩ := open47 hr
    exact ⟨⟨n0, s1, ⟨n2, n3, n4, n5, n6⟩, n7, n8, s9, s10⟩, by simp [scell, canonV], trivial⟩
end C08
