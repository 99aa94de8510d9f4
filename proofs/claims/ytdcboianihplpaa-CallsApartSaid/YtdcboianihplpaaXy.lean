/- Scripts that can be read, in the canonical heap. -/
import Derived.Test.YtdcboianihplpaaXb
import Derived.Test.YtdcboianihplpaaBmf
import Derived.KernelRfl
open Go Go.AM Go.Proofs
namespace C36
theorem und1_2 : Try.prog.underlying 2 = some (.int .i64) := by kernel_rfl
theorem und1_3 : Try.prog.underlying 3 = some (.int .i64) := by kernel_rfl
theorem und1_4 : Try.prog.underlying 4 = some (.bool) := by kernel_rfl
theorem und1_9 : Try.prog.underlying 9 = some (.string) := by kernel_rfl
theorem und1_28 : Try.prog.underlying 28 = some (.int .i64) := by kernel_rfl
theorem und1_37 : Try.prog.underlying 37 = some (.slice 74) := by kernel_rfl
theorem open74 {H : Type} {enc : TypeId × Value → H} {W : World} {cs : List Value} (h : Reads enc Try.prog W 74 cs) : ∃ (s0 : ByteArray) (n1 : Int), cs = [.string s0, .int .i64 n1] ∧ s0.size ≤ maxLen ∧ (IntKind.min .i64 ≤ n1 ∧ n1 ≤ IntKind.max .i64) ∧ True := by
  have hl : cs.length = 2 := (reads_size (fs := (match Try.prog.underlying 74 with | some (.struct fs) => fs | _ => #[])) (by kernel_rfl) h).trans (by kernel_rfl)
  match cs, hl, h with
  | [c0, c1], _, h =>
    obtain ⟨w0, e0, r0⟩ := reads_at 12 (o := 0) (u := 9) h (by kernel_rfl)
    have q0 : c0 = w0 := by simpa using e0
    obtain ⟨s0, z0, l0⟩ := reads_string und1_9 r0
    simp only [List.cons.injEq, and_true] at z0; subst q0; subst z0
    obtain ⟨w1, e1, r1⟩ := reads_at 12 (o := 1) (u := 2) h (by kernel_rfl)
    have q1 : c1 = w1 := by simpa using e1
    obtain ⟨n1, z1, l1⟩ := reads_int und1_2 r1
    simp only [List.cons.injEq, and_true] at z1; subst q1; subst z1
    exact ⟨_, _, rfl, l0, l1, trivial⟩
theorem open62 {H : Type} {enc : TypeId × Value → H} {W : World} {cs : List Value} (h : Reads enc Try.prog W 62 cs) : ∃ (b0 : Bool) (n1 : Int) (n2 : Int) (n3 : Int) (n4 : Int) (n5 : Int) (n6 : Int) (s7 : ByteArray) (n8 : Int) (n9 : Int) (s10 : ByteArray) (s11 : ByteArray) (n12 : Int) (s13 : ByteArray) (n14 : Int) (n15 : Int) (v16 : Value) (n17 : Int) (n18 : Int) (n19 : Int) (n20 : Int) (b21 : Bool) (n22 : Int) (n23 : Int) (s24 : ByteArray) (n25 : Int) (n26 : Int) (n27 : Int) (s28 : ByteArray), cs = [.bool b0, .int .i64 n1, .int .i64 n2, .int .i64 n3, .int .i64 n4, .int .i64 n5, .int .i64 n6, .string s7, .int .i64 n8, .int .i64 n9, .string s10, .string s11, .int .i64 n12, .string s13, .int .i64 n14, .int .i64 n15, v16, .int .i64 n17, .int .i64 n18, .int .i64 n19, .int .i64 n20, .bool b21, .int .i64 n22, .int .i64 n23, .string s24, .int .i64 n25, .int .i64 n26, .int .i64 n27, .string s28] ∧ (IntKind.min .i64 ≤ n1 ∧ n1 ≤ IntKind.max .i64) ∧ (IntKind.min .i64 ≤ n2 ∧ n2 ≤ IntKind.max .i64) ∧ (IntKind.min .i64 ≤ n3 ∧ n3 ≤ IntKind.max .i64) ∧ (IntKind.min .i64 ≤ n4 ∧ n4 ≤ IntKind.max .i64) ∧ (IntKind.min .i64 ≤ n5 ∧ n5 ≤ IntKind.max .i64) ∧ (IntKind.min .i64 ≤ n6 ∧ n6 ≤ IntKind.max .i64) ∧ s7.size ≤ maxLen ∧ (IntKind.min .i64 ≤ n8 ∧ n8 ≤ IntKind.max .i64) ∧ (IntKind.min .i64 ≤ n9 ∧ n9 ≤ IntKind.max .i64) ∧ s10.size ≤ maxLen ∧ s11.size ≤ maxLen ∧ (IntKind.min .i64 ≤ n12 ∧ n12 ≤ IntKind.max .i64) ∧ s13.size ≤ maxLen ∧ (IntKind.min .i64 ≤ n14 ∧ n14 ≤ IntKind.max .i64) ∧ (IntKind.min .i64 ≤ n15 ∧ n15 ≤ IntKind.max .i64) ∧ Reads enc Try.prog W 37 [v16] ∧ (IntKind.min .i64 ≤ n17 ∧ n17 ≤ IntKind.max .i64) ∧ (IntKind.min .i64 ≤ n18 ∧ n18 ≤ IntKind.max .i64) ∧ (IntKind.min .i64 ≤ n19 ∧ n19 ≤ IntKind.max .i64) ∧ (IntKind.min .i64 ≤ n20 ∧ n20 ≤ IntKind.max .i64) ∧ (IntKind.min .i64 ≤ n22 ∧ n22 ≤ IntKind.max .i64) ∧ (IntKind.min .i64 ≤ n23 ∧ n23 ≤ IntKind.max .i64) ∧ s24.size ≤ maxLen ∧ (IntKind.min .i64 ≤ n25 ∧ n25 ≤ IntKind.max .i64) ∧ (IntKind.min .i64 ≤ n26 ∧ n26 ≤ IntKind.max .i64) ∧ (IntKind.min .i64 ≤ n27 ∧ n27 ≤ IntKind.max .i64) ∧ s28.size ≤ maxLen ∧ True := by
  have hl : cs.length = 29 := (reads_size (fs := (match Try.prog.underlying 62 with | some (.struct fs) => fs | _ => #[])) (by kernel_rfl) h).trans (by kernel_rfl)
  match cs, hl, h with
  | [c0, c1, c2, c3, c4, c5, c6, c7, c8, c9, c10, c11, c12, c13, c14, c15, c16, c17, c18, c19, c20, c21, c22, c23, c24, c25, c26, c27, c28], _, h =>
    obtain ⟨w0, e0, r0⟩ := reads_at 12 (o := 0) (u := 4) h (by kernel_rfl)
    have q0 : c0 = w0 := by simpa using e0
    obtain ⟨b0, z0⟩ := reads_bool und1_4 r0
    simp only [List.cons.injEq, and_true] at z0; subst q0; subst z0
    obtain ⟨w1, e1, r1⟩ := reads_at 12 (o := 1) (u := 3) h (by kernel_rfl)
    have q1 : c1 = w1 := by simpa using e1
    obtain ⟨n1, z1, l1⟩ := reads_int und1_3 r1
    simp only [List.cons.injEq, and_true] at z1; subst q1; subst z1
    obtain ⟨w2, e2, r2⟩ := reads_at 12 (o := 2) (u := 3) h (by kernel_rfl)
    have q2 : c2 = w2 := by simpa using e2
    obtain ⟨n2, z2, l2⟩ := reads_int und1_3 r2
    simp only [List.cons.injEq, and_true] at z2; subst q2; subst z2
    obtain ⟨w3, e3, r3⟩ := reads_at 12 (o := 3) (u := 3) h (by kernel_rfl)
    have q3 : c3 = w3 := by simpa using e3
    obtain ⟨n3, z3, l3⟩ := reads_int und1_3 r3
    simp only [List.cons.injEq, and_true] at z3; subst q3; subst z3
    obtain ⟨w4, e4, r4⟩ := reads_at 12 (o := 4) (u := 3) h (by kernel_rfl)
    have q4 : c4 = w4 := by simpa using e4
    obtain ⟨n4, z4, l4⟩ := reads_int und1_3 r4
    simp only [List.cons.injEq, and_true] at z4; subst q4; subst z4
    obtain ⟨w5, e5, r5⟩ := reads_at 12 (o := 5) (u := 3) h (by kernel_rfl)
    have q5 : c5 = w5 := by simpa using e5
    obtain ⟨n5, z5, l5⟩ := reads_int und1_3 r5
    simp only [List.cons.injEq, and_true] at z5; subst q5; subst z5
    obtain ⟨w6, e6, r6⟩ := reads_at 12 (o := 6) (u := 3) h (by kernel_rfl)
    have q6 : c6 = w6 := by simpa using e6
    obtain ⟨n6, z6, l6⟩ := reads_int und1_3 r6
    simp only [List.cons.injEq, and_true] at z6; subst q6; subst z6
    obtain ⟨w7, e7, r7⟩ := reads_at 12 (o := 7) (u := 9) h (by kernel_rfl)
    have q7 : c7 = w7 := by simpa using e7
    obtain ⟨s7, z7, l7⟩ := reads_string und1_9 r7
    simp only [List.cons.injEq, and_true] at z7; subst q7; subst z7
    obtain ⟨w8, e8, r8⟩ := reads_at 12 (o := 8) (u := 2) h (by kernel_rfl)
    have q8 : c8 = w8 := by simpa using e8
    obtain ⟨n8, z8, l8⟩ := reads_int und1_2 r8
    simp only [List.cons.injEq, and_true] at z8; subst q8; subst z8
    obtain ⟨w9, e9, r9⟩ := reads_at 12 (o := 9) (u := 3) h (by kernel_rfl)
    have q9 : c9 = w9 := by simpa using e9
    obtain ⟨n9, z9, l9⟩ := reads_int und1_3 r9
    simp only [List.cons.injEq, and_true] at z9; subst q9; subst z9
    obtain ⟨w10, e10, r10⟩ := reads_at 12 (o := 10) (u := 9) h (by kernel_rfl)
    have q10 : c10 = w10 := by simpa using e10
    obtain ⟨s10, z10, l10⟩ := reads_string und1_9 r10
    simp only [List.cons.injEq, and_true] at z10; subst q10; subst z10
    obtain ⟨w11, e11, r11⟩ := reads_at 12 (o := 11) (u := 9) h (by kernel_rfl)
    have q11 : c11 = w11 := by simpa using e11
    obtain ⟨s11, z11, l11⟩ := reads_string und1_9 r11
    simp only [List.cons.injEq, and_true] at z11; subst q11; subst z11
    obtain ⟨w12, e12, r12⟩ := reads_at 12 (o := 12) (u := 3) h (by kernel_rfl)
    have q12 : c12 = w12 := by simpa using e12
    obtain ⟨n12, z12, l12⟩ := reads_int und1_3 r12
    simp only [List.cons.injEq, and_true] at z12; subst q12; subst z12
    obtain ⟨w13, e13, r13⟩ := reads_at 12 (o := 13) (u := 9) h (by kernel_rfl)
    have q13 : c13 = w13 := by simpa using e13
    obtain ⟨s13, z13, l13⟩ := reads_string und1_9 r13
    simp only [List.cons.injEq, and_true] at z13; subst q13; subst z13
    obtain ⟨w14, e14, r14⟩ := reads_at 12 (o := 14) (u := 3) h (by kernel_rfl)
    have q14 : c14 = w14 := by simpa using e14
    obtain ⟨n14, z14, l14⟩ := reads_int und1_3 r14
    simp only [List.cons.injEq, and_true] at z14; subst q14; subst z14
    obtain ⟨w15, e15, r15⟩ := reads_at 12 (o := 15) (u := 3) h (by kernel_rfl)
    have q15 : c15 = w15 := by simpa using e15
    obtain ⟨n15, z15, l15⟩ := reads_int und1_3 r15
    simp only [List.cons.injEq, and_true] at z15; subst q15; subst z15
    obtain ⟨w16, e16, r16⟩ := reads_at 12 (o := 16) (u := 37) h (by kernel_rfl)
    have q16 : c16 = w16 := by simpa using e16
    subst q16
    obtain ⟨w17, e17, r17⟩ := reads_at 12 (o := 17) (u := 3) h (by kernel_rfl)
    have q17 : c17 = w17 := by simpa using e17
    obtain ⟨n17, z17, l17⟩ := reads_int und1_3 r17
    simp only [List.cons.injEq, and_true] at z17; subst q17; subst z17
    obtain ⟨w18, e18, r18⟩ := reads_at 12 (o := 18) (u := 3) h (by kernel_rfl)
    have q18 : c18 = w18 := by simpa using e18
    obtain ⟨n18, z18, l18⟩ := reads_int und1_3 r18
    simp only [List.cons.injEq, and_true] at z18; subst q18; subst z18
    obtain ⟨w19, e19, r19⟩ := reads_at 12 (o := 19) (u := 3) h (by kernel_rfl)
    have q19 : c19 = w19 := by simpa using e19
    obtain ⟨n19, z19, l19⟩ := reads_int und1_3 r19
    simp only [List.cons.injEq, and_true] at z19; subst q19; subst z19
    obtain ⟨w20, e20, r20⟩ := reads_at 12 (o := 20) (u := 3) h (by kernel_rfl)
    have q20 : c20 = w20 := by simpa using e20
    obtain ⟨n20, z20, l20⟩ := reads_int und1_3 r20
    simp only [List.cons.injEq, and_true] at z20; subst q20; subst z20
    obtain ⟨w21, e21, r21⟩ := reads_at 12 (o := 21) (u := 4) h (by kernel_rfl)
    have q21 : c21 = w21 := by simpa using e21
    obtain ⟨b21, z21⟩ := reads_bool und1_4 r21
    simp only [List.cons.injEq, and_true] at z21; subst q21; subst z21
    obtain ⟨w22, e22, r22⟩ := reads_at 12 (o := 22) (u := 3) h (by kernel_rfl)
    have q22 : c22 = w22 := by simpa using e22
    obtain ⟨n22, z22, l22⟩ := reads_int und1_3 r22
    simp only [List.cons.injEq, and_true] at z22; subst q22; subst z22
    obtain ⟨w23, e23, r23⟩ := reads_at 12 (o := 23) (u := 28) h (by kernel_rfl)
    have q23 : c23 = w23 := by simpa using e23
    obtain ⟨n23, z23, l23⟩ := reads_int und1_28 r23
    simp only [List.cons.injEq, and_true] at z23; subst q23; subst z23
    obtain ⟨w24, e24, r24⟩ := reads_at 12 (o := 24) (u := 9) h (by kernel_rfl)
    have q24 : c24 = w24 := by simpa using e24
    obtain ⟨s24, z24, l24⟩ := reads_string und1_9 r24
    simp only [List.cons.injEq, and_true] at z24; subst q24; subst z24
    obtain ⟨w25, e25, r25⟩ := reads_at 12 (o := 25) (u := 3) h (by kernel_rfl)
    have q25 : c25 = w25 := by simpa using e25
    obtain ⟨n25, z25, l25⟩ := reads_int und1_3 r25
    simp only [List.cons.injEq, and_true] at z25; subst q25; subst z25
    obtain ⟨w26, e26, r26⟩ := reads_at 12 (o := 26) (u := 28) h (by kernel_rfl)
    have q26 : c26 = w26 := by simpa using e26
    obtain ⟨n26, z26, l26⟩ := reads_int und1_28 r26
    simp only [List.cons.injEq, and_true] at z26; subst q26; subst z26
    obtain ⟨w27, e27, r27⟩ := reads_at 12 (o := 27) (u := 2) h (by kernel_rfl)
    have q27 : c27 = w27 := by simpa using e27
    obtain ⟨n27, z27, l27⟩ := reads_int und1_2 r27
    simp only [List.cons.injEq, and_true] at z27; subst q27; subst z27
    obtain ⟨w28, e28, r28⟩ := reads_at 12 (o := 28) (u := 9) h (by kernel_rfl)
    have q28 : c28 = w28 := by simpa using e28
    obtain ⟨s28, z28, l28⟩ := reads_string und1_9 r28
    simp only [List.cons.injEq, and_true] at z28; subst q28; subst z28
    exact ⟨_, _, _, _, _, _, _, _, _, _, _, _, _, _, _, _, _, _, _, _, _, _, _, _, _, _, _, _, _, rfl, l1, l2, l3, l4, l5, l6, l7, l8, l9, l10, l11, l12, l13, l14, l15, r16, l17, l18, l19, l20, l22, l23, l24, l25, l26, l27, l28, trivial⟩
theorem open45 {H : Type} {enc : TypeId × Value → H} {W : World} {cs : List Value} (h : Reads enc Try.prog W 45 cs) : ∃ (n0 : Int) (n1 : Int) (s2 : ByteArray), cs = [.int .i64 n0, .int .i64 n1, .string s2] ∧ (IntKind.min .i64 ≤ n0 ∧ n0 ≤ IntKind.max .i64) ∧ (IntKind.min .i64 ≤ n1 ∧ n1 ≤ IntKind.max .i64) ∧ s2.size ≤ maxLen ∧ True := by
  have hl : cs.length = 3 := (reads_size (fs := (match Try.prog.underlying 45 with | some (.struct fs) => fs | _ => #[])) (by kernel_rfl) h).trans (by kernel_rfl)
  match cs, hl, h with
  | [c0, c1, c2], _, h =>
    obtain ⟨w0, e0, r0⟩ := reads_at 12 (o := 0) (u := 28) h (by kernel_rfl)
    have q0 : c0 = w0 := by simpa using e0
    obtain ⟨n0, z0, l0⟩ := reads_int und1_28 r0
    simp only [List.cons.injEq, and_true] at z0; subst q0; subst z0
    obtain ⟨w1, e1, r1⟩ := reads_at 12 (o := 1) (u := 2) h (by kernel_rfl)
    have q1 : c1 = w1 := by simpa using e1
    obtain ⟨n1, z1, l1⟩ := reads_int und1_2 r1
    simp only [List.cons.injEq, and_true] at z1; subst q1; subst z1
    obtain ⟨w2, e2, r2⟩ := reads_at 12 (o := 2) (u := 9) h (by kernel_rfl)
    have q2 : c2 = w2 := by simpa using e2
    obtain ⟨s2, z2, l2⟩ := reads_string und1_9 r2
    simp only [List.cons.injEq, and_true] at z2; subst q2; subst z2
    exact ⟨_, _, _, rfl, l0, l1, l2, trivial⟩
theorem open43 {H : Type} {enc : TypeId × Value → H} {W : World} {cs : List Value} (h : Reads enc Try.prog W 43 cs) : ∃ (n0 : Int) (n1 : Int) (n2 : Int) (n3 : Int) (n4 : Int) (n5 : Int) (s6 : ByteArray) (n7 : Int) (n8 : Int) (s9 : ByteArray) (s10 : ByteArray) (n11 : Int) (s12 : ByteArray) (n13 : Int) (n14 : Int) (v15 : Value) (n16 : Int) (n17 : Int) (n18 : Int) (n19 : Int) (b20 : Bool) (n21 : Int) (n22 : Int) (s23 : ByteArray), cs = [.int .i64 n0, .int .i64 n1, .int .i64 n2, .int .i64 n3, .int .i64 n4, .int .i64 n5, .string s6, .int .i64 n7, .int .i64 n8, .string s9, .string s10, .int .i64 n11, .string s12, .int .i64 n13, .int .i64 n14, v15, .int .i64 n16, .int .i64 n17, .int .i64 n18, .int .i64 n19, .bool b20, .int .i64 n21, .int .i64 n22, .string s23] ∧ (IntKind.min .i64 ≤ n0 ∧ n0 ≤ IntKind.max .i64) ∧ (IntKind.min .i64 ≤ n1 ∧ n1 ≤ IntKind.max .i64) ∧ (IntKind.min .i64 ≤ n2 ∧ n2 ≤ IntKind.max .i64) ∧ (IntKind.min .i64 ≤ n3 ∧ n3 ≤ IntKind.max .i64) ∧ (IntKind.min .i64 ≤ n4 ∧ n4 ≤ IntKind.max .i64) ∧ (IntKind.min .i64 ≤ n5 ∧ n5 ≤ IntKind.max .i64) ∧ s6.size ≤ maxLen ∧ (IntKind.min .i64 ≤ n7 ∧ n7 ≤ IntKind.max .i64) ∧ (IntKind.min .i64 ≤ n8 ∧ n8 ≤ IntKind.max .i64) ∧ s9.size ≤ maxLen ∧ s10.size ≤ maxLen ∧ (IntKind.min .i64 ≤ n11 ∧ n11 ≤ IntKind.max .i64) ∧ s12.size ≤ maxLen ∧ (IntKind.min .i64 ≤ n13 ∧ n13 ≤ IntKind.max .i64) ∧ (IntKind.min .i64 ≤ n14 ∧ n14 ≤ IntKind.max .i64) ∧ Reads enc Try.prog W 37 [v15] ∧ (IntKind.min .i64 ≤ n16 ∧ n16 ≤ IntKind.max .i64) ∧ (IntKind.min .i64 ≤ n17 ∧ n17 ≤ IntKind.max .i64) ∧ (IntKind.min .i64 ≤ n18 ∧ n18 ≤ IntKind.max .i64) ∧ (IntKind.min .i64 ≤ n19 ∧ n19 ≤ IntKind.max .i64) ∧ (IntKind.min .i64 ≤ n21 ∧ n21 ≤ IntKind.max .i64) ∧ (IntKind.min .i64 ≤ n22 ∧ n22 ≤ IntKind.max .i64) ∧ s23.size ≤ maxLen ∧ True := by
  have hl : cs.length = 24 := (reads_size (fs := (match Try.prog.underlying 43 with | some (.struct fs) => fs | _ => #[])) (by kernel_rfl) h).trans (by kernel_rfl)
  match cs, hl, h with
  | [c0, c1, c2, c3, c4, c5, c6, c7, c8, c9, c10, c11, c12, c13, c14, c15, c16, c17, c18, c19, c20, c21, c22, c23], _, h =>
    obtain ⟨w0, e0, r0⟩ := reads_at 12 (o := 0) (u := 3) h (by kernel_rfl)
    have q0 : c0 = w0 := by simpa using e0
    obtain ⟨n0, z0, l0⟩ := reads_int und1_3 r0
    simp only [List.cons.injEq, and_true] at z0; subst q0; subst z0
    obtain ⟨w1, e1, r1⟩ := reads_at 12 (o := 1) (u := 3) h (by kernel_rfl)
    have q1 : c1 = w1 := by simpa using e1
    obtain ⟨n1, z1, l1⟩ := reads_int und1_3 r1
    simp only [List.cons.injEq, and_true] at z1; subst q1; subst z1
    obtain ⟨w2, e2, r2⟩ := reads_at 12 (o := 2) (u := 3) h (by kernel_rfl)
    have q2 : c2 = w2 := by simpa using e2
    obtain ⟨n2, z2, l2⟩ := reads_int und1_3 r2
    simp only [List.cons.injEq, and_true] at z2; subst q2; subst z2
    obtain ⟨w3, e3, r3⟩ := reads_at 12 (o := 3) (u := 3) h (by kernel_rfl)
    have q3 : c3 = w3 := by simpa using e3
    obtain ⟨n3, z3, l3⟩ := reads_int und1_3 r3
    simp only [List.cons.injEq, and_true] at z3; subst q3; subst z3
    obtain ⟨w4, e4, r4⟩ := reads_at 12 (o := 4) (u := 3) h (by kernel_rfl)
    have q4 : c4 = w4 := by simpa using e4
    obtain ⟨n4, z4, l4⟩ := reads_int und1_3 r4
    simp only [List.cons.injEq, and_true] at z4; subst q4; subst z4
    obtain ⟨w5, e5, r5⟩ := reads_at 12 (o := 5) (u := 3) h (by kernel_rfl)
    have q5 : c5 = w5 := by simpa using e5
    obtain ⟨n5, z5, l5⟩ := reads_int und1_3 r5
    simp only [List.cons.injEq, and_true] at z5; subst q5; subst z5
    obtain ⟨w6, e6, r6⟩ := reads_at 12 (o := 6) (u := 9) h (by kernel_rfl)
    have q6 : c6 = w6 := by simpa using e6
    obtain ⟨s6, z6, l6⟩ := reads_string und1_9 r6
    simp only [List.cons.injEq, and_true] at z6; subst q6; subst z6
    obtain ⟨w7, e7, r7⟩ := reads_at 12 (o := 7) (u := 2) h (by kernel_rfl)
    have q7 : c7 = w7 := by simpa using e7
    obtain ⟨n7, z7, l7⟩ := reads_int und1_2 r7
    simp only [List.cons.injEq, and_true] at z7; subst q7; subst z7
    obtain ⟨w8, e8, r8⟩ := reads_at 12 (o := 8) (u := 3) h (by kernel_rfl)
    have q8 : c8 = w8 := by simpa using e8
    obtain ⟨n8, z8, l8⟩ := reads_int und1_3 r8
    simp only [List.cons.injEq, and_true] at z8; subst q8; subst z8
    obtain ⟨w9, e9, r9⟩ := reads_at 12 (o := 9) (u := 9) h (by kernel_rfl)
    have q9 : c9 = w9 := by simpa using e9
    obtain ⟨s9, z9, l9⟩ := reads_string und1_9 r9
    simp only [List.cons.injEq, and_true] at z9; subst q9; subst z9
    obtain ⟨w10, e10, r10⟩ := reads_at 12 (o := 10) (u := 9) h (by kernel_rfl)
    have q10 : c10 = w10 := by simpa using e10
    obtain ⟨s10, z10, l10⟩ := reads_string und1_9 r10
    simp only [List.cons.injEq, and_true] at z10; subst q10; subst z10
    obtain ⟨w11, e11, r11⟩ := reads_at 12 (o := 11) (u := 3) h (by kernel_rfl)
    have q11 : c11 = w11 := by simpa using e11
    obtain ⟨n11, z11, l11⟩ := reads_int und1_3 r11
    simp only [List.cons.injEq, and_true] at z11; subst q11; subst z11
    obtain ⟨w12, e12, r12⟩ := reads_at 12 (o := 12) (u := 9) h (by kernel_rfl)
    have q12 : c12 = w12 := by simpa using e12
    obtain ⟨s12, z12, l12⟩ := reads_string und1_9 r12
    simp only [List.cons.injEq, and_true] at z12; subst q12; subst z12
    obtain ⟨w13, e13, r13⟩ := reads_at 12 (o := 13) (u := 3) h (by kernel_rfl)
    have q13 : c13 = w13 := by simpa using e13
    obtain ⟨n13, z13, l13⟩ := reads_int und1_3 r13
    simp only [List.cons.injEq, and_true] at z13; subst q13; subst z13
    obtain ⟨w14, e14, r14⟩ := reads_at 12 (o := 14) (u := 3) h (by kernel_rfl)
    have q14 : c14 = w14 := by simpa using e14
    obtain ⟨n14, z14, l14⟩ := reads_int und1_3 r14
    simp only [List.cons.injEq, and_true] at z14; subst q14; subst z14
    obtain ⟨w15, e15, r15⟩ := reads_at 12 (o := 15) (u := 37) h (by kernel_rfl)
    have q15 : c15 = w15 := by simpa using e15
    subst q15
    obtain ⟨w16, e16, r16⟩ := reads_at 12 (o := 16) (u := 3) h (by kernel_rfl)
    have q16 : c16 = w16 := by simpa using e16
    obtain ⟨n16, z16, l16⟩ := reads_int und1_3 r16
    simp only [List.cons.injEq, and_true] at z16; subst q16; subst z16
    obtain ⟨w17, e17, r17⟩ := reads_at 12 (o := 17) (u := 3) h (by kernel_rfl)
    have q17 : c17 = w17 := by simpa using e17
    obtain ⟨n17, z17, l17⟩ := reads_int und1_3 r17
    simp only [List.cons.injEq, and_true] at z17; subst q17; subst z17
    obtain ⟨w18, e18, r18⟩ := reads_at 12 (o := 18) (u := 3) h (by kernel_rfl)
    have q18 : c18 = w18 := by simpa using e18
    obtain ⟨n18, z18, l18⟩ := reads_int und1_3 r18
    simp only [List.cons.injEq, and_true] at z18; subst q18; subst z18
    obtain ⟨w19, e19, r19⟩ := reads_at 12 (o := 19) (u := 3) h (by kernel_rfl)
    have q19 : c19 = w19 := by simpa using e19
    obtain ⟨n19, z19, l19⟩ := reads_int und1_3 r19
    simp only [List.cons.injEq, and_true] at z19; subst q19; subst z19
    obtain ⟨w20, e20, r20⟩ := reads_at 12 (o := 20) (u := 4) h (by kernel_rfl)
    have q20 : c20 = w20 := by simpa using e20
    obtain ⟨b20, z20⟩ := reads_bool und1_4 r20
    simp only [List.cons.injEq, and_true] at z20; subst q20; subst z20
    obtain ⟨w21, e21, r21⟩ := reads_at 12 (o := 21) (u := 3) h (by kernel_rfl)
    have q21 : c21 = w21 := by simpa using e21
    obtain ⟨n21, z21, l21⟩ := reads_int und1_3 r21
    simp only [List.cons.injEq, and_true] at z21; subst q21; subst z21
    obtain ⟨w22, e22, r22⟩ := reads_at 12 (o := 22) (u := 28) h (by kernel_rfl)
    have q22 : c22 = w22 := by simpa using e22
    obtain ⟨n22, z22, l22⟩ := reads_int und1_28 r22
    simp only [List.cons.injEq, and_true] at z22; subst q22; subst z22
    obtain ⟨w23, e23, r23⟩ := reads_at 12 (o := 23) (u := 9) h (by kernel_rfl)
    have q23 : c23 = w23 := by simpa using e23
    obtain ⟨s23, z23, l23⟩ := reads_string und1_9 r23
    simp only [List.cons.injEq, and_true] at z23; subst q23; subst z23
    exact ⟨_, _, _, _, _, _, _, _, _, _, _, _, _, _, _, _, _, _, _, _, _, _, _, _, rfl, l0, l1, l2, l3, l4, l5, l6, l7, l8, l9, l10, l11, l12, l13, l14, r15, l16, l17, l18, l19, l21, l22, l23, trivial⟩
theorem und1_22 : Try.prog.underlying 22 = some (.slice 62) := by kernel_rfl
theorem bridge_steps {H : Type} {enc : TypeId × Value → H} {W : World} {L : List Addr} {v : Value} (h : Reads enc Try.prog W 37 [v]) (hv : Listed L v) :
    ∃ (xs : List StepM) (sa : Option Addr) (cp : Nat), canonV W L v = .slice sa xs.length cp ∧ SliceAt (heap0 W L) stepc 2 xs (.slice sa xs.length cp) ∧ xs.length ≤ maxLen ∧ ∀ x ∈ xs, x.key.size ≤ maxLen :=
  bridge_slice und1_37 (by kernel_rfl) (by decide) stepc_size h hv fun cs hr _ => by
    obtain ⟨s0, n1, rfl, l0, l1, _⟩ := open74 hr
    exact ⟨⟨s0, n1⟩, by simp [stepc, canonV], l0⟩
/-- A script that can be read. -/
theorem bridge_script {H : Type} {enc : TypeId × Value → H} {W : World} {args : Array Value} {v : Value} (h : Reads enc Try.prog W 22 [v]) (hv : Listed (badL W args) v) :
    ∃ (xs : List (StepA × Option Addr × Nat)) (sa : Option Addr) (cp : Nat), canonV W (badL W args) v = .slice sa xs.length cp ∧ SliceAt (heap0 W (badL W args)) sac 29 xs (.slice sa xs.length cp) ∧ xs.length ≤ 9223372036854775807 ∧
      SubAt (heap0 W (badL W args)) stepc 2 (fun x : StepA × Option Addr × Nat => x.1.cmd.steps) sav xs ∧ ∀ x ∈ xs, x.1.cmd.steps.length ≤ 9223372036854775807 := by
  obtain ⟨xs, sa, cp, e, k, l, q⟩ := bridge_slice (Q := fun x : StepA × Option Addr × Nat => SliceAt (heap0 W (badL W args)) stepc 2 x.1.cmd.steps (sav x) ∧ x.1.cmd.steps.length ≤ 9223372036854775807) und1_22 (by kernel_rfl) (by decide) sac_size h hv fun cs hr hocc => by
    obtain ⟨b0, n1, n2, n3, n4, n5, n6, s7, n8, n9, s10, s11, n12, s13, n14, n15, v16, n17, n18, n19, n20, b21, n22, n23, s24, n25, n26, n27, s28, rfl, hh⟩ := open62 hr
    obtain ⟨bb, cc, ee, ff, g1, g2⟩ := hocc v16 (by simp)
    have hr16 : Reads enc Try.prog W 37 [v16] := by obtain ⟨f0, f1, f2, f3, f4, f5, f6, f7, f8, f9, f10, f11, f12, f13, f14, f15, f16, f17, f18, f19, f20, f21, f22, f23, f24, f25, f26, _⟩ := hh; exact f15
    obtain ⟨ss, sa, cp, e, k, l, _⟩ := bridge_steps hr16 (listed_heap g1 g2)
    exact ⟨(⟨b0, ⟨n1, n2, n3, n4, n5, n6, s7, n8, n9, s10, s11, n12, s13, n14, n15, ss, n17, n18, n19, n20, b21, n22, n23, s24⟩, n25, n26, n27, s28⟩, sa, cp), by simp [sac, canonV, e], k, l⟩
  exact ⟨xs, sa, cp, e, k, l, fun x hx => (q x hx).1, fun x hx => (q x hx).2⟩
end C36
