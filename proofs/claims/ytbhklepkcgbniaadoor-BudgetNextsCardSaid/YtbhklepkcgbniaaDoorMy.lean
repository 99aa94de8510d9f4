/- Definitions that can be read, in the canonical heap. -/
import Derived.Test.YtbhklepkcgbniaaDoorKd
import Derived.Test.YtbhklepkcgbniaaDoorBmf
import Derived.KernelRfl
open Go Go.AM Go.Proofs
namespace C27
def I64 (x : Int) : Prop := -9223372036854775808 ≤ x ∧ x ≤ 9223372036854775807
theorem und1_2 : Tryd.prog.underlying 2 = some (.int .i64) := by kernel_rfl
theorem und1_3 : Tryd.prog.underlying 3 = some (.int .i64) := by kernel_rfl
theorem und1_9 : Tryd.prog.underlying 9 = some (.string) := by kernel_rfl
theorem und1_22 : Tryd.prog.underlying 22 = some (.slice 66) := by kernel_rfl
theorem open66 {H : Type} {enc : TypeId × Value → H} {W : World} {cs : List Value} (h : Reads enc Tryd.prog W 66 cs) : ∃ (s0 : ByteArray) (n1 : Int), cs = [.string s0, .int .i64 n1] ∧ s0.size ≤ maxLen ∧ (IntKind.min .i64 ≤ n1 ∧ n1 ≤ IntKind.max .i64) ∧ True := by
  have hl : cs.length = 2 := (reads_size (fs := (match Tryd.prog.underlying 66 with | some (.struct fs) => fs | _ => #[])) (by kernel_rfl) h).trans (by kernel_rfl)
  match cs, hl, h with
  | [c0, c1], _, h =>
    obtain ⟨w0, e0, r0⟩ := reads_at 12 (o := 0) (u := 9) h (by kernel_rfl)
    have q0 : c0 = w0 := by simpa using e0
    obtain ⟨s0, z0, l0⟩ := reads_string und1_9 r0
    simp only [List.cons.injEq, and_true] at z0; subst q0; subst z0
    obtain ⟨w1, e1, r1⟩ := reads_at 12 (o := 1) (u := 2) h (by kernel_rfl)
    have q1 : c1 = w1 := by simpa using e1
    obtain ⟨n1, z1, l1⟩ := reads_int und1_2 r1
    simp only [List.cons.injEq, and_true] at z1; subst q1; subst z1
    exact ⟨_, _, rfl, l0, l1, trivial⟩
theorem open24 {H : Type} {enc : TypeId × Value → H} {W : World} {cs : List Value} (h : Reads enc Tryd.prog W 24 cs) : ∃ (s0 : ByteArray) (n1 : Int) (n2 : Int) (v3 : Value), cs = [.string s0, .int .i64 n1, .int .i64 n2, v3] ∧ s0.size ≤ maxLen ∧ (IntKind.min .i64 ≤ n1 ∧ n1 ≤ IntKind.max .i64) ∧ (IntKind.min .i64 ≤ n2 ∧ n2 ≤ IntKind.max .i64) ∧ Reads enc Tryd.prog W 22 [v3] ∧ True := by
  have hl : cs.length = 4 := (reads_size (fs := (match Tryd.prog.underlying 24 with | some (.struct fs) => fs | _ => #[])) (by kernel_rfl) h).trans (by kernel_rfl)
  match cs, hl, h with
  | [c0, c1, c2, c3], _, h =>
    obtain ⟨w0, e0, r0⟩ := reads_at 12 (o := 0) (u := 9) h (by kernel_rfl)
    have q0 : c0 = w0 := by simpa using e0
    obtain ⟨s0, z0, l0⟩ := reads_string und1_9 r0
    simp only [List.cons.injEq, and_true] at z0; subst q0; subst z0
    obtain ⟨w1, e1, r1⟩ := reads_at 12 (o := 1) (u := 3) h (by kernel_rfl)
    have q1 : c1 = w1 := by simpa using e1
    obtain ⟨n1, z1, l1⟩ := reads_int und1_3 r1
    simp only [List.cons.injEq, and_true] at z1; subst q1; subst z1
    obtain ⟨w2, e2, r2⟩ := reads_at 12 (o := 2) (u := 3) h (by kernel_rfl)
    have q2 : c2 = w2 := by simpa using e2
    obtain ⟨n2, z2, l2⟩ := reads_int und1_3 r2
    simp only [List.cons.injEq, and_true] at z2; subst q2; subst z2
    obtain ⟨w3, e3, r3⟩ := reads_at 12 (o := 3) (u := 22) h (by kernel_rfl)
    have q3 : c3 = w3 := by simpa using e3
    subst q3
    exact ⟨_, _, _, _, rfl, l0, l1, l2, r3, trivial⟩
theorem open28 {H : Type} {enc : TypeId × Value → H} {W : World} {cs : List Value} (h : Reads enc Tryd.prog W 28 cs) : ∃ (n0 : Int) (n1 : Int), cs = [.int .i64 n0, .int .i64 n1] ∧ (IntKind.min .i64 ≤ n0 ∧ n0 ≤ IntKind.max .i64) ∧ (IntKind.min .i64 ≤ n1 ∧ n1 ≤ IntKind.max .i64) ∧ True := by
  have hl : cs.length = 2 := (reads_size (fs := (match Tryd.prog.underlying 28 with | some (.struct fs) => fs | _ => #[])) (by kernel_rfl) h).trans (by kernel_rfl)
  match cs, hl, h with
  | [c0, c1], _, h =>
    obtain ⟨w0, e0, r0⟩ := reads_at 12 (o := 0) (u := 3) h (by kernel_rfl)
    have q0 : c0 = w0 := by simpa using e0
    obtain ⟨n0, z0, l0⟩ := reads_int und1_3 r0
    simp only [List.cons.injEq, and_true] at z0; subst q0; subst z0
    obtain ⟨w1, e1, r1⟩ := reads_at 12 (o := 1) (u := 3) h (by kernel_rfl)
    have q1 : c1 = w1 := by simpa using e1
    obtain ⟨n1, z1, l1⟩ := reads_int und1_3 r1
    simp only [List.cons.injEq, and_true] at z1; subst q1; subst z1
    exact ⟨_, _, rfl, l0, l1, trivial⟩
theorem slack0 (W : World) (L : List Addr) (b : Nat) : slackElem (heap0 W L) b = none := by
  have key : ∀ o, (heap0 W L)[b]? = some o → isSlack (some o) = false := by
    intro o hb
    simp only [heap0] at hb
    rw [Array.getElem?_append] at hb
    split at hb
    · rw [Array.getElem?_map] at hb
      cases ho : W.heap[b]? with
      | none => rw [ho] at hb; cases hb
      | some o' =>
        rw [ho] at hb
        simp only [Option.map_some, Option.some.injEq] at hb
        subst hb
        cases o' with
        | cells c e fr => exact isSlack_canon _ _ _
        | _ => rfl
    · simp only [List.getElem?_toArray, List.getElem?_map] at hb
      simp only [Option.map_eq_some_iff] at hb
      obtain ⟨a, _, rfl⟩ := hb
      rfl
  unfold slackElem
  split
  · rename_i c e fr hb
    have := key _ hb
    simp only [isSlack, decide_eq_false_iff_not] at this
    rw [if_neg this]
  · rfl
theorem bridge_steps {H : Type} {enc : TypeId × Value → H} {W : World} {L : List Addr} {v : Value} (h : Reads enc Tryd.prog W 22 [v]) (hv : Listed L v) :
    ∃ (xs : List StepM) (sa : Option Addr) (cp : Nat), canonV W L v = .slice sa xs.length cp ∧ LAt (heap0 W L) stepc 2 xs (.slice sa xs.length cp) ∧ xs.length ≤ 9223372036854775807 ∧ ∀ x ∈ xs, x.key.size ≤ 9223372036854775807 := by
  obtain ⟨xs, sa, cp, e, k, l, q⟩ := bridge_slice (Q := fun x : StepM => x.key.size ≤ maxLen) und1_22 (by kernel_rfl) (by decide) stepc_size h hv fun cs hr _ => by
    obtain ⟨s0, n1, rfl, l0, l1, _⟩ := open66 hr
    exact ⟨⟨s0, n1⟩, by simp [stepc, canonV], l0⟩
  exact ⟨xs, sa, cp, e, ⟨k, fun b _ => slack0 W L b⟩, l, q⟩
end C27
