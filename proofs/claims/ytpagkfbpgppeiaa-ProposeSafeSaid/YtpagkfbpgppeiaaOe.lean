/- Rounds that can be read, in the canonical heap. -/
import Derived.Test.YtpagkfbpgppeiaaOc
import Derived.Test.YtpagkfbpgppeiaaMy
import Derived.KernelRfl
open Go Go.AM Go.Proofs
namespace C14
theorem und1_22 : Try.prog.underlying 22 = some (.slice 27) := by kernel_rfl
theorem arr_27 : Try.prog.underlying 27 = some (.array 3 5) := by kernel_rfl
theorem cells_27 : Try.prog.cellsOf 27 = 3 := by kernel_rfl
theorem cells_5 : Try.prog.cellsOf 5 = 1 := by kernel_rfl
theorem bridge_trip {H : Type} {enc : TypeId × Value → H} {W : World} {L : List Addr} {v : Value} (h : Reads enc Try.prog W 22 [v]) (hv : Listed L v) :
    ∃ (xs : List ArrM) (sa : Option Addr) (cp : Nat), canonV W L v = .slice sa xs.length cp ∧ SliceAt (heap0 W L) arrc 3 xs (.slice sa xs.length cp) ∧ xs.length ≤ 9223372036854775807 ∧ ∀ x ∈ xs, arrR x :=
  bridge_slice und1_22 (by kernel_rfl) (by decide) arrc_size h hv fun cs hr _ => by
    obtain ⟨hl, hi⟩ := reads_arr arr_27 hr
    rw [cells_27] at hl
    rw [cells_5] at hi
    match cs, hl, hi with
    | [c0, c1, c2], _, hi =>
      obtain ⟨n0, z0, l0⟩ := reads_int und1_5 (cs := [c0]) (by simpa using hi 0 (by decide))
      simp only [List.cons.injEq, and_true] at z0
      subst z0
      obtain ⟨n1, z1, l1⟩ := reads_int und1_5 (cs := [c1]) (by simpa using hi 1 (by decide))
      simp only [List.cons.injEq, and_true] at z1
      subst z1
      obtain ⟨n2, z2, l2⟩ := reads_int und1_5 (cs := [c2]) (by simpa using hi 2 (by decide))
      simp only [List.cons.injEq, and_true] at z2
      subst z2
      exact ⟨⟨n0, n1, n2⟩, by simp [arrc, canonV], by simpa [arrR, IntKind.min, IntKind.max, IntKind.signed, IntKind.bits] using And.intro l0 (And.intro l1 l2)⟩
end C14
