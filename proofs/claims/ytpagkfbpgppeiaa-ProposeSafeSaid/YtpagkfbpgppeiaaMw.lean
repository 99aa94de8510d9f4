/- The examples of the chapter hold; what is not a proposer. -/
import Derived.Test.YtpagkfbpgppeiaaMa
import Derived.KernelRfl
open Go Go.AM Go.Proofs
namespace C14
def isTrue : Option (Value × Heap) → Bool
  | some (.bool true, _) => true
  | _ => false
theorem isTrue_some {o : Option (Value × Heap)} (h : isTrue o = true) : ∃ h1, o = some (.bool true, h1) := by
  unfold isTrue at h
  split at h
  · exact ⟨_, rfl⟩
  · cases h
theorem works_true : isTrue (callWith Try.prog (evalCode Try.prog 400) 10 #[] #[]) = true := by kernel_rfl
/-- The examples hold, in any memory. -/
theorem works_ok (h : Heap) : WCall Try.prog 10 #[] h (fun v h1 => v = .bool true ∧ h = h1) := by
  obtain ⟨h1, e⟩ := isTrue_some works_true
  exact ⟨_, _, closed_call (evalCall_sound (by kernel_rfl) 400 _ _ _ _ _ e) (by simp) rfl h, rfl, rfl⟩
theorem nil_true (a b : Int) : isTrue (callWith Try.prog (evalCode Try.prog 400) 9 #[.int .i64 a, .int .i64 b] #[]) = true := by kernel_rfl
/-- What is not a proposer answers as the document says. -/
theorem law_nil (h : Heap) (a : Int) (_ : -9223372036854775808 ≤ a ∧ a ≤ 9223372036854775807) (b : Int) (_ : -9223372036854775808 ≤ b ∧ b ≤ 9223372036854775807) : WCall Try.prog 9 #[.int .i64 a, .int .i64 b] h (fun v h1 => v = .bool true ∧ Ext h h1) := by
  obtain ⟨h1, e⟩ := isTrue_some (nil_true a b)
  exact ⟨_, _, closed_call (evalCall_sound (by kernel_rfl) 400 _ _ _ _ _ e) (by intro x hx; simp only [List.mem_toArray, List.mem_cons, List.not_mem_nil, or_false, or_self] at hx; rcases hx with rfl | rfl <;> kernel_rfl) rfl h, rfl, Ext.refl h⟩
end C14
