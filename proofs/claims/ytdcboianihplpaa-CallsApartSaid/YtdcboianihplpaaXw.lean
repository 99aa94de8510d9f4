/- The examples of the chapter hold. -/
import Derived.Test.YtdcboianihplpaaProg
import Derived.Test.YtdcboianihplpaaBme
import Derived.KernelRfl
open Go Go.AM Go.Proofs
namespace C36
def isTrue : Option (Value × Heap) → Bool
  | some (.bool true, _) => true
  | _ => false
theorem isTrue_some {o : Option (Value × Heap)} (h : isTrue o = true) : ∃ h1, o = some (.bool true, h1) := by
  unfold isTrue at h
  split at h
  · exact ⟨_, rfl⟩
  · cases h
theorem works_true : isTrue (callWith Try.prog (evalCode Try.prog 400) 12 #[] #[]) = true := by kernel_rfl
/-- The examples hold, in any memory. -/
theorem works_ok (h : Heap) : WCall Try.prog 12 #[] h (fun v h1 => v = .bool true ∧ h = h1) := by
  obtain ⟨h1, e⟩ := isTrue_some works_true
  exact ⟨_, _, closed_call (evalCall_sound (by kernel_rfl) 400 _ _ _ _ _ e) (by simp) rfl h, rfl, rfl⟩
end C36
