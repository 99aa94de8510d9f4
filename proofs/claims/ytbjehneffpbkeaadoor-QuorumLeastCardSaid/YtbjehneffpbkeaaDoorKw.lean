/- The examples of the chapter hold. -/
import Derived.Test.YtbjehneffpbkeaaDoorKa
import Derived.KernelRfl
open Go Go.AM Go.Proofs
namespace C11
def firstRow : Option (Value × Heap) → Option Obj
  | some (.bool true, h1) => h1[0]?
  | _ => none
theorem firstRow_some {g : Obj} {o : Option (Value × Heap)} (h : firstRow o = some g) : ∃ h1, o = some (.bool true, h1) ∧ h1[0]? = some g := by
  unfold firstRow at h
  split at h
  · exact ⟨_, rfl, h⟩
  · cases h
theorem works_true : firstRow (callWith Tryd.prog (evalCode Tryd.prog 400) 18 #[] #[tabRow]) = some tabRow := by kernel_rfl
theorem tab_plain : ∀ c ∈ (tabL.map fun z => Value.int .u8 z).toArray, flatC c = true := by
  intro c hc
  simp only [List.mem_toArray, List.mem_map] at hc
  obtain ⟨z, _, rfl⟩ := hc; rfl
/-- The examples hold, in any memory that holds the table. -/
theorem works_ok (h : Heap) (hg : h[0]? = some tabRow) : WCall Tryd.prog 18 #[] h (fun v h1 => v = .bool true ∧ h = h1) := by
  obtain ⟨h1, e, e1⟩ := firstRow_some works_true
  exact ⟨_, _, closed_at (evalCall_sound (by kernel_rfl) 400 _ _ _ _ _ e) (by simp) rfl h (fun g hg' => by
    have : g = 0 := by simpa [globList] using hg'
    subst this
    exact ⟨_, _, rfl, e1, hg, tab_plain⟩), rfl, rfl⟩
end C11
