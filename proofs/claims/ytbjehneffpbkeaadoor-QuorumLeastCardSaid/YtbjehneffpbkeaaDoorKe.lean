/- Sameness. -/
import Derived.Test.YtbjehneffpbkeaaDoorKd
import Derived.Test.YtbjehneffpbkeaaDoorKw
import Derived.KernelRfl
open Go Go.AM Go.Proofs
namespace C11
theorem sameb_neq (b : Bool) : binA Tryd.prog .neq 4 (.bool b) (.bool b) = some (.bool false) := by cases b <;> kernel_rfl
theorem sameb_eql (b : Bool) : binA Tryd.prog .eql 4 (.bool b) (.bool b) = some (.bool true) := by cases b <;> kernel_rfl
end C11
