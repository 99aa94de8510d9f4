/- The law QuorumMeets, run. -/
import Derived.Test.YtbjehneffpbkeaaDoorKi
import Derived.KernelRfl
open Go Go.AM Go.Proofs
namespace C11
set_option maxHeartbeats 4000000 in
theorem quorum_meets (h : Heap) (hg : At h 0 tabRow) (a : Int) (ha : 0 ≤ a ∧ a ≤ 18446744073709551615) (b : Int) (hb : 0 ≤ b ∧ b ≤ 18446744073709551615) (n : Int) (_ : -9223372036854775808 ≤ n ∧ n ≤ 9223372036854775807) : WCall Tryd.prog 4 #[(Value.int .u64 (a)), (Value.int .u64 (b)), (vI (n))] h (fun v h1 => v = .bool true ∧ Ext h h1) := by
  obtain ⟨_, hh563, sn564, rfl, x565⟩ := meet_ok h (hg.keep fun b r _ q => (Ext.refl h) b r q) (a) (by omega) (b) (by omega) (n)
  have x566 := (Ext.refl h).trans x565
  obtain ⟨_, hh567, sn568, rfl, x569⟩ := rmeet_ok hh563 (a) (by omega) (b) (by omega) (n)
  have x570 := x566.trans x569
  obtain ⟨_, _, sn572, rfl, rfl⟩ := works_ok hh567 (hg.keep fun b r _ q => x570 b r q)
  exact hCall_of (n := 200) (T := ⟨fun r i => match r, i with | 1, 3 => some ((Value.tuple #[(vI (meV (a) (b) (n))), (vB (meB (a) (b) (n))), (vI (chk2 (n) (a) (b)))]), hh563) | 2, 3 => some ((Value.tuple #[(vI (meV (a) (b) (n))), (vB (meB (a) (b) (n))), (vI (chk2 (n) (a) (b)))]), hh567) | 3, 2 => some ((vB true), hh567) | 3, 6 => some ((vB true), hh567) | 3, 11 => some ((vB true), hh567) | 3, 14 => some ((vB true), hh567) | _, _ => none, fun _ => none, none⟩)
    (A := SoundCall Tryd.prog 19 #[(Value.int .u64 (a)), (Value.int .u64 (b)), (vI (n))] h (Value.tuple #[(vI (meV (a) (b) (n))), (vB (meB (a) (b) (n))), (vI (chk2 (n) (a) (b)))]) hh563 ∧ SoundCall Tryd.prog 20 #[(Value.int .u64 (a)), (Value.int .u64 (b)), (vI (n))] hh563 (Value.tuple #[(vI (meV (a) (b) (n))), (vB (meB (a) (b) (n))), (vI (chk2 (n) (a) (b)))]) hh567 ∧ (binA Tryd.prog .eql 3 (vI (meV (a) (b) (n))) (vI (meV (a) (b) (n))) = some (vB true) ∧ hh567 = hh567) ∧ (binA Tryd.prog .eql 4 (vB (meB (a) (b) (n))) (vB (meB (a) (b) (n))) = some (vB true) ∧ hh567 = hh567) ∧ (binA Tryd.prog .eql 23 (vI (chk2 (n) (a) (b))) (vI (chk2 (n) (a) (b))) = some (vB true) ∧ hh567 = hh567) ∧ SoundCall Tryd.prog 18 #[] hh567 (vB true) hh567 ∧ (fun v h1 => v = .bool true ∧ Ext h h1) (vB true) hh567) (by kernel_rfl) ⟨sn564, sn568, ⟨cmp_eql (decide_eq_true rfl), rfl⟩, ⟨sameb_eql _, rfl⟩, ⟨cmp_eql (decide_eq_true rfl), rfl⟩, sn572, ⟨rfl, x570⟩⟩
end C11
