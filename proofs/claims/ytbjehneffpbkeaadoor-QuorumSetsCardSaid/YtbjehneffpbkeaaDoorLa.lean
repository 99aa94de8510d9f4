/- The law QuorumSets, run. -/
import Derived.Test.YtbjehneffpbkeaaDoorKe
import Derived.KernelRfl
open Go Go.AM Go.Proofs
namespace C11
set_option maxHeartbeats 4000000 in
theorem quorum_sets (h : Heap) (hg : At h 0 tabRow) (s : Int) (hs : 0 ≤ s ∧ s ≤ 18446744073709551615) (k : Int) (_ : -9223372036854775808 ≤ k ∧ k ≤ 9223372036854775807) (n : Int) (_ : -9223372036854775808 ≤ n ∧ n ≤ 9223372036854775807) : WCall Tryd.prog 3 #[(Value.int .u64 (s)), (vI (k)), (vI (n))] h (fun v h1 => v = .bool true ∧ Ext h h1) := by
  obtain ⟨_, hh208, sn209, rfl, x210⟩ := is_ok h (s) (by omega) (n)
  have x211 := (Ext.refl h).trans x210
  obtain ⟨_, hh212, sn213, rfl, x214⟩ := ris_ok hh208 (s) (by omega) (n)
  have x215 := x211.trans x214
  obtain ⟨_, hh216, sn217, rfl, x218⟩ := survives_ok hh212 (s) (by omega) (n)
  have x219 := x215.trans x218
  obtain ⟨_, hh220, sn221, rfl, x222⟩ := rsurvives_ok hh216 (s) (by omega) (n)
  have x223 := x219.trans x222
  obtain ⟨_, hh224, sn225, rfl, x226⟩ := with_ok hh220 (s) (by omega) (k) (n)
  have x227 := x223.trans x226
  obtain ⟨_, hh228, sn229, rfl, x230⟩ := rwith_ok hh224 (s) (by omega) (k) (n)
  have x231 := x227.trans x230
  obtain ⟨_, _, sn233, rfl, rfl⟩ := works_ok hh228 (hg.keep fun b r _ q => x231 b r q)
  exact hCall_of (n := 200) (T := ⟨fun r i => match r, i with | 1, 2 => some ((Value.tuple #[(vB (isB (s) (n))), (vI (chk1 (n) (s)))]), hh208) | 2, 2 => some ((Value.tuple #[(vB (isB (s) (n))), (vI (chk1 (n) (s)))]), hh212) | 3, 2 => some ((Value.tuple #[(vB (surB (s) (n))), (vI (surE (s) (n)))]), hh216) | 4, 2 => some ((Value.tuple #[(vB (surB (s) (n))), (vI (surE (s) (n)))]), hh220) | 5, 3 => some ((Value.tuple #[(Value.int .u64 (wiV (s) (k) (n))), (vI (wiE (s) (k) (n)))]), hh224) | 6, 3 => some ((Value.tuple #[(Value.int .u64 (wiV (s) (k) (n))), (vI (wiE (s) (k) (n)))]), hh228) | 7, 2 => some ((vB true), hh228) | 7, 6 => some ((vB true), hh228) | 7, 11 => some ((vB true), hh228) | 7, 16 => some ((vB true), hh228) | 7, 21 => some ((vB true), hh228) | 7, 26 => some ((vB true), hh228) | 7, 29 => some ((vB true), hh228) | _, _ => none, fun _ => none, none⟩)
    (A := SoundCall Tryd.prog 12 #[(Value.int .u64 (s)), (vI (n))] h (Value.tuple #[(vB (isB (s) (n))), (vI (chk1 (n) (s)))]) hh208 ∧ SoundCall Tryd.prog 13 #[(Value.int .u64 (s)), (vI (n))] hh208 (Value.tuple #[(vB (isB (s) (n))), (vI (chk1 (n) (s)))]) hh212 ∧ SoundCall Tryd.prog 14 #[(Value.int .u64 (s)), (vI (n))] hh212 (Value.tuple #[(vB (surB (s) (n))), (vI (surE (s) (n)))]) hh216 ∧ SoundCall Tryd.prog 15 #[(Value.int .u64 (s)), (vI (n))] hh216 (Value.tuple #[(vB (surB (s) (n))), (vI (surE (s) (n)))]) hh220 ∧ SoundCall Tryd.prog 16 #[(Value.int .u64 (s)), (vI (k)), (vI (n))] hh220 (Value.tuple #[(Value.int .u64 (wiV (s) (k) (n))), (vI (wiE (s) (k) (n)))]) hh224 ∧ SoundCall Tryd.prog 17 #[(Value.int .u64 (s)), (vI (k)), (vI (n))] hh224 (Value.tuple #[(Value.int .u64 (wiV (s) (k) (n))), (vI (wiE (s) (k) (n)))]) hh228 ∧ (binA Tryd.prog .eql 4 (vB (isB (s) (n))) (vB (isB (s) (n))) = some (vB true) ∧ hh228 = hh228) ∧ (binA Tryd.prog .eql 23 (vI (chk1 (n) (s))) (vI (chk1 (n) (s))) = some (vB true) ∧ hh228 = hh228) ∧ (binA Tryd.prog .eql 4 (vB (surB (s) (n))) (vB (surB (s) (n))) = some (vB true) ∧ hh228 = hh228) ∧ (binA Tryd.prog .eql 23 (vI (surE (s) (n))) (vI (surE (s) (n))) = some (vB true) ∧ hh228 = hh228) ∧ (binA Tryd.prog .eql 22 (Value.int .u64 (wiV (s) (k) (n))) (Value.int .u64 (wiV (s) (k) (n))) = some (vB true) ∧ hh228 = hh228) ∧ (binA Tryd.prog .eql 23 (vI (wiE (s) (k) (n))) (vI (wiE (s) (k) (n))) = some (vB true) ∧ hh228 = hh228) ∧ SoundCall Tryd.prog 18 #[] hh228 (vB true) hh228 ∧ (fun v h1 => v = .bool true ∧ Ext h h1) (vB true) hh228) (by kernel_rfl) ⟨sn209, sn213, sn217, sn221, sn225, sn229, ⟨sameb_eql _, rfl⟩, ⟨cmp_eql (decide_eq_true rfl), rfl⟩, ⟨sameb_eql _, rfl⟩, ⟨cmp_eql (decide_eq_true rfl), rfl⟩, ⟨cmp_eql (decide_eq_true rfl), rfl⟩, ⟨cmp_eql (decide_eq_true rfl), rfl⟩, sn233, ⟨rfl, x231⟩⟩
end C11
