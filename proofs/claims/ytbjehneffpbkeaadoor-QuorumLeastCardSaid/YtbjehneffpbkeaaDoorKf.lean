/- Groups by small numbers. -/
import Derived.Test.YtbjehneffpbkeaaDoorKe
import Derived.KernelRfl
open Go Go.AM Go.Proofs
namespace C11
def gN (a : Int) : Int := 1 + Int.tmod a 7
def gX (a b : Int) : Int := uand b (usub (ushl 1 (gN a)) 1)
theorem group_bound {a b : Int} (ha : 0 ≤ a ∧ a ≤ 255) (hb : 0 ≤ b ∧ b ≤ 255) : (1 ≤ gN a ∧ gN a ≤ 7) ∧ (0 ≤ gX a b ∧ gX a b < ((2 ^ (gN a).toNat : Nat) : Int) ∧ gX a b < 128) := by
  have h1 : 0 ≤ Int.tmod a 7 := Int.tmod_nonneg _ (by omega)
  have h2 : Int.tmod a 7 < 7 := Int.tmod_lt_of_pos _ (by omega)
  have hn : 1 ≤ gN a ∧ gN a ≤ 7 := by unfold gN; omega
  refine ⟨hn, ?_⟩
  have hp : 2 ^ (gN a).toNat ≤ 2 ^ 7 := Nat.pow_le_pow_right (by decide) (by omega)
  have hq := Nat.two_pow_pos (gN a).toNat
  unfold gX
  have e : usub (ushl 1 (gN a)) 1 = ((2 ^ (gN a).toNat - 1 : Nat) : Int) := by
    rw [ushl_one (by omega) (by omega)]
    simp only [usub, IntKind.wrap_u64]
    omega
  rw [e, show b = ((b.toNat : Nat) : Int) by omega, uand_nat (by omega) (by omega)]
  have := Nat.and_le_right (n := b.toNat) (m := 2 ^ (gN a).toNat - 1)
  omega
set_option maxHeartbeats 4000000 in
theorem group_ok (h : Heap) (a : Int) (ha : 0 ≤ a ∧ a ≤ 255) (b : Int) (hb : 0 ≤ b ∧ b ≤ 255) : WCall Tryd.prog 31 #[(Value.int .u8 (a)), (Value.int .u8 (b))] h (fun v h1 => v = .tuple #[.int .i64 (gN a), .int .u64 (gX a b)] ∧ Ext h h1) := by
  have t235 : 0 ≤ Int.tmod (a) 7 ∧ Int.tmod (a) 7 < 7 := ⟨Int.tmod_nonneg _ (by omega), Int.tmod_lt_of_pos _ (by omega)⟩
  exact hCall_of (n := 200) (T := ⟨fun r i => match r, i with | 1, 1 => some ((vI (a)), h) | 1, 2 => some ((vI (Int.tmod (a) 7)), h) | 1, 3 => some ((vI (1 + (Int.tmod (a) 7))), h) | 2, 2 => some ((Value.int .u64 (b)), h) | 2, 4 => some ((Value.int .u64 (ushl 1 (1 + (Int.tmod (a) 7)))), h) | 2, 5 => some ((Value.int .u64 (usub (ushl 1 (1 + (Int.tmod (a) 7))) 1)), h) | 2, 6 => some ((Value.int .u64 (uand (b) (usub (ushl 1 (1 + (Int.tmod (a) 7))) 1))), h) | _, _ => none, fun _ => none, none⟩)
    (A := ((vI (a)) = (vI (IntKind.i64.wrap (a))) ∧ h = h) ∧ (binA Tryd.prog .rem 3 (vI (a)) (vI 7) = some (vI (Int.tmod (a) 7)) ∧ h = h) ∧ (binA Tryd.prog .add 3 (vI 1) (vI (Int.tmod (a) 7)) = some (vI (1 + (Int.tmod (a) 7))) ∧ h = h) ∧ ((Value.int .u64 (b)) = (Value.int .u64 (IntKind.u64.wrap (b))) ∧ h = h) ∧ (binA Tryd.prog .shl 22 (Value.int .u64 1) (vI (1 + (Int.tmod (a) 7))) = some (Value.int .u64 (ushl 1 (1 + (Int.tmod (a) 7)))) ∧ h = h) ∧ (binA Tryd.prog .sub 22 (Value.int .u64 (ushl 1 (1 + (Int.tmod (a) 7)))) (Value.int .u64 1) = some (Value.int .u64 (usub (ushl 1 (1 + (Int.tmod (a) 7))) 1)) ∧ h = h) ∧ (binA Tryd.prog .and 22 (Value.int .u64 (b)) (Value.int .u64 (usub (ushl 1 (1 + (Int.tmod (a) 7))) 1)) = some (Value.int .u64 (uand (b) (usub (ushl 1 (1 + (Int.tmod (a) 7))) 1))) ∧ h = h) ∧ (fun v h1 => v = .tuple #[.int .i64 (gN a), .int .u64 (gX a b)] ∧ Ext h h1) (Value.tuple #[(vI (1 + (Int.tmod (a) 7))), (Value.int .u64 (uand (b) (usub (ushl 1 (1 + (Int.tmod (a) 7))) 1)))]) h) (by kernel_rfl) ⟨⟨by congr 1; rw [IntKind.wrap_i64]; omega, rfl⟩, ⟨rem_int (by omega), rfl⟩, ⟨add_i64 (by omega) (by omega), rfl⟩, ⟨by congr 1; rw [IntKind.wrap_u64]; omega, rfl⟩, ⟨shl_raw (by omega), rfl⟩, ⟨sub_raw, rfl⟩, ⟨and_raw, rfl⟩, ⟨rfl, (Ext.refl h)⟩⟩
set_option maxHeartbeats 4000000 in
theorem count_small (h : Heap) (s : Int) (hs : 0 ≤ s ∧ s < 128) : WCall Tryd.prog 26 #[(Value.int .u64 (s))] h (fun v h1 => v = .int .i64 ((pop s.toNat : Nat) : Int) ∧ h = h1) := by
  obtain ⟨_, _, sn237, rfl, rfl⟩ := ones_small h (s) (by omega)
  exact hCall_of (n := 200) (T := ⟨fun r i => match r, i with | 1, 1 => some ((vI (((pop (s).toNat : Nat) : Int))), h) | _, _ => none, fun _ => none, none⟩)
    (A := SoundCall Tryd.prog 32 #[(Value.int .u64 (s))] h (vI (((pop (s).toNat : Nat) : Int))) h ∧ (fun v h1 => v = .int .i64 ((pop s.toNat : Nat) : Int) ∧ h = h1) (vI (((pop (s).toNat : Nat) : Int))) h) (by kernel_rfl) ⟨sn237, ⟨rfl, rfl⟩⟩
end C11
