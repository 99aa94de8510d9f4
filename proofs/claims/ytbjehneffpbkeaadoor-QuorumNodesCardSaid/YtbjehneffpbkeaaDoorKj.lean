/- The nodes of a set, one by one. -/
import Derived.Test.YtbjehneffpbkeaaDoorKi
import Derived.KernelRfl
open Go Go.AM Go.Proofs
namespace C11
theorem filter_head (P Q : Nat → Bool) (k r : Nat) (hk : P k = true) (hlt : ∀ i, i < k → P i = false) (hq : ∀ i, Q i = (P i && decide (i ≠ k))) : (List.range (k + 1 + r)).filter P = k :: (List.range (k + 1 + r)).filter Q := by
  have h1 : (List.range k).filter P = [] := List.filter_eq_nil_iff.2 fun i hi => by rw [hlt i (List.mem_range.1 hi)]; decide
  have h2 : (List.range k).filter Q = [] := List.filter_eq_nil_iff.2 fun i hi => by rw [hq, hlt i (List.mem_range.1 hi)]; simp
  have h3 : ((List.range r).map fun i => k + 1 + i).filter Q = ((List.range r).map fun i => k + 1 + i).filter P := by
    refine List.filter_congr fun i hi => ?_
    obtain ⟨j, _, rfl⟩ := List.mem_map.1 hi
    rw [hq, decide_eq_true (by omega), Bool.and_true]
  have h4 : Q k = false := by rw [hq]; simp
  rw [List.range_add, List.range_succ, List.filter_append, List.filter_append, List.filter_append, List.filter_append, h1, h2, h3]
  simp [List.filter_cons, hk, h4]
theorem low_bits {s : Nat} (h0 : s ≠ 0) (h : s < 2 ^ 64) (i : Nat) : (s &&& (s - 1)).testBit i = (s.testBit i && decide (i ≠ Lib.ctz 64 s)) ∧ (i < Lib.ctz 64 s → s.testBit i = false) ∧ s.testBit (Lib.ctz 64 s) = true := by
  obtain ⟨m, hm, hk⟩ := Lib.ctzFrom_spec 64 s (by omega) h
  have e : Lib.ctz 64 s = Lib.ctzFrom 64 s := by simp [Lib.ctz, h0]
  rw [← e] at hm hk
  obtain ⟨k, hk'⟩ : ∃ k, k = Lib.ctz 64 s := ⟨_, rfl⟩
  rw [← hk'] at hm hk ⊢
  have hp := Nat.two_pow_pos k
  have e1 : s = 2 ^ k * (2 * m + 1) + 0 := by omega
  have e2 : s - 1 = 2 ^ k * (2 * m) + (2 ^ k - 1) := by
    have : 2 ^ k * (2 * m + 1) = 2 ^ k * (2 * m) + 2 ^ k := by rw [Nat.mul_add, Nat.mul_one]
    omega
  have t1 : ∀ j, s.testBit j = if j < k then false else (2 * m + 1).testBit (j - k) := fun j => by
    rw [e1, Nat.testBit_two_pow_mul_add _ hp]; simp
  have t2 : ∀ j, (s - 1).testBit j = if j < k then (2 ^ k - 1).testBit j else (2 * m).testBit (j - k) := fun j => by
    rw [e2, Nat.testBit_two_pow_mul_add _ (by omega)]
  refine ⟨?_, fun hi => by rw [t1, if_pos hi], by rw [t1, if_neg (by omega), Nat.sub_self]; simp⟩
  rw [Nat.testBit_and, t1, t2]
  by_cases hi : i < k
  · rw [if_pos hi]; simp
  · rw [if_neg hi, if_neg hi]
    obtain ⟨j, hj⟩ : ∃ j, j = i - k := ⟨_, rfl⟩
    rw [← hj]
    cases j with
    | zero => rw [decide_eq_false (by omega)]; simp
    | succ j =>
      rw [decide_eq_true (by omega), Nat.testBit_succ, Nat.testBit_succ]
      rw [show (2 * m + 1) / 2 = m by omega, show 2 * m / 2 = m by omega]
      simp
theorem nodes_step {s : Int} (hs : 0 < s ∧ s ≤ 18446744073709551615) : nodesI s = tz s :: nodesI (uand s (usub s 1)) ∧ 0 ≤ uand s (usub s 1) ∧ uand s (usub s 1) ≤ 18446744073709551615 := by
  obtain ⟨x, rfl⟩ : ∃ x : Nat, s = (x : Int) := ⟨s.toNat, by omega⟩
  have e : usub (x : Int) 1 = ((x - 1 : Nat) : Int) := by simp only [usub, IntKind.wrap_u64]; omega
  have e2 : uand (x : Int) (usub (x : Int) 1) = ((x &&& (x - 1) : Nat) : Int) := by rw [e, uand_nat (by omega) (by omega)]
  refine ⟨?_, uand_range _ _⟩
  rw [e2]
  have hx : x < 2 ^ 64 := by omega
  have hk := (Lib.lowest_bit 64 x (by omega) hx).2
  have hb := low_bits (s := x) (by omega) hx
  unfold nodesI nodesP tz
  simp only [Int.toNat_natCast]
  have hf := filter_head x.testBit (x &&& (x - 1)).testBit (Lib.ctz 64 x) (63 - Lib.ctz 64 x) (hb 0).2.2 (fun i hi => (hb i).2.1 hi) (fun i => (hb i).1)
  rw [show Lib.ctz 64 x + 1 + (63 - Lib.ctz 64 x) = 64 by omega] at hf
  rw [hf, List.map_cons]
theorem nodes_zero : nodesI 0 = [] := by decide +kernel
end C11
