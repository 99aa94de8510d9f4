/- The nodes of a set, and the set of nodes. -/
import Derived.Test.YtbjehneffpbkeaaDoorKm
import Derived.Test.YtbjehneffpbkeaaDoorKl
import Derived.Test.YtbjehneffpbkeaaDoorLf
import Derived.KernelRfl
open Go Go.AM Go.Proofs
namespace C11
set_option maxHeartbeats 4000000 in
theorem count_ok (h : Heap) (s : Int) (hs : 0 ≤ s ∧ s ≤ 18446744073709551615) : WCall Tryd.prog 26 #[(Value.int .u64 (s))] h (fun v h1 => v = .int .i64 ((pop s.toNat : Nat) : Int) ∧ h = h1) := by
  obtain ⟨_, _, sn986, rfl, rfl⟩ := ones_ok h (s) (by omega)
  have := pop_le (s).toNat
  exact hCall_of (n := 200) (T := ⟨fun r i => match r, i with | 1, 1 => some ((vI (((pop (s).toNat : Nat) : Int))), h) | _, _ => none, fun _ => none, none⟩)
    (A := SoundCall Tryd.prog 32 #[(Value.int .u64 (s))] h (vI (((pop (s).toNat : Nat) : Int))) h ∧ (fun v h1 => v = .int .i64 ((pop s.toNat : Nat) : Int) ∧ h = h1) (vI (((pop (s).toNat : Nat) : Int))) h) (by kernel_rfl) ⟨sn986, ⟨rfl, rfl⟩⟩
def bkL (l : List Int) : Int := l.foldl (fun b k => uor b (ushl 1 k)) 0
def lastL (l : List Int) : Int := l.getLast?.getD (-1)
theorem bk_next {l : List Int} {i : Nat} {x : Int} (hx : l[i]? = some x) : bkL (l.take (i + 1)) = uor (bkL (l.take i)) (ushl 1 x) ∧ lastL (l.take (i + 1)) = x := by
  rw [List.take_add_one, hx]
  constructor
  · simp [bkL, List.foldl_append]
  · simp [lastL]
theorem nodesP_mem {s k : Nat} {x : Int} (h : x ∈ nodesP s k) : 0 ≤ x ∧ x < k := by
  unfold nodesP at h
  obtain ⟨i, hi, rfl⟩ := List.mem_map.1 h
  have := List.mem_range.1 (List.mem_filter.1 hi).1
  omega
theorem nodesP_pre : ∀ (s k i : Nat) (x : Int), (nodesP s k)[i]? = some x → (nodesP s k).take i = nodesP s x.toNat
  | s, 0, i, x, h => by simp [nodesP] at h
  | s, k + 1, i, x, h => by
    rw [nodesP_next] at h ⊢
    by_cases hi : i < (nodesP s k).length
    · rw [List.getElem?_append_left hi] at h
      rw [List.take_append_of_le_length (by omega)]
      exact nodesP_pre s k i x h
    · rw [List.getElem?_append_right (by omega)] at h
      split at h
      · have hl := (List.getElem?_eq_some_iff.1 h).1
        simp only [List.length_singleton] at hl
        have e : i = (nodesP s k).length := by omega
        subst e
        simp only [Nat.sub_self, List.getElem?_cons_zero, Option.some.injEq] at h
        subst h
        simp
      · simp at h
theorem nodes_inc {s x : Int} {i : Nat} (hx : (nodesI s)[i]? = some x) : lastL ((nodesI s).take i) < x ∧ 0 ≤ x ∧ x ≤ 63 := by
  have hm := nodesP_mem (List.mem_of_getElem? hx)
  refine ⟨?_, by omega, by omega⟩
  have hp := nodesP_pre _ _ _ _ hx
  show lastL ((nodesP s.toNat 64).take i) < x
  rw [hp, lastL]
  cases hg : (nodesP s.toNat x.toNat).getLast? with
  | none => simp only [Option.getD_none]; omega
  | some y =>
    have := nodesP_mem (List.mem_of_getLast? hg)
    simp only [Option.getD_some]; omega
theorem bk_nodes {s : Nat} (hs : s < 2 ^ 64) : ∀ k, k ≤ 64 → bkL (nodesP s k) = ((s % 2 ^ k : Nat) : Int)
  | 0, _ => by simp [nodesP, bkL, Nat.mod_one]
  | k + 1, hk => by
    have ih := bk_nodes hs k (by omega)
    rw [nodesP_next]
    have hlt : s % 2 ^ k < 2 ^ k := Nat.mod_lt _ (Nat.two_pow_pos k)
    have h64 : 2 ^ k ≤ 2 ^ 63 := Nat.pow_le_pow_right (by decide) (by omega)
    by_cases hb : s.testBit k = true
    · rw [if_pos hb]
      have e : bkL (nodesP s k ++ [(k : Int)]) = uor (bkL (nodesP s k)) (ushl 1 (k : Int)) := by simp [bkL, List.foldl_append]
      rw [e, ih, ushl_one (by omega) (by omega), Int.toNat_natCast, uor_nat2 (by omega) (by omega)]
      congr 1
      apply Nat.eq_of_testBit_eq
      intro j
      rw [Nat.testBit_or, Nat.testBit_mod_two_pow, Nat.testBit_mod_two_pow, Nat.testBit_two_pow]
      by_cases h1 : j < k
      · rw [decide_eq_true h1, decide_eq_true (show j < k + 1 by omega), decide_eq_false (show ¬ k = j by omega)]; simp
      · by_cases h2 : j = k
        · subst h2; rw [hb]; simp
        · rw [decide_eq_false h1, decide_eq_false (show ¬ j < k + 1 by omega), decide_eq_false (show ¬ k = j by omega)]; simp
    · rw [if_neg hb, List.append_nil, ih]
      congr 1
      apply Nat.eq_of_testBit_eq
      intro j
      rw [Nat.testBit_mod_two_pow, Nat.testBit_mod_two_pow]
      by_cases h1 : j < k
      · rw [decide_eq_true h1, decide_eq_true (show j < k + 1 by omega)]
      · by_cases h2 : j = k
        · subst h2; have : s.testBit j = false := by simpa using hb
          rw [this]; simp
        · rw [decide_eq_false h1, decide_eq_false (show ¬ j < k + 1 by omega)]
theorem bk_all {s : Int} (hs : 0 ≤ s ∧ s ≤ 18446744073709551615) : bkL (nodesI s) = s := by
  have h := bk_nodes (s := s.toNat) (by omega) 64 (Nat.le_refl _)
  show bkL (nodesP s.toNat 64) = s
  rw [h, Nat.mod_eq_of_lt (by omega)]
  omega
end C11
