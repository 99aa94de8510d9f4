/- What follows from a result, in plain facts. -/
import Derived.Test.YtonjnghiehdmmaaDoorMl
import Derived.KernelRfl
open Go Go.AM Go.Proofs
namespace C28
theorem resE_is {s : SagaM} {e1 e2 e3 res now : Int} (h : chkS s = 0) (h1 : 0 ≤ res ∧ res ≤ 18) (h2 : 0 ≤ now ∧ now ≤ 2147483648) (h3 : s.st < 4) (h4 : e1 = 0 ∧ e2 = s.ix ∧ e3 = phS s.st) : resE s e1 e2 e3 res now = 0 := by
  unfold resE; rw [if_pos h, if_pos ⟨h1, h2⟩, if_pos h3, if_pos h4]
theorem endV_open {s : SagaM} (h : chkS s = 0) (h4 : s.st < 4) : endV s = (false, 0) := by unfold endV; rw [if_pos h, if_pos h4]
theorem endV_done {s : SagaM} (h : chkS s = 0) (h4 : ¬ s.st < 4) : endV s = (true, 0) := by unfold endV; rw [if_pos h, if_neg h4]
theorem endV_bad {s : SagaM} (h : ¬ chkS s = 0) : endV s = (false, chkS s) := by unfold endV; rw [if_neg h]
theorem cnI_01 (b : Bool) : (b = true → cnI b = 1) ∧ (b = false → cnI b = 0) ∧ (cnI b = 0 ∨ cnI b = 1) := by cases b <;> simp [cnI]
theorem chk_facts {s : SagaM} (hz : chkS s = 0) : 1 ≤ s.d.xs.length ∧ s.d.xs.length ≤ 8 ∧ 1 ≤ s.st ∧ s.st ≤ 5 ∧ 0 ≤ s.ix ∧ (s.st < 4 → s.ix ≤ (s.d.xs.length : Nat) - 1) ∧ (4 ≤ s.st → s.ix = 0) ∧ ¬ (cnI s.cn = 1 ∧ (s.st = 2 ∨ s.st = 4)) ∧ ((s.st = 3 ∨ s.st = 5) → 1 ≤ s.er ∧ s.er ≤ 18) ∧ (¬ (s.st = 3 ∨ s.st = 5) → s.er = 0) := by
  obtain ⟨zd, zb, zo⟩ := chkS_zero hz
  have hd := defB_of zd
  have ho := okI_of zo
  exact ⟨by omega, by omega, by omega, by omega, by omega, by omega, by omega, ho.2.2.2.2.1, ho.2.2.2.2.2.1, ho.2.2.2.2.2.2⟩
set_option maxHeartbeats 4000000 in
theorem nxt_how {s : SagaM} {res now : Int} (hz : chkS s = 0) (hr : 0 ≤ res ∧ res ≤ 18) (h4 : s.st < 4) : (nxtS s res now).cn = s.cn ∧ (
    (s.st = 1 ∧ res = 0 ∧ cnI s.cn = 0 ∧ s.ix < (s.d.xs.length : Nat) - 1 ∧ (nxtS s res now).st = 1 ∧ (nxtS s res now).ix = s.ix + 1) ∨
    (s.st = 1 ∧ res = 0 ∧ cnI s.cn = 0 ∧ s.ix = (s.d.xs.length : Nat) - 1 ∧ (nxtS s res now).st = 2 ∧ (nxtS s res now).ix = 0) ∨
    (s.st = 1 ∧ (res = 0 ∨ 16 ≤ res) ∧ (nxtS s res now).st = 3 ∧ (nxtS s res now).ix = s.ix) ∨
    (s.st = 1 ∧ 16 ≤ res ∧ cnI s.cn = 0 ∧ (nxtS s res now).st = 1 ∧ (nxtS s res now).ix = s.ix) ∨
    (s.st = 1 ∧ 1 ≤ res ∧ res ≤ 15 ∧ s.ix = 0 ∧ (nxtS s res now).st = 5 ∧ (nxtS s res now).ix = 0 ∧ (nxtS s res now).er = res) ∨
    (s.st = 1 ∧ 1 ≤ res ∧ res ≤ 15 ∧ 0 < s.ix ∧ (nxtS s res now).st = 3 ∧ (nxtS s res now).ix = s.ix - 1 ∧ (nxtS s res now).er = res) ∨
    (s.st = 2 ∧ res = 0 ∧ s.ix < (s.d.xs.length : Nat) - 1 ∧ (nxtS s res now).st = 2 ∧ (nxtS s res now).ix = s.ix + 1) ∨
    (s.st = 2 ∧ res = 0 ∧ s.ix = (s.d.xs.length : Nat) - 1 ∧ (nxtS s res now).st = 4 ∧ (nxtS s res now).ix = 0) ∨
    (s.st = 2 ∧ ¬ res = 0 ∧ (nxtS s res now).st = 2 ∧ (nxtS s res now).ix = s.ix) ∨
    (s.st = 3 ∧ res = 0 ∧ 0 < s.ix ∧ (nxtS s res now).st = 3 ∧ (nxtS s res now).ix = s.ix - 1 ∧ (nxtS s res now).er = s.er) ∨
    (s.st = 3 ∧ res = 0 ∧ s.ix = 0 ∧ (nxtS s res now).st = 5 ∧ (nxtS s res now).ix = 0 ∧ (nxtS s res now).er = s.er) ∨
    (s.st = 3 ∧ ¬ res = 0 ∧ (nxtS s res now).st = 3 ∧ (nxtS s res now).ix = s.ix ∧ (nxtS s res now).er = s.er)) := by
  have hf := chk_facts hz
  have hc := cnI_01 s.cn
  rcases (show s.st = 1 ∨ s.st = 2 ∨ s.st = 3 by omega) with e | e | e
  · rw [nxtS_1 e]; unfold fwdS
    rw [amE_eq]
    refine ⟨rfl, ?_⟩
    have hc1 : s.cn = true → cnI s.cn = 1 := hc.1
    have hc2 : ¬ s.cn = true → cnI s.cn = 0 := fun w => hc.2.1 (Bool.eq_false_iff.2 w)
    have hc3 := hc.2.2
    clear hc
    by_cases ha : decide (res = 16 ∨ res = 17 ∨ res = 18) = true
    · have ha' : 16 ≤ res ∧ res ≤ 18 := by have := of_decide_eq_true ha; omega
      simp only [if_pos ha, if_neg (show ¬ res = 0 by omega)]
      repeat' split
      all_goals first
        | exact .inr (.inr (.inl ⟨e, .inr ha'.1, (by first | rfl | trivial), (by first | rfl | trivial)⟩))
        | exact .inr (.inr (.inr (.inl ⟨e, ha'.1, hc2 (by assumption), e, (by first | rfl | trivial)⟩)))
    · have ha' : ¬ (16 ≤ res ∧ res ≤ 18) := fun w => ha (decide_eq_true (by omega))
      simp only [if_neg ha]
      by_cases h0 : res = 0
      · simp only [if_pos h0]
        by_cases hcn : s.cn = true
        · simp only [if_pos hcn]; exact .inr (.inr (.inl ⟨e, .inl h0, (by first | rfl | trivial), (by first | rfl | trivial)⟩))
        · simp only [if_neg hcn]
          have := hc2 hcn
          split
          · exact .inr (.inr (.inl ⟨e, .inl h0, (by first | rfl | trivial), (by first | rfl | trivial)⟩))
          · split
            · exact .inl ⟨e, h0, this, by assumption, (by first | rfl | trivial), (by first | rfl | trivial)⟩
            · exact .inr (.inl ⟨e, h0, this, by omega, (by first | rfl | trivial), (by first | rfl | trivial)⟩)
      · simp only [if_neg h0]
        split
        · exact .inr (.inr (.inr (.inr (.inl ⟨e, by omega, by omega, by assumption, (by first | rfl | trivial), (by first | rfl | trivial), (by first | rfl | trivial)⟩))))
        · exact .inr (.inr (.inr (.inr (.inr (.inl ⟨e, by omega, by omega, by omega, (by first | rfl | trivial), (by first | rfl | trivial), (by first | rfl | trivial)⟩)))))
  · rw [nxtS_2 e]; unfold freS
    refine ⟨rfl, ?_⟩
    by_cases h0 : res = 0
    · simp only [if_pos h0]
      split
      · exact .inr (.inr (.inr (.inr (.inr (.inr (.inl ⟨e, h0, by assumption, (by first | rfl | trivial), (by first | rfl | trivial)⟩))))))
      · exact .inr (.inr (.inr (.inr (.inr (.inr (.inr (.inl ⟨e, h0, by omega, (by first | rfl | trivial), (by first | rfl | trivial)⟩)))))))
    · simp only [if_neg h0]
      exact .inr (.inr (.inr (.inr (.inr (.inr (.inr (.inr (.inl ⟨e, h0, e, (by first | rfl | trivial)⟩))))))))
  · rw [nxtS_3 e]; unfold undS
    refine ⟨rfl, ?_⟩
    by_cases h0 : res = 0
    · simp only [if_pos h0]
      split
      · exact .inr (.inr (.inr (.inr (.inr (.inr (.inr (.inr (.inr (.inl ⟨e, h0, by assumption, (by first | rfl | trivial), (by first | rfl | trivial), (by first | rfl | trivial)⟩)))))))))
      · exact .inr (.inr (.inr (.inr (.inr (.inr (.inr (.inr (.inr (.inr (.inl ⟨e, h0, by omega, (by first | rfl | trivial), (by first | rfl | trivial), (by first | rfl | trivial)⟩))))))))))
    · simp only [if_neg h0]
      exact .inr (.inr (.inr (.inr (.inr (.inr (.inr (.inr (.inr (.inr (.inr (⟨e, h0, e, (by first | rfl | trivial), (by first | rfl | trivial)⟩)))))))))))
theorem stp_facts {s : SagaM} (hz : chkS s = 0) : (stpV s).2 = 0 ∧ (s.st = 1 → (stpV s).1 = 2 * (s.d.xs.length : Nat) - s.ix) ∧ (s.st = 2 → (stpV s).1 = (s.d.xs.length : Nat) - s.ix) ∧ (s.st = 3 → (stpV s).1 = s.ix + 1) ∧ (4 ≤ s.st → (stpV s).1 = 0) := by
  unfold stpV
  rw [if_pos hz]
  repeat' split
  all_goals (refine ⟨rfl, ?_⟩; dsimp only; omega)
set_option maxHeartbeats 4000000 in
/-- The number of results that are needed. -/
theorem nxt_stp {s : SagaM} {res now : Int} (hz : chkS s = 0) (hr : 0 ≤ res ∧ res ≤ 18) (h4 : s.st < 4) : (stpV (nxtS s res now)).2 = 0 ∧ 0 ≤ (stpV (nxtS s res now)).1 ∧ (stpV (nxtS s res now)).1 ≤ (stpV s).1 ∧ (res = 0 → (stpV (nxtS s res now)).1 < (stpV s).1) := by
  have h1 := stp_facts hz
  have h2 := stp_facts (nxt_ok (now := now) hz hr h4)
  have h3 := nxt_how (now := now) hz hr h4
  have h5 := chk_facts hz
  have h6 := chk_facts (nxt_ok (now := now) hz hr h4)
  rw [nxtS_d] at h2 h6
  refine ⟨h2.1, ?_⟩
  obtain ⟨_, h3⟩ := h3
  clear hz hr
  rcases h3 with h3 | h3 | h3 | h3 | h3 | h3 | h3 | h3 | h3 | h3 | h3 | h3 <;> (refine ⟨?_, ?_, fun h0 => ?_⟩ <;> omega)
theorem stp_some {s : SagaM} (hz : chkS s = 0) : (s.st < 4 → 0 < (stpV s).1) ∧ (4 ≤ s.st → (stpV s).1 = 0) ∧ (stpV s).2 = 0 ∧ 0 ≤ (stpV s).1 ∧ (stpV s).1 ≤ 16 := by
  have h1 := stp_facts hz
  have h5 := chk_facts hz
  refine ⟨fun h => ?_, fun h => ?_, h1.1, ?_, ?_⟩ <;> omega
end C28
