/- Which nodes have promised. -/
import Derived.Test.YtpagkfbpgppeiaaMc
import Derived.KernelRfl
open Go Go.AM Go.Proofs
namespace C14
def num7 (a0 a1 a2 a3 a4 a5 a6 : Bool) : Nat := a0.toNat + 2 * a1.toNat + 4 * a2.toNat + 8 * a3.toNat + 16 * a4.toNat + 32 * a5.toNat + 64 * a6.toNat
theorem code1 : ∀ a0 a1 a2 a3 a4 a5 a6 : Bool, num7 a0 a1 a2 a3 a4 a5 a6 < 128 ∧ (num7 a0 a1 a2 a3 a4 a5 a6).testBit 0 = a0 ∧ (num7 a0 a1 a2 a3 a4 a5 a6).testBit 1 = a1 ∧ (num7 a0 a1 a2 a3 a4 a5 a6).testBit 2 = a2 ∧ (num7 a0 a1 a2 a3 a4 a5 a6).testBit 3 = a3 ∧ (num7 a0 a1 a2 a3 a4 a5 a6).testBit 4 = a4 ∧ (num7 a0 a1 a2 a3 a4 a5 a6).testBit 5 = a5 ∧ (num7 a0 a1 a2 a3 a4 a5 a6).testBit 6 = a6 := by decide +kernel
theorem code0 (a0 a1 a2 a3 a4 a5 a6 : Bool) : ∃ v : Fin 128, v.val.testBit 0 = a0 ∧ v.val.testBit 1 = a1 ∧ v.val.testBit 2 = a2 ∧ v.val.testBit 3 = a3 ∧ v.val.testBit 4 = a4 ∧ v.val.testBit 5 = a5 ∧ v.val.testBit 6 = a6 :=
  ⟨⟨_, (code1 a0 a1 a2 a3 a4 a5 a6).1⟩, (code1 a0 a1 a2 a3 a4 a5 a6).2⟩
def setV (v : Nat) : Nat → Int
  | 0 => 0
  | k + 1 => if v.testBit k = true then uor (setV v k) (ushl 1 (k : Int)) else setV v k
theorem setV_id : ∀ v : Fin 128, setV v.val 7 = (v.val : Int) := by decide +kernel
theorem setM_setV {m : PropM} {v : Nat} : ∀ k, (∀ i, i < k → (m.ps i).made = v.testBit i) → setM m k = setV v k
  | 0, _ => rfl
  | k + 1, h => by simp only [setM, setV, h k (by omega), setM_setV k fun i hi => h i (by omega)]
/-- The set of the nodes that have promised, as a number. -/
theorem code (m : PropM) : ∃ v : Nat, v < 128 ∧ setM m 7 = (v : Int) ∧ ∀ i, i < 7 → (m.ps i).made = v.testBit i := by
  obtain ⟨v, h0, h1, h2, h3, h4, h5, h6⟩ := code0 (m.ps 0).made (m.ps 1).made (m.ps 2).made (m.ps 3).made (m.ps 4).made (m.ps 5).made (m.ps 6).made
  have hb : ∀ i, i < 7 → (m.ps i).made = v.val.testBit i := by
    intro i hi
    have hi : i = 0 ∨ i = 1 ∨ i = 2 ∨ i = 3 ∨ i = 4 ∨ i = 5 ∨ i = 6 := by omega
    rcases hi with rfl | rfl | rfl | rfl | rfl | rfl | rfl
    · exact h0.symm
    · exact h1.symm
    · exact h2.symm
    · exact h3.symm
    · exact h4.symm
    · exact h5.symm
    · exact h6.symm
  exact ⟨v.val, v.isLt, (setM_setV 7 hb).trans (setV_id v), hb⟩
def cntM (m : PropM) : Nat := pop (setM m 7).toNat
theorem fin_there : ∀ (v : Fin 128) (k : Fin 7), uand (ushr (v.val : Int) (k.val : Int)) 1 = if v.val.testBit k.val = true then 1 else 0 := by decide +kernel
theorem fin_told : ∀ (v : Fin 128) (k : Fin 7), v.val.testBit k.val = false → uor (v.val : Int) (ushl 1 (k.val : Int)) = ((v.val + 2 ^ k.val : Nat) : Int) ∧ v.val + 2 ^ k.val < 128 ∧ pop (v.val + 2 ^ k.val) = pop v.val + 1 ∧ ∀ j : Fin 7, (v.val + 2 ^ k.val).testBit j.val = if j = k then true else v.val.testBit j.val := by decide +kernel
theorem fin_maj : ∀ (v : Fin 128) (n : Fin 8), 1 ≤ n.val → (∀ j : Fin 7, n.val ≤ j.val → v.val.testBit j.val = false) → isB (v.val : Int) (n.val : Int) = decide (n.val < 2 * pop v.val) := by decide +kernel
theorem told_code {m : PropM} {k : Nat} (hk : k < 7) (hc : (m.ps k).made = false) (l : List EntM) (u : Int) : setM (m.told k l u) 7 = uor (setM m 7) (ushl 1 (k : Int)) ∧ cntM (m.told k l u) = cntM m + 1 := by
  obtain ⟨v, hv, e, hb⟩ := code m
  have f := fin_told ⟨v, hv⟩ ⟨k, hk⟩ (by rw [← hb k hk]; exact hc)
  simp only at f
  obtain ⟨f1, f2, f3, f4⟩ := f
  have e2 : setM (m.told k l u) 7 = ((v + 2 ^ k : Nat) : Int) := by
    refine (setM_setV 7 fun i hi => ?_).trans (setV_id ⟨_, f2⟩)
    have g := f4 ⟨i, hi⟩
    simp only [Fin.mk.injEq] at g
    rw [g]
    simp only [PropM.told]
    by_cases c : i = k
    · rw [if_pos c, if_pos c]
    · rw [if_neg c, if_neg c]; exact hb i hi
  refine ⟨by rw [e2, e, f1], ?_⟩
  unfold cntM
  rw [e2, e, Int.toNat_natCast, Int.toNat_natCast, f3]
theorem there_made {m : PropM} {k : Int} (h0 : 0 ≤ k) (h1 : k < 7) : uand (ushr (setM m 7) k) 1 = if (m.ps k.toNat).made = true then 1 else 0 := by
  obtain ⟨v, hv, e, hb⟩ := code m
  have f := fin_there ⟨v, hv⟩ ⟨k.toNat, by omega⟩
  simp only at f
  rw [show ((k.toNat : Nat) : Int) = k by omega] at f
  rw [e, hb k.toNat (by omega)]
  exact f
theorem ready_cnt {m : PropM} (hm : m.ok) : readyB m = decide (m.n < 2 * ((cntM m : Nat) : Int)) := by
  obtain ⟨v, hv, e, hb⟩ := code m
  have n1 := hm.n1
  have n7 := hm.n7
  have f := fin_maj ⟨v, hv⟩ ⟨m.n.toNat, by omega⟩ (by simp only; omega) fun j hj => by
    rw [← hb j.val j.isLt]; exact hm.hi j.val (by simp only at hj; omega)
  simp only at f
  rw [show ((m.n.toNat : Nat) : Int) = m.n by omega] at f
  unfold readyB cntM
  rw [e, f, Int.toNat_natCast]
  refine decide_eq_decide.2 ⟨fun w => by omega, fun w => by omega⟩
theorem upM_told {m : PropM} (hm : m.ok) {k : Nat} (hk : k < 7) (hc : (m.ps k).made = false) (l : List EntM) {u : Int} (hu : 0 ≤ u) : upM (m.told k l u) 7 = max (upM m 7) u := by
  have key : ∀ n, upM (m.told k l u) n = if k < n then max (upM m n) u else upM m n := by
    intro n
    induction n with
    | zero => simp [upM]
    | succ n ih =>
      simp only [upM, ih]
      have r0 := upM_range hm n
      have u0 : (m.ps k).upto = 0 := by rw [hm.un k hc]; rfl
      by_cases e : n = k
      · subst e
        rw [if_neg (by omega), if_pos (by omega)]
        simp only [PropM.told, if_true]
        omega
      · simp only [PropM.told, if_neg e]
        by_cases g : k < n
        · rw [if_pos g, if_pos (by omega)]; omega
        · rw [if_neg g, if_neg (by omega)]
  rw [key, if_pos hk]
theorem told_ok' {m : PropM} (hm : m.ok) {k u : Int} {l : List EntM} (h : addE m k l u = 0) : (m.told k.toNat l u).ok := by
  obtain ⟨h1, h2, h3, _⟩ := addE_ok h
  exact told_ok hm (by omega) h2 h3
theorem cnt_new (n rd nd frm : Int) : cntM (newM n rd nd frm) = 0 := by
  have e : setM (newM n rd nd frm) 7 = 0 := by
    rw [setM_setV (v := 0) 7 fun i _ => (Nat.zero_testBit i).symm]; exact setV_id ⟨0, by decide⟩
  unfold cntM; rw [e]; decide
theorem set_new (n rd nd frm : Int) : setM (newM n rd nd frm) 7 = 0 := by
  rw [setM_setV (v := 0) 7 fun i _ => (Nat.zero_testBit i).symm]; exact setV_id ⟨0, by decide⟩
theorem up_new (n rd nd frm : Int) : ∀ k, upM (newM n rd nd frm) k = 0
  | 0 => rfl
  | k + 1 => by simp only [upM, up_new n rd nd frm k]; rfl
end C14
