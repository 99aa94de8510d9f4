/- Tables: more of what they show, and the calls in laws. -/
import Derived.Test.YtdcboianihplpaaXc
import Derived.KernelRfl
open Go Go.AM Go.Proofs
namespace C36
/-- All definitions in a table are short. -/
def TabM.small (m : TabM) : Prop := ∀ x ∈ m.evs, x.cmd.steps.length ≤ 1048576
theorem opened_small {m : TabM} (h : m.small) {c : CmdM} (hc : c.steps.length ≤ 1048576) : (m.opened c).small := by
  intro x hx
  simp only [TabM.opened, List.mem_append, List.mem_singleton] at hx
  rcases hx with q | rfl
  · exact h x q
  · exact hc
theorem closed_small {m : TabM} (h : m.small) (k e n : Int) (d : ByteArray) : (m.closed k e n d).small := by
  intro x hx
  simp only [TabM.closed, List.mem_append, List.mem_singleton] at hx
  rcases hx with q | rfl
  · exact h x q
  · exact Nat.zero_le _
theorem openM_small {m : TabM} (h : m.small) {c : CmdM} (hc : c.steps.length ≤ 1048576) : (openM m c).small := by
  unfold openM
  split
  · exact h
  · split
    · exact h
    · exact opened_small h hc
theorem closeM_small {m : TabM} (h : m.small) (k e n : Int) (d : ByteArray) : (closeM m k e n d).small := by
  unfold closeM
  split
  · exact h
  · split
    · exact h
    · split
      · exact h
      · exact closed_small h k e n d
theorem fill_small (l : List StepA) (hl : ∀ s ∈ l, s.cmd.steps.length ≤ 1048576) : (fillM l).small := by
  have key : ∀ (l : List StepA) (m : TabM), m.small → (∀ s ∈ l, s.cmd.steps.length ≤ 1048576) → (l.foldl stepM m).small := by
    intro l
    induction l with
    | nil => intro m h _; exact h
    | cons s r ih =>
      intro m h hs
      refine ih _ ?_ fun s hs' => hs s (by simp [hs'])
      unfold stepM
      split
      · exact closeM_small h _ _ _ _
      · exact openM_small h (hs s (by simp))
  exact key l _ (fun x hx => by cases hx) hl
theorem fill_small' {xs : List (StepA × Option Addr × Nat)} (h : ∀ x ∈ xs, x.1.cmd.steps.length ≤ 1048576) : (fillM (xs.map Prod.fst)).small := fill_small _ fun s hs => by
  obtain ⟨x, hx, rfl⟩ := List.mem_map.1 hs
  exact h x hx
/-- What waits. -/
theorem wait_mem {l : List Int} {n : Nat} {k : Int} : k ∈ waitP l n ↔ ∃ i : Nat, i < n ∧ l.getD i 0 < 0 ∧ (i : Int) + 1 = k := by
  simp only [waitP, List.mem_map, List.mem_filter, List.mem_range, decide_eq_true_eq, and_assoc]
theorem wait_in {m : TabM} {n : Nat} (ok : m.ok n) {k : Int} (hk : k ∈ waitM m) : 1 ≤ k ∧ k ≤ m.ats.length ∧ m.rps.getD (k - 1).toNat 0 < 0 := by
  obtain ⟨i, h1, h2, h3⟩ := wait_mem.1 hk
  obtain ⟨_, e, _⟩ := ok
  have : (k - 1).toNat = i := by omega
  rw [this]
  exact ⟨by omega, by omega, h2⟩
theorem wait_sorted {l : List Int} {n i j : Nat} {a b : Int} (hij : i < j) (ha : (waitP l n)[i]? = some a) (hb : (waitP l n)[j]? = some b) : a < b := by
  have hp : (waitP l n).Pairwise (· < ·) := by
    unfold waitP
    rw [List.pairwise_map]
    refine (List.Pairwise.filter _ List.pairwise_lt_range).imp ?_
    intro a b h; omega
  obtain ⟨h1, rfl⟩ := List.getElem?_eq_some_iff.1 ha
  obtain ⟨h2, rfl⟩ := List.getElem?_eq_some_iff.1 hb
  exact (List.pairwise_iff_getElem.1 hp) i j h1 h2 hij
theorem wait_set (l : List Int) (j : Nat) (r : Int) (hr : 0 ≤ r) (hj : j < l.length) (hl : l.getD j 0 < 0) : ∀ n, (waitP (l.set j r) n).length + (if j < n then 1 else 0) = (waitP l n).length
  | 0 => by simp [waitP]
  | n + 1 => by
    have ih := wait_set l j r hr hj hl n
    simp only [waitP, List.range_succ, List.filter_append, List.map_append, List.length_append, List.length_map] at ih ⊢
    by_cases e : n = j
    · subst e
      have h1 : (l.set n r).getD n 0 = r := getD_of (by simp [hj])
      have hnr : ¬ r < 0 := by omega
      simp only [Nat.lt_irrefl, if_false, Nat.lt_succ_self, if_true] at ih ⊢
      simp only [List.filter_cons, List.filter_nil, h1, hnr, hl, decide_true, decide_false, if_true, Bool.false_eq_true, if_false, List.length_nil, List.length_singleton]
      omega
    · have h1 : (l.set j r).getD n 0 = l.getD n 0 := by
        rw [List.getD_eq_getElem?_getD, List.getD_eq_getElem?_getD, List.getElem?_set_ne (fun q => e q.symm)]
      have h2 : (if j < n + 1 then 1 else 0) = (if j < n then 1 else 0 : Nat) := by split <;> split <;> omega
      rw [h2]
      simp only [List.filter_cons, List.filter_nil, h1]
      omega
theorem wait_closed {m : TabM} {n' : Nat} (ok : m.ok n') {k : Int} (hk : k ∈ waitM m) (e n : Int) (d : ByteArray) : (waitM (m.closed k e n d)).length + 1 = (waitM m).length := by
  obtain ⟨h1, h2, h3⟩ := wait_in ok hk
  obtain ⟨_, e2, _⟩ := ok
  have := wait_set m.rps (k - 1).toNat (m.evs.length : Int) (by omega) (by omega) h3 m.rps.length
  rw [if_pos (by omega)] at this
  simp only [waitM, TabM.closed, List.length_set]
  exact this
theorem closed_eq {m : TabM} {n' : Nat} (ok : m.ok n') {k : Int} (hk : k ∈ waitM m) {e n : Int} {d : ByteArray} (hc : chkR e n d = 0) : closeM m k e n d = m.closed k e n d := by
  obtain ⟨h1, h2, h3⟩ := wait_in ok hk
  rw [closeM, if_neg (by omega), if_neg (fun q => q hc), if_neg (by omega)]
theorem wait_E {m : TabM} {n : Nat} (ok : m.ok n) {k : Int} (hk : k ∈ waitM m) : getE m k = 0 := by
  obtain ⟨h1, h2, h3⟩ := wait_in ok hk; rw [getE, if_neg (by omega)]
theorem wait_B {m : TabM} {n : Nat} (ok : m.ok n) {k : Int} (hk : k ∈ waitM m) : getB m k = false := by
  obtain ⟨h1, h2, h3⟩ := wait_in ok hk; rw [getB, if_neg (by omega)]; exact decide_eq_false (by omega)
theorem wait_R {m : TabM} {n : Nat} (ok : m.ok n) {k : Int} (hk : k ∈ waitM m) : getR m k = noEv := by
  obtain ⟨h1, h2, h3⟩ := wait_in ok hk; rw [getR, if_neg (by omega), if_pos (by omega)]
theorem closed_E {m : TabM} {n' : Nat} (ok : m.ok n') {k : Int} (hk : k ∈ waitM m) (e n : Int) (d : ByteArray) : getE (m.closed k e n d) k = 0 := by
  obtain ⟨h1, h2, h3⟩ := wait_in ok hk; rw [getE, if_neg (by simp only [TabM.closed]; omega)]
theorem closed_rp {m : TabM} {n' : Nat} (ok : m.ok n') {k : Int} (hk : k ∈ waitM m) (e n : Int) (d : ByteArray) : (m.closed k e n d).rps.getD (k - 1).toNat 0 = (m.evs.length : Int) := by
  obtain ⟨h1, h2, h3⟩ := wait_in ok hk
  obtain ⟨_, e2, _⟩ := ok
  exact getD_of (by simp only [TabM.closed]; rw [List.getElem?_set]; simp; omega)
theorem closed_B {m : TabM} {n' : Nat} (ok : m.ok n') {k : Int} (hk : k ∈ waitM m) (e n : Int) (d : ByteArray) : getB (m.closed k e n d) k = true := by
  have hr := closed_rp ok hk e n d
  obtain ⟨h1, h2, h3⟩ := wait_in ok hk
  rw [getB, if_neg (by simp only [TabM.closed]; omega), hr]; exact decide_eq_true (by omega)
theorem closed_R {m : TabM} {n' : Nat} (ok : m.ok n') {k : Int} (hk : k ∈ waitM m) (e n : Int) (d : ByteArray) : getR (m.closed k e n d) k = ⟨k, true, noCmd, e, n, d⟩ := by
  have hr := closed_rp ok hk e n d
  obtain ⟨h1, h2, h3⟩ := wait_in ok hk
  rw [getR, if_neg (by simp only [TabM.closed]; omega), hr, if_neg (by omega)]
  exact getD_of (by simp [TabM.closed])
theorem close_bad (h : Heap) {O : Nat → Prop} {t : Nat} {m : TabM} (hT : Tab h O t m) {n' : Nat} (hm : m.ok n') (hn : n' ≤ 100000) {k e n : Int} {d : ByteArray} (hk : k ∈ waitM m) (hc : ¬ chkR e n d = 0) : WCall Try.prog 19 #[.pointer (some ⟨t, 0, none⟩), .int .i64 k, .agg #[.int .i64 e, .int .i64 n, .string d]] h (fun v h1 => v = .int .i64 2 ∧ Ext h h1) := by
  obtain ⟨h1, h2, h3⟩ := wait_in hm hk
  obtain ⟨m1, m2, m3⟩ := hm
  exact (close_ok h hT.1 (by omega) m2 (by omega) k e n d).mono fun v h1 q => q.2.1 ⟨by omega, by omega, hc⟩
theorem close_good (h : Heap) {O : Nat → Prop} {t : Nat} {m : TabM} (hT : Tab h O t m) {n' : Nat} (hm : m.ok n') (hn : n' ≤ 100000) {k e n : Int} {d : ByteArray} (hk : k ∈ waitM m) (hc : chkR e n d = 0) : WCall Try.prog 19 #[.pointer (some ⟨t, 0, none⟩), .int .i64 k, .agg #[.int .i64 e, .int .i64 n, .string d]] h
    (fun v h1 => v = .int .i64 0 ∧ Chg O h h1 ∧ ∃ O', Tab h1 O' t (m.closed k e n d) ∧ ∀ b, O' b → O b ∨ h.size ≤ b) := by
  obtain ⟨h1, h2, h3⟩ := wait_in hm hk
  refine (close_all h hT hm hn k e n d).mono fun v h1 q => ?_
  rw [closed_eq hm hk hc] at q
  obtain ⟨q1, q2, q3⟩ := q
  refine ⟨by rw [q1, closeE, if_neg (by omega), if_neg (fun q => q hc), if_neg (by omega)], q2, q3⟩
theorem close_again (h : Heap) {O : Nat → Prop} {t : Nat} {m : TabM} {k e n : Int} {d : ByteArray} (hT : Tab h O t (m.closed k e n d)) {n' : Nat} (hm : m.ok n') (hn : n' ≤ 99999) (hk : k ∈ waitM m) (hc : chkR e n d = 0) : WCall Try.prog 19 #[.pointer (some ⟨t, 0, none⟩), .int .i64 k, .agg #[.int .i64 e, .int .i64 n, .string d]] h (fun v h1 => v = .int .i64 6 ∧ Ext h h1) := by
  have hr := closed_rp hm hk e n d
  obtain ⟨h1, h2, h3⟩ := wait_in hm hk
  have hok := closeM_ok hm k e n d
  rw [closed_eq hm hk hc] at hok
  obtain ⟨m1, m2, m3⟩ := hok
  have hl : (m.closed k e n d).ats.length = m.ats.length := rfl
  have hlt : (k - 1).toNat < (m.closed k e n d).rps.length := by omega
  refine (close_ok h hT.1 (by omega) m2 (by omega) k e n d).mono fun v h1 q => q.2.2.1 _ ⟨by omega, by omega, hc, List.getElem?_eq_getElem hlt, ?_⟩
  have hg : (m.closed k e n d).rps.getD (k - 1).toNat 0 = (m.closed k e n d).rps[(k - 1).toNat] := getD_of (List.getElem?_eq_getElem hlt)
  rw [← hg, hr]; omega
theorem bytes_beq (c c' : ByteArray) : (c == c') = decide (c = c') := by
  cases c with | mk a => cases c' with | mk b =>
  have : (ByteArray.mk a == ByteArray.mk b) = (a == b) := by
    show ByteArray.beq _ _ = _
    unfold ByteArray.beq
    rfl
  rw [this]
  by_cases h : a = b <;> simp [h]
theorem wait_le {m : TabM} {n : Nat} (ok : m.ok n) : (waitM m).length ≤ 2000 := by
  obtain ⟨h1, h2, _⟩ := ok
  simp only [waitM, waitP, List.length_map]
  have := List.length_filter_le (fun i : Nat => decide (m.rps.getD i 0 < 0)) (List.range m.rps.length)
  rw [List.length_range] at this
  omega
theorem eq45 {a b a' b' : Int} {c c' : ByteArray} : eqA Try.prog 8 45 (.agg #[.int .i64 a, .int .i64 b, .string c]) (.agg #[.int .i64 a', .int .i64 b', .string c']) = some (decide (a = a' ∧ b = b' ∧ c = c')) := by
  have e : eqA Try.prog 8 45 (.agg #[.int .i64 a, .int .i64 b, .string c]) (.agg #[.int .i64 a', .int .i64 b', .string c']) =
      (match (some (a == a') : Option Bool) with
      | some true => (match (some (b == b') : Option Bool) with
        | some true => (match (some (c == c') : Option Bool) with
          | some true => some true
          | some false => some false
          | none => none)
        | some false => some false
        | none => none)
      | some false => some false
      | none => none) := by kernel_rfl
  rw [e]
  have g1 : (a == a') = decide (a = a') := by by_cases h : a = a' <;> simp [h]
  have g2 : (b == b') = decide (b = b') := by by_cases h : b = b' <;> simp [h]
  have g3 := bytes_beq c c'
  rw [g1, g2, g3]
  by_cases h1 : a = a' <;> by_cases h2 : b = b' <;> by_cases h3 : c = c' <;> simp [h1, h2, h3]
theorem cmp45_eql {a b a' b' : Int} {c c' : ByteArray} {r : Bool} (e : decide (a = a' ∧ b = b' ∧ c = c') = r) : binA Try.prog .eql 45 (.agg #[.int .i64 a, .int .i64 b, .string c]) (.agg #[.int .i64 a', .int .i64 b', .string c']) = some (.bool r) := by
  have k : binA Try.prog .eql 45 (.agg #[.int .i64 a, .int .i64 b, .string c]) (.agg #[.int .i64 a', .int .i64 b', .string c']) = (eqA Try.prog 8 45 (.agg #[.int .i64 a, .int .i64 b, .string c]) (.agg #[.int .i64 a', .int .i64 b', .string c'])).map .bool := by kernel_rfl
  rw [k, eq45, ← e]; rfl
theorem cmp45_neq {a b a' b' : Int} {c c' : ByteArray} {r : Bool} (e : decide (¬ (a = a' ∧ b = b' ∧ c = c')) = r) : binA Try.prog .neq 45 (.agg #[.int .i64 a, .int .i64 b, .string c]) (.agg #[.int .i64 a', .int .i64 b', .string c']) = some (.bool r) := by
  have k : binA Try.prog .neq 45 (.agg #[.int .i64 a, .int .i64 b, .string c]) (.agg #[.int .i64 a', .int .i64 b', .string c']) = (eqA Try.prog 8 45 (.agg #[.int .i64 a, .int .i64 b, .string c]) (.agg #[.int .i64 a', .int .i64 b', .string c'])).map (fun b => .bool (!b)) := by kernel_rfl
  rw [k, eq45, ← e]
  simp only [Option.map_some, decide_not]
end C36
