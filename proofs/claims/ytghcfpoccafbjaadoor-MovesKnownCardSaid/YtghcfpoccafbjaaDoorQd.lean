/- Moves are ended, in plain terms. -/
import Derived.Test.YtghcfpoccafbjaaDoorQc
import Derived.KernelRfl
open Go Go.AM Go.Proofs
namespace C32
theorem fillM_le (xs : List StepA) : (fillM xs).length ≤ xs.length := by
  have key : ∀ (xs : List StepA) (l : List MoveM), (xs.foldl stepM l).length ≤ l.length + xs.length := by
    intro xs
    induction xs with
    | nil => intro l; simp
    | cons s r ih =>
      intro l
      have h1 := ih (stepM l s)
      have h2 : (stepM l s).length ≤ l.length + 1 := by
        unfold stepM; split
        · unfold startL; split <;> simp
        · split
          · rw [givenL_leq]; omega
          · split
            · rw [takenL_leq]; omega
            · omega
      simp only [List.foldl_cons, List.length_cons]; omega
  have := key xs []
  unfold fillM
  simpa using this
section
variable {l : List MoveM} {n : Int} {d : ByteArray}
theorem t_not (h : findE l n = 0) (hs : ¬ (getM l n).st = 2) : takenE l n = 9 ∧ takenL l n = l := by
  have e : takenE l n = 9 := by unfold takenE; rw [if_pos h, if_neg hs]
  exact ⟨e, by unfold takenL; rw [e]; rfl⟩
theorem t_out (h : findE l n = 0) (hs : (getM l n).st = 2) : takenE l n = 0 := by unfold takenE; rw [if_pos h, if_pos hs]
theorem g_not (h : findE l n = 0) (hd : (d.size : Int) ≤ 65536) (hs : ¬ (getM l n).st = 1) : givenE l n d = 9 ∧ givenL l n d = l := by
  have e : givenE l n d = 9 := by unfold givenE; rw [if_pos h, if_neg (by omega), if_neg hs]
  exact ⟨e, by unfold givenL; rw [e]; rfl⟩
theorem g_asked (h : findE l n = 0) (hd : (d.size : Int) ≤ 65536) (hs : (getM l n).st = 1) : givenE l n d = 0 := by unfold givenE; rw [if_pos h, if_neg (by omega), if_pos hs]
theorem find_len {l2 : List MoveM} (h : findE l n = 0) (e : l2.length = l.length) : findE l2 n = 0 := by
  have := findE_zero h
  exact findE_at this.1 (by omega)
theorem t_next (h : takenE l n = 0) : takenL l n = l.set (n - 1).toNat { getM l n with st := 3, d := .empty } ∧ findE (takenL l n) n = 0 ∧ (getM (takenL l n) n).st = 3 := by
  have hf := takenE_find h
  obtain ⟨j, e1, e2⟩ := find_at hf
  have hj := (List.getElem?_eq_some_iff.1 e2).1
  have el : takenL l n = l.set (n - 1).toNat { getM l n with st := 3, d := .empty } := if_pos h
  refine ⟨el, find_len hf (takenL_leq l n), ?_⟩
  rw [el, show (n - 1).toNat = j by omega]
  rw [getM_at (List.getElem?_set_self hj) e1]
theorem g_next (h : givenE l n d = 0) : givenL l n d = l.set (n - 1).toNat { getM l n with st := 2, d := d } ∧ findE (givenL l n d) n = 0 ∧ (getM (givenL l n d) n).st = 2 := by
  have hf := givenE_find h
  obtain ⟨j, e1, e2⟩ := find_at hf
  have hj := (List.getElem?_eq_some_iff.1 e2).1
  have el : givenL l n d = l.set (n - 1).toNat { getM l n with st := 2, d := d } := if_pos h
  refine ⟨el, find_len hf (givenL_leq l n d), ?_⟩
  rw [el, show (n - 1).toNat = j by omega]
  rw [getM_at (List.getElem?_set_self hj) e1]
end
/-- The first k of the moves that were open have ended. -/
structure Ends (l0 l : List MoveM) (k : Nat) : Prop where
  len : l.length = l0.length
  same : ∀ (j : Nat) (n : Int), k ≤ j → (openL l0)[j]? = some n → getM l n = getM l0 n
  op : ∀ (j : Nat) (m : MoveM), l[j]? = some m → ¬ m.st = 3 → ∃ i, k ≤ i ∧ (openL l0)[i]? = some ((j : Int) + 1)
theorem open_at {l : List MoveM} {j : Nat} {m : MoveM} (hx : l[j]? = some m) (hm : ¬ m.st = 3) : (openL l)[(opn l j).length]? = some ((j : Int) + 1) := by
  unfold openL; rw [List.getElem?_map, opn_at hx hm]; rfl
theorem ends_start (l : List MoveM) : Ends l l 0 := ⟨rfl, fun _ _ _ _ => rfl, fun j _ hx hm => ⟨_, Nat.zero_le _, open_at hx hm⟩⟩
theorem open_ne {l : List MoveM} {i j : Nat} {a b : Int} (ha : (openL l)[i]? = some a) (hb : (openL l)[j]? = some b) (hij : i < j) : a < b := by
  have p1 := (open_get ha).2.2.2.2
  have p2 := (open_get hb).2.2.2.2
  have q := List.pairwise_iff_getElem.1 (opn_pair (l := l) (R := fun _ _ => True) (fun _ _ _ _ _ _ _ _ _ => trivial) l.length)
  obtain ⟨l1, e1⟩ := List.getElem?_eq_some_iff.1 p1
  obtain ⟨l2, e2⟩ := List.getElem?_eq_some_iff.1 p2
  have := q i j l1 l2 hij
  rw [e1, e2] at this
  exact this.1
theorem ends_next {l0 l l2 : List MoveM} {k : Nat} {n : Int} (E : Ends l0 l k) (hn : (openL l0)[k]? = some n) (hl : l2.length = l.length) (hs : ∀ j : Nat, ¬ j = (n - 1).toNat → l2[j]? = l[j]?) (h3 : (getM l2 n).st = 3) : Ends l0 l2 (k + 1) := by
  have r := (open_get hn).1
  refine ⟨hl.trans E.len, fun j a hj ha => ?_, fun j m hm hst => ?_⟩
  · have lt := open_ne hn ha hj
    have ra := (open_get ha).1
    rw [← E.same j a (by omega) ha]
    have hlen := E.len
    have hx := get_at (l := l) (n := a) ra.1 (by omega)
    have h2 : l2[(a - 1).toNat]? = some (getM l a) := by rw [hs _ (by omega)]; exact hx
    exact getM_at h2 (by omega)
  · by_cases e : j = (n - 1).toNat
    · exfalso
      have g := getM_at (n := n) hm (by omega)
      rw [g] at h3; exact hst h3
    · rw [hs j e] at hm
      obtain ⟨i, hi, q⟩ := E.op j m hm hst
      refine ⟨i, ?_, q⟩
      rcases Nat.lt_or_eq_of_le hi with w | w
      · exact w
      · subst w; rw [hn] at q; cases q; omega
theorem ends_taken {l0 l : List MoveM} {k : Nat} {n : Int} (E : Ends l0 l k) (hn : (openL l0)[k]? = some n) (h : takenE l n = 0) : Ends l0 (takenL l n) (k + 1) := by
  obtain ⟨e, _, q⟩ := t_next h
  exact ends_next E hn (takenL_leq l n) (fun j hj => by rw [e, List.getElem?_set_ne (fun w => hj w.symm)]) q
theorem ends_both {l0 l : List MoveM} {k : Nat} {n : Int} {d : ByteArray} (E : Ends l0 l k) (hn : (openL l0)[k]? = some n) (hg : givenE l n d = 0) (h : takenE (givenL l n d) n = 0) : Ends l0 (takenL (givenL l n d) n) (k + 1) := by
  obtain ⟨e, _, q⟩ := t_next h
  obtain ⟨eg, _, _⟩ := g_next hg
  exact ends_next E hn ((takenL_leq _ n).trans (givenL_leq l n d)) (fun j hj => by rw [e, List.getElem?_set_ne (fun w => hj w.symm), eg, List.getElem?_set_ne (fun w => hj w.symm)]) q
theorem ends_all {l0 l : List MoveM} (E : Ends l0 l (openL l0).length) : opn l l.length = [] := by
  cases h : opn l l.length with
  | nil => rfl
  | cons y r =>
    obtain ⟨j, _, q1, q2, q3⟩ := opn_mem (show y ∈ opn l l.length by rw [h]; exact List.mem_cons_self ..)
    obtain ⟨i, hi, w⟩ := E.op j _ q1 q3
    have := (List.getElem?_eq_some_iff.1 w).1
    omega
theorem none_open {l : List MoveM} (h : opn l l.length = []) (key : ByteArray) : openL l = [] ∧ busyB l key = false := by
  unfold openL busyB; rw [h]; exact ⟨rfl, rfl⟩
theorem rchk_any : rchk .empty .empty = 0 := by kernel_rfl
theorem start_empty {l : List MoveM} (h : opn l l.length = []) (hl : l.length < 64) : startE l .empty .empty 1 2 = 0 ∧ startN l .empty .empty 1 2 = (l.length : Int) + 1 ∧ startL l .empty .empty 1 2 = l ++ [MoveM.mk .empty .empty 1 2 1 .empty] := by
  have e : startE l .empty .empty 1 2 = 0 := by
    unfold startE shareB
    rw [if_pos ⟨rchk_any, by decide, by decide, by decide⟩, h]
    simp only [List.any_nil, Bool.false_eq_true, if_false]
    rw [if_neg (by omega)]
  exact ⟨e, by unfold startN; rw [if_pos e], by unfold startL; rw [if_pos e]⟩
theorem opn_pref (l r : List MoveM) : ∀ k, k ≤ l.length → opn (l ++ r) k = opn l k
  | 0, _ => rfl
  | k + 1, h => by simp only [opn, opn_pref l r k (by omega), List.getElem?_append_left (show k < l.length by omega)]
theorem busy_app {l : List MoveM} (h : opn l l.length = []) (m : MoveM) (hm : ¬ m.st = 3) (key : ByteArray) : busyB (l ++ [m]) key = rhas m.rf m.rt key := by
  unfold busyB
  rw [List.length_append, List.length_singleton, opn_next (m := m) (by simp), opn_pref l [m] l.length (Nat.le_refl _), h, if_neg hm]
  simp
end C32
