/- What Start does, in plain terms. -/
import Derived.Test.YtghcfpoccafbjaaDoorQb
import Derived.KernelRfl
open Go Go.AM Go.Proofs
namespace C32
theorem start_cases (l : List MoveM) (r0 r1 : ByteArray) (f t : Int) (h : l.length ≤ 64) :
    (startE l r0 r1 f t = 2 ∧ startN l r0 r1 f t = 0 ∧ startL l r0 r1 f t = l ∧ ¬ (rchk r0 r1 = 0 ∧ (1 ≤ f ∧ f < 8) ∧ (1 ≤ t ∧ t < 8) ∧ ¬ f = t)) ∨
    (startE l r0 r1 f t = 17 ∧ startN l r0 r1 f t = 0 ∧ startL l r0 r1 f t = l ∧ (rchk r0 r1 = 0 ∧ (1 ≤ f ∧ f < 8) ∧ (1 ≤ t ∧ t < 8) ∧ ¬ f = t) ∧ shareB l r0 r1 = true) ∨
    (startE l r0 r1 f t = 4 ∧ startN l r0 r1 f t = 0 ∧ startL l r0 r1 f t = l ∧ (rchk r0 r1 = 0 ∧ (1 ≤ f ∧ f < 8) ∧ (1 ≤ t ∧ t < 8) ∧ ¬ f = t) ∧ shareB l r0 r1 = false ∧ l.length = 64) ∨
    (startE l r0 r1 f t = 0 ∧ startN l r0 r1 f t = (l.length : Int) + 1 ∧ startL l r0 r1 f t = l ++ [MoveM.mk r0 r1 f t 1 .empty] ∧ (rchk r0 r1 = 0 ∧ (1 ≤ f ∧ f < 8) ∧ (1 ≤ t ∧ t < 8) ∧ ¬ f = t) ∧ shareB l r0 r1 = false ∧ l.length < 64) := by
  by_cases g : rchk r0 r1 = 0 ∧ (1 ≤ f ∧ f < 8) ∧ (1 ≤ t ∧ t < 8) ∧ ¬ f = t
  · right
    cases hs : shareB l r0 r1 with
    | true =>
      left
      have e : startE l r0 r1 f t = 17 := by unfold startE; rw [if_pos g, if_pos hs]
      exact ⟨e, by unfold startN; rw [e]; rfl, by unfold startL; rw [e]; rfl, g, rfl⟩
    | false =>
      right
      by_cases c : 64 ≤ l.length
      · left
        have e : startE l r0 r1 f t = 4 := by unfold startE; rw [if_pos g, if_neg (by rw [hs]; decide), if_pos c]
        exact ⟨e, by unfold startN; rw [e]; rfl, by unfold startL; rw [e]; rfl, g, rfl, by omega⟩
      · right
        have e : startE l r0 r1 f t = 0 := by unfold startE; rw [if_pos g, if_neg (by rw [hs]; decide), if_neg c]
        exact ⟨e, by unfold startN; rw [e]; rfl, by unfold startL; rw [e]; rfl, g, rfl, by omega⟩
  · left
    have e : startE l r0 r1 f t = 2 := by unfold startE; rw [if_neg g]
    exact ⟨e, by unfold startN; rw [e]; rfl, by unfold startL; rw [e]; rfl, g⟩
theorem getM_app {l : List MoveM} {x : MoveM} {n : Int} (h1 : 1 ≤ n) (h2 : n ≤ (l.length : Nat)) : getM (l ++ [x]) n = getM l n := by
  have g := get_at h1 h2
  have hj := (List.getElem?_eq_some_iff.1 g).1
  exact getM_at (j := (n - 1).toNat) (by rw [List.getElem?_append_left hj]; exact g) (by omega)
theorem getM_last {l : List MoveM} {x : MoveM} {n : Int} (h : n = (l.length : Int) + 1) : getM (l ++ [x]) n = x := getM_at (j := l.length) (by simp) h
/-- Whether one of the first k open moves shares names with a range. -/
def shS (l : List MoveM) (r0 r1 : ByteArray) (k : Nat) : Bool := ((opn l l.length).take k).any fun y => (rmeet y.2.rf y.2.rt r0 r1).2.2.1
theorem shS_next {l : List MoveM} {r0 r1 : ByteArray} {k : Nat} {n : Int} (h : (openL l)[k]? = some n) : shS l r0 r1 (k + 1) = (shS l r0 r1 k || (rmeet (getM l n).rf (getM l n).rt r0 r1).2.2.1) := by
  have p := (open_get h).2.2.2.2
  unfold shS
  rw [take_next p, List.any_append]; simp
theorem shS_all (l : List MoveM) (r0 r1 : ByteArray) {k : Nat} (h : k = (openL l).length) : shS l r0 r1 k = shareB l r0 r1 := by
  unfold openL at h
  rw [List.length_map] at h
  unfold shS shareB; rw [h, List.take_length]
end C32
