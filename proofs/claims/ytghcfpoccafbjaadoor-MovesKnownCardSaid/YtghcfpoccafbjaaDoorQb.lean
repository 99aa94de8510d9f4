/- The course of moves, in plain terms. -/
import Derived.Test.YtghcfpoccafbjaaDoorQa
import Derived.KernelRfl
open Go Go.AM Go.Proofs
namespace C32
/-- A table, and the one behind a step. -/
structure Course (l l2 : List MoveM) : Prop where
  len : l.length ≤ l2.length ∧ l2.length ≤ l.length + 1
  new : ∀ (j : Nat) (x : MoveM), l2[j]? = some x → l.length ≤ j → x.st = 1
  old : ∀ (j : Nat) (x y : MoveM), l2[j]? = some x → l[j]? = some y → (x.rf = y.rf ∧ x.rt = y.rt ∧ x.f = y.f ∧ x.t = y.t) ∧ (x.st = y.st ∨ x.st = y.st + 1) ∧ (x.st = y.st → x.d = y.d)
theorem course_refl (l : List MoveM) : Course l l := ⟨⟨Nat.le_refl _, Nat.le_succ _⟩, fun j x hx hj => absurd (List.getElem?_eq_some_iff.1 hx).1 (by omega), fun j x y hx hy => by rw [hx] at hy; cases hy; exact ⟨⟨rfl, rfl, rfl, rfl⟩, .inl rfl, fun _ => rfl⟩⟩
theorem course_start (l : List MoveM) (r0 r1 : ByteArray) (f t : Int) : Course l (startL l r0 r1 f t) := by
  unfold startL; split
  · refine ⟨by simp, fun j x hx hj => ?_, fun j x y hx hy => ?_⟩
    · have := (List.getElem?_eq_some_iff.1 hx).1
      simp only [List.length_append, List.length_singleton] at this
      have ej : j = l.length := by omega
      subst ej
      simp at hx; subst hx; rfl
    · rw [List.getElem?_append_left (List.getElem?_eq_some_iff.1 hy).1, hy] at hx; cases hx; exact ⟨⟨rfl, rfl, rfl, rfl⟩, .inl rfl, fun _ => rfl⟩
  · exact course_refl l
theorem course_set {l : List MoveM} {j : Nat} {m x : MoveM} (hm : l[j]? = some m) (hr : x.rf = m.rf ∧ x.rt = m.rt ∧ x.f = m.f ∧ x.t = m.t) (hs : x.st = m.st + 1) : Course l (l.set j x) := by
  refine ⟨by simp, fun i y hy hi => ?_, fun i y z hy hz => ?_⟩
  · have := (List.getElem?_eq_some_iff.1 hy).1
    simp only [List.length_set] at this; omega
  · rcases set_at hy with ⟨e1, e2⟩ | ⟨e1, e2⟩
    · subst e2; subst e1; rw [hm] at hz; cases hz; exact ⟨hr, .inr hs, fun w => by omega⟩
    · rw [e2] at hz; cases hz; exact ⟨⟨rfl, rfl, rfl, rfl⟩, .inl rfl, fun _ => rfl⟩
theorem course_given (l : List MoveM) (n : Int) (d : ByteArray) : Course l (givenL l n d) := by
  unfold givenL; split
  · rename_i e
    obtain ⟨j, e1, e2⟩ := find_at (givenE_find e)
    rw [show (n - 1).toNat = j by omega]
    exact course_set e2 ⟨rfl, rfl, rfl, rfl⟩ (by have := given_st e; simp only; omega)
  · exact course_refl l
theorem course_taken (l : List MoveM) (n : Int) : Course l (takenL l n) := by
  unfold takenL; split
  · rename_i e
    obtain ⟨j, e1, e2⟩ := find_at (takenE_find e)
    rw [show (n - 1).toNat = j by omega]
    exact course_set e2 ⟨rfl, rfl, rfl, rfl⟩ (by have := taken_st e; simp only; omega)
  · exact course_refl l
theorem get_at {l : List MoveM} {n : Int} (h1 : 1 ≤ n) (h2 : n ≤ (l.length : Nat)) : l[(n - 1).toNat]? = some (getM l n) := by
  obtain ⟨j, e1, e2⟩ := find_at (findE_at h1 h2)
  rw [show (n - 1).toNat = j by omega]; exact e2
end C32
