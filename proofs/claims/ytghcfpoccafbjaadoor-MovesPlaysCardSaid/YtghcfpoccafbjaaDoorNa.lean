/- Scripts, in plain terms. -/
import Derived.Test.YtghcfpoccafbjaaDoorMh
import Derived.KernelRfl
open Go Go.AM Go.Proofs
namespace C32
theorem startL_len {l : List MoveM} (h : l.length ≤ 64) (r0 r1 : ByteArray) (f t : Int) : (startL l r0 r1 f t).length ≤ 64 := by
  unfold startL; split
  · rename_i e
    unfold startE at e
    split at e
    · split at e
      · cases e
      · split at e
        · cases e
        · simp; omega
    · cases e
  · exact h
theorem givenL_leq (l : List MoveM) (n : Int) (d : ByteArray) : (givenL l n d).length = l.length := by unfold givenL; split <;> simp
theorem takenL_leq (l : List MoveM) (n : Int) : (takenL l n).length = l.length := by unfold takenL; split <;> simp
theorem givenL_len {l : List MoveM} (h : l.length ≤ 64) (n : Int) (d : ByteArray) : (givenL l n d).length ≤ 64 := by rw [givenL_leq]; exact h
theorem takenL_len {l : List MoveM} (h : l.length ≤ 64) (n : Int) : (takenL l n).length ≤ 64 := by rw [takenL_leq]; exact h
/-- A step of a script. -/
structure StepA where
  k : Int
  rf : ByteArray
  rt : ByteArray
  f : Int
  t : Int
  n : Int
  d : ByteArray
def scell (x : StepA) : Array Value := #[.int .i64 x.k, .string x.rf, .string x.rt, .int .i64 x.f, .int .i64 x.t, .int .i64 x.n, .string x.d]
theorem scell_size (x : StepA) : (scell x).size = 7 := rfl
def I64 (x : Int) : Prop := -9223372036854775808 ≤ x ∧ x ≤ 9223372036854775807
def stepM (l : List MoveM) (s : StepA) : List MoveM := if s.k = 0 then startL l s.rf s.rt s.f s.t else if s.k = 1 then givenL l s.n s.d else if s.k = 2 then takenL l s.n else l
def fillM (xs : List StepA) : List MoveM := xs.foldl stepM []
theorem fill_next {xs : List StepA} {n : Nat} {x : StepA} (hx : xs[n]? = some x) : fillM (xs.take (n + 1)) = stepM (fillM (xs.take n)) x := by
  rw [List.take_add_one, hx]; simp [fillM, List.foldl_append]
theorem stepM_len {l : List MoveM} (h : l.length ≤ 64) (s : StepA) : (stepM l s).length ≤ 64 := by
  unfold stepM; split
  · exact startL_len h _ _ _ _
  · split
    · exact givenL_len h _ _
    · split
      · exact takenL_len h _
      · exact h
theorem fold_inv {α β : Type} {f : α → β → α} {J : α → Prop} (hs : ∀ a b, J a → J (f a b)) : ∀ (l : List β) (a : α), J a → J (l.foldl f a)
  | [], _, h => h
  | b :: l, _, h => fold_inv hs l _ (hs _ b h)
theorem fillM_len (xs : List StepA) : (fillM xs).length ≤ 64 := fold_inv (J := fun l : List MoveM => l.length ≤ 64) (f := stepM) (fun _ s h => stepM_len h s) xs [] (Nat.zero_le _)
/-- The ends of the ranges are no longer than a text can be. -/
def szM (l : List MoveM) : Prop := ∀ m ∈ l, m.rf.size ≤ 9223372036854775807 ∧ m.rt.size ≤ 9223372036854775807
theorem getM_mem {l : List MoveM} {n : Int} (h : findE l n = 0) : getM l n ∈ l := by
  obtain ⟨h1, h2⟩ := findE_zero h
  have hj : (n - 1).toNat < l.length := by omega
  rw [getM_at (List.getElem?_eq_getElem hj) (by omega)]
  exact List.getElem_mem hj
theorem givenE_find {l : List MoveM} {n : Int} {d : ByteArray} (h : givenE l n d = 0) : findE l n = 0 := by
  unfold givenE at h; split at h
  · assumption
  · cases h
theorem takenE_find {l : List MoveM} {n : Int} (h : takenE l n = 0) : findE l n = 0 := by
  unfold takenE at h; split at h
  · assumption
  · cases h
theorem szM_nil : szM [] := fun m h => by cases h
theorem szM_start {l : List MoveM} (h : szM l) {r0 r1 : ByteArray} (h0 : r0.size ≤ 9223372036854775807) (h1 : r1.size ≤ 9223372036854775807) (f t : Int) : szM (startL l r0 r1 f t) := by
  unfold startL; split
  · intro m hm
    rcases List.mem_append.1 hm with hm | hm
    · exact h m hm
    · rw [List.mem_singleton.1 hm]; exact ⟨h0, h1⟩
  · exact h
theorem szM_given {l : List MoveM} (h : szM l) (n : Int) (d : ByteArray) : szM (givenL l n d) := by
  unfold givenL; split
  · rename_i e
    intro m hm
    rcases List.mem_or_eq_of_mem_set hm with hm | rfl
    · exact h m hm
    · exact h (getM l n) (getM_mem (givenE_find e))
  · exact h
theorem szM_taken {l : List MoveM} (h : szM l) (n : Int) : szM (takenL l n) := by
  unfold takenL; split
  · rename_i e
    intro m hm
    rcases List.mem_or_eq_of_mem_set hm with hm | rfl
    · exact h m hm
    · exact h (getM l n) (getM_mem (takenE_find e))
  · exact h
end C32
