/- The greatest ballots, in plain terms. -/
import Derived.Test.YtpagkfbpgppeiaaMr
import Derived.KernelRfl
open Go Go.AM Go.Proofs
namespace C14
theorem sizeb49 : (Try.prog.info? 49).map (fun i => (i.size, i.bytes)) = some (3, 40) := by kernel_rfl
theorem zero49 : zeroA Try.prog 49 = some (Value.agg #[(Value.int .i64 0), (Value.int .i64 0), (Value.slice none 0 0)]) := by kernel_rfl
theorem cmpI_pos {x y : Int} : 0 < cmpI x y ↔ y < x := by unfold cmpI; split; omega; split <;> omega
theorem cmpI_zero {x y : Int} : cmpI x y = 0 ↔ x = y := by unfold cmpI; split; omega; split <;> omega
theorem ordB_pos {a b c d : Int} : 0 < ordB a b c d ↔ c < a ∨ a = c ∧ d < b := by
  unfold ordB
  split
  · rename_i h; rw [cmpI_pos]; have := cmpI_zero.1 h; omega
  · rename_i h; rw [cmpI_pos]; have : a ≠ c := fun w => h (cmpI_zero.2 w); omega
def gstep (s : Int) (g : Int × Int) (x : EntM) : Int × Int := if x.slot = s ∧ 0 < ordB x.rd x.nd g.1 g.2 then (x.rd, x.nd) else g
/-- The greatest ballot that was told for a slot. -/
def gB (E : List EntM) (s : Int) : Int × Int := E.foldl (gstep s) (0, 0)
theorem gB_best (E : List EntM) (s : Int) : gB E s = ((bestAt E s).rd, (bestAt E s).nd) := by
  unfold gB bestAt
  have key : ∀ (E : List EntM) (b : EntM) (g : Int × Int), g = (b.rd, b.nd) → E.foldl (gstep s) g = ((E.foldl (pick s) b).rd, (E.foldl (pick s) b).nd) := by
    intro E
    induction E with
    | nil => intro b g h; exact h
    | cons x r ih =>
      intro b g h
      simp only [List.foldl_cons]
      refine ih _ _ ?_
      subst h
      unfold gstep pick
      split <;> rfl
  exact key E zeroEnt (0, 0) rfl
theorem gB_next {A : List EntM} {i : Nat} {x : EntM} (hx : A[i]? = some x) (s : Int) : gB (A.take (i + 1)) s = gstep s (gB (A.take i) s) x := by
  rw [take_next hx]; simp [gB, List.foldl_append]
/-- It is no smaller than any, and it is one of them. -/
theorem gB_spec (s : Int) : ∀ (E : List EntM) (g : Int × Int), (∀ x ∈ E, x.slot = s → ¬ 0 < ordB x.rd x.nd (E.foldl (gstep s) g).1 (E.foldl (gstep s) g).2) ∧ ¬ 0 < ordB g.1 g.2 (E.foldl (gstep s) g).1 (E.foldl (gstep s) g).2 ∧ (E.foldl (gstep s) g = g ∨ ∃ x ∈ E, x.slot = s ∧ E.foldl (gstep s) g = (x.rd, x.nd))
  | [], g => ⟨fun _ hx => (by cases hx), by rw [ordB_pos]; simp only [List.foldl_nil]; omega, .inl rfl⟩
  | y :: r, g => by
    obtain ⟨h1, h2, h3⟩ := gB_spec s r (gstep s g y)
    simp only [List.foldl_cons]
    have hy : (gstep s g y = g ∧ (y.slot = s → ¬ 0 < ordB y.rd y.nd g.1 g.2)) ∨ (gstep s g y = (y.rd, y.nd) ∧ y.slot = s ∧ 0 < ordB y.rd y.nd g.1 g.2) := by
      unfold gstep
      by_cases c : y.slot = s ∧ 0 < ordB y.rd y.nd g.1 g.2
      · exact .inr ⟨if_pos c, c⟩
      · exact .inl ⟨if_neg c, fun e w => c ⟨e, w⟩⟩
    generalize hq : r.foldl (gstep s) (gstep s g y) = q at *
    rcases hy with ⟨e, c⟩ | ⟨e, c1, c2⟩
    · rw [e] at h2 h3
      refine ⟨fun x hx hs => ?_, h2, h3.imp id fun ⟨x, hx, w⟩ => ⟨x, List.mem_cons_of_mem _ hx, w⟩⟩
      rcases List.mem_cons.1 hx with rfl | hx
      · have := c hs
        rw [ordB_pos] at *; omega
      · exact h1 x hx hs
    · rw [e] at h2 h3
      simp only at h2
      refine ⟨fun x hx hs => ?_, ?_, ?_⟩
      · rcases List.mem_cons.1 hx with rfl | hx
        · exact h2
        · exact h1 x hx hs
      · rw [ordB_pos] at *; omega
      · rcases h3 with h3 | ⟨x, hx, w⟩
        · exact .inr ⟨y, List.mem_cons_self .., c1, h3⟩
        · exact .inr ⟨x, List.mem_cons_of_mem _ hx, w⟩
theorem gB_same {A E : List EntM} (h : ∀ x, x ∈ A ↔ x ∈ E) (hp : ∀ x ∈ E, 1 ≤ x.rd) (s : Int) : gB A s = gB E s := by
  have a := gB_spec s A (0, 0)
  have e := gB_spec s E (0, 0)
  change (∀ x ∈ A, x.slot = s → ¬ 0 < ordB x.rd x.nd (gB A s).1 (gB A s).2) ∧ _ ∧ (gB A s = (0, 0) ∨ ∃ x ∈ A, x.slot = s ∧ gB A s = (x.rd, x.nd)) at a
  change (∀ x ∈ E, x.slot = s → ¬ 0 < ordB x.rd x.nd (gB E s).1 (gB E s).2) ∧ _ ∧ (gB E s = (0, 0) ∨ ∃ x ∈ E, x.slot = s ∧ gB E s = (x.rd, x.nd)) at e
  obtain ⟨a1, _, a3⟩ := a
  obtain ⟨e1, _, e3⟩ := e
  rcases a3 with a3 | ⟨x, hx, hs, a3⟩ <;> rcases e3 with e3 | ⟨y, hy, ht, e3⟩
  · rw [a3, e3]
  · have q := a1 y ((h y).2 hy) ht
    rw [a3, ordB_pos] at q
    have := hp y hy
    simp only at q; omega
  · have q := e1 x ((h x).1 hx) hs
    rw [e3, ordB_pos] at q
    have := hp x ((h x).1 hx)
    simp only at q; omega
  · have q1 := a1 y ((h y).2 hy) ht
    have q2 := e1 x ((h x).1 hx) hs
    rw [a3, ordB_pos] at q1
    rw [e3, ordB_pos] at q2
    simp only at q1 q2
    rw [a3, e3]
    have w1 : x.rd = y.rd := by omega
    have w2 : x.nd = y.nd := by omega
    rw [w1, w2]
theorem best_mem (s : Int) (E : List EntM) : bestAt E s = zeroEnt ∨ (bestAt E s ∈ E ∧ (bestAt E s).slot = s) := by
  unfold bestAt
  have key : ∀ (E : List EntM) (b : EntM), E.foldl (pick s) b = b ∨ (E.foldl (pick s) b ∈ E ∧ (E.foldl (pick s) b).slot = s) := by
    intro E
    induction E with
    | nil => intro b; exact .inl rfl
    | cons x r ih =>
      intro b
      simp only [List.foldl_cons]
      rcases ih (pick s b x) with e | ⟨h1, h2⟩
      · rw [e]
        unfold pick
        split
        · rename_i c; exact .inr ⟨List.mem_cons_self .., c.1⟩
        · exact .inl rfl
      · exact .inr ⟨List.mem_cons_of_mem _ h1, h2⟩
  exact key E zeroEnt
def toldOf (m : PropM) (x : EntM) : Prop := ∃ i, i < 7 ∧ x ∈ (m.ps i).list
theorem entM_iff {m : PropM} {x : EntM} : x ∈ entM m 7 ↔ toldOf m x := by
  refine ⟨entM_mem 7 x, fun ⟨i, hi, hx⟩ => ?_⟩
  obtain ⟨j, hj⟩ := List.getElem?_of_mem hx
  exact List.mem_of_getElem? (entM_at hi hj)
theorem toldOf_told {m : PropM} (hm : m.ok) {k : Nat} (hk : k < 7) (hc : (m.ps k).made = false) (l : List EntM) (u : Int) (x : EntM) : toldOf (m.told k l u) x ↔ toldOf m x ∨ x ∈ l := by
  have e0 := (hm.un k hc)
  unfold toldOf PropM.told
  simp only
  constructor
  · rintro ⟨i, hi, hx⟩
    split at hx
    · exact .inr hx
    · exact .inl ⟨i, hi, hx⟩
  · rintro (⟨i, hi, hx⟩ | hx)
    · refine ⟨i, hi, ?_⟩
      rw [if_neg]
      · exact hx
      · rintro rfl
        rw [e0] at hx; cases hx
    · exact ⟨k, hk, by rw [if_pos rfl]; exact hx⟩
theorem told_pos {m : PropM} (hm : m.ok) {x : EntM} (h : toldOf m x) : 1 ≤ x.rd := by
  obtain ⟨i, _, hx⟩ := h
  have q := allow_mem _ _ (hm.al i) x hx
  have c := q.2.2.2
  have n1 := hm.n1
  have n7 := hm.n7
  unfold chkB at c
  rw [if_neg (by omega), if_neg q.2.2.1] at c
  split at c
  · cases c
  · omega
theorem vals_val {m : PropM} {k : Nat} {x : EntM} (h : (valuesM m)[k]? = some x) : x.val = (bestAt (entM m 7) x.slot).val := by
  have hl := (List.getElem?_eq_some_iff.1 h).1
  simp only [valuesM, List.length_map, List.length_range] at hl
  simp only [valuesM, List.getElem?_map, List.getElem?_range hl, Option.map_some, Option.some.injEq] at h
  subst h
  rfl
theorem vals_len' (m : PropM) : (valuesM m).length = lenOf (begM m) (entM m 7) := by simp [valuesM]
/-- What the law finds for a value. -/
theorem found {m : PropM} (hm : m.ok) {A : List EntM} (hA : ∀ x, x ∈ A ↔ toldOf m x) {k : Nat} {x : EntM} (hx : (valuesM m)[k]? = some x) : (gB A x.slot = (0, 0) ∧ x.val = .empty) ∨ ∃ y ∈ A, y.slot = x.slot ∧ (y.rd, y.nd) = gB A x.slot ∧ y.val = x.val := by
  have hs : gB A x.slot = gB (entM m 7) x.slot := gB_same (fun y => (hA y).trans entM_iff.symm) (fun y hy => told_pos hm (entM_iff.1 hy)) _
  rw [hs, gB_best, vals_val hx]
  rcases best_mem x.slot (entM m 7) with e | ⟨h1, h2⟩
  · rw [e]; exact .inl ⟨rfl, rfl⟩
  · exact .inr ⟨_, (hA _).2 (entM_iff.1 h1), h2, rfl, rfl⟩
theorem far {m : PropM} {A : List EntM} (hA : ∀ x, x ∈ A ↔ toldOf m x) {x : EntM} (hx : x ∈ A) : x.slot < begM m + (valuesM m).length := by
  rw [vals_len']
  have := lenOf_ge (bg := begM m) (entM_iff.2 ((hA x).1 hx))
  omega
end C14
