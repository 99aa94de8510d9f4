/- What has to be proposed, in plain terms. -/
import Derived.Test.YtpagkfbpgppeiaaMc
import Derived.Test.YtpagkfbpgppeiaaBmj
import Derived.KernelRfl
open Go Go.AM Go.Proofs
namespace C14
def zeroEnt : EntM := ⟨0, 0, 0, .empty⟩
def pick (s : Int) (b x : EntM) : EntM := if x.slot = s ∧ 0 < ordB x.rd x.nd b.rd b.nd then x else b
/-- The entry with the greatest ballot that was told for a slot. -/
def bestAt (E : List EntM) (s : Int) : EntM := E.foldl (pick s) zeroEnt
/-- How many slots from one on are told of. -/
def lenOf (bg : Int) (E : List EntM) : Nat := E.foldl (fun n x => max n (x.slot - bg + 1).toNat) 0
def grid (bg : Int) (E : List EntM) (N : Nat) : List EntM := (List.range N).map fun (i : Nat) => bestAt E (bg + i)
def begM (m : PropM) : Int := max m.frm (upM m 7)
def valuesM (m : PropM) : List EntM := (List.range (lenOf (begM m) (entM m 7))).map fun (i : Nat) => ⟨begM m + i, m.rd, m.nd, (bestAt (entM m 7) (begM m + i)).val⟩
theorem bestAt_add (E : List EntM) (y : EntM) (s : Int) : bestAt (E ++ [y]) s = pick s (bestAt E s) y := by simp [bestAt, List.foldl_append]
theorem lenOf_add (bg : Int) (E : List EntM) (y : EntM) : lenOf bg (E ++ [y]) = max (lenOf bg E) (y.slot - bg + 1).toNat := by simp [lenOf, List.foldl_append]
theorem bestAt_none {E : List EntM} {s : Int} (h : ∀ x ∈ E, x.slot ≠ s) : bestAt E s = zeroEnt := by
  unfold bestAt
  generalize hz : zeroEnt = z
  clear hz
  induction E generalizing z with
  | nil => rfl
  | cons x r ih =>
    simp only [List.foldl_cons]
    rw [show pick s z x = z from if_neg (fun w => h x (List.mem_cons_self ..) w.1)]
    exact ih (fun y hy => h y (List.mem_cons_of_mem _ hy)) z
theorem lenOf_mono (bg : Int) (E : List EntM) : ∀ n : Nat, n ≤ E.foldl (fun n x => max n (x.slot - bg + 1).toNat) n ∧ ∀ x ∈ E, (x.slot - bg + 1).toNat ≤ E.foldl (fun n x => max n (x.slot - bg + 1).toNat) n := by
  induction E with
  | nil => intro n; exact ⟨Nat.le_refl _, fun x hx => by cases hx⟩
  | cons y r ih =>
    intro n
    simp only [List.foldl_cons]
    obtain ⟨h1, h2⟩ := ih (max n (y.slot - bg + 1).toNat)
    refine ⟨by omega, fun x hx => ?_⟩
    rcases List.mem_cons.1 hx with rfl | hx
    · omega
    · exact h2 x hx
theorem lenOf_ge {bg : Int} {E : List EntM} {x : EntM} (hx : x ∈ E) : (x.slot - bg + 1).toNat ≤ lenOf bg E := (lenOf_mono bg E 0).2 x hx
theorem bestAt_far {bg : Int} {E : List EntM} {i : Nat} (h : lenOf bg E ≤ i) : bestAt E (bg + i) = zeroEnt := bestAt_none fun x hx w => by have := lenOf_ge (bg := bg) hx; omega
theorem grid_len (bg : Int) (E : List EntM) (N : Nat) : (grid bg E N).length = N := by simp [grid]
theorem grid_at {bg : Int} {E : List EntM} {N j : Nat} {x : EntM} (h : (grid bg E N)[j]? = some x) : x = bestAt E (bg + j) ∧ j < N := by
  have hl := (List.getElem?_eq_some_iff.1 h).1
  rw [grid_len] at hl
  simp only [grid, List.getElem?_map, List.getElem?_range hl, Option.map_some, Option.some.injEq] at h
  exact ⟨h.symm, hl⟩
theorem grid_more {bg : Int} {E : List EntM} {N : Nat} (h : lenOf bg E ≤ N) : grid bg E N ++ [zeroEnt] = grid bg E (N + 1) := by
  simp only [grid, List.range_succ, List.map_append, List.map_cons, List.map_nil]
  rw [bestAt_far h]
/-- An entry that is better than the one of its slot. -/
theorem grid_set {bg : Int} {E : List EntM} {N j : Nat} {y : EntM} (hj : y.slot - bg = (j : Int)) (hb : 0 < ordB y.rd y.nd (bestAt E (bg + j)).rd (bestAt E (bg + j)).nd) : (grid bg E N).set j y = grid bg (E ++ [y]) N := by
  apply List.ext_getElem?
  intro i
  rw [List.getElem?_set]
  simp only [grid_len]
  by_cases e : j = i
  · subst e
    rw [if_pos rfl]
    by_cases hN : j < N
    · rw [if_pos hN]
      simp only [grid, List.getElem?_map, List.getElem?_range hN, Option.map_some, bestAt_add]
      rw [pick, if_pos ⟨by omega, hb⟩]
    · rw [if_neg hN, List.getElem?_eq_none (by rw [grid_len]; omega)]
  · rw [if_neg e]
    by_cases hN : i < N
    · simp only [grid, List.getElem?_map, List.getElem?_range hN, Option.map_some, bestAt_add]
      rw [pick, if_neg (fun w => by omega)]
    · rw [List.getElem?_eq_none (by rw [grid_len]; omega), List.getElem?_eq_none (by rw [grid_len]; omega)]
theorem grid_same {bg : Int} {E : List EntM} {N : Nat} {y : EntM} (hb : y.slot < bg ∨ ¬ 0 < ordB y.rd y.nd (bestAt E y.slot).rd (bestAt E y.slot).nd) : grid bg E N = grid bg (E ++ [y]) N := by
  simp only [grid]
  refine List.map_congr_left fun i _ => ?_
  rw [bestAt_add, pick, if_neg]
  rintro ⟨w1, w2⟩
  rcases hb with hb | hb
  · omega
  · rw [← w1] at w2; exact hb w2
/-- The values, of which the first k have their slots and ballots. -/
def finL (m : PropM) (k : Nat) : List EntM := (List.range (lenOf (begM m) (entM m 7))).map fun (i : Nat) => if i < k then ⟨begM m + i, m.rd, m.nd, (bestAt (entM m 7) (begM m + i)).val⟩ else bestAt (entM m 7) (begM m + i)
theorem finL_len (m : PropM) (k : Nat) : (finL m k).length = lenOf (begM m) (entM m 7) := by simp [finL]
theorem finL_zero (m : PropM) : finL m 0 = grid (begM m) (entM m 7) (lenOf (begM m) (entM m 7)) := by simp [finL, grid]
theorem finL_end (m : PropM) {k : Nat} (h : lenOf (begM m) (entM m 7) ≤ k) : finL m k = valuesM m := by
  simp only [finL, valuesM]
  refine List.map_congr_left fun i hi => ?_
  rw [if_pos (by have := List.mem_range.1 hi; omega)]
theorem finL_step {m : PropM} {k : Nat} {x : EntM} (hx : (finL m k)[k]? = some x) : (finL m k).set k ⟨begM m + k, m.rd, m.nd, x.val⟩ = finL m (k + 1) := by
  have hl := (List.getElem?_eq_some_iff.1 hx).1
  rw [finL_len] at hl
  have e : x = bestAt (entM m 7) (begM m + k) := by
    simp only [finL, List.getElem?_map, List.getElem?_range hl, Option.map_some, Option.some.injEq] at hx
    rw [if_neg (by omega)] at hx; exact hx.symm
  subst e
  apply List.ext_getElem?
  intro i
  rw [List.getElem?_set, finL_len]
  by_cases e : k = i
  · subst e
    rw [if_pos rfl, if_pos hl]
    simp only [finL, List.getElem?_map, List.getElem?_range hl, Option.map_some]
    rw [if_pos (by omega)]
  · rw [if_neg e]
    by_cases hN : i < lenOf (begM m) (entM m 7)
    · simp only [finL, List.getElem?_map, List.getElem?_range hN, Option.map_some]
      by_cases c : i < k
      · rw [if_pos c, if_pos (by omega)]
      · rw [if_neg c, if_neg (by omega)]
    · rw [List.getElem?_eq_none (by rw [finL_len]; omega), List.getElem?_eq_none (by rw [finL_len]; omega)]
theorem allow_mem {n : Int} : ∀ (l : List EntM) (k : Int), allowB n k l = true → ∀ x ∈ l, k ≤ x.slot ∧ x.slot < 4096 ∧ ¬ (x.rd = 0 ∧ x.nd = 0) ∧ chkB x.rd x.nd n = 0
  | [], k, _, x, hx => by cases hx
  | y :: r, k, h, x, hx => by
    simp only [allowB, Bool.and_eq_true, decide_eq_true_eq] at h
    rcases List.mem_cons.1 hx with rfl | hx
    · exact h.1
    · have := allow_mem r _ h.2 x hx
      exact ⟨by omega, this.2⟩
theorem entM_mem {m : PropM} : ∀ (k : Nat) (x : EntM), x ∈ entM m k → ∃ i, i < k ∧ x ∈ (m.ps i).list
  | 0, x, hx => by cases hx
  | k + 1, x, hx => by
    simp only [entM, List.mem_append] at hx
    rcases hx with hx | hx
    · obtain ⟨i, hi, h⟩ := entM_mem k x hx; exact ⟨i, by omega, h⟩
    · exact ⟨k, by omega, hx⟩
theorem ent_bound {m : PropM} (hm : m.ok) {k : Nat} {x : EntM} (hx : (entM m 7)[k]? = some x) : m.frm ≤ x.slot ∧ x.slot < 4096 := by
  obtain ⟨i, hi, h⟩ := entM_mem 7 x (List.mem_of_getElem? hx)
  have := allow_mem _ _ (hm.al i) x h
  exact ⟨this.1, this.2.1⟩
theorem lenOf_le {bg : Int} {E : List EntM} {n : Nat} (h : ∀ x ∈ E, (x.slot - bg + 1).toNat ≤ n) : lenOf bg E ≤ n := by
  unfold lenOf
  have key : ∀ (E : List EntM) (s : Nat), s ≤ n → (∀ x ∈ E, (x.slot - bg + 1).toNat ≤ n) → E.foldl (fun n x => max n (x.slot - bg + 1).toNat) s ≤ n := by
    intro E
    induction E with
    | nil => intro s hs _; exact hs
    | cons x r ih => intro s hs hx; simp only [List.foldl_cons]; exact ih _ (by have := hx x (List.mem_cons_self ..); omega) fun y hy => hx y (List.mem_cons_of_mem _ hy)
  exact key E 0 (by omega) h
theorem lenOf_bound {m : PropM} (hm : m.ok) (k : Nat) : lenOf (begM m) ((entM m 7).take k) ≤ 4096 := by
  refine lenOf_le fun x hx => ?_
  obtain ⟨i, hi⟩ := List.getElem?_of_mem (List.mem_of_mem_take hx)
  have := ent_bound hm hi
  have := hm.f0
  unfold begM; omega
theorem take_next {α : Type} {l : List α} {k : Nat} {y : α} (h : l[k]? = some y) : l.take (k + 1) = l.take k ++ [y] := by rw [List.take_add_one, h]; rfl
end C14
