/- An abstract machine for Go, part 9: append joined; len, make, maps, texts and bytes. -/
import Derived.Test.YtpagkfbpgppeiaaAmh
namespace Go.AM

section
variable {P : Program} {R : Ren} {h h' : Heap} {w w' : World}

theorem ArrR.list2 {X : Value → Value → Prop} {a a' : Array Value} (h : ArrR X a a') {u v : Value} (e : a.toList = [u, v]) : ∃ u' v', a' = #[u', v'] ∧ X u u' ∧ X v v' := by
  obtain ⟨l⟩ := a
  obtain ⟨l'⟩ := a'
  simp only at e; subst e
  have hs := h.1
  match l', hs with
  | [u', v'], _ => exact ⟨u', v', rfl, h.2 0 _ _ (by simp) (by simp), h.2 1 _ _ (by simp) (by simp)⟩

theorem toList2 {α : Type} {a : Array α} {u v : α} (e : a.toList = [u, v]) : a = #[u, v] := by
  obtain ⟨l⟩ := a; simp only at e; subst e; rfl

set_option maxHeartbeats 2000000 in
theorem storeN_nil {h h1 : Heap} {a : Addr} (hst1 : storeN h a (#[] : Array Value).toList = some h1) : h1 = h := by
  unfold storeN at hst1
  split at hst1
  · rename_i c1 e1 f1 hc1
    split at hst1
    · cases hst1
      apply Array.ext_getElem?
      intro j
      rw [Array.getElem?_setIfInBounds]
      split
      · rename_i ej; subst ej
        have := (Array.getElem?_eq_some_iff.1 hc1).1
        simp only [this, if_true, splice]
        exact hc1.symm
      · rfl
    · cases hst1
  · cases hst1

theorem appendA_sim (k : Rel P R (hget h) w) {argTypes : Array TypeId} {ty : TypeId} {args args' : Array Value} (ha : ArrR (VR R) args args') {v : Value} (hv : appendA P h argTypes args = some (v, h')) :
    StepSim P R h w (Builtin.append_ argTypes ty args') v h' := by
  have kd : Rel P R (hget h) w.drew := k.of_heap rfl
  unfold appendA at hv
  split at hv
  · rename_i st xt base n cap xb m c ht1 ht2
    obtain ⟨s', x', rfl, hs, hx⟩ := ha.list2 ht2
    have hat := toList2 ht1
    subst hat
    split at hv
    · cases hv
    rename_i hst
    have hst : st = xt := by simpa using hst
    subst hst
    split at hv
    · rename_i e hu
      split at hv
      · rename_i i z hi hz
        split at hv
        · cases hv
        rename_i hsz
        have hs0 : i.size ≠ 0 := fun q => hsz (.inl q)
        have hzs : z.cells.size = i.size := Decidable.byContradiction fun q => hsz (.inr q)
        obtain ⟨_, _, i2, hi2, hiz⟩ := zeroA_run (P := P) (R := R) (w := w) hz
        rw [hi] at hi2; cases hi2
        split at hv
        · cases hv
        rename_i news hn
        obtain ⟨hlen, news', hnx, hrn, hsn⟩ := newsA_sim (P := P) k hx hn
        have hn1 := hnx w rfl
        have hn2 := hnx w.drew rfl
        split at hv
        · -- a nil slice
          split at hv
          · cases hv
          rename_i hnc
          have hn0 : n = 0 := Decidable.byContradiction fun q => hnc (.inl q)
          have hc0 : cap = 0 := Decidable.byContradiction fun q => hnc (.inr q)
          subst hn0 hc0
          rw [VR_nilslice] at hs
          subst hs
          split at hv
          · rename_i hm
            cases hv; subst hm
            exact .pure k (append_run_nil hu hi hlen hn1) (by simp)
          · rename_i hm
            split at hv
            · rename_i hb
              cases hv
              have := append_grow_sim (ty := ty) (b := none) (n := 0) (cap := 0) (olds := #[]) (olds' := #[]) k hu hi hiz hs0 hlen (by simp [Builtin.firstCells]) hn2 (ArrR.empty _) hrn (by simp) hsn
                (by omega) (by omega) (by simpa using hb.1) hzs
              simpa using this
            · cases hv
        · rename_i a
          rw [VR_slice] at hs
          obtain ⟨a', cap', rfl, hq⟩ := hs
          split at hv
          · cases hv
          rename_i hd
          rcases hq.symm with hg | ⟨hsa, hca⟩
          · obtain ⟨g1, rfl, rfl, rfl, g5, g6⟩ := hg
            split at hv
            · rename_i hroom
              simp only [Option.map_eq_some_iff, Prod.mk.injEq] at hv
              obtain ⟨h1, hst1, rfl, rfl⟩ := hv
              have hm0 : m = 0 := by omega
              subst hm0
              have hnews : news = #[] := Array.eq_empty_of_size_eq_zero (by omega)
              have hnews' : news' = #[] := Array.eq_empty_of_size_eq_zero (by rw [hrn.1]; omega)
              subst hnews hnews'
              have hh := storeN_nil hst1
              subst hh
              refine .pure k (append_run_room hu hi hlen hn1 (by omega) (by simp [storeCells])) ?_
              rw [VR_slice]
              exact ⟨a', 0, rfl, .inr ⟨g1, rfl, rfl, rfl, g5, g6⟩⟩
            · split at hv
              · rename_i hb
                obtain ⟨hm0, hb1, hb2⟩ := hb
                split at hv
                · cases hv
                rename_i old hold
                have : old = #[] := by
                  obtain ⟨c0, e0, f0, _, _, q3, q4⟩ := loadN_inv hold
                  subst q4; simp; omega
                subst this
                have hplain := append_grow_sim (ty := ty) (b := some a') (n := 0) (cap := 0) (olds := #[]) (olds' := #[]) k hu hi hiz hs0 hlen (by simp [Builtin.firstCells, loadCells, loadCellsFrom]) hn2 (ArrR.empty _) hrn (by simp) hsn
                  (by omega) hb2 hb1 hzs
                split at hv
                · cases hv; exact hplain
                · split at hv
                  · cases hv; exact hplain
                  · rename_i hx; exact absurd ⟨rfl, g5⟩ hx
              · cases hv
          have hnd : R.dead a.block = false := notdead k (by simpa using hd)
          have hcc : cap ≤ cap' := by rcases hca with q | ⟨_, _, q⟩ | q; omega; exact q.2.2.1; rw [hnd] at q; cases q
          obtain ⟨hmp, hoff⟩ : R.map a.block = some a'.block ∧ (a'.off = a.off ∨ (n = 0 ∧ cap' = 0 ∧ R.slack a.block ≠ none)) := by
            rcases hsa.2.2 with q | q
            · rw [hnd] at q; cases q
            · exact q
          split at hv
          · -- room
            rename_i hroom
            simp only [Option.map_eq_some_iff, Prod.mk.injEq] at hv
            obtain ⟨h1, hst1, rfl, rfl⟩ := hv
            by_cases hz0 : n = 0 ∧ cap' = 0
            · have hm0 : m = 0 := by omega
              subst hm0
              have hnews : news = #[] := Array.eq_empty_of_size_eq_zero (by omega)
              have hnews' : news' = #[] := Array.eq_empty_of_size_eq_zero (by rw [hrn.1]; omega)
              subst hnews hnews'
              have hh := storeN_nil hst1
              subst hh
              refine .pure k (append_run_room hu hi hlen hn1 (by omega) (by simp [storeCells])) ?_
              rw [VR_slice]
              refine ⟨a', cap', rfl, .inl ⟨⟨hsa.1, hsa.2.1, .inr ⟨hmp, hoff.imp id fun q => ⟨by omega, hz0.2, q.2.2⟩⟩⟩, hca⟩⟩
            · have har : AR R a a' := hsa.ar hz0
              obtain ⟨w', g1, g2⟩ := storeN_sim (P := P) (vs' := news'.toList) k (har.add (n * i.size)) (by simpa using hrn) hst1
              refine ⟨R, w', .slice (some a') (n + m) cap', append_run_room hu hi hlen hn1 (by omega) g1, ?_, g2⟩
              rw [VR_slice]
              refine ⟨a', cap', rfl, .inl ⟨⟨hsa.1, hsa.2.1, .inr ⟨hmp, ?_⟩⟩, hca⟩⟩
              rcases hoff with q | q
              · exact .inl q
              · exact absurd ⟨q.1, q.2.1⟩ hz0
          · rename_i hroom
            split at hv
            · rename_i hb
              obtain ⟨hm0, hb1, hb2⟩ := hb
              split at hv
              · cases hv
              rename_i old hold
              have hz0 : ∃ olds', (∀ w2 : World, w2.heap = w.heap → (loadCells a' (n * i.size)).run P w2 = .ok olds' w2) ∧ ArrR (VR R) old olds' ∧ old.size = n * i.size := by
                by_cases hn0 : n = 0
                · subst hn0
                  obtain ⟨c0, e0, f0, _, _, q3, q4⟩ := loadN_inv hold
                  have : old = #[] := by subst q4; simp; omega
                  subst this
                  exact ⟨#[], fun _ _ => by simp [loadCells, loadCellsFrom], ArrR.empty _, by simp⟩
                · exact loadN_sim (P := P) k (hsa.ar (by omega)) hold
              obtain ⟨olds', ho, hro, hso⟩ := hz0
              have hplain : ∀ (hcq : cap' = cap), StepSim P R h w (Builtin.append_ #[st, st] ty #[.slice (some a') n cap', x']) (.slice (some ⟨h.size, 0, none⟩) (n + m) (n + m)) (h.push (.cells (old ++ news) e (1, 1))) := fun hcq =>
                append_grow_sim (ty := ty) (b := some a') k hu hi hiz hs0 hlen (by simpa [Builtin.firstCells] using ho w.drew rfl) hn2 hro hrn hso hsn (by omega) hb2 hb1 hzs
              split at hv
              · rename_i hse
                cases hv
                apply hplain
                have := (slack_map k hmp).1 hse
                rcases hca with q | ⟨_, _, q⟩ | q
                · exact q
                · rw [this] at q; cases q.1
                · rw [hnd] at q; cases q
              · rename_i e0 hse
                split at hv
                · rename_i hexact
                  cases hv
                  apply hplain
                  rcases hca with q | ⟨_, _, q⟩ | q
                  · exact q
                  · exact absurd hexact q.2.1
                  · rw [hnd] at q; cases q
                · rename_i hexact
                  split at hv
                  · rename_i hkill
                    cases hv
                    obtain ⟨ha0, hse2, hone⟩ := hkill
                    by_cases hnz : n = 0 ∧ cap' = 0
                    · exact absurd ⟨by omega, ha0⟩ hexact
                    · have ha0' : a'.off = 0 := by
                        rcases hoff with q | q
                        · omega
                        · exact absurd ⟨q.1, q.2.1⟩ hnz
                      refine append_kill_sim (ty := ty) (cap := cap) k hu hi hiz hs0 hmp ha0 ha0' hsa.2.1 hse hse2 ?_ hlen (ho w rfl) (ho w.drew rfl) hn1 hn2 hro hrn hso hsn hold hone (by omega) hb2 hb1 hzs
                      intro r hr
                      rcases hca with q | ⟨z1, r1, q⟩ | q
                      · exact .inr q
                      · rw [hr] at q
                        obtain ⟨q0, _, _, q3⟩ := q
                        cases q0
                        exact .inl (by omega)
                      · rw [hnd] at q; cases q
                  · cases hv
            · cases hv
      · cases hv
    · cases hv
  · cases hv
end
end Go.AM
