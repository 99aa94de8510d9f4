/- The function over the entries that were told. -/
import Derived.Test.YtpagkfbpgppeiaaMe
import Derived.KernelRfl
open Go Go.AM Go.Proofs
namespace C14
theorem agg30 : isAggA Try.prog 30 = some false := by kernel_rfl
theorem agg34 : isAggA Try.prog 34 = some false := by kernel_rfl
theorem entM_pre (m : PropM) {k : Nat} : ∀ n, k ≤ n → ∃ r, entM m n = entM m k ++ r
  | 0, h => ⟨[], by rw [show k = 0 by omega]; simp⟩
  | n + 1, h => by
    by_cases e : k = n + 1
    · exact ⟨[], by rw [e]; simp⟩
    · obtain ⟨r, hr⟩ := entM_pre m n (k := k) (by omega)
      exact ⟨r ++ (m.ps n).list, by simp only [entM, hr, List.append_assoc]⟩
theorem entM_at {m : PropM} {k j : Nat} {x : EntM} (hk : k < 7) (hx : (m.ps k).list[j]? = some x) : (entM m 7)[(entM m k).length + j]? = some x := by
  obtain ⟨r, hr⟩ := entM_pre m (k := k + 1) 7 (by omega)
  have hj := (List.getElem?_eq_some_iff.1 hx).1
  rw [hr]; simp only [entM]
  rw [List.append_assoc, List.getElem?_append_right (by omega), Nat.add_sub_cancel_left, List.getElem?_append_left hj]; exact hx
theorem entM_next (m : PropM) {k : Int} (h : 0 ≤ k) : (entM m (k + 1).toNat).length = (entM m k.toNat).length + (m.ps k.toNat).list.length := by
  rw [show (k + 1).toNat = k.toNat + 1 by omega]; simp [entM]
set_option maxHeartbeats 4000000 in
theorem entries_fn (h : Heap) (t : Nat) : WCall Try.prog 36 #[(vP t 0)] h (fun v h1 => ∃ b, v = .func (.func 46) #[] #[.pointer (some ⟨b, 0, none⟩)] ∧ h1[b]? = some (.cells #[.pointer (some ⟨t, 0, none⟩)] 30 (0, 0)) ∧ Ext h h1 ∧ h.size ≤ b) := by
  obtain ⟨b572, eb573⟩ : ∃ zq, zq = h.size := ⟨_, rfl⟩
  obtain ⟨h570, e571⟩ : ∃ zq, zq = h.push (.cells #[(vP t 0)] 30 (0, 0)) := ⟨_, rfl⟩
  have f574 := push_new e571
  rw [← eb573] at f574
  have x575 : Ext h h570 := by rw [e571]; exact Ext.push _ _
  have o576 : h.size ≤ b572 := by have := (Ext.refl h).size; omega
  have x577 := (Ext.refl h).trans x575
  exact hCall_ev [evA 0 0 eb573 e571] [] (Value.func (.func 46) #[] #[(vP b572 0)]) h570 ⟨_, rfl, f574, x577, o576⟩
set_option maxHeartbeats 4000000 in
theorem entries_it (h : Heap) {F : Nat → Prop} {t : Nat} {m : PropM} (hT : PropAt h F t m) (hm : m.ok) (bx : Nat) (hx : h[bx]? = some (.cells #[.pointer (some ⟨t, 0, none⟩)] 30 (0, 0))) (l : Nat) (I : Nat → (Nat → Prop) → Heap → Prop) (E : Heap → Prop) (D0 : Nat → Prop) (hF : ∀ b, F b → ¬ D0 b) (hB : ¬ D0 bx) (hX : ∀ k D h' h'', I k D h' → Ext h' h'' → I k D h'') (hy : ∀ k y D h', (entM m 7)[k]? = some y → I k D h' → ∃ b h'' D', SoundYield Try.prog l #[(Value.agg #[(vI (y.slot)), (vI (y.rd)), (vI (y.nd)), (vS y.val)])] h' (.bool b) h'' ∧ Chg D h' h'' ∧ (∀ z, D' z → D z ∨ h'.size ≤ z) ∧ (if b = true then I (k + 1) D' h'' else E h'')) (h0 : I 0 D0 h) : WCall Try.prog 46 #[(Value.func (.yield l) #[] #[]), (vP bx 0)] h (fun _ h1 => Chg D0 h h1 ∧ ((∃ D, I (entM m 7).length D h1 ∧ ∀ z, D z → D0 z ∨ h.size ≤ z) ∨ E h1)) := by
  obtain ⟨ra, T⟩ := hT
  have hrow : h[t]? = some (.cells #[(vI (m.n)), (vI (m.frm)), (vI (m.rd)), (vI (m.nd)), (Value.slice (ra 0).1 ((m.ps 0).list.length) ((ra 0).2)), (vI ((m.ps 0).upto)), (vB (m.ps 0).made), (Value.slice (ra 1).1 ((m.ps 1).list.length) ((ra 1).2)), (vI ((m.ps 1).upto)), (vB (m.ps 1).made), (Value.slice (ra 2).1 ((m.ps 2).list.length) ((ra 2).2)), (vI ((m.ps 2).upto)), (vB (m.ps 2).made), (Value.slice (ra 3).1 ((m.ps 3).list.length) ((ra 3).2)), (vI ((m.ps 3).upto)), (vB (m.ps 3).made), (Value.slice (ra 4).1 ((m.ps 4).list.length) ((ra 4).2)), (vI ((m.ps 4).upto)), (vB (m.ps 4).made), (Value.slice (ra 5).1 ((m.ps 5).list.length) ((ra 5).2)), (vI ((m.ps 5).upto)), (vB (m.ps 5).made), (Value.slice (ra 6).1 ((m.ps 6).list.length) ((ra 6).2)), (vI ((m.ps 6).upto)), (vB (m.ps 6).made)] 69 (0, 0)) := T.row
  have hlen : ∀ i, ((m.ps i).list.length : Int) ≤ 4096 := fun i => by have := allow_len _ _ (hm.al i) hm.f1; have := hm.f0; omega
  refine wcall_by fun K hK => ?_
  refine wcall_at { tmps := #[(Value.func (.yield l) #[] #[]), (vP bx 0), vZ, vZ, vZ, vZ, vZ, vZ, vZ, vZ, vZ, vZ, vZ, vZ, vZ, vZ, vZ, vZ, vZ, vZ, vZ, vZ, vZ, vZ, vZ, vZ, vZ], defers := [] } (by kernel_rfl) ?_
  refine wc_seq' (subc (bodyOf Try.prog 46) [0]) (subc (bodyOf Try.prog 46) [1]) (by kernel_rfl) ?_
  refine wc_ev [evC 0 0 0 agg30 hx, evV 0 3 (vA #[(Value.slice (ra 0).1 ((m.ps 0).list.length) ((ra 0).2)), (vI ((m.ps 0).upto)), (vB (m.ps 0).made), (Value.slice (ra 1).1 ((m.ps 1).list.length) ((ra 1).2)), (vI ((m.ps 1).upto)), (vB (m.ps 1).made), (Value.slice (ra 2).1 ((m.ps 2).list.length) ((ra 2).2)), (vI ((m.ps 2).upto)), (vB (m.ps 2).made), (Value.slice (ra 3).1 ((m.ps 3).list.length) ((ra 3).2)), (vI ((m.ps 3).upto)), (vB (m.ps 3).made), (Value.slice (ra 4).1 ((m.ps 4).list.length) ((ra 4).2)), (vI ((m.ps 4).upto)), (vB (m.ps 4).made), (Value.slice (ra 5).1 ((m.ps 5).list.length) ((ra 5).2)), (vI ((m.ps 5).upto)), (vB (m.ps 5).made), (Value.slice (ra 6).1 ((m.ps 6).list.length) ((ra 6).2)), (vI ((m.ps 6).upto)), (vB (m.ps 6).made)]) (show loadT Try.prog h 67 (vP t 4) = some (vA #[(Value.slice (ra 0).1 ((m.ps 0).list.length) ((ra 0).2)), (vI ((m.ps 0).upto)), (vB (m.ps 0).made), (Value.slice (ra 1).1 ((m.ps 1).list.length) ((ra 1).2)), (vI ((m.ps 1).upto)), (vB (m.ps 1).made), (Value.slice (ra 2).1 ((m.ps 2).list.length) ((ra 2).2)), (vI ((m.ps 2).upto)), (vB (m.ps 2).made), (Value.slice (ra 3).1 ((m.ps 3).list.length) ((ra 3).2)), (vI ((m.ps 3).upto)), (vB (m.ps 3).made), (Value.slice (ra 4).1 ((m.ps 4).list.length) ((ra 4).2)), (vI ((m.ps 4).upto)), (vB (m.ps 4).made), (Value.slice (ra 5).1 ((m.ps 5).list.length) ((ra 5).2)), (vI ((m.ps 5).upto)), (vB (m.ps 5).made), (Value.slice (ra 6).1 ((m.ps 6).list.length) ((ra 6).2)), (vI ((m.ps 6).upto)), (vB (m.ps 6).made)]) from load_agg agg67 size67 hrow (by simp) (by kernel_rfl))] .normal h [(7, (vP t 0)), (8, (vP t 0)), (9, (vP t 4)), (10, (vA #[(Value.slice (ra 0).1 ((m.ps 0).list.length) ((ra 0).2)), (vI ((m.ps 0).upto)), (vB (m.ps 0).made), (Value.slice (ra 1).1 ((m.ps 1).list.length) ((ra 1).2)), (vI ((m.ps 1).upto)), (vB (m.ps 1).made), (Value.slice (ra 2).1 ((m.ps 2).list.length) ((ra 2).2)), (vI ((m.ps 2).upto)), (vB (m.ps 2).made), (Value.slice (ra 3).1 ((m.ps 3).list.length) ((ra 3).2)), (vI ((m.ps 3).upto)), (vB (m.ps 3).made), (Value.slice (ra 4).1 ((m.ps 4).list.length) ((ra 4).2)), (vI ((m.ps 4).upto)), (vB (m.ps 4).made), (Value.slice (ra 5).1 ((m.ps 5).list.length) ((ra 5).2)), (vI ((m.ps 5).upto)), (vB (m.ps 5).made), (Value.slice (ra 6).1 ((m.ps 6).list.length) ((ra 6).2)), (vI ((m.ps 6).upto)), (vB (m.ps 6).made)])), (11, (vI 0))] ?_
  refine wc_block' 0 (subc (bodyOf Try.prog 46) [1, 0]) (by kernel_rfl) ?_
  refine wc_loop' (subc (bodyOf Try.prog 46) [1, 0, 0]) (by kernel_rfl) (fun n' a' h' => ∃ (k : Int) (DD : Nat → Prop) (g0 : Nat → Value), a' = { tmps := #[(Value.func (.yield l) #[] #[]), (vP bx 0), vZ, vZ, (g0 4), vZ, (g0 6), (vP t 0), (vP t 0), (vP t 4), (vA #[(Value.slice (ra 0).1 ((m.ps 0).list.length) ((ra 0).2)), (vI ((m.ps 0).upto)), (vB (m.ps 0).made), (Value.slice (ra 1).1 ((m.ps 1).list.length) ((ra 1).2)), (vI ((m.ps 1).upto)), (vB (m.ps 1).made), (Value.slice (ra 2).1 ((m.ps 2).list.length) ((ra 2).2)), (vI ((m.ps 2).upto)), (vB (m.ps 2).made), (Value.slice (ra 3).1 ((m.ps 3).list.length) ((ra 3).2)), (vI ((m.ps 3).upto)), (vB (m.ps 3).made), (Value.slice (ra 4).1 ((m.ps 4).list.length) ((ra 4).2)), (vI ((m.ps 4).upto)), (vB (m.ps 4).made), (Value.slice (ra 5).1 ((m.ps 5).list.length) ((ra 5).2)), (vI ((m.ps 5).upto)), (vB (m.ps 5).made), (Value.slice (ra 6).1 ((m.ps 6).list.length) ((ra 6).2)), (vI ((m.ps 6).upto)), (vB (m.ps 6).made)]), (vI k), (g0 12), (g0 13), (g0 14), (g0 15), (g0 16), (g0 17), (g0 18), (g0 19), (g0 20), (g0 21), (g0 22), (g0 23), (g0 24), (g0 25), (g0 26)], defers := [] } ∧ Chg D0 h h' ∧ n' = 7 - k.toNat ∧ (0 ≤ k ∧ k ≤ 7) ∧ I ((entM m k.toNat).length) DD h' ∧ (∀ z, DD z → D0 z ∨ h.size ≤ z)) ?_ (7 - (0 : Int).toNat) ⟨0, D0, (fun i => ([vU, vU, vU, vU, vZ, vU, vZ, vU, vU, vU, vU, vU, vZ, vZ, vZ, vZ, vZ, vZ, vZ, vZ, vZ, vZ, vZ, vZ, vZ, vZ, vZ] : List Value).getD i undef), by as_aux_lemma => kernel_rfl, (Chg.refl (O := D0) h), rfl, by omega, (hX _ _ _ _ h0 (Ext.refl h)), (fun z hz => .inl hz)⟩
  rintro n' _ h579 ⟨k, DD, g0, rfl, x584, m583, i580, i581, i582⟩
  refine wc_seq' (subc (bodyOf Try.prog 46) [1, 0, 0, 0]) (subc (bodyOf Try.prog 46) [1, 0, 0, 1]) (by kernel_rfl) ?_
  by_cases c585 : ((k) : Int) < 7
  · refine wc_ev [ltT 1 0 3 c585] .normal h579 [(12, (vB true))] ?_
    refine wc_seq' (subc (bodyOf Try.prog 46) [1, 0, 0, 1, 0]) (subc (bodyOf Try.prog 46) [1, 0, 0, 1, 1]) (by kernel_rfl) ?_
    refine wc_ev [] .normal h579 [] ?_
    refine wc_seq' (subc (bodyOf Try.prog 46) [1, 0, 0, 1, 1, 0]) (subc (bodyOf Try.prog 46) [1, 0, 0, 1, 1, 1]) (by kernel_rfl) ?_
    refine wc_block' 1 (subc (bodyOf Try.prog 46) [1, 0, 0, 1, 1, 0, 0]) (by kernel_rfl) ?_
    refine wc_seq' (subc (bodyOf Try.prog 46) [1, 0, 0, 1, 1, 0, 0, 0]) (subc (bodyOf Try.prog 46) [1, 0, 0, 1, 1, 0, 0, 1]) (by kernel_rfl) ?_
    obtain ⟨b588, eb589⟩ : ∃ zq, zq = h579.size := ⟨_, rfl⟩
    obtain ⟨h586, e587⟩ : ∃ zq, zq = h579.push (.cells #[(Value.slice none 0 0), (vI 0), (vB false)] 66 (0, 0)) := ⟨_, rfl⟩
    have f590 := push_new e587
    rw [← eb589] at f590
    have x592 : Ext h579 h586 := by rw [e587]; exact Ext.push _ _
    have o593 : h.size ≤ b588 := by have := x584.size; omega
    have x594 := x584.trans (Chg.ext x592)
    have sx595 := (Ext.refl h579).trans x592
    have o596 : h579.size ≤ b588 := by have := (Ext.refl h579).size; omega
    obtain ⟨h597, e598⟩ : ∃ zq, zq = h586.setIfInBounds b588 (.cells #[(Value.slice (ra k.toNat).1 ((m.ps k.toNat).list.length) ((ra k.toNat).2)), (vI ((m.ps k.toNat).upto)), (vB (m.ps k.toNat).made)] 66 (0, 0)) := ⟨_, rfl⟩
    have f599 := set_same e598 f590
    have x601 := x594.then (Chg.set e598) (fun b hb => by subst hb; exact (.inr o593))
    have sx602 := Ext.setNew sx595 e598 o596
    refine wc_ev [evV 2 0 (vA #[(Value.slice (ra k.toNat).1 ((m.ps k.toNat).list.length) ((ra k.toNat).2)), (vI ((m.ps k.toNat).upto)), (vB (m.ps k.toNat).made)]) (show indexA Try.prog 67 (vA #[(Value.slice (ra 0).1 ((m.ps 0).list.length) ((ra 0).2)), (vI ((m.ps 0).upto)), (vB (m.ps 0).made), (Value.slice (ra 1).1 ((m.ps 1).list.length) ((ra 1).2)), (vI ((m.ps 1).upto)), (vB (m.ps 1).made), (Value.slice (ra 2).1 ((m.ps 2).list.length) ((ra 2).2)), (vI ((m.ps 2).upto)), (vB (m.ps 2).made), (Value.slice (ra 3).1 ((m.ps 3).list.length) ((ra 3).2)), (vI ((m.ps 3).upto)), (vB (m.ps 3).made), (Value.slice (ra 4).1 ((m.ps 4).list.length) ((ra 4).2)), (vI ((m.ps 4).upto)), (vB (m.ps 4).made), (Value.slice (ra 5).1 ((m.ps 5).list.length) ((ra 5).2)), (vI ((m.ps 5).upto)), (vB (m.ps 5).made), (Value.slice (ra 6).1 ((m.ps 6).list.length) ((ra 6).2)), (vI ((m.ps 6).upto)), (vB (m.ps 6).made)]) (vI k) = some (vA #[(Value.slice (ra k.toNat).1 ((m.ps k.toNat).list.length) ((ra k.toNat).2)), (vI ((m.ps k.toNat).upto)), (vB (m.ps k.toNat).made)]) from idx_ps (by omega) (by omega)), evA 2 1 eb589 e587, evUw 2 2 size66 f590 e598] .normal h597 [(13, (vA #[(Value.slice (ra k.toNat).1 ((m.ps k.toNat).list.length) ((ra k.toNat).2)), (vI ((m.ps k.toNat).upto)), (vB (m.ps k.toNat).made)])), (4, (vP b588 0))] ?_
    refine wc_seq' (subc (bodyOf Try.prog 46) [1, 0, 0, 1, 1, 0, 0, 1, 0]) (subc (bodyOf Try.prog 46) [1, 0, 0, 1, 1, 0, 0, 1, 1]) (by kernel_rfl) ?_
    refine wc_ev [evC 3 1 0 agg34 f599] .normal h597 [(14, (vP b588 0)), (15, (Value.slice (ra k.toNat).1 ((m.ps k.toNat).list.length) ((ra k.toNat).2))), (16, (vI (((m.ps k.toNat).list.length : Nat)))), (17, (vI 0))] ?_
    refine wc_block' 2 (subc (bodyOf Try.prog 46) [1, 0, 0, 1, 1, 0, 0, 1, 1, 0]) (by kernel_rfl) ?_
    refine wc_loop' (subc (bodyOf Try.prog 46) [1, 0, 0, 1, 1, 0, 0, 1, 1, 0, 0]) (by kernel_rfl) (fun n' a' h' => ∃ (j : Int) (DD : Nat → Prop) (g1 : Nat → Value), a' = { tmps := #[(Value.func (.yield l) #[] #[]), (vP bx 0), vZ, vZ, (vP b588 0), vZ, (g1 6), (vP t 0), (vP t 0), (vP t 4), (vA #[(Value.slice (ra 0).1 ((m.ps 0).list.length) ((ra 0).2)), (vI ((m.ps 0).upto)), (vB (m.ps 0).made), (Value.slice (ra 1).1 ((m.ps 1).list.length) ((ra 1).2)), (vI ((m.ps 1).upto)), (vB (m.ps 1).made), (Value.slice (ra 2).1 ((m.ps 2).list.length) ((ra 2).2)), (vI ((m.ps 2).upto)), (vB (m.ps 2).made), (Value.slice (ra 3).1 ((m.ps 3).list.length) ((ra 3).2)), (vI ((m.ps 3).upto)), (vB (m.ps 3).made), (Value.slice (ra 4).1 ((m.ps 4).list.length) ((ra 4).2)), (vI ((m.ps 4).upto)), (vB (m.ps 4).made), (Value.slice (ra 5).1 ((m.ps 5).list.length) ((ra 5).2)), (vI ((m.ps 5).upto)), (vB (m.ps 5).made), (Value.slice (ra 6).1 ((m.ps 6).list.length) ((ra 6).2)), (vI ((m.ps 6).upto)), (vB (m.ps 6).made)]), (vI k), (vB true), (vA #[(Value.slice (ra k.toNat).1 ((m.ps k.toNat).list.length) ((ra k.toNat).2)), (vI ((m.ps k.toNat).upto)), (vB (m.ps k.toNat).made)]), (vP b588 0), (Value.slice (ra k.toNat).1 ((m.ps k.toNat).list.length) ((ra k.toNat).2)), (vI (((m.ps k.toNat).list.length : Nat))), (vI j), (g1 18), (g1 19), (g1 20), (g1 21), (g1 22), (g1 23), (g1 24), (g1 25), (g0 26)], defers := [] } ∧ Chg D0 h h' ∧ n' = (m.ps k.toNat).list.length - j.toNat ∧ (0 ≤ j ∧ j ≤ (m.ps k.toNat).list.length) ∧ I ((entM m k.toNat).length + j.toNat) DD h' ∧ (∀ z, DD z → D0 z ∨ h.size ≤ z)) ?_ ((m.ps k.toNat).list.length - (0 : Int).toNat) ⟨0, DD, (fun i => ([vU, vU, vU, vU, vU, vU, (g0 6), vU, vU, vU, vU, vU, vU, vU, vU, vU, vU, vU, (g0 18), (g0 19), (g0 20), (g0 21), (g0 22), (g0 23), (g0 24), (g0 25)] : List Value).getD i undef), by as_aux_lemma => kernel_rfl, x601, rfl, by omega, (hX _ _ _ _ i581 sx602), i582⟩
    rintro n' _ h604 ⟨j, DD, g1, rfl, x609, m608, i605, i606, i607⟩
    have hlk := hlen k.toNat
    by_cases c610 : ((j) : Int) < (((m.ps k.toNat).list.length : Nat))
    · obtain ⟨i611, v612, e613, l614, g615⟩ := list_at (m.ps k.toNat).list (e := (j)) (by omega) (by first | omega | (simp only [List.length_set, List.length_append, List.length_singleton]; omega))
      obtain ⟨b616, o617, k618, q619, a620⟩ := ((T.lists k.toNat (by omega)).slice entc_size).at entc_size g615
      obtain ⟨b624, eb625⟩ : ∃ zq, zq = h604.size := ⟨_, rfl⟩
      obtain ⟨h622, e623⟩ : ∃ zq, zq = h604.push (.cells #[(vI 0), (vI 0), (vI 0), (vS .empty)] 38 (0, 0)) := ⟨_, rfl⟩
      have f626 := push_new e623
      rw [← eb625] at f626
      have x629 : Ext h604 h622 := by rw [e623]; exact Ext.push _ _
      have o630 : h.size ≤ b624 := by have := x609.size; omega
      have x631 := x609.trans (Chg.ext x629)
      have sx632 := (Ext.refl h604).trans x629
      have o633 : h604.size ≤ b624 := by have := (Ext.refl h604).size; omega
      obtain ⟨h634, e635⟩ : ∃ zq, zq = h622.setIfInBounds b624 (.cells #[(vI (v612.slot)), (vI (v612.rd)), (vI (v612.nd)), (vS v612.val)] 38 (0, 0)) := ⟨_, rfl⟩
      have f636 := set_same e635 f626
      have x638 := x631.then (Chg.set e635) (fun b hb => by subst hb; exact (.inr o630))
      have sx639 := Ext.setNew sx632 e635 o633
      have yk := entM_at (m := m) (k := k.toNat) (j := j.toNat) (by omega) (by rw [show j.toNat = i611 by omega]; exact g615)
      obtain ⟨bb640, h641, D642, s643, c644, n645, q646⟩ := hy ((entM m k.toNat).length + j.toNat) v612 _ h634 yk (hX _ _ _ _ i606 sx639)
      have z648 : h.size ≤ h634.size := x638.size
      have x647 := x638.then c644 i607
      have d649 : ∀ z, D642 z → D0 z ∨ h.size ≤ z := fun z hz => (n645 z hz).elim (i607 z) (fun w => .inr (by omega))
      rcases bb640 with _ | _
      · rw [if_neg (by decide)] at q646
        refine wc_ev [ltT 4 0 3 c610, evV 5 0 (vP b616 o617) (show indexAddrA Try.prog 34 (Value.slice (ra k.toNat).1 ((m.ps k.toNat).list.length) ((ra k.toNat).2)) (vI j) = some (vP b616 o617) from a620 und34 size38 e613), evV 5 1 (vA #[(vI v612.slot), (vI v612.rd), (vI v612.nd), (vS v612.val)]) (show loadT Try.prog h604 38 (vP b616 o617) = some (vA #[(vI v612.slot), (vI v612.rd), (vI v612.nd), (vS v612.val)]) from (k618.keep fun b r hb q => x609.same b r q ((fun b hb => (fun b hb => hF b ((T.foot b).2 (.inr ⟨k.toNat, by omega, hb⟩))) b (blk_of hb q619)) b hb)).agg (j := 0) agg38 size38 (show 0 + 4 ≤ 4 by decide) (by kernel_rfl)), evA 5 2 eb625 e623, evUw 5 3 size38 f626 e635, evLw 6 1 agg38 size38 f636, evH 6 2 (vB false) h641 (show SoundYield Try.prog l #[(vA #[(vI v612.slot), (vI v612.rd), (vI v612.nd), (vS v612.val)])] h634 (vB false) h641 from s643)] .ret h641 [(18, (vB true)), (19, (vP b616 o617)), (20, (vA #[(vI v612.slot), (vI v612.rd), (vI v612.nd), (vS v612.val)])), (6, (vP b624 0)), (21, (Value.func (.yield l) #[] #[])), (22, (vA #[(vI v612.slot), (vI v612.rd), (vI v612.nd), (vS v612.val)])), (23, (vB false)), (24, (vB true))] ?_
        exact end_ev [] vZ (hK _ _ (⟨x647, .inr q646⟩))
      · rw [if_pos rfl] at q646
        refine wc_ev [ltT 4 0 3 c610, evV 5 0 (vP b616 o617) (show indexAddrA Try.prog 34 (Value.slice (ra k.toNat).1 ((m.ps k.toNat).list.length) ((ra k.toNat).2)) (vI j) = some (vP b616 o617) from a620 und34 size38 e613), evV 5 1 (vA #[(vI v612.slot), (vI v612.rd), (vI v612.nd), (vS v612.val)]) (show loadT Try.prog h604 38 (vP b616 o617) = some (vA #[(vI v612.slot), (vI v612.rd), (vI v612.nd), (vS v612.val)]) from (k618.keep fun b r hb q => x609.same b r q ((fun b hb => (fun b hb => hF b ((T.foot b).2 (.inr ⟨k.toNat, by omega, hb⟩))) b (blk_of hb q619)) b hb)).agg (j := 0) agg38 size38 (show 0 + 4 ≤ 4 by decide) (by kernel_rfl)), evA 5 2 eb625 e623, evUw 5 3 size38 f626 e635, evLw 6 1 agg38 size38 f636, evH 6 2 (vB true) h641 (show SoundYield Try.prog l #[(vA #[(vI v612.slot), (vI v612.rd), (vI v612.nd), (vS v612.val)])] h634 (vB true) h641 from s643), evV 7 0 (vI ((j) + 1)) (show binA Try.prog .add 3 (vI j) (vI 1) = some (vI ((j) + 1)) from add_i64 (by omega) (by omega))] .normal h641 [(18, (vB true)), (19, (vP b616 o617)), (20, (vA #[(vI v612.slot), (vI v612.rd), (vI v612.nd), (vS v612.val)])), (6, (vP b624 0)), (21, (Value.func (.yield l) #[] #[])), (22, (vA #[(vI v612.slot), (vI v612.rd), (vI v612.nd), (vS v612.val)])), (23, (vB true)), (24, (vB false)), (25, (vI ((j) + 1))), (17, (vI ((j) + 1)))] ?_
        exact ⟨(m.ps k.toNat).list.length - (j + 1).toNat, by omega, ⟨j + 1, D642, (fun i => ([vU, vU, vU, vU, vU, vU, (vP b624 0), vU, vU, vU, vU, vU, vU, vU, vU, vU, vU, vU, (vB true), (vP b616 o617), (vA #[(vI v612.slot), (vI v612.rd), (vI v612.nd), (vS v612.val)]), (Value.func (.yield l) #[] #[]), (vA #[(vI v612.slot), (vI v612.rd), (vI v612.nd), (vS v612.val)]), (vB true), (vB false), (vI ((j) + 1))] : List Value).getD i undef), by as_aux_lemma => kernel_rfl, x647, rfl, by omega, (by have q := (hX _ _ _ _ q646 (Ext.refl h641)); rw [show (entM m k.toNat).length + j.toNat + 1 = (entM m k.toNat).length + (j + 1).toNat from (by omega)] at q; exact q), d649⟩⟩
    · refine wc_ev [ltF 4 0 3 c610] (.exit 2) h604 [(18, (vB false))] ?_
      refine wc_ev [evV 8 0 (vI ((k) + 1)) (show binA Try.prog .add 3 (vI k) (vI 1) = some (vI ((k) + 1)) from add_i64 (by omega) (by omega))] .normal h604 [(26, (vI ((k) + 1))), (11, (vI ((k) + 1)))] ?_
      exact ⟨7 - (k + 1).toNat, by omega, ⟨k + 1, DD, (fun i => ([vU, vU, vU, vU, (vP b588 0), vU, (g1 6), vU, vU, vU, vU, vU, (vB true), (vA #[(Value.slice (ra k.toNat).1 ((m.ps k.toNat).list.length) ((ra k.toNat).2)), (vI ((m.ps k.toNat).upto)), (vB (m.ps k.toNat).made)]), (vP b588 0), (Value.slice (ra k.toNat).1 ((m.ps k.toNat).list.length) ((ra k.toNat).2)), (vI (((m.ps k.toNat).list.length : Nat))), (vI j), (vB false), (g1 19), (g1 20), (g1 21), (g1 22), (g1 23), (g1 24), (g1 25), (vI ((k) + 1))] : List Value).getD i undef), by as_aux_lemma => kernel_rfl, x609, rfl, by omega, (by have q := (hX _ _ _ _ i606 (Ext.refl h604)); rw [show (entM m k.toNat).length + j.toNat = (entM m (k + 1).toNat).length from (by rw [entM_next m (by omega)]; omega)] at q; exact q), i607⟩⟩
  · refine wc_ev [ltF 1 0 3 c585] .normal h579 [(12, (vB false))] ?_
    refine wc_seq' (subc (bodyOf Try.prog 46) [1, 0, 0, 1, 0]) (subc (bodyOf Try.prog 46) [1, 0, 0, 1, 1]) (by kernel_rfl) ?_
    refine wc_ev [] (.exit 0) h579 [] ?_
    exact end_ev [] vZ (hK _ _ (⟨x584, .inl ⟨DD, (by have q := (hX _ _ _ _ i581 (Ext.refl h579)); rw [show k.toNat = 7 by omega] at q; exact q), i582⟩⟩))
end C14
