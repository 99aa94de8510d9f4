/- Stores as facts; the examples of the chapter hold. -/
import Derived.Test.YtciigibbgklcjaaDoorMe
import Derived.KernelRfl
open Go Go.AM Go.Proofs
namespace C08
theorem StAt.ne {T : TypeId} {h : Heap} {O : Nat → Prop} {t b : Nat} {m : Sto} {c : Array Value} {e : TypeId} {fr : Nat × Nat} (k : StAt T h O t m) (hb : h[b]? = some (.cells c e fr)) (he : T ≠ e) : ∀ z, O z → ¬ z = b := by
  rintro z hz rfl
  obtain ⟨mb, k⟩ := k
  rcases (k.foot z).1 hz with rfl | rfl
  · rw [k.row] at hb; cases hb; exact he rfl
  · exact k.map.ne hb rfl
theorem StAt.off {T : TypeId} {h : Heap} {O : Nat → Prop} {t : Nat} {m : Sto} {α : Type} {f : α → Array Value} {e : TypeId} {xs : List α} {v : Value} (k : StAt T h O t m) (k2 : OwnAt h e f xs v) (he : T ≠ e) : ∀ z, O z → ¬ blk v z := by
  intro z hz hb
  obtain ⟨mb, k⟩ := k
  rcases (k.foot z).1 hz with rfl | rfl
  · exact k2.ne k.row (Ne.symm he) hb rfl
  · exact MapAt.off k.map k2.celled z rfl hb
theorem put_facts (m : Sto) (k : ByteArray) (c : CntM) : (putE m k c = 0 ∨ putE m k c = 2 ∨ putE m k c = 4 ∨ putE m k c = 6 ∨ putE m k c = 14) := by
  unfold putE
  repeat' split
  all_goals simp
theorem get_facts (m : Sto) (k : ByteArray) : getE m k = 0 ∨ getE m k = 5 := by unfold getE; split <;> simp
theorem ap_facts (m : Sto) (k : ByteArray) (ph d : Int) : (getE m k = 0 → apSE m k ph d = appE (getC m k) ph d) ∧ (¬ getE m k = 0 → apSE m k ph d = 5) ∧ (apSE m k ph d = 0 → apSV m k ph d = (appM (getC m k) ph d).v ∧ getE m k = 0) ∧ (¬ apSE m k ph d = 0 → apSV m k ph d = 0) := by
  refine ⟨fun h => by unfold apSE; rw [if_pos h], fun h => by unfold apSE; rw [if_neg h], fun h => ⟨by unfold apSV; rw [if_pos h], ?_⟩, fun h => by unfold apSV; rw [if_neg h]⟩
  have := (apSE_zero h).1
  exact (getE_some this).1
theorem apSM_same {m : Sto} {k : ByteArray} {ph d : Int} (h : ¬ apSE m k ph d = 0) : apSM m k ph d = m := if_neg h
theorem putM_same {m : Sto} {k : ByteArray} {c : CntM} (h : ¬ putE m k c = 0) : putM m k c = m := if_neg h
theorem apSM_len (m : Sto) (k : ByteArray) (ph d : Int) : (apSM m k ph d).length = m.length := by unfold apSM; split; exact List.length_map ..; rfl
theorem keys_lens (m : Sto) : (ksL m).length = m.length := ksL_len m
theorem in_lens (m : Sto) (r0 r1 : ByteArray) : (inL m r0 r1).length ≤ m.length := by
  unfold inL; split
  · exact Nat.le_trans (List.length_filter_le _ _) (by rw [ksL_len]; exact Nat.le_refl _)
  · exact Nat.zero_le _
theorem key_get {m : Sto} {j : Nat} {k : ByteArray} (h : (ksL m)[j]? = some k) : getE m k = 0 := by
  cases q : findK m k with
  | none => exact absurd (List.mem_of_getElem? h) (findK_none.1 q)
  | some c => exact (getE_some q).1
set_option maxHeartbeats 4000000 in
theorem same_ok (h : Heap) (xs ys : List ByteArray) (sa sb : Option Addr) (ca cb : Nat) (hl : SliceAt h strc 1 xs (.slice sa xs.length ca)) (hm : SliceAt h strc 1 ys (.slice sb ys.length cb)) (hlen : xs.length ≤ 9223372036854775807) : WCall Tryd.prog 30 #[(Value.slice sa (xs.length) (ca)), (Value.slice sb (ys.length) (cb))] h (fun v h1 => v = .bool (decide (xs = ys)) ∧ h = h1) := by
  suffices H : ∀ K : Value → Heap → Prop, (∀ v h1, (fun v h1 => v = .bool (decide (xs = ys)) ∧ h = h1) v h1 → K v h1) → WCall Tryd.prog 30 #[(Value.slice sa (xs.length) (ca)), (Value.slice sb (ys.length) (cb))] h K from H _ fun _ _ q => q
  intro K hK
  refine wcall_at { tmps := #[(vL sa xs.length ca), (vL sb ys.length cb), vZ, vZ, vZ, vZ, vZ, vZ, vZ, vZ, vZ, vZ, vZ, vZ, vZ, vZ, vZ, vZ, vZ, vZ, vZ, vZ, vZ, vZ, vZ, vZ], defers := [] } (by kernel_rfl) ?_
  refine wc_seq' (subc (bodyOf Tryd.prog 30) [0]) (subc (bodyOf Tryd.prog 30) [1]) (by kernel_rfl) ?_
  refine wc_ev [] .normal h [(4, (vB false))] ?_
  refine wc_seq' (subc (bodyOf Tryd.prog 30) [1, 0]) (subc (bodyOf Tryd.prog 30) [1, 1]) (by kernel_rfl) ?_
  by_cases c1 : (((xs.length : Nat)) : Int) = ((ys.length : Nat))
  · refine wc_ev [neF 1 4 3 c1] .normal h [(6, (vL sa xs.length ca)), (7, (vI ((xs.length : Nat)))), (8, (vL sb ys.length cb)), (9, (vI ((ys.length : Nat)))), (10, (vB false))] ?_
    refine wc_seq' (subc (bodyOf Tryd.prog 30) [1, 1, 0]) (subc (bodyOf Tryd.prog 30) [1, 1, 1]) (by kernel_rfl) ?_
    refine wc_seq' (subc (bodyOf Tryd.prog 30) [1, 1, 0, 0]) (subc (bodyOf Tryd.prog 30) [1, 1, 0, 1]) (by kernel_rfl) ?_
    refine wc_ev [] .normal h [(5, (vI 0))] ?_
    refine wc_block' 0 (subc (bodyOf Tryd.prog 30) [1, 1, 0, 1, 0]) (by kernel_rfl) ?_
    refine wc_loop' (subc (bodyOf Tryd.prog 30) [1, 1, 0, 1, 0, 0]) (by kernel_rfl) (fun n' a' h' => ∃ (k : Int) (g0 : Nat → Value), a' = { tmps := #[(vL sa xs.length ca), (vL sb ys.length cb), vZ, vZ, (g0 4), (vI k), (vL sa xs.length ca), (vI ((xs.length : Nat))), (vL sb ys.length cb), (vI ((ys.length : Nat))), (vB false), (g0 11), (g0 12), (g0 13), (g0 14), (g0 15), (g0 16), (g0 17), (g0 18), (g0 19), (g0 20), (g0 21), (g0 22), (g0 23), (g0 24), (g0 25)], defers := [] } ∧ h = h' ∧ n' = xs.length - k.toNat ∧ (0 ≤ k ∧ k ≤ (xs.length : Nat)) ∧ xs.take k.toNat = ys.take k.toNat) ?_ (xs.length - (0 : Int).toNat) ⟨0, (fun i => ([vU, vU, vU, vU, (vB false), vU, vU, vU, vU, vU, vU, vZ, vZ, vZ, vZ, vZ, vZ, vZ, vZ, vZ, vZ, vZ, vZ, vZ, vZ, vZ] : List Value).getD i undef), by as_aux_lemma => kernel_rfl, rfl, rfl, by omega, rfl⟩
    rintro n' _ _ ⟨k, g0, rfl, rfl, m2, i3, i4⟩
    by_cases c5 : ((k) : Int) < ((xs.length : Nat))
    · obtain ⟨i6, v7, e8, l9, g10⟩ := list_at xs (e := (k)) (by omega) (by first | omega | (simp only [List.length_set, List.length_append, List.length_singleton]; omega))
      obtain ⟨b11, o12, k13, q14, a15⟩ := hl.at strc_size g10
      obtain ⟨i17, v18, e19, l20, g21⟩ := list_at ys (e := (k)) (by omega) (by first | omega | (simp only [List.length_set, List.length_append, List.length_singleton]; omega))
      obtain ⟨b22, o23, k24, q25, a26⟩ := hm.at strc_size g21
      by_cases c27 : (v7 : ByteArray) = v18
      · refine wc_ev [ltT 4 3 3 c5, evV 6 2 (vP b11 o12) (show indexAddrA Tryd.prog 29 (vL sa xs.length ca) (vI k) = some (vP b11 o12) from a15 und29 size9 e8), evV 6 3 (vS v7) (show loadT Tryd.prog h 9 (vP b11 o12) = some (vS v7) from (k13.keep fun b r _ q => (Ext.refl h) b r q).cell (j := 0) agg9 rfl), evV 6 6 (vP b22 o23) (show indexAddrA Tryd.prog 29 (vL sb ys.length cb) (vI k) = some (vP b22 o23) from a26 und29 size9 e19), evV 6 7 (vS v18) (show loadT Tryd.prog h 9 (vP b22 o23) = some (vS v18) from (k24.keep fun b r _ q => (Ext.refl h) b r q).cell (j := 0) agg9 rfl), snF 6 8 9 c27, evV 5 1 (vI ((k) + 1)) (show binA Tryd.prog .add 3 (vI k) (vI 1) = some (vI ((k) + 1)) from add_i64 (by omega) (by omega))] .normal h [(11, (vI k)), (12, (vL sa xs.length ca)), (13, (vI ((xs.length : Nat)))), (14, (vB true)), (17, (vL sa xs.length ca)), (18, (vI k)), (19, (vP b11 o12)), (20, (vS v7)), (21, (vL sb ys.length cb)), (22, (vI k)), (23, (vP b22 o23)), (24, (vS v18)), (25, (vB false)), (15, (vI k)), (16, (vI ((k) + 1))), (5, (vI ((k) + 1)))] ?_
        exact ⟨xs.length - (k + 1).toNat, by omega, ⟨k + 1, (fun i => ([vU, vU, vU, vU, (g0 4), vU, vU, vU, vU, vU, vU, (vI k), (vL sa xs.length ca), (vI ((xs.length : Nat))), (vB true), (vI k), (vI ((k) + 1)), (vL sa xs.length ca), (vI k), (vP b11 o12), (vS v7), (vL sb ys.length cb), (vI k), (vP b22 o23), (vS v18), (vB false)] : List Value).getD i undef), by as_aux_lemma => kernel_rfl, rfl, rfl, by omega, by rw [show (k + 1).toNat = i6 + 1 by omega, List.take_add_one, List.take_add_one, g10, show i6 = i17 by omega, g21, show i17 = k.toNat by omega, i4, show v7 = v18 from c27]⟩⟩
      · refine wc_ev [ltT 4 3 3 c5, evV 6 2 (vP b11 o12) (show indexAddrA Tryd.prog 29 (vL sa xs.length ca) (vI k) = some (vP b11 o12) from a15 und29 size9 e8), evV 6 3 (vS v7) (show loadT Tryd.prog h 9 (vP b11 o12) = some (vS v7) from (k13.keep fun b r _ q => (Ext.refl h) b r q).cell (j := 0) agg9 rfl), evV 6 6 (vP b22 o23) (show indexAddrA Tryd.prog 29 (vL sb ys.length cb) (vI k) = some (vP b22 o23) from a26 und29 size9 e19), evV 6 7 (vS v18) (show loadT Tryd.prog h 9 (vP b22 o23) = some (vS v18) from (k24.keep fun b r _ q => (Ext.refl h) b r q).cell (j := 0) agg9 rfl), snT 6 8 9 c27] .ret h [(11, (vI k)), (12, (vL sa xs.length ca)), (13, (vI ((xs.length : Nat)))), (14, (vB true)), (17, (vL sa xs.length ca)), (18, (vI k)), (19, (vP b11 o12)), (20, (vS v7)), (21, (vL sb ys.length cb)), (22, (vI k)), (23, (vP b22 o23)), (24, (vS v18)), (25, (vB true)), (4, (vB false))] ?_
        have n9 : ¬ xs = ys := by intro w; subst w; have e9 : i6 = i17 := (by omega); subst e9; rw [g10] at g21; cases g21; exact c27 rfl
        exact end_ev [] (vB false) (hK _ _ (⟨by rw [decide_eq_false n9], rfl⟩))
    · refine wc_ev [ltF 4 3 3 c5] (.exit 0) h [(11, (vI k)), (12, (vL sa xs.length ca)), (13, (vI ((xs.length : Nat)))), (14, (vB false))] ?_
      refine wc_ev [] .ret h [(4, (vB true))] ?_
      have e9 := i4
      rw [List.take_of_length_le (by omega), List.take_of_length_le (by omega)] at e9
      exact end_ev [] (vB true) (hK _ _ (⟨by rw [decide_eq_true e9], rfl⟩))
  · refine wc_ev [neT 1 4 3 c1] .ret h [(6, (vL sa xs.length ca)), (7, (vI ((xs.length : Nat)))), (8, (vL sb ys.length cb)), (9, (vI ((ys.length : Nat)))), (10, (vB true)), (4, (vB false))] ?_
    exact end_ev [] (vB false) (hK _ _ (⟨by rw [decide_eq_false (fun w => c1 (by rw [w]))], rfl⟩))
theorem sl_strs {h : Heap} {b n : Nat} {xs : List ByteArray} {c : Array Value} {e : TypeId} (k : h[b]? = some (.cells c e (0, 0))) (e1 : c = flat strc xs) (hn : xs.length = n) : SliceAt h strc 1 xs (.slice (some ⟨b, 0, none⟩) n n) := by
  subst hn
  refine .inr ⟨b, 0, xs.length, c, e, (0, 0), rfl, k, by decide, Nat.le_refl _, ?_, ?_⟩
  · rw [e1, flat_size strc_size]; omega
  · have : c.size = 0 + xs.length * 1 := by rw [e1, flat_size strc_size]; omega
    rw [← this, Array.extract_size]; exact e1
set_option maxRecDepth 10000 in
set_option maxHeartbeats 4000000 in
theorem works_ok (h : Heap)  : WCall Tryd.prog 11 #[] h (fun v h1 => v = .bool true ∧ Ext h h1) := by
  suffices H : ∀ K : Value → Heap → Prop, (∀ v h1, (fun v h1 => v = .bool true ∧ Ext h h1) v h1 → K v h1) → WCall Tryd.prog 11 #[] h K from H _ fun _ _ q => q
  intro K hK
  refine wcall_at { tmps := #[vZ, vZ, vZ, vZ, vZ, vZ, vZ, vZ, vZ, vZ, vZ, vZ, vZ, vZ, vZ, vZ, vZ, vZ, vZ, vZ, vZ, vZ, vZ, vZ, vZ, vZ, vZ, vZ, vZ, vZ, vZ, vZ, vZ, vZ, vZ, vZ, vZ, vZ, vZ, vZ, vZ, vZ, vZ, vZ, vZ, vZ, vZ, vZ, vZ, vZ, vZ, vZ, vZ, vZ, vZ, vZ, vZ, vZ, vZ, vZ, vZ, vZ, vZ, vZ, vZ, vZ, vZ, vZ, vZ, vZ, vZ, vZ, vZ, vZ, vZ, vZ, vZ, vZ, vZ, vZ, vZ, vZ, vZ, vZ, vZ, vZ, vZ, vZ, vZ, vZ, vZ, vZ, vZ, vZ], defers := [] } (by kernel_rfl) ?_
  obtain ⟨_, h2, s3, b4, O2474, rfl, p5, x6, w7⟩ := new_ok h
  have x8 := (Ext.refl h).trans x6
  have z9 : h.size ≤ h.size := (Ext.refl h).size
  have o10 : ∀ zz, O2474 zz → h.size ≤ zz := fun zz hz => by have := w7 zz hz; omega
  obtain ⟨_, h11, s12, rfl, x13, O2483, p14, o15⟩ := put_ok h2 p5 WfM.nil ⟨#[97]⟩ (CntM.mk 5 0 0 0 10)
  have k16 := WfM.put WfM.nil ⟨#[97]⟩ (CntM.mk 5 0 0 0 10)
  have e17 : putE ([] : Sto) ⟨#[97]⟩ (CntM.mk 5 0 0 0 10) = 0 := by kernel_rfl
  rw [e17] at s12
  have e18 : (putM ([] : Sto) ⟨#[97]⟩ (CntM.mk 5 0 0 0 10)) = ([(⟨#[97]⟩, ⟨5, 0, 0, 0, 10⟩)] : Sto) := by kernel_rfl
  rw [e18] at p14 k16
  have z19 : h.size ≤ h2.size := x8.size
  have x20 : Ext h _ := (Chg.then (O := fun _ => False) (Chg.ext x8) x13 (fun b hb => .inr (o10 b hb))).toExt'
  have z21 : h.size ≤ h2.size := x8.size
  have o22 : ∀ zz, O2483 zz → h.size ≤ zz := fun zz hz => by rcases o15 zz hz with g | g; (exact o10 zz g); omega
  obtain ⟨_, h23, s24, rfl, x25, O2496, p26, o27⟩ := put_ok h11 p14 k16 ⟨#[109]⟩ (CntM.mk 0 0 0 0 3)
  have k28 := WfM.put k16 ⟨#[109]⟩ (CntM.mk 0 0 0 0 3)
  have e29 : putE ([(⟨#[97]⟩, ⟨5, 0, 0, 0, 10⟩)] : Sto) ⟨#[109]⟩ (CntM.mk 0 0 0 0 3) = 0 := by kernel_rfl
  rw [e29] at s24
  have e30 : (putM ([(⟨#[97]⟩, ⟨5, 0, 0, 0, 10⟩)] : Sto) ⟨#[109]⟩ (CntM.mk 0 0 0 0 3)) = ([(⟨#[97]⟩, ⟨5, 0, 0, 0, 10⟩), (⟨#[109]⟩, ⟨0, 0, 0, 0, 3⟩)] : Sto) := by kernel_rfl
  rw [e30] at p26 k28
  have z31 : h.size ≤ h11.size := x20.size
  have x32 : Ext h _ := (Chg.then (O := fun _ => False) (Chg.ext x20) x25 (fun b hb => .inr (o22 b hb))).toExt'
  have z33 : h.size ≤ h11.size := x20.size
  have o34 : ∀ zz, O2496 zz → h.size ≤ zz := fun zz hz => by rcases o27 zz hz with g | g; (exact o22 zz g); omega
  obtain ⟨_, h35, s36, rfl, x37, O2509, p38, o39⟩ := put_ok h23 p26 k28 ⟨#[97]⟩ (CntM.mk 0 0 0 0 0)
  have k40 := WfM.put k28 ⟨#[97]⟩ (CntM.mk 0 0 0 0 0)
  have e41 : putE ([(⟨#[97]⟩, ⟨5, 0, 0, 0, 10⟩), (⟨#[109]⟩, ⟨0, 0, 0, 0, 3⟩)] : Sto) ⟨#[97]⟩ (CntM.mk 0 0 0 0 0) = 6 := by kernel_rfl
  rw [e41] at s36
  have e42 : (putM ([(⟨#[97]⟩, ⟨5, 0, 0, 0, 10⟩), (⟨#[109]⟩, ⟨0, 0, 0, 0, 3⟩)] : Sto) ⟨#[97]⟩ (CntM.mk 0 0 0 0 0)) = ([(⟨#[97]⟩, ⟨5, 0, 0, 0, 10⟩), (⟨#[109]⟩, ⟨0, 0, 0, 0, 3⟩)] : Sto) := by kernel_rfl
  rw [e42] at p38 k40
  have z43 : h.size ≤ h23.size := x32.size
  have x44 : Ext h _ := (Chg.then (O := fun _ => False) (Chg.ext x32) x37 (fun b hb => .inr (o34 b hb))).toExt'
  have z45 : h.size ≤ h23.size := x32.size
  have o46 : ∀ zz, O2509 zz → h.size ≤ zz := fun zz hz => by rcases o39 zz hz with g | g; (exact o34 zz g); omega
  obtain ⟨_, h47, s48, rfl, x49, O2522, p50, o51⟩ := sapply_ok h35 p38 k40 ⟨#[97]⟩ 1 3
  have k52 := WfM.app k40 ⟨#[97]⟩ 1 3
  have e53 : apSV ([(⟨#[97]⟩, ⟨5, 0, 0, 0, 10⟩), (⟨#[109]⟩, ⟨0, 0, 0, 0, 3⟩)] : Sto) ⟨#[97]⟩ 1 3 = 8 := by kernel_rfl
  rw [e53] at s48
  have e54 : apSE ([(⟨#[97]⟩, ⟨5, 0, 0, 0, 10⟩), (⟨#[109]⟩, ⟨0, 0, 0, 0, 3⟩)] : Sto) ⟨#[97]⟩ 1 3 = 0 := by kernel_rfl
  rw [e54] at s48
  have e55 : (apSM ([(⟨#[97]⟩, ⟨5, 0, 0, 0, 10⟩), (⟨#[109]⟩, ⟨0, 0, 0, 0, 3⟩)] : Sto) ⟨#[97]⟩ 1 3) = ([(⟨#[97]⟩, ⟨8, 3, 0, 0, 10⟩), (⟨#[109]⟩, ⟨0, 0, 0, 0, 3⟩)] : Sto) := by kernel_rfl
  rw [e55] at p50 k52
  have z56 : h.size ≤ h35.size := x44.size
  have x57 : Ext h _ := (Chg.then (O := fun _ => False) (Chg.ext x44) x49 (fun b hb => .inr (o46 b hb))).toExt'
  have z58 : h.size ≤ h35.size := x44.size
  have o59 : ∀ zz, O2522 zz → h.size ≤ zz := fun zz hz => by rcases o51 zz hz with g | g; (exact o46 zz g); omega
  obtain ⟨_, h60, s61, rfl, x62, O2536, p63, o64⟩ := sapply_ok h47 p50 k52 ⟨#[97]⟩ 1 (-6)
  have k65 := WfM.app k52 ⟨#[97]⟩ 1 (-6)
  have e66 : apSV ([(⟨#[97]⟩, ⟨8, 3, 0, 0, 10⟩), (⟨#[109]⟩, ⟨0, 0, 0, 0, 3⟩)] : Sto) ⟨#[97]⟩ 1 (-6) = 0 := by kernel_rfl
  rw [e66] at s61
  have e67 : apSE ([(⟨#[97]⟩, ⟨8, 3, 0, 0, 10⟩), (⟨#[109]⟩, ⟨0, 0, 0, 0, 3⟩)] : Sto) ⟨#[97]⟩ 1 (-6) = 7 := by kernel_rfl
  rw [e67] at s61
  have e68 : (apSM ([(⟨#[97]⟩, ⟨8, 3, 0, 0, 10⟩), (⟨#[109]⟩, ⟨0, 0, 0, 0, 3⟩)] : Sto) ⟨#[97]⟩ 1 (-6)) = ([(⟨#[97]⟩, ⟨8, 3, 0, 0, 10⟩), (⟨#[109]⟩, ⟨0, 0, 0, 0, 3⟩)] : Sto) := by kernel_rfl
  rw [e68] at p63 k65
  have z69 : h.size ≤ h47.size := x57.size
  have x70 : Ext h _ := (Chg.then (O := fun _ => False) (Chg.ext x57) x62 (fun b hb => .inr (o59 b hb))).toExt'
  have z71 : h.size ≤ h47.size := x57.size
  have o72 : ∀ zz, O2536 zz → h.size ≤ zz := fun zz hz => by rcases o64 zz hz with g | g; (exact o59 zz g); omega
  obtain ⟨_, h73, s74, rfl, x75, O2550, p76, o77⟩ := sapply_ok h60 p63 k65 ⟨#[97]⟩ 2 3
  have k78 := WfM.app k65 ⟨#[97]⟩ 2 3
  have e79 : apSV ([(⟨#[97]⟩, ⟨8, 3, 0, 0, 10⟩), (⟨#[109]⟩, ⟨0, 0, 0, 0, 3⟩)] : Sto) ⟨#[97]⟩ 2 3 = 5 := by kernel_rfl
  rw [e79] at s74
  have e80 : apSE ([(⟨#[97]⟩, ⟨8, 3, 0, 0, 10⟩), (⟨#[109]⟩, ⟨0, 0, 0, 0, 3⟩)] : Sto) ⟨#[97]⟩ 2 3 = 0 := by kernel_rfl
  rw [e80] at s74
  have e81 : (apSM ([(⟨#[97]⟩, ⟨8, 3, 0, 0, 10⟩), (⟨#[109]⟩, ⟨0, 0, 0, 0, 3⟩)] : Sto) ⟨#[97]⟩ 2 3) = ([(⟨#[97]⟩, ⟨5, 0, 0, 0, 10⟩), (⟨#[109]⟩, ⟨0, 0, 0, 0, 3⟩)] : Sto) := by kernel_rfl
  rw [e81] at p76 k78
  have z82 : h.size ≤ h60.size := x70.size
  have x83 : Ext h _ := (Chg.then (O := fun _ => False) (Chg.ext x70) x75 (fun b hb => .inr (o72 b hb))).toExt'
  have z84 : h.size ≤ h60.size := x70.size
  have o85 : ∀ zz, O2550 zz → h.size ≤ zz := fun zz hz => by rcases o77 zz hz with g | g; (exact o72 zz g); omega
  obtain ⟨_, h86, s87, w88, c89, rfl, o90, x91, b92⟩ := in_ok h73 p76 k78 ⟨#[98]⟩ .empty
  have l93 := k78.few
  have e94 : (inL ([(⟨#[97]⟩, ⟨5, 0, 0, 0, 10⟩), (⟨#[109]⟩, ⟨0, 0, 0, 0, 3⟩)] : Sto) ⟨#[98]⟩ .empty) = ([⟨#[109]⟩] : List ByteArray) := by kernel_rfl
  rw [e94] at s87 o90 b92
  have e95 : inE ⟨#[98]⟩ .empty = 0 := by kernel_rfl
  rw [e95] at s87
  have p96 := p76.keep fun b r _ q => x91 b r q
  have x97 := x83.trans x91
  have z98 : h.size ≤ h73.size := x83.size
  have o99 : ∀ zz, blk (Value.slice w88 (([⟨#[109]⟩] : List ByteArray).length) (c89)) zz → h.size ≤ zz := fun zz hz => by have := b92 zz hz; omega
  obtain ⟨_, h100, s101, rfl, x102⟩ := ssum_ok h86 p96 k78
  have e103 : sumV (valsL ([(⟨#[97]⟩, ⟨5, 0, 0, 0, 10⟩), (⟨#[109]⟩, ⟨0, 0, 0, 0, 3⟩)] : Sto)) = 5 := by kernel_rfl
  have e104 : sumE (valsL ([(⟨#[97]⟩, ⟨5, 0, 0, 0, 10⟩), (⟨#[109]⟩, ⟨0, 0, 0, 0, 3⟩)] : Sto)) = 0 := by kernel_rfl
  rw [e103, e104] at s101
  have p105 := p96.keep fun b r _ q => x102 b r q
  have p106 := o90.keep fun b r _ q => x102 b r q
  have x107 := x97.trans x102
  obtain ⟨b108, eb109⟩ : ∃ zq, zq = h100.size := ⟨_, rfl⟩
  obtain ⟨h110, e111⟩ : ∃ zq, zq = h100.push (.cells #[(vS ⟨#[109]⟩)] 9 (0, 0)) := ⟨_, rfl⟩
  have f112 := push_new e111
  rw [← eb109] at f112
  have x113 : Ext h100 h110 := by rw [e111]; exact Ext.push _ _
  have o114 : h.size ≤ b108 := by have := x107.size; omega
  have p115 := p105.keep fun b r _ q => x113 b r q
  have p116 := p106.keep fun b r _ q => x113 b r q
  have x117 := x107.trans x113
  obtain ⟨_, _, s118, rfl, rfl⟩ := same_ok h110 ([⟨#[109]⟩] : List ByteArray) ([⟨#[109]⟩] : List ByteArray) _ _ _ _ (p116.slice strc_size) (sl_strs (xs := ([⟨#[109]⟩] : List ByteArray)) f112 (by kernel_rfl) rfl) (by decide)
  rw [decide_eq_true rfl] at s118
  obtain ⟨_, h119, s120, rfl, x121⟩ := quiet_ok h110 p115 k78
  have e122 : quietB ([(⟨#[97]⟩, ⟨5, 0, 0, 0, 10⟩), (⟨#[109]⟩, ⟨0, 0, 0, 0, 3⟩)] : Sto) = true := by kernel_rfl
  rw [e122] at s120
  have x123 := x117.trans x121
  refine wc_ev [evF 1 0 s3, evF 2 2 s12, evF 2 7 s24, evF 2 13 s36, evF 4 1 s48, evF 5 1 s61, evF 6 1 s74, evF 7 2 s87, evF 8 1 s101, evS 9 24 1 eb109 e111, evF 9 25 s118, evF 9 37 s120] .ret h119 [(0, (vB false)), (12, (vP b4 0)), (1, (vP b4 0)), (13, (vP b4 0)), (14, (vA #[(vI 5), (vI 0), (vI 0), (vI 0), (vI 10)])), (15, (vI 0)), (16, (vB false)), (17, (vB false)), (18, (vP b4 0)), (19, (vA #[(vI 0), (vI 0), (vI 0), (vI 0), (vI 3)])), (20, (vI 0)), (21, (vB false)), (22, (vB false)), (23, (vB false)), (24, (vP b4 0)), (25, (vA #[(vI 0), (vI 0), (vI 0), (vI 0), (vI 0)])), (26, (vI 6)), (27, (vB false)), (28, (vB false)), (30, (vP b4 0)), (31, (vT #[(vI 8), (vI 0)])), (29, (vT #[(vI 8), (vI 0)])), (32, (vI 8)), (33, (vI 0)), (2, (vI 8)), (3, (vI 0)), (35, (vP b4 0)), (36, (vT #[(vI 0), (vI 7)])), (34, (vT #[(vI 0), (vI 7)])), (37, (vI 0)), (38, (vI 7)), (4, (vI 0)), (5, (vI 7)), (40, (vP b4 0)), (41, (vT #[(vI 5), (vI 0)])), (39, (vT #[(vI 5), (vI 0)])), (42, (vI 5)), (43, (vI 0)), (6, (vI 5)), (7, (vI 0)), (45, (vP b4 0)), (46, (vA #[(vS ⟨#[98]⟩), (vS .empty)])), (47, (vT #[(vL w88 (([⟨#[109]⟩] : List ByteArray).length) c89), (vI 0)])), (44, (vT #[(vL w88 (([⟨#[109]⟩] : List ByteArray).length) c89), (vI 0)])), (48, (vL w88 (([⟨#[109]⟩] : List ByteArray).length) c89)), (49, (vI 0)), (8, (vL w88 (([⟨#[109]⟩] : List ByteArray).length) c89)), (9, (vI 0)), (51, (vP b4 0)), (52, (vT #[(vI 5), (vI 0)])), (50, (vT #[(vI 5), (vI 0)])), (53, (vI 5)), (54, (vI 0)), (10, (vI 5)), (11, (vI 0)), (55, (vI 0)), (56, (vB true)), (57, (vB true)), (58, (vI 8)), (59, (vB true)), (60, (vB true)), (61, (vB true)), (62, (vI 7)), (63, (vB true)), (64, (vB true)), (65, (vB true)), (66, (vI 0)), (67, (vB true)), (68, (vB true)), (69, (vB true)), (70, (vI 5)), (71, (vB true)), (72, (vB true)), (73, (vB true)), (74, (vI 0)), (75, (vB true)), (76, (vB true)), (77, (vB true)), (78, (vL w88 (([⟨#[109]⟩] : List ByteArray).length) c89)), (79, (vL (some ⟨b108, 0, none⟩) 1 1)), (80, (vB true)), (81, (vB true)), (82, (vB true)), (83, (vI 0)), (84, (vB true)), (85, (vB true)), (86, (vB true)), (87, (vI 5)), (88, (vB true)), (89, (vB true)), (90, (vB true)), (91, (vP b4 0)), (92, (vB true)), (93, (vB true)), (0, (vB true))] ?_
  exact end_ev [] (vB true) (hK _ _ (⟨rfl, x123⟩))
end C08
