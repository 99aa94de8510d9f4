/- The run of SagasTurns. -/
import Derived.Test.YtjkcadbblgefdaaGreatDoorMy
import Derived.Test.YtjkcadbblgefdaaGreatDoorBmt
import Derived.KernelRfl
open Go Go.AM Go.Proofs
namespace C29
theorem agg71 : isAggA Tryz.prog 71 = some false := by kernel_rfl
theorem size71 : (Tryz.prog.info? 71).map (·.size) = some 1 := by kernel_rfl
theorem und69 : Tryz.prog.underlying 69 = some (.slice 71) := by kernel_rfl
set_option maxHeartbeats 4000000 in
theorem ixI_ok (h : Heap) (xs : List Int) (x : Int) (sa : Option Addr) (ca : Nat) (hl : SliceAt h zc 1 xs (.slice sa xs.length ca)) (hlen : xs.length ≤ 9223372036854775807) : WCall Tryz.prog 78 #[(Value.slice sa (xs.length) (ca)), (vI (x))] h (fun v h1 => ∃ i, v = .int .i64 i ∧ (0 ≤ i ↔ x ∈ xs) ∧ h = h1) := by
  suffices H : ∀ K : Value → Heap → Prop, (∀ v h1, (fun v h1 => ∃ i, v = .int .i64 i ∧ (0 ≤ i ↔ x ∈ xs) ∧ h = h1) v h1 → K v h1) → WCall Tryz.prog 78 #[(Value.slice sa (xs.length) (ca)), (vI (x))] h K from H _ fun _ _ q => q
  intro K hK
  refine wcall_at { tmps := #[(vL sa xs.length ca), (vI x), vZ, vZ, vZ, vZ, vZ, vZ, vZ, vZ, vZ, vZ, vZ, vZ, vZ, vZ, vZ, vZ, vZ], defers := [] } (by kernel_rfl) ?_
  refine wc_seq' (subc (bodyOf Tryz.prog 78) [0]) (subc (bodyOf Tryz.prog 78) [1]) (by kernel_rfl) ?_
  refine wc_ev [] .normal h [(4, (vI 0))] ?_
  refine wc_seq' (subc (bodyOf Tryz.prog 78) [1, 0]) (subc (bodyOf Tryz.prog 78) [1, 1]) (by kernel_rfl) ?_
  refine wc_seq' (subc (bodyOf Tryz.prog 78) [1, 0, 0]) (subc (bodyOf Tryz.prog 78) [1, 0, 1]) (by kernel_rfl) ?_
  refine wc_ev [] .normal h [(6, (vL sa xs.length ca)), (7, (vI ((xs.length : Nat)))), (8, (vI 0))] ?_
  refine wc_block' 0 (subc (bodyOf Tryz.prog 78) [1, 0, 1, 0]) (by kernel_rfl) ?_
  refine wc_loop' (subc (bodyOf Tryz.prog 78) [1, 0, 1, 0, 0]) (by kernel_rfl) (fun n' a' h' => ∃ (k : Int) (g0 : Nat → Value), a' = { tmps := #[(vL sa xs.length ca), (vI x), vZ, vZ, (g0 4), (g0 5), (vL sa xs.length ca), (vI ((xs.length : Nat))), (vI k), (g0 9), (g0 10), (g0 11), (g0 12), (g0 13), (g0 14), (g0 15), (g0 16), (g0 17), (g0 18)], defers := [] } ∧ h = h' ∧ n' = xs.length - k.toNat ∧ (0 ≤ k ∧ k ≤ (xs.length : Nat)) ∧ ¬ x ∈ xs.take k.toNat) ?_ (xs.length - (0 : Int).toNat) ⟨0, (fun i => ([vU, vU, vU, vU, (vI 0), vZ, vU, vU, vU, vZ, vZ, vZ, vZ, vZ, vZ, vZ, vZ, vZ, vZ] : List Value).getD i undef), by as_aux_lemma => kernel_rfl, rfl, rfl, by omega, by simp⟩
  rintro n' _ _ ⟨k, g0, rfl, rfl, m1, i2, i3⟩
  by_cases c4 : ((k) : Int) < ((xs.length : Nat))
  · obtain ⟨i5, v6, e7, l8, g9⟩ := list_at xs (e := (k)) (by omega) (by first | omega | (simp only [List.length_set, List.length_append, List.length_singleton]; omega))
    obtain ⟨b10, o11, k12, q13, a14⟩ := hl.at zc_size g9
    by_cases c15 : ((x) : Int) = (v6)
    · refine wc_ev [ltT 2 0 3 c4, evV 4 3 (vP b10 o11) (show indexAddrA Tryz.prog 63 (vL sa xs.length ca) (vI k) = some (vP b10 o11) from a14 und63 size3 e7), evV 4 4 (vI v6) (show loadT Tryz.prog h 3 (vP b10 o11) = some (vI v6) from (k12.keep fun b r _ q => (Ext.refl h) b r q).cell (j := 0) agg3 rfl), eqT 4 5 3 c15] .ret h [(9, (vB true)), (10, (vI k)), (5, (vI k)), (11, (vI x)), (12, (vL sa xs.length ca)), (13, (vI k)), (14, (vP b10 o11)), (15, (vI v6)), (16, (vB true)), (17, (vI k)), (4, (vI k))] ?_
      exact end_ev [] (vI k) (hK _ _ (⟨_, rfl, ⟨fun _ => by rw [show x = v6 from c15]; exact List.mem_of_getElem? g9, fun _ => by omega⟩, rfl⟩))
    · refine wc_ev [ltT 2 0 3 c4, evV 4 3 (vP b10 o11) (show indexAddrA Tryz.prog 63 (vL sa xs.length ca) (vI k) = some (vP b10 o11) from a14 und63 size3 e7), evV 4 4 (vI v6) (show loadT Tryz.prog h 3 (vP b10 o11) = some (vI v6) from (k12.keep fun b r _ q => (Ext.refl h) b r q).cell (j := 0) agg3 rfl), eqF 4 5 3 c15, evV 6 0 (vI ((k) + 1)) (show binA Tryz.prog .add 3 (vI k) (vI 1) = some (vI ((k) + 1)) from add_i64 (by omega) (by omega))] .normal h [(9, (vB true)), (10, (vI k)), (5, (vI k)), (11, (vI x)), (12, (vL sa xs.length ca)), (13, (vI k)), (14, (vP b10 o11)), (15, (vI v6)), (16, (vB false)), (18, (vI ((k) + 1))), (8, (vI ((k) + 1)))] ?_
      exact ⟨xs.length - (k + 1).toNat, by omega, ⟨k + 1, (fun i => ([vU, vU, vU, vU, (g0 4), (vI k), vU, vU, vU, (vB true), (vI k), (vI x), (vL sa xs.length ca), (vI k), (vP b10 o11), (vI v6), (vB false), (g0 17), (vI ((k) + 1))] : List Value).getD i undef), by as_aux_lemma => kernel_rfl, rfl, rfl, by omega, by rw [show (k + 1).toNat = i5 + 1 by omega, take_next g9, List.mem_append, List.mem_singleton, show i5 = k.toNat by omega]; exact fun w => w.elim i3 c15⟩⟩
  · refine wc_ev [ltF 2 0 3 c4] (.exit 0) h [(9, (vB false))] ?_
    refine wc_ev [] .ret h [(4, (vI (-1)))] ?_
    have e9 := i3
    rw [List.take_of_length_le (by omega)] at e9
    exact end_ev [] (vI (-1)) (hK _ _ (⟨_, rfl, ⟨fun w => absurd w (by decide), fun w => absurd w e9⟩, rfl⟩))
set_option maxHeartbeats 4000000 in
theorem ctI_ok (h : Heap) (xs : List Int) (x : Int) (sa : Option Addr) (ca : Nat) (hl : SliceAt h zc 1 xs (.slice sa xs.length ca)) (hlen : xs.length ≤ 9223372036854775807) : WCall Tryz.prog 36 #[(Value.slice sa (xs.length) (ca)), (vI (x))] h (fun v h1 => v = .bool (decide (x ∈ xs)) ∧ h = h1) := by
  obtain ⟨_, _, sn1, i2, rfl, q3, rfl⟩ := ixI_ok h xs (x) _ _ (hl.keep fun b r _ q => (Ext.refl h) b r q) hlen
  by_cases c4 : (0 : Int) ≤ (i2)
  · have e9 : decide (x ∈ xs) = true := decide_eq_true (by exact q3.1 c4)
    exact hCall_ev [evF 1 2 sn1, geT 1 3 3 c4] [] (vB true) h ⟨by rw [e9], rfl⟩
  · have e9 : decide (x ∈ xs) = false := decide_eq_false (by exact fun w => q3.2 w |> c4)
    exact hCall_ev [evF 1 2 sn1, geF 1 3 3 c4] [] (vB false) h ⟨by rw [e9], rfl⟩
/-! ### sagas that are started in some order -/
def kN (z : Int) : Int := 1 + z.tmod 9999
theorem kN_rng {z : Int} (h : 0 ≤ z) : 1 ≤ kN z ∧ kN z ≤ 9999 := by
  have h1 := Int.tmod_nonneg (a := z) 9999 h
  have h2 := Int.tmod_lt_of_pos z (b := 9999) (by omega)
  unfold kN; constructor <;> omega
/-- All sagas are alike, and these are their numbers. -/
structure AllS (s : SagaM) (m : Tab) (n : Nat) (ks : Int → Prop) : Prop where
  alike : ∀ p ∈ m, p.2 = s
  few : m.length ≤ n
  keys : ∀ k, k ∈ idsL m ↔ ks k
theorem AllS.init (s : SagaM) : AllS s [] 0 (fun _ => False) := ⟨fun p hp => absurd hp (by simp), Nat.le_refl _, fun k => by simp [idsL]⟩
theorem start_full {d : DefM} {m : Tab} {k : Int} (hd : defB d = true) (hk : 1 ≤ k ∧ k ≤ 9999) (hl : m.length < 64) : (k ∈ idsL m → startE m k d 5 = 6 ∧ startM m k d 5 = m) ∧ (¬ k ∈ idsL m → startE m k d 5 = 0 ∧ startM m k d 5 = insT k (staS d 5) m) := by
  have e : startE m k d 5 = addE m k := by unfold startE; rw [if_pos (by omega), if_pos hd]
  constructor
  · intro hm
    obtain ⟨s, hs⟩ : ∃ s, findK m k = some s := by
      cases q : findK m k with
      | none => exact absurd hm (findK_none.1 q)
      | some s => exact ⟨s, rfl⟩
    have e2 := e.trans (addE_some hs)
    exact ⟨e2, by unfold startM; rw [e2]; rfl⟩
  · intro hm
    have hs : findK m k = none := findK_none.2 hm
    have e2 : startE m k d 5 = 0 := e.trans (by rw [addE_none hs, if_neg (by omega)])
    exact ⟨e2, by unfold startM; rw [if_pos e2]⟩
theorem AllS.start {d : DefM} {m : Tab} {n : Nat} {ks : Int → Prop} {k : Int} (A : AllS (staS d 5) m n ks) (hd : defB d = true) (hk : 1 ≤ k ∧ k ≤ 9999) (hn : n < 64) : AllS (staS d 5) (startM m k d 5) (n + 1) (fun z => ks z ∨ z = k) := by
  have hl : m.length < 64 := Nat.lt_of_le_of_lt A.few hn
  have q := start_full (m := m) hd hk hl
  by_cases hm : k ∈ idsL m
  · rw [(q.1 hm).2]
    exact ⟨A.alike, Nat.le_succ_of_le A.few, fun z => by
      rw [A.keys z]
      exact ⟨.inl, fun w => w.elim id fun w => by subst w; exact (A.keys z).1 hm⟩⟩
  · rw [(q.2 hm).2]
    refine ⟨fun p hp => ?_, by rw [insT_len]; have := A.few; omega, fun z => ?_⟩
    · rcases insT_mem.1 hp with rfl | hp
      · rfl
      · exact A.alike p hp
    · have hp := (insT_perm k (staS d 5) m).map (·.1)
      rw [show idsL (insT k (staS d 5) m) = (insT k (staS d 5) m).map (·.1) from rfl, hp.mem_iff, List.map_cons, List.mem_cons, or_comm]
      exact or_congr (A.keys z) Iff.rfl
theorem AllS.iff {s : SagaM} {m : Tab} {n n2 : Nat} {ks ks2 : Int → Prop} (A : AllS s m n ks) (h : ∀ k, ks k ↔ ks2 k) (hn : n ≤ n2) : AllS s m n2 ks2 := ⟨A.alike, Nat.le_trans A.few hn, fun k => (A.keys k).trans (h k)⟩
theorem mem_take_next {xs : List Int} {j : Nat} {x : Int} (h : xs[j]? = some x) (f : Int → Int) (z : Int) : (z ∈ (xs.take j).map f ∨ z = f x) ↔ z ∈ (xs.take (j + 1)).map f := by
  rw [take_next h, List.map_append, List.mem_append]
  simp
theorem mem_drop_next {xs : List Int} {j : Nat} {x : Int} (h : xs[j]? = some x) (f : Int → Int) (z : Int) : (z ∈ (xs.drop (j + 1)).map f ∨ z = f x) ↔ z ∈ (xs.drop j).map f := by
  obtain ⟨hj, rfl⟩ := List.getElem?_eq_some_iff.1 h
  rw [List.drop_eq_getElem_cons hj, List.map_cons, List.mem_cons, or_comm]
theorem sort_ids {m : Tab} {ids : List Int} (w : WfT m) (hn : ids.Nodup) (h : ∀ k, k ∈ idsL m ↔ k ∈ ids) : sortZ ids = idsL m :=
  sortZ_of_perm ((List.perm_ext_iff_of_nodup hn w.ord.apart).2 fun k => (h k).symm) w.ord
theorem same_tab {s : SagaM} {m m2 : Tab} {n n2 : Nat} {ks ks2 : Int → Prop} (w : WfT m) (w2 : WfT m2) (A : AllS s m n ks) (A2 : AllS s m2 n2 ks2) (h : ∀ k, ks k ↔ ks2 k) : m2 = m := by
  have hp : (idsL m2).Perm (idsL m) := (List.perm_ext_iff_of_nodup w2.ord.apart w.ord.apart).2 fun k => (A2.keys k).trans ((h k).symm.trans (A.keys k).symm)
  have hi : idsL m2 = idsL m := hp.eq_of_pairwise (le := fun a b : Int => a < b) (fun a b _ _ h1 h2 => by omega) w2.ord w.ord
  have hm : ∀ {m : Tab}, (∀ p ∈ m, p.2 = s) → m = (idsL m).map fun k => (k, s) := by
    intro m hm
    unfold idsL
    rw [List.map_map]
    conv => lhs; rw [← List.map_id m]
    refine List.map_congr_left fun p hp => ?_
    simp only [id, Function.comp_apply]
    rw [← hm p hp]
  rw [hm A2.alike, hm A.alike, hi]
theorem opn_all {d : DefM} {m : Tab} {n : Nat} {ks : Int → Prop} (A : AllS (staS d 5) m n ks) : opnL m = idsL m ∧ nxtL m = (idsL m).map fun k => (⟨k, 0, 1⟩ : EffM) := by
  have e : opnT m = m := List.filter_eq_self.2 fun p hp => by rw [A.alike p hp]; exact decide_eq_true (show (1 : Int) < 4 by decide)
  refine ⟨by unfold opnL idsL; rw [e], ?_⟩
  unfold nxtL idsL
  rw [e, List.map_map]
  refine List.map_congr_left fun p hp => ?_
  simp only [Function.comp_apply]
  rw [A.alike p hp]; rfl
theorem nxt_ix {d : DefM} {m : Tab} {n : Nat} {ks : Int → Prop} (A : AllS (staS d 5) m n ks) {j : Nat} {e : EffM} {k : Int} (he : (nxtL m)[j]? = some e) (hk : (idsL m)[j]? = some k) : e.sg = k ∧ e.sp = 0 ∧ e.ph = 1 := by
  rw [(opn_all A).2, List.getElem?_map, hk] at he
  cases he; exact ⟨rfl, rfl, rfl⟩
theorem ids_old {ids zs : List Int} {j : Nat} {x : Int} (F : ∀ z, z ∈ ids ↔ z ∈ (zs.take j).map kN) (hx : zs[j]? = some x) (hm : kN x ∈ ids) : ∀ z, z ∈ ids ↔ z ∈ (zs.take (j + 1)).map kN := fun z => by
  rw [← mem_take_next hx kN z, ← F z]
  exact ⟨.inl, fun w => w.elim id fun w => w ▸ hm⟩
theorem ids_new {ids zs : List Int} {j : Nat} {x : Int} (F : ∀ z, z ∈ ids ↔ z ∈ (zs.take j).map kN) (hx : zs[j]? = some x) : ∀ z, z ∈ ids ++ [kN x] ↔ z ∈ (zs.take (j + 1)).map kN := fun z => by
  rw [← mem_take_next hx kN z, ← F z, List.mem_append, List.mem_singleton]
theorem nodup_snoc {ids : List Int} {x : Int} (h : ids.Nodup) (hm : ¬ x ∈ ids) : (ids ++ [x]).Nodup := List.nodup_append.2 ⟨h, by simp, fun a ha b hb e => hm (by rw [List.mem_singleton] at hb; rw [← hb, ← e]; exact ha)⟩
set_option maxRecDepth 10000 in
set_option maxHeartbeats 4000000 in
theorem law_turns (h : Heap) (l : List Int) (sa : Option Addr) (cp : Nat) (hl : LAt h hc16 1 l (.slice sa l.length cp)) (hlen : l.length ≤ 9223372036854775807) (hq : ∀ x ∈ l, 0 ≤ x ∧ x ≤ 65535) (n : Int) (hn : 0 ≤ n ∧ n ≤ 255) (hg0 : h[0]? = some (.cells #[(vI 0), (vI 1), (vI 3), (vI 2)] 128 (0, 0))) (hg1 : h[1]? = some (.cells #[Value.nilFunc, (Value.func (.func 178) #[] #[]), (Value.func (.func 179) #[] #[]), (Value.func (.func 180) #[] #[])] 130 (0, 0))) : WCall Tryz.prog 5 #[(Value.slice sa (l.length) (cp)), (Value.int .u8 (n))] h (fun v h1 => v = .bool true ∧ Ext h h1) := by
  suffices H : ∀ K : Value → Heap → Prop, (∀ v h1, (fun v h1 => v = .bool true ∧ Ext h h1) v h1 → K v h1) → WCall Tryz.prog 5 #[(Value.slice sa (l.length) (cp)), (Value.int .u8 (n))] h K from H _ fun _ _ q => q
  intro K hK
  refine wcall_at { tmps := #[(vL sa l.length cp), (Value.int .u8 (n)), vZ, vZ, vZ, vZ, vZ, vZ, vZ, vZ, vZ, vZ, vZ, vZ, vZ, vZ, vZ, vZ, vZ, vZ, vZ, vZ, vZ, vZ, vZ, vZ, vZ, vZ, vZ, vZ, vZ, vZ, vZ, vZ, vZ, vZ, vZ, vZ, vZ, vZ, vZ, vZ, vZ, vZ, vZ, vZ, vZ, vZ, vZ, vZ, vZ, vZ, vZ, vZ, vZ, vZ, vZ, vZ, vZ, vZ, vZ, vZ, vZ, vZ, vZ, vZ, vZ, vZ, vZ, vZ, vZ, vZ, vZ, vZ, vZ, vZ, vZ, vZ, vZ, vZ, vZ, vZ, vZ, vZ, vZ, vZ, vZ, vZ, vZ, vZ, vZ, vZ, vZ, vZ, vZ, vZ, vZ, vZ, vZ, vZ, vZ, vZ, vZ, vZ, vZ, vZ, vZ, vZ, vZ, vZ, vZ, vZ, vZ, vZ, vZ, vZ, vZ, vZ, vZ, vZ, vZ, vZ, vZ, vZ, vZ, vZ, vZ, vZ, vZ, vZ], defers := [] } (by kernel_rfl) ?_
  refine wc_seq' (subc (bodyOf Tryz.prog 5) [0]) (subc (bodyOf Tryz.prog 5) [1]) (by kernel_rfl) ?_
  refine wc_ev [] .normal h [(4, (vB false))] ?_
  refine wc_seq' (subc (bodyOf Tryz.prog 5) [1, 0]) (subc (bodyOf Tryz.prog 5) [1, 1]) (by kernel_rfl) ?_
  obtain ⟨_, h2, s3, b4, O10508, rfl, p5, x6, w7⟩ := tnew_ok h
  have x8 := (Ext.refl h).trans x6
  have z9 : h.size ≤ h.size := (Ext.refl h).size
  have o10 : ∀ zz, O10508 zz → h.size ≤ zz := fun zz hz => by have := w7 zz hz; omega
  obtain ⟨_, h11, s12, b13, O10521, rfl, p14, x15, w16⟩ := tnew_ok h2
  have p17 := p5.keep fun b r _ q => x15 b r q
  have x18 := x8.trans x15
  have z19 : h.size ≤ h2.size := x8.size
  have n20 : ∀ zz, O10521 zz → ¬ O10508 zz := fun zz hz ez => by have := w16 zz hz; have := p5.blk_lt ez; omega
  have o21 : ∀ zz, O10521 zz → h.size ≤ zz := fun zz hz => by have := w16 zz hz; omega
  refine wc_ev [evF 1 0 s3, evF 1 1 s12] .normal h11 [(16, (vP b4 0)), (17, (vP b13 0)), (5, (vP b4 0)), (6, (vP b13 0))] ?_
  refine wc_seq' (subc (bodyOf Tryz.prog 5) [1, 1, 0]) (subc (bodyOf Tryz.prog 5) [1, 1, 1]) (by kernel_rfl) ?_
  obtain ⟨mn22, e23⟩ : ∃ q : Int, q = if (64 : Int) < ((l.length : Nat)) then (64 : Int) else ((l.length : Nat)) := ⟨_, rfl⟩
  have u24 : mn22 ≤ 64 ∧ mn22 ≤ ((l.length : Nat)) ∧ 0 ≤ mn22 ∧ (((l.length : Nat)) ≤ 64 → mn22 = ((l.length : Nat))) ∧ (64 ≤ ((l.length : Nat)) → mn22 = 64) := by rw [e23]; split <;> omega
  obtain ⟨sb25, cq26, e27, p28, b29⟩ := slice_prefix hc16_size und69 size71 (by decide) (hl.slice hc16_size) (hl.pl) (kd := .i64) (n := ((mn22) : Int)) (by omega) (by omega)
  obtain ⟨zs30, e31⟩ : ∃ zq, zq = l.take (((mn22) : Int)).toNat := ⟨_, rfl⟩
  rw [← e31] at e27 p28 b29
  have lzs32 : (zs30.length : Int) = ((mn22) : Int) := by rw [e31, List.length_take]; omega
  have szs33 : ∀ x ∈ zs30, (0 : Int) ≤ x ∧ x ≤ 65535 := fun x hx => hq x (List.mem_of_mem_take (by rw [← e31]; exact hx))
  refine wc_ev [evV 2 3 (vI mn22) (show (vI mn22) = (vI (if (64 : Int) < ((l.length : Nat)) then (64 : Int) else ((l.length : Nat)))) from by rw [e23]), evV 2 4 (vL sb25 zs30.length cq26) (show sliceA Tryz.prog h11 69 (vL sa l.length cp) none (some (vI mn22)) none = some (vL sb25 zs30.length cq26) from sliceA_mono (x := _) x18 e27)] .normal h11 [(18, (vL sa l.length cp)), (19, (vL sa l.length cp)), (20, (vI ((l.length : Nat)))), (21, (vI mn22)), (22, (vL sb25 zs30.length cq26)), (0, (vL sb25 zs30.length cq26))] ?_
  refine wc_seq' (subc (bodyOf Tryz.prog 5) [1, 1, 1, 0]) (subc (bodyOf Tryz.prog 5) [1, 1, 1, 1]) (by kernel_rfl) ?_
  obtain ⟨_, h34, s35, w36, c37, rfl, o38, x39, n40⟩ := def_ok h11 (n) (by omega)
  obtain ⟨d41, e42⟩ : ∃ q, q = defN (n) := ⟨_, rfl⟩
  rw [← e42] at s35 o38 n40
  have k43 : defB d41 = true := by rw [e42]; exact defN_ok (by omega)
  have q44 := defB_of k43
  have p45 := p17.keep fun b r _ q => x39 b r q
  have p46 := p14.keep fun b r _ q => x39 b r q
  have x47 := x18.trans x39
  have z48 : h.size ≤ h11.size := x18.size
  have n49 : ∀ zz, blk (Value.slice w36 (d41.xs.length) (c37)) zz → ¬ O10508 zz := fun zz hz ez => by have := n40 zz hz; have := p17.blk_lt ez; omega
  have n50 : ∀ zz, blk (Value.slice w36 (d41.xs.length) (c37)) zz → ¬ O10521 zz := fun zz hz ez => by have := n40 zz hz; have := p14.blk_lt ez; omega
  have o51 : ∀ zz, blk (Value.slice w36 (d41.xs.length) (c37)) zz → h.size ≤ zz := fun zz hz => by have := n40 zz hz; omega
  obtain ⟨b52, eb53⟩ : ∃ zq, zq = h34.size := ⟨_, rfl⟩
  obtain ⟨h54, e55⟩ : ∃ zq, zq = h34.push (.cells #[(vS .empty), (vI 0), (vI 0), (Value.slice none 0 0)] 31 (0, 0)) := ⟨_, rfl⟩
  have f56 := push_new e55
  rw [← eb53] at f56
  have n57 : ∀ zz, O10508 zz → ¬ zz = b52 := fun zz hz ez => by have := p45.blk_lt hz; omega
  have n58 : ∀ zz, O10521 zz → ¬ zz = b52 := fun zz hz ez => by have := p46.blk_lt hz; omega
  have n59 : ∀ zz, (blk (Value.slice w36 (d41.xs.length) (c37))) zz → ¬ zz = b52 := fun zz hz ez => by have := o38.blk_lt hz; omega
  have x60 : Ext h34 h54 := by rw [e55]; exact Ext.push _ _
  have o61 : h.size ≤ b52 := by have := x47.size; omega
  have p62 := p45.keep fun b r _ q => x60 b r q
  have p63 := p46.keep fun b r _ q => x60 b r q
  have p64 := o38.keep fun b r _ q => x60 b r q
  have x65 := x47.trans x60
  obtain ⟨h66, e67⟩ : ∃ zq, zq = h54.setIfInBounds b52 (.cells #[(vS d41.name), (vI (d41.rt)), (vI (d41.dl)), (Value.slice w36 (d41.xs.length) (c37))] 31 (0, 0)) := ⟨_, rfl⟩
  have f68 := set_same e67 f56
  have p69 := p62.keep fun b r hb q => (Chg.set e67).same b r q (n57 b hb)
  have p70 := p63.keep fun b r hb q => (Chg.set e67).same b r q (n58 b hb)
  have p71 := p64.keep fun b r hb q => (Chg.set e67).same b r q (n59 b hb)
  have x72 := Ext.setNew x65 e67 o61
  refine wc_ev [evF 3 1 s35, evA 3 2 eb53 e55, evUw 3 3 size31 f56 e67] .normal h66 [(23, (Value.int .u8 (n))), (24, (vA #[(vS d41.name), (vI d41.rt), (vI d41.dl), (vL w36 d41.xs.length c37)])), (7, (vP b52 0))] ?_
  refine wc_seq' (subc (bodyOf Tryz.prog 5) [1, 1, 1, 1, 0]) (subc (bodyOf Tryz.prog 5) [1, 1, 1, 1, 1]) (by kernel_rfl) ?_
  refine wc_ev [] .normal h66 [(8, (vL none 0 0))] ?_
  refine wc_seq' (subc (bodyOf Tryz.prog 5) [1, 1, 1, 1, 1, 0]) (subc (bodyOf Tryz.prog 5) [1, 1, 1, 1, 1, 1]) (by kernel_rfl) ?_
  refine wc_seq' (subc (bodyOf Tryz.prog 5) [1, 1, 1, 1, 1, 0, 0]) (subc (bodyOf Tryz.prog 5) [1, 1, 1, 1, 1, 0, 1]) (by kernel_rfl) ?_
  refine wc_ev [] .normal h66 [(25, (vL sb25 zs30.length cq26)), (26, (vI ((zs30.length : Nat)))), (27, (vI 0))] ?_
  refine wc_block' 0 (subc (bodyOf Tryz.prog 5) [1, 1, 1, 1, 1, 0, 1, 0]) (by kernel_rfl) ?_
  refine wc_loop' (subc (bodyOf Tryz.prog 5) [1, 1, 1, 1, 1, 0, 1, 0, 0]) (by kernel_rfl) (fun n' a' h' => ∃ (ka : Int) (ids : List Int) (ia : Option Addr) (ic : Nat) (ma : Tab) (mb : Tab) (Oa : Nat → Prop) (Ob : Nat → Prop) (g0 : Nat → Value), a' = { tmps := #[(vL sb25 zs30.length cq26), (Value.int .u8 (n)), vZ, vZ, (g0 4), (vP b4 0), (vP b13 0), (vP b52 0), (vL ia ids.length ic), (g0 9), (g0 10), (g0 11), (g0 12), vZ, vZ, vZ, (vP b4 0), (vP b13 0), (vL sa l.length cp), (vL sa l.length cp), (vI ((l.length : Nat))), (vI mn22), (vL sb25 zs30.length cq26), (Value.int .u8 (n)), (vA #[(vS d41.name), (vI d41.rt), (vI d41.dl), (vL w36 d41.xs.length c37)]), (vL sb25 zs30.length cq26), (vI ((zs30.length : Nat))), (vI ka), (g0 28), (g0 29), (g0 30), (g0 31), (g0 32), (g0 33), (g0 34), (g0 35), (g0 36), (g0 37), (g0 38), (g0 39), (g0 40), (g0 41), (g0 42), (g0 43), (g0 44), (g0 45), (g0 46), (g0 47), (g0 48), (g0 49), (g0 50), (g0 51), (g0 52), (g0 53), (g0 54), (g0 55), (g0 56), (g0 57), (g0 58), (g0 59), (g0 60), (g0 61), (g0 62), (g0 63), (g0 64), (g0 65), vZ, vZ, vZ, vZ, vZ, vZ, vZ, vZ, vZ, vZ, vZ, vZ, vZ, vZ, vZ, vZ, vZ, vZ, vZ, vZ, vZ, vZ, vZ, vZ, vZ, vZ, vZ, vZ, vZ, vZ, vZ, vZ, vZ, vZ, vZ, vZ, vZ, vZ, vZ, vZ, vZ, vZ, vZ, vZ, vZ, vZ, vZ, vZ, vZ, vZ, vZ, vZ, vZ, vZ, vZ, vZ, vZ, vZ, vZ, vZ, vZ, vZ, vZ, vZ], defers := [] } ∧ Ext h h' ∧ n' = zs30.length - ka.toNat ∧ h'[b52]? = some (.cells #[(vS d41.name), (vI d41.rt), (vI d41.dl), (vL w36 d41.xs.length c37)] 31 (0, 0)) ∧ (0 ≤ ka ∧ ka ≤ (zs30.length : Nat)) ∧ AllS (staS d41 5) ma ka.toNat (fun z => z ∈ ((zs30.take ka.toNat)).map kN) ∧ AllS (staS d41 5) mb ka.toNat (fun z => z ∈ ((zs30.drop (zs30.length - ka.toNat))).map kN) ∧ ids.Nodup ∧ (∀ z, z ∈ ids ↔ z ∈ (zs30.take ka.toNat).map kN) ∧ ids.length ≤ ka.toNat ∧ (∀ zz, Oa zz → h.size ≤ zz) ∧ WfT ma ∧ (∀ zz, Oa zz → ¬ (blk (vL w36 d41.xs.length c37)) zz) ∧ (∀ zz, Ob zz → h.size ≤ zz) ∧ WfT mb ∧ (∀ zz, Ob zz → ¬ (blk (vL w36 d41.xs.length c37)) zz) ∧ (∀ zz, Oa zz → ¬ Ob zz) ∧ (∀ zz, (blk (vL ia ids.length ic)) zz → h.size ≤ zz) ∧ TbAt 57 h' Oa b4 ma ∧ TbAt 57 h' Ob b13 mb ∧ OwnAt h' 3 zc ids (vL ia ids.length ic) ∧ OwnAt h' 67 stepc d41.xs (vL w36 d41.xs.length c37)) ?_ (zs30.length - (0 : Int).toNat) ⟨0, [], none, 0, [], [], O10508, O10521, (fun i => ([vU, vU, vU, vU, (vB false), vU, vU, vU, vU, vZ, vZ, vZ, vZ, vU, vU, vU, vU, vU, vU, vU, vU, vU, vU, vU, vU, vU, vU, vU, vZ, vZ, vZ, vZ, vZ, vZ, vZ, vZ, vZ, vZ, vZ, vZ, vZ, vZ, vZ, vZ, vZ, vZ, vZ, vZ, vZ, vZ, vZ, vZ, vZ, vZ, vZ, vZ, vZ, vZ, vZ, vZ, vZ, vZ, vZ, vZ, vZ, vZ] : List Value).getD i undef), by as_aux_lemma => kernel_rfl, x72, rfl, f68, by omega, (AllS.iff (AllS.init _) (fun z => by simp) (Nat.le_refl _)), (AllS.iff (AllS.init _) (fun z => by simp) (Nat.le_refl _)), List.nodup_nil, fun z => by simp, by simp, o10, WfT.nil, (fun zz hz hz2 => n49 zz hz2 hz), o21, WfT.nil, (fun zz hz hz2 => n50 zz hz2 hz), (fun zz hz hz2 => n20 zz hz2 hz), (fun _ hb => hb.elim), p69, p70, (.inl ⟨rfl, rfl⟩ : OwnAt h66 3 zc ([] : List Int) (.slice none 0 0)), p71⟩
  rintro n' _ h73 ⟨ka, ids, ia, ic, ma, mb, Oa, Ob, g0, rfl, x74, m75, f76, i77, i78, i79, i80, i81, i82, i83, i84, i85, i86, i87, i88, i89, i90, p91, p92, p93, p94⟩
  by_cases c95 : ((ka) : Int) < ((zs30.length : Nat))
  · obtain ⟨i96, v97, e98, l99, g100⟩ := list_at zs30 (e := (ka)) (by omega) (by first | omega | (simp only [List.length_set, List.length_append, List.length_singleton]; omega))
    obtain ⟨b101, o102, k103, q104, a105⟩ := p28.at hc16_size g100
    have t106 := szs33 _ (List.mem_of_getElem? g100)
    have t107 : 0 ≤ Int.tmod (v97) 9999 ∧ Int.tmod (v97) 9999 < 9999 := ⟨Int.tmod_nonneg _ (by omega), Int.tmod_lt_of_pos _ (by omega)⟩
    obtain ⟨i108, v109, e110, l111, g112⟩ := list_at zs30 (e := ((((zs30.length : Nat)) - 1) - (ka))) (by omega) (by first | omega | (simp only [List.length_set, List.length_append, List.length_singleton]; omega))
    obtain ⟨b113, o114, k115, q116, a117⟩ := p28.at hc16_size g112
    have t118 := szs33 _ (List.mem_of_getElem? g112)
    have t119 : 0 ≤ Int.tmod (v109) 9999 ∧ Int.tmod (v109) 9999 < 9999 := ⟨Int.tmod_nonneg _ (by omega), Int.tmod_lt_of_pos _ (by omega)⟩
    obtain ⟨_, _, s120, rfl, rfl⟩ := ctI_ok h73 ids (1 + (Int.tmod (v97) 9999)) _ _ (p93.slice zc_size) (by omega)
    by_cases c121 : (1 + (Int.tmod (v97) 9999)) ∈ ids
    · obtain ⟨_, h122, s123, rfl, x124, O10648, p125, o126⟩ := tstart_ok h73 p91 i84 (1 + (Int.tmod (v97) 9999)) d41 _ _ (OwnAt.lat p94 stepc_size (tsz_of size67)) (by omega) 5
      have k127 := WfT.start i84 (1 + (Int.tmod (v97) 9999)) d41 5
      have q128 := start_full (m := ma) (k := kN v97) k43 (kN_rng (by omega)) (by have := i78.few; omega)
      have e129 : startE ma (1 + (Int.tmod (v97) 9999)) d41 5 = 6 := (q128.1 (((i78.keys (kN v97)).trans (i81 (kN v97)).symm).2 c121)).1
      rw [e129] at s123
      have z130 : h.size ≤ h73.size := x74.size
      have x131 : Ext h _ := (Chg.then (O := fun _ => False) (Chg.ext x74) x124 (fun b hb => .inr (i83 b hb))).toExt'
      have f132 := x124.same _ _ f76 (fun hb => p91.ne f76 (by decide) (by decide) _ hb rfl)
      have p133 := p92.keep fun b r hb q => x124.same b r q ((fun b hb hb2 => i89 b hb2 hb) b hb)
      have p134 := p93.keep fun b r hb q => x124.same b r q ((fun b hb hb2 => p91.off p93 (by decide) (by decide) b hb2 hb) b hb)
      have p135 := p94.keep fun b r hb q => x124.same b r q ((fun b hb hb2 => i85 b hb2 hb) b hb)
      have z136 : h.size ≤ h73.size := x74.size
      have n137 : ∀ zz, O10648 zz → ¬ Ob zz := fun zz hz ez => by rcases o126 zz hz with g | g; (exact i89 _ g ez); have := p92.blk_lt ez; omega
      have n138 : ∀ zz, O10648 zz → ¬ (blk (Value.slice w36 (d41.xs.length) (c37))) zz := fun zz hz ez => by rcases o126 zz hz with g | g; (exact i85 _ g ez); have := p94.blk_lt ez; omega
      have o139 : ∀ zz, O10648 zz → h.size ≤ zz := fun zz hz => by rcases o126 zz hz with g | g; (exact i83 zz g); omega
      obtain ⟨_, h140, s141, rfl, x142, O10668, p143, o144⟩ := tstart_ok h122 p133 i87 (1 + (Int.tmod (v109) 9999)) d41 _ _ (OwnAt.lat p135 stepc_size (tsz_of size67)) (by omega) 5
      have k145 := WfT.start i87 (1 + (Int.tmod (v109) 9999)) d41 5
      have z146 : h.size ≤ h122.size := x131.size
      have x147 : Ext h _ := (Chg.then (O := fun _ => False) (Chg.ext x131) x142 (fun b hb => .inr (i86 b hb))).toExt'
      have f148 := x142.same _ _ f132 (fun hb => p133.ne f132 (by decide) (by decide) _ hb rfl)
      have p149 := p125.keep fun b r hb q => x142.same b r q (n137 b hb)
      have p150 := p134.keep fun b r hb q => x142.same b r q ((fun b hb hb2 => p133.off p134 (by decide) (by decide) b hb2 hb) b hb)
      have p151 := p135.keep fun b r hb q => x142.same b r q ((fun b hb hb2 => i88 b hb2 hb) b hb)
      have z152 : h.size ≤ h122.size := x131.size
      have n153 : ∀ zz, O10668 zz → ¬ O10648 zz := fun zz hz ez => by rcases o144 zz hz with g | g; (exact n137 _ ez g); have := p125.blk_lt ez; omega
      have n154 : ∀ zz, O10668 zz → ¬ (blk (Value.slice w36 (d41.xs.length) (c37))) zz := fun zz hz ez => by rcases o144 zz hz with g | g; (exact i88 _ g ez); have := p135.blk_lt ez; omega
      have o155 : ∀ zz, O10668 zz → h.size ≤ zz := fun zz hz => by rcases o144 zz hz with g | g; (exact i86 zz g); omega
      refine wc_ev [ltT 6 0 3 c95, evV 8 2 (vP b101 o102) (show indexAddrA Tryz.prog 69 (vL sb25 zs30.length cq26) (vI ka) = some (vP b101 o102) from a105 und69 size71 e98), evV 8 3 (Value.int .u16 (v97)) (show loadT Tryz.prog h73 71 (vP b101 o102) = some (Value.int .u16 (v97)) from (k103.keep fun b r _ q => x74 b r q).cell (j := 0) agg71 rfl), evV 8 4 (vI v97) (show (vI v97) = (vI (IntKind.i64.wrap (v97))) from by congr 1; rw [IntKind.wrap_i64]; omega), evV 8 5 (vI (Int.tmod (v97) 9999)) (show binA Tryz.prog .rem 3 (vI v97) (vI 9999) = some (vI (Int.tmod (v97) 9999)) from rem_int (by omega)), evV 8 6 (vI (1 + (Int.tmod (v97) 9999))) (show binA Tryz.prog .add 3 (vI 1) (vI (Int.tmod (v97) 9999)) = some (vI (1 + (Int.tmod (v97) 9999))) from add_i64 (by omega) (by omega)), evV 8 10 (vI (((zs30.length : Nat)) - 1)) (show binA Tryz.prog .sub 3 (vI ((zs30.length : Nat))) (vI 1) = some (vI (((zs30.length : Nat)) - 1)) from sub_i64 (by omega) (by omega)), evV 8 12 (vI ((((zs30.length : Nat)) - 1) - (ka))) (show binA Tryz.prog .sub 3 (vI (((zs30.length : Nat)) - 1)) (vI ka) = some (vI ((((zs30.length : Nat)) - 1) - (ka))) from sub_i64 (by omega) (by omega)), evV 8 13 (vP b113 o114) (show indexAddrA Tryz.prog 69 (vL sb25 zs30.length cq26) (vI ((((zs30.length : Nat)) - 1) - (ka))) = some (vP b113 o114) from a117 und69 size71 e110), evV 8 14 (Value.int .u16 (v109)) (show loadT Tryz.prog h73 71 (vP b113 o114) = some (Value.int .u16 (v109)) from (k115.keep fun b r _ q => x74 b r q).cell (j := 0) agg71 rfl), evV 8 15 (vI v109) (show (vI v109) = (vI (IntKind.i64.wrap (v109))) from by congr 1; rw [IntKind.wrap_i64]; omega), evV 8 16 (vI (Int.tmod (v109) 9999)) (show binA Tryz.prog .rem 3 (vI v109) (vI 9999) = some (vI (Int.tmod (v109) 9999)) from rem_int (by omega)), evV 8 17 (vI (1 + (Int.tmod (v109) 9999))) (show binA Tryz.prog .add 3 (vI 1) (vI (Int.tmod (v109) 9999)) = some (vI (1 + (Int.tmod (v109) 9999))) from add_i64 (by omega) (by omega)), evFt 10 2 c121 s120, evLw 13 2 agg31 size31 f76, evF 13 3 s123, evLw 15 2 agg31 size31 f132, evF 15 3 s141, evV 16 0 (vI ((ka) + 1)) (show binA Tryz.prog .add 3 (vI ka) (vI 1) = some (vI ((ka) + 1)) from add_i64 (by omega) (by omega))] .normal h140 [(28, (vB true)), (29, (vI ka)), (9, (vI ka)), (30, (vL sb25 zs30.length cq26)), (31, (vI ka)), (32, (vP b101 o102)), (33, (Value.int .u16 (v97))), (34, (vI v97)), (35, (vI (Int.tmod (v97) 9999))), (36, (vI (1 + (Int.tmod (v97) 9999)))), (37, (vL sb25 zs30.length cq26)), (38, (vL sb25 zs30.length cq26)), (39, (vI ((zs30.length : Nat)))), (40, (vI (((zs30.length : Nat)) - 1))), (41, (vI ka)), (42, (vI ((((zs30.length : Nat)) - 1) - (ka)))), (43, (vP b113 o114)), (44, (Value.int .u16 (v109))), (45, (vI v109)), (46, (vI (Int.tmod (v109) 9999))), (47, (vI (1 + (Int.tmod (v109) 9999)))), (10, (vI (1 + (Int.tmod (v97) 9999)))), (11, (vI (1 + (Int.tmod (v109) 9999)))), (12, (vI 0)), (48, (vL ia ids.length ic)), (49, (vI (1 + (Int.tmod (v97) 9999)))), (50, (vB true)), (12, (vI 6)), (55, (vP b4 0)), (56, (vI (1 + (Int.tmod (v97) 9999)))), (57, (vA #[(vS d41.name), (vI d41.rt), (vI d41.dl), (vL w36 d41.xs.length c37)])), (58, (vI 6)), (59, (vI 6)), (60, (vB false)), (61, (vP b13 0)), (62, (vI (1 + (Int.tmod (v109) 9999)))), (63, (vA #[(vS d41.name), (vI d41.rt), (vI d41.dl), (vL w36 d41.xs.length c37)])), (64, (vI (startE mb (1 + (Int.tmod (v109) 9999)) d41 5))), (65, (vI ((ka) + 1))), (27, (vI ((ka) + 1)))] ?_
      exact ⟨zs30.length - (ka + 1).toNat, by omega, ⟨ka + 1, ids, ia, ic, (startM ma (1 + (Int.tmod (v97) 9999)) d41 5), (startM mb (1 + (Int.tmod (v109) 9999)) d41 5), O10648, O10668, (fun i => ([vU, vU, vU, vU, (g0 4), vU, vU, vU, vU, (vI ka), (vI (1 + (Int.tmod (v97) 9999))), (vI (1 + (Int.tmod (v109) 9999))), (vI 6), vU, vU, vU, vU, vU, vU, vU, vU, vU, vU, vU, vU, vU, vU, vU, (vB true), (vI ka), (vL sb25 zs30.length cq26), (vI ka), (vP b101 o102), (Value.int .u16 (v97)), (vI v97), (vI (Int.tmod (v97) 9999)), (vI (1 + (Int.tmod (v97) 9999))), (vL sb25 zs30.length cq26), (vL sb25 zs30.length cq26), (vI ((zs30.length : Nat))), (vI (((zs30.length : Nat)) - 1)), (vI ka), (vI ((((zs30.length : Nat)) - 1) - (ka))), (vP b113 o114), (Value.int .u16 (v109)), (vI v109), (vI (Int.tmod (v109) 9999)), (vI (1 + (Int.tmod (v109) 9999))), (vL ia ids.length ic), (vI (1 + (Int.tmod (v97) 9999))), (vB true), (g0 51), (g0 52), (g0 53), (g0 54), (vP b4 0), (vI (1 + (Int.tmod (v97) 9999))), (vA #[(vS d41.name), (vI d41.rt), (vI d41.dl), (vL w36 d41.xs.length c37)]), (vI 6), (vI 6), (vB false), (vP b13 0), (vI (1 + (Int.tmod (v109) 9999))), (vA #[(vS d41.name), (vI d41.rt), (vI d41.dl), (vL w36 d41.xs.length c37)]), (vI (startE mb (1 + (Int.tmod (v109) 9999)) d41 5)), (vI ((ka) + 1))] : List Value).getD i undef), by as_aux_lemma => kernel_rfl, x147, rfl, f148, by omega, AllS.iff (AllS.start i78 (k := kN v97) k43 (kN_rng (by omega)) (by omega)) (fun z => by rw [show (ka + 1).toNat = ka.toNat + 1 by omega]; exact mem_take_next (show zs30[ka.toNat]? = some v97 by rw [show ka.toNat = i96 by omega]; exact g100) kN z) (by omega), AllS.iff (AllS.start i79 (k := kN v109) k43 (kN_rng (by omega)) (by omega)) (fun z => by rw [show zs30.length - (ka + 1).toNat = i108 by omega, show zs30.length - ka.toNat = i108 + 1 by omega]; exact mem_drop_next g112 kN z) (by omega), i80, by rw [show (ka + 1).toNat = ka.toNat + 1 by omega]; exact ids_old i81 (show zs30[ka.toNat]? = some v97 by rw [show ka.toNat = i96 by omega]; exact g100) c121, by omega, o139, k127, n138, o155, k145, n154, (fun zz hz hz2 => n153 zz hz2 hz), i90, p149, p143, p150, p151⟩⟩
    · obtain ⟨b156, eb157⟩ : ∃ zq, zq = h73.size := ⟨_, rfl⟩
      obtain ⟨h158, e159⟩ : ∃ zq, zq = h73.push (.cells #[(vI (1 + (Int.tmod (v97) 9999)))] 3 (0, 0)) := ⟨_, rfl⟩
      have f160 := push_new e159
      rw [← eb157] at f160
      have x161 : Ext h73 h158 := by rw [e159]; exact Ext.push _ _
      have o162 : h.size ≤ b156 := by have := x74.size; omega
      have f163 := x161 _ _ f76
      have p164 := p91.keep fun b r _ q => x161 b r q
      have p165 := p92.keep fun b r _ q => x161 b r q
      have p166 := p93.keep fun b r _ q => x161 b r q
      have p167 := p94.keep fun b r _ q => x161 b r q
      have x168 := x74.trans x161
      obtain ⟨w169, h170, e171, p172, c173, n174, z175⟩ := own_append und63 sizeb3 zero3 rfl (by decide) zc_size (x := (1 + (Int.tmod (v97) 9999))) p166 f160 rfl (by omega) (by unfold maxLen; omega)
      obtain ⟨a176, c177, rfl⟩ := (p172.slice zc_size).len
      have z178 : h.size ≤ h158.size := x168.size
      have x179 : Ext h _ := (Chg.then (O := fun _ => False) (Chg.ext x168) c173 (fun b hb => .inr (i90 b hb))).toExt'
      have f180 := c173.same _ _ f163 (fun hb => p166.ne f163 (by decide) hb rfl)
      have p181 := p164.keep fun b r hb q => c173.same b r q ((p164.off p166 (by decide) (by decide)) b hb)
      have p182 := p165.keep fun b r hb q => c173.same b r q ((p165.off p166 (by decide) (by decide)) b hb)
      have p183 := p167.keep fun b r hb q => c173.same b r q ((fun b hb hb2 => p167.apart p166 (by decide) hb hb2) b hb)
      have n184 : ∀ zz, blk (Value.slice a176 ((ids ++ [(1 + (Int.tmod (v97) 9999))]).length) (c177)) zz → ¬ Oa zz := fun zz hz ez => by have := n174 zz hz; have := p164.blk_lt ez; omega
      have n185 : ∀ zz, blk (Value.slice a176 ((ids ++ [(1 + (Int.tmod (v97) 9999))]).length) (c177)) zz → ¬ Ob zz := fun zz hz ez => by have := n174 zz hz; have := p165.blk_lt ez; omega
      have o186 : ∀ zz, blk (Value.slice a176 ((ids ++ [(1 + (Int.tmod (v97) 9999))]).length) (c177)) zz → h.size ≤ zz := fun zz hz => by have := n174 zz hz; have := z178; omega
      obtain ⟨_, h187, s188, rfl, x189, O10738, p190, o191⟩ := tstart_ok h170 p181 i84 (1 + (Int.tmod (v97) 9999)) d41 _ _ (OwnAt.lat p183 stepc_size (tsz_of size67)) (by omega) 5
      have k192 := WfT.start i84 (1 + (Int.tmod (v97) 9999)) d41 5
      have q193 := start_full (m := ma) (k := kN v97) k43 (kN_rng (by omega)) (by have := i78.few; omega)
      have e194 : startE ma (1 + (Int.tmod (v97) 9999)) d41 5 = 0 := (q193.2 (fun w => c121 (((i78.keys (kN v97)).trans (i81 (kN v97)).symm).1 w))).1
      rw [e194] at s188
      have z195 : h.size ≤ h170.size := x179.size
      have x196 : Ext h _ := (Chg.then (O := fun _ => False) (Chg.ext x179) x189 (fun b hb => .inr (i83 b hb))).toExt'
      have f197 := x189.same _ _ f180 (fun hb => p181.ne f180 (by decide) (by decide) _ hb rfl)
      have p198 := p182.keep fun b r hb q => x189.same b r q ((fun b hb hb2 => i89 b hb2 hb) b hb)
      have p199 := p183.keep fun b r hb q => x189.same b r q ((fun b hb hb2 => i85 b hb2 hb) b hb)
      have p200 := p172.keep fun b r hb q => x189.same b r q (n184 b hb)
      have z201 : h.size ≤ h170.size := x179.size
      have n202 : ∀ zz, O10738 zz → ¬ Ob zz := fun zz hz ez => by rcases o191 zz hz with g | g; (exact i89 _ g ez); have := p182.blk_lt ez; omega
      have n203 : ∀ zz, O10738 zz → ¬ (blk (Value.slice w36 (d41.xs.length) (c37))) zz := fun zz hz ez => by rcases o191 zz hz with g | g; (exact i85 _ g ez); have := p183.blk_lt ez; omega
      have o204 : ∀ zz, O10738 zz → h.size ≤ zz := fun zz hz => by rcases o191 zz hz with g | g; (exact i83 zz g); omega
      obtain ⟨_, h205, s206, rfl, x207, O10761, p208, o209⟩ := tstart_ok h187 p198 i87 (1 + (Int.tmod (v109) 9999)) d41 _ _ (OwnAt.lat p199 stepc_size (tsz_of size67)) (by omega) 5
      have k210 := WfT.start i87 (1 + (Int.tmod (v109) 9999)) d41 5
      have z211 : h.size ≤ h187.size := x196.size
      have x212 : Ext h _ := (Chg.then (O := fun _ => False) (Chg.ext x196) x207 (fun b hb => .inr (i86 b hb))).toExt'
      have f213 := x207.same _ _ f197 (fun hb => p198.ne f197 (by decide) (by decide) _ hb rfl)
      have p214 := p190.keep fun b r hb q => x207.same b r q (n202 b hb)
      have p215 := p199.keep fun b r hb q => x207.same b r q ((fun b hb hb2 => i88 b hb2 hb) b hb)
      have p216 := p200.keep fun b r hb q => x207.same b r q (n185 b hb)
      have z217 : h.size ≤ h187.size := x196.size
      have n218 : ∀ zz, O10761 zz → ¬ O10738 zz := fun zz hz ez => by rcases o209 zz hz with g | g; (exact n202 _ ez g); have := p190.blk_lt ez; omega
      have n219 : ∀ zz, O10761 zz → ¬ (blk (Value.slice w36 (d41.xs.length) (c37))) zz := fun zz hz ez => by rcases o209 zz hz with g | g; (exact i88 _ g ez); have := p199.blk_lt ez; omega
      have o220 : ∀ zz, O10761 zz → h.size ≤ zz := fun zz hz => by rcases o209 zz hz with g | g; (exact i86 zz g); omega
      refine wc_ev [ltT 6 0 3 c95, evV 8 2 (vP b101 o102) (show indexAddrA Tryz.prog 69 (vL sb25 zs30.length cq26) (vI ka) = some (vP b101 o102) from a105 und69 size71 e98), evV 8 3 (Value.int .u16 (v97)) (show loadT Tryz.prog h73 71 (vP b101 o102) = some (Value.int .u16 (v97)) from (k103.keep fun b r _ q => x74 b r q).cell (j := 0) agg71 rfl), evV 8 4 (vI v97) (show (vI v97) = (vI (IntKind.i64.wrap (v97))) from by congr 1; rw [IntKind.wrap_i64]; omega), evV 8 5 (vI (Int.tmod (v97) 9999)) (show binA Tryz.prog .rem 3 (vI v97) (vI 9999) = some (vI (Int.tmod (v97) 9999)) from rem_int (by omega)), evV 8 6 (vI (1 + (Int.tmod (v97) 9999))) (show binA Tryz.prog .add 3 (vI 1) (vI (Int.tmod (v97) 9999)) = some (vI (1 + (Int.tmod (v97) 9999))) from add_i64 (by omega) (by omega)), evV 8 10 (vI (((zs30.length : Nat)) - 1)) (show binA Tryz.prog .sub 3 (vI ((zs30.length : Nat))) (vI 1) = some (vI (((zs30.length : Nat)) - 1)) from sub_i64 (by omega) (by omega)), evV 8 12 (vI ((((zs30.length : Nat)) - 1) - (ka))) (show binA Tryz.prog .sub 3 (vI (((zs30.length : Nat)) - 1)) (vI ka) = some (vI ((((zs30.length : Nat)) - 1) - (ka))) from sub_i64 (by omega) (by omega)), evV 8 13 (vP b113 o114) (show indexAddrA Tryz.prog 69 (vL sb25 zs30.length cq26) (vI ((((zs30.length : Nat)) - 1) - (ka))) = some (vP b113 o114) from a117 und69 size71 e110), evV 8 14 (Value.int .u16 (v109)) (show loadT Tryz.prog h73 71 (vP b113 o114) = some (Value.int .u16 (v109)) from (k115.keep fun b r _ q => x74 b r q).cell (j := 0) agg71 rfl), evV 8 15 (vI v109) (show (vI v109) = (vI (IntKind.i64.wrap (v109))) from by congr 1; rw [IntKind.wrap_i64]; omega), evV 8 16 (vI (Int.tmod (v109) 9999)) (show binA Tryz.prog .rem 3 (vI v109) (vI 9999) = some (vI (Int.tmod (v109) 9999)) from rem_int (by omega)), evV 8 17 (vI (1 + (Int.tmod (v109) 9999))) (show binA Tryz.prog .add 3 (vI 1) (vI (Int.tmod (v109) 9999)) = some (vI (1 + (Int.tmod (v109) 9999))) from add_i64 (by omega) (by omega)), evFf 10 2 c121 s120, evS 12 2 1 eb157 e159, evP 12 3 e171, evLw 13 2 agg31 size31 f180, evF 13 3 s188, evLw 15 2 agg31 size31 f197, evF 15 3 s206, evV 16 0 (vI ((ka) + 1)) (show binA Tryz.prog .add 3 (vI ka) (vI 1) = some (vI ((ka) + 1)) from add_i64 (by omega) (by omega))] .normal h205 [(28, (vB true)), (29, (vI ka)), (9, (vI ka)), (30, (vL sb25 zs30.length cq26)), (31, (vI ka)), (32, (vP b101 o102)), (33, (Value.int .u16 (v97))), (34, (vI v97)), (35, (vI (Int.tmod (v97) 9999))), (36, (vI (1 + (Int.tmod (v97) 9999)))), (37, (vL sb25 zs30.length cq26)), (38, (vL sb25 zs30.length cq26)), (39, (vI ((zs30.length : Nat)))), (40, (vI (((zs30.length : Nat)) - 1))), (41, (vI ka)), (42, (vI ((((zs30.length : Nat)) - 1) - (ka)))), (43, (vP b113 o114)), (44, (Value.int .u16 (v109))), (45, (vI v109)), (46, (vI (Int.tmod (v109) 9999))), (47, (vI (1 + (Int.tmod (v109) 9999)))), (10, (vI (1 + (Int.tmod (v97) 9999)))), (11, (vI (1 + (Int.tmod (v109) 9999)))), (12, (vI 0)), (48, (vL ia ids.length ic)), (49, (vI (1 + (Int.tmod (v97) 9999)))), (50, (vB false)), (51, (vL ia ids.length ic)), (52, (vI (1 + (Int.tmod (v97) 9999)))), (53, (vL (some ⟨b156, 0, none⟩) 1 1)), (54, (Value.slice a176 ((ids ++ [(1 + (Int.tmod (v97) 9999))]).length) (c177))), (8, (Value.slice a176 ((ids ++ [(1 + (Int.tmod (v97) 9999))]).length) (c177))), (55, (vP b4 0)), (56, (vI (1 + (Int.tmod (v97) 9999)))), (57, (vA #[(vS d41.name), (vI d41.rt), (vI d41.dl), (vL w36 d41.xs.length c37)])), (58, (vI 0)), (59, (vI 0)), (60, (vB false)), (61, (vP b13 0)), (62, (vI (1 + (Int.tmod (v109) 9999)))), (63, (vA #[(vS d41.name), (vI d41.rt), (vI d41.dl), (vL w36 d41.xs.length c37)])), (64, (vI (startE mb (1 + (Int.tmod (v109) 9999)) d41 5))), (65, (vI ((ka) + 1))), (27, (vI ((ka) + 1)))] ?_
      exact ⟨zs30.length - (ka + 1).toNat, by omega, ⟨ka + 1, (ids ++ [(1 + (Int.tmod (v97) 9999))]), a176, c177, (startM ma (1 + (Int.tmod (v97) 9999)) d41 5), (startM mb (1 + (Int.tmod (v109) 9999)) d41 5), O10738, O10761, (fun i => ([vU, vU, vU, vU, (g0 4), vU, vU, vU, vU, (vI ka), (vI (1 + (Int.tmod (v97) 9999))), (vI (1 + (Int.tmod (v109) 9999))), (vI 0), vU, vU, vU, vU, vU, vU, vU, vU, vU, vU, vU, vU, vU, vU, vU, (vB true), (vI ka), (vL sb25 zs30.length cq26), (vI ka), (vP b101 o102), (Value.int .u16 (v97)), (vI v97), (vI (Int.tmod (v97) 9999)), (vI (1 + (Int.tmod (v97) 9999))), (vL sb25 zs30.length cq26), (vL sb25 zs30.length cq26), (vI ((zs30.length : Nat))), (vI (((zs30.length : Nat)) - 1)), (vI ka), (vI ((((zs30.length : Nat)) - 1) - (ka))), (vP b113 o114), (Value.int .u16 (v109)), (vI v109), (vI (Int.tmod (v109) 9999)), (vI (1 + (Int.tmod (v109) 9999))), (vL ia ids.length ic), (vI (1 + (Int.tmod (v97) 9999))), (vB false), (vL ia ids.length ic), (vI (1 + (Int.tmod (v97) 9999))), (vL (some ⟨b156, 0, none⟩) 1 1), (Value.slice a176 ((ids ++ [(1 + (Int.tmod (v97) 9999))]).length) (c177)), (vP b4 0), (vI (1 + (Int.tmod (v97) 9999))), (vA #[(vS d41.name), (vI d41.rt), (vI d41.dl), (vL w36 d41.xs.length c37)]), (vI 0), (vI 0), (vB false), (vP b13 0), (vI (1 + (Int.tmod (v109) 9999))), (vA #[(vS d41.name), (vI d41.rt), (vI d41.dl), (vL w36 d41.xs.length c37)]), (vI (startE mb (1 + (Int.tmod (v109) 9999)) d41 5)), (vI ((ka) + 1))] : List Value).getD i undef), by as_aux_lemma => kernel_rfl, x212, rfl, f213, by omega, AllS.iff (AllS.start i78 (k := kN v97) k43 (kN_rng (by omega)) (by omega)) (fun z => by rw [show (ka + 1).toNat = ka.toNat + 1 by omega]; exact mem_take_next (show zs30[ka.toNat]? = some v97 by rw [show ka.toNat = i96 by omega]; exact g100) kN z) (by omega), AllS.iff (AllS.start i79 (k := kN v109) k43 (kN_rng (by omega)) (by omega)) (fun z => by rw [show zs30.length - (ka + 1).toNat = i108 by omega, show zs30.length - ka.toNat = i108 + 1 by omega]; exact mem_drop_next g112 kN z) (by omega), nodup_snoc i80 c121, by rw [show (ka + 1).toNat = ka.toNat + 1 by omega]; exact ids_new i81 (show zs30[ka.toNat]? = some v97 by rw [show ka.toNat = i96 by omega]; exact g100), by rw [List.length_append, List.length_singleton]; omega, o204, k192, n203, o220, k210, n219, (fun zz hz hz2 => n218 zz hz2 hz), o186, p214, p208, p216, p215⟩⟩
  · refine wc_ev [ltF 6 0 3 c95] (.exit 0) h73 [(28, (vB false))] ?_
    refine wc_seq' (subc (bodyOf Tryz.prog 5) [1, 1, 1, 1, 1, 1, 0]) (subc (bodyOf Tryz.prog 5) [1, 1, 1, 1, 1, 1, 1]) (by kernel_rfl) ?_
    obtain ⟨h221, s222, o223, c224, z225⟩ := sort_soundI (fun blk off cap zs w hH hb hz => Go.Proofs.AnyM.slices_Sort_int sortL blk off cap zs w hH hb hz) (fun p cap w => Go.Proofs.AnyM.slices_Sort_int_none sortL p cap w) p93 (by omega)
    have hab : mb = ma := same_tab i84 i87 i78 i79 (fun k => by rw [List.take_of_length_le (by omega), show zs30.length - ka.toNat = 0 by omega, List.drop_zero])
    have hon := opn_all i78
    have hl1 : (nxtL ma).length = (idsL ma).length := by rw [hon.2, List.length_map]
    have hl2 : (opnL ma).length = (idsL ma).length := by rw [hon.1]
    have hl3 := idsL_len ma
    have q226 : sortZ ids = (idsL ma) := sort_ids i84 i80 (fun k => (i78.keys k).trans (i81 k).symm)
    have q227 : ids.length = (idsL ma).length := by rw [← q226, sortZ_len]
    rw [q226] at o223
    have z228 : h.size ≤ h73.size := x74.size
    have x229 : Ext h _ := (Chg.then (O := fun _ => False) (Chg.ext x74) c224 (fun b hb => .inr (i90 b hb))).toExt'
    have f230 := c224.same _ _ f76 (fun hb => p93.ne f76 (by decide) hb rfl)
    have p231 := p91.keep fun b r hb q => c224.same b r q ((p91.off p93 (by decide) (by decide)) b hb)
    have p232 := p92.keep fun b r hb q => c224.same b r q ((p92.off p93 (by decide) (by decide)) b hb)
    have p233 := p94.keep fun b r hb q => c224.same b r q ((fun b hb hb2 => p94.apart p93 (by decide) hb hb2) b hb)
    refine wc_ev [evF 17 1 s222] .normal h221 [(66, (vL ia ids.length ic)), (67, vZ)] ?_
    refine wc_seq' (subc (bodyOf Tryz.prog 5) [1, 1, 1, 1, 1, 1, 1, 0]) (subc (bodyOf Tryz.prog 5) [1, 1, 1, 1, 1, 1, 1, 1]) (by kernel_rfl) ?_
    obtain ⟨_, h234, s235, w236, c237, rfl, o238, x239, n240⟩ := tnext_ok h221 p231 i84 (x229 _ _ hg0) (x229 _ _ hg1)
    have z241 : (nxtL ma).length ≤ 64 := Nat.le_trans (nxtL_len _) (i84).few
    have f242 := x239 _ _ f230
    have p243 := p231.keep fun b r _ q => x239 b r q
    have p244 := p232.keep fun b r _ q => x239 b r q
    have p245 := o223.keep fun b r _ q => x239 b r q
    have p246 := p233.keep fun b r _ q => x239 b r q
    have x247 := x229.trans x239
    have z248 : h.size ≤ h221.size := x229.size
    have o249 : ∀ zz, blk (Value.slice w236 ((nxtL ma).length) (c237)) zz → h.size ≤ zz := fun zz hz => by have := n240 zz hz; omega
    refine wc_ev [evF 18 1 s235] .normal h234 [(68, (vP b4 0)), (69, (vL w236 ((nxtL ma).length) c237)), (13, (vL w236 ((nxtL ma).length) c237))] ?_
    refine wc_seq' (subc (bodyOf Tryz.prog 5) [1, 1, 1, 1, 1, 1, 1, 1, 0]) (subc (bodyOf Tryz.prog 5) [1, 1, 1, 1, 1, 1, 1, 1, 1]) (by kernel_rfl) ?_
    by_cases c250 : ((((nxtL ma).length : Nat)) : Int) = ((ids.length : Nat))
    · refine wc_ev [neF 19 4 3 c250] .normal h234 [(70, (vL w236 ((nxtL ma).length) c237)), (71, (vI (((nxtL ma).length : Nat)))), (72, (vL ia ids.length ic)), (73, (vI ((ids.length : Nat)))), (74, (vB false))] ?_
      refine wc_seq' (subc (bodyOf Tryz.prog 5) [1, 1, 1, 1, 1, 1, 1, 1, 1, 0]) (subc (bodyOf Tryz.prog 5) [1, 1, 1, 1, 1, 1, 1, 1, 1, 1]) (by kernel_rfl) ?_
      refine wc_seq' (subc (bodyOf Tryz.prog 5) [1, 1, 1, 1, 1, 1, 1, 1, 1, 0, 0]) (subc (bodyOf Tryz.prog 5) [1, 1, 1, 1, 1, 1, 1, 1, 1, 0, 1]) (by kernel_rfl) ?_
      refine wc_ev [] .normal h234 [(75, (vL ia ids.length ic)), (76, (vI ((ids.length : Nat)))), (77, (vI 0))] ?_
      refine wc_block' 2 (subc (bodyOf Tryz.prog 5) [1, 1, 1, 1, 1, 1, 1, 1, 1, 0, 1, 0]) (by kernel_rfl) ?_
      refine wc_loop' (subc (bodyOf Tryz.prog 5) [1, 1, 1, 1, 1, 1, 1, 1, 1, 0, 1, 0, 0]) (by kernel_rfl) (fun n' a' h' => ∃ (kb : Int) (g1 : Nat → Value), a' = { tmps := #[(vL sb25 zs30.length cq26), (Value.int .u8 (n)), vZ, vZ, (g1 4), (vP b4 0), (vP b13 0), (vP b52 0), (vL ia ids.length ic), (g0 9), (g0 10), (g0 11), (g0 12), (vL w236 ((nxtL ma).length) c237), (g1 14), (g1 15), (vP b4 0), (vP b13 0), (vL sa l.length cp), (vL sa l.length cp), (vI ((l.length : Nat))), (vI mn22), (vL sb25 zs30.length cq26), (Value.int .u8 (n)), (vA #[(vS d41.name), (vI d41.rt), (vI d41.dl), (vL w36 d41.xs.length c37)]), (vL sb25 zs30.length cq26), (vI ((zs30.length : Nat))), (vI ka), (vB false), (g0 29), (g0 30), (g0 31), (g0 32), (g0 33), (g0 34), (g0 35), (g0 36), (g0 37), (g0 38), (g0 39), (g0 40), (g0 41), (g0 42), (g0 43), (g0 44), (g0 45), (g0 46), (g0 47), (g0 48), (g0 49), (g0 50), (g0 51), (g0 52), (g0 53), (g0 54), (g0 55), (g0 56), (g0 57), (g0 58), (g0 59), (g0 60), (g0 61), (g0 62), (g0 63), (g0 64), (g0 65), (vL ia ids.length ic), vZ, (vP b4 0), (vL w236 ((nxtL ma).length) c237), (vL w236 ((nxtL ma).length) c237), (vI (((nxtL ma).length : Nat))), (vL ia ids.length ic), (vI ((ids.length : Nat))), (vB false), (vL ia ids.length ic), (vI ((ids.length : Nat))), (vI kb), (g1 78), (g1 79), (g1 80), (g1 81), (g1 82), (g1 83), (g1 84), (g1 85), (g1 86), (g1 87), (g1 88), (g1 89), vZ, vZ, vZ, vZ, vZ, vZ, vZ, vZ, vZ, vZ, vZ, vZ, vZ, vZ, vZ, vZ, vZ, vZ, vZ, vZ, vZ, vZ, vZ, vZ, vZ, vZ, vZ, vZ, vZ, vZ, vZ, vZ, vZ, vZ, vZ, vZ, vZ, vZ, vZ, vZ], defers := [] } ∧ Ext h h' ∧ n' = ids.length - kb.toNat ∧ h'[b52]? = some (.cells #[(vS d41.name), (vI d41.rt), (vI d41.dl), (vL w36 d41.xs.length c37)] 31 (0, 0)) ∧ (0 ≤ kb ∧ kb ≤ (ids.length : Nat)) ∧ TbAt 57 h' Oa b4 ma ∧ TbAt 57 h' Ob b13 mb ∧ OwnAt h' 3 zc (idsL ma) (vL ia ids.length ic) ∧ OwnAt h' 67 stepc d41.xs (vL w36 d41.xs.length c37) ∧ OwnAt h' 33 effc (nxtL ma) (vL w236 ((nxtL ma).length) c237)) ?_ (ids.length - (0 : Int).toNat) ⟨0, (fun i => ([vU, vU, vU, vU, (g0 4), vU, vU, vU, vU, vU, vU, vU, vU, vU, vZ, vZ, vU, vU, vU, vU, vU, vU, vU, vU, vU, vU, vU, vU, vU, vU, vU, vU, vU, vU, vU, vU, vU, vU, vU, vU, vU, vU, vU, vU, vU, vU, vU, vU, vU, vU, vU, vU, vU, vU, vU, vU, vU, vU, vU, vU, vU, vU, vU, vU, vU, vU, vU, vU, vU, vU, vU, vU, vU, vU, vU, vU, vU, vU, vZ, vZ, vZ, vZ, vZ, vZ, vZ, vZ, vZ, vZ, vZ, vZ] : List Value).getD i undef), by as_aux_lemma => kernel_rfl, x247, rfl, f242, by omega, p243, p244, p245, p246, o238⟩
      rintro n' _ h251 ⟨kb, g1, rfl, x252, m253, f254, i255, p256, p257, p258, p259, p260⟩
      by_cases c261 : ((kb) : Int) < ((ids.length : Nat))
      · obtain ⟨i262, v263, e264, l265, g266⟩ := list_at (idsL ma) (e := (kb)) (by omega) (by first | omega | (simp only [List.length_set, List.length_append, List.length_singleton]; omega))
        obtain ⟨b267, o268, q269, a270, k271, u272⟩ := p258.store zc_size g266
        obtain ⟨i273, v274, e275, l276, g277⟩ := list_at (nxtL ma) (e := (kb)) (by omega) (by first | omega | (simp only [List.length_set, List.length_append, List.length_singleton]; omega))
        obtain ⟨b278, o279, q280, a281, k282, u283⟩ := p260.store effc_size g277
        have z284 := nxt_ix i78 g277 (by rw [show i273 = i262 by omega]; exact g266)
        by_cases c285 : (((v274.sg) : Int) = (v263) ∧ ((v274.sp) : Int) = 0 ∧ ((v274.ph) : Int) = 1)
        · refine wc_ev [ltT 22 0 3 c261, evV 23 1 (vP b267 o268) (show indexAddrA Tryz.prog 63 (vL ia ids.length ic) (vI kb) = some (vP b267 o268) from a270 und63 size3 e264), evV 23 2 (vI v263) (show loadT Tryz.prog h251 3 (vP b267 o268) = some (vI v263) from k271.cell (j := 0) agg3 rfl), evV 24 2 (vP b278 o279) (show indexAddrA Tryz.prog 42 (vL w236 ((nxtL ma).length) c237) (vI kb) = some (vP b278 o279) from a281 und42 size33 e275), evV 24 3 (vA #[(vI v274.sg), (vI v274.sp), (vI v274.ph)]) (show loadT Tryz.prog h251 33 (vP b278 o279) = some (vA #[(vI v274.sg), (vI v274.sp), (vI v274.ph)]) from k282.agg (j := 0) agg33 size33 (show 0 + 3 ≤ 3 by decide) (by kernel_rfl)), evQ 24 6 (cmp33_neq (decide_eq_false (not_not_intro c285))), evV 26 0 (vI ((kb) + 1)) (show binA Tryz.prog .add 3 (vI kb) (vI 1) = some (vI ((kb) + 1)) from add_i64 (by omega) (by omega))] .normal h251 [(78, (vB true)), (79, (vI kb)), (80, (vP b267 o268)), (81, (vI v263)), (14, (vI kb)), (15, (vI v263)), (82, (vL w236 ((nxtL ma).length) c237)), (83, (vI kb)), (84, (vP b278 o279)), (85, (vA #[(vI v274.sg), (vI v274.sp), (vI v274.ph)])), (86, (vI v263)), (87, (vA #[(vI v263), (vI 0), (vI 1)])), (88, (vB false)), (89, (vI ((kb) + 1))), (77, (vI ((kb) + 1)))] ?_
          exact ⟨ids.length - (kb + 1).toNat, by omega, ⟨kb + 1, (fun i => ([vU, vU, vU, vU, (g1 4), vU, vU, vU, vU, vU, vU, vU, vU, vU, (vI kb), (vI v263), vU, vU, vU, vU, vU, vU, vU, vU, vU, vU, vU, vU, vU, vU, vU, vU, vU, vU, vU, vU, vU, vU, vU, vU, vU, vU, vU, vU, vU, vU, vU, vU, vU, vU, vU, vU, vU, vU, vU, vU, vU, vU, vU, vU, vU, vU, vU, vU, vU, vU, vU, vU, vU, vU, vU, vU, vU, vU, vU, vU, vU, vU, (vB true), (vI kb), (vP b267 o268), (vI v263), (vL w236 ((nxtL ma).length) c237), (vI kb), (vP b278 o279), (vA #[(vI v274.sg), (vI v274.sp), (vI v274.ph)]), (vI v263), (vA #[(vI v263), (vI 0), (vI 1)]), (vB false), (vI ((kb) + 1))] : List Value).getD i undef), by as_aux_lemma => kernel_rfl, x252, rfl, f254, by omega, p256, p257, p258, p259, p260⟩⟩
        · refine wc_ev [ltT 22 0 3 c261, evV 23 1 (vP b267 o268) (show indexAddrA Tryz.prog 63 (vL ia ids.length ic) (vI kb) = some (vP b267 o268) from a270 und63 size3 e264), evV 23 2 (vI v263) (show loadT Tryz.prog h251 3 (vP b267 o268) = some (vI v263) from k271.cell (j := 0) agg3 rfl), evV 24 2 (vP b278 o279) (show indexAddrA Tryz.prog 42 (vL w236 ((nxtL ma).length) c237) (vI kb) = some (vP b278 o279) from a281 und42 size33 e275), evV 24 3 (vA #[(vI v274.sg), (vI v274.sp), (vI v274.ph)]) (show loadT Tryz.prog h251 33 (vP b278 o279) = some (vA #[(vI v274.sg), (vI v274.sp), (vI v274.ph)]) from k282.agg (j := 0) agg33 size33 (show 0 + 3 ≤ 3 by decide) (by kernel_rfl)), evQ 24 6 (cmp33_neq (decide_eq_true c285))] .ret h251 [(78, (vB true)), (79, (vI kb)), (80, (vP b267 o268)), (81, (vI v263)), (14, (vI kb)), (15, (vI v263)), (82, (vL w236 ((nxtL ma).length) c237)), (83, (vI kb)), (84, (vP b278 o279)), (85, (vA #[(vI v274.sg), (vI v274.sp), (vI v274.ph)])), (86, (vI v263)), (87, (vA #[(vI v263), (vI 0), (vI 1)])), (88, (vB true)), (4, (vB false))] ?_
          exfalso
          omega
      · refine wc_ev [ltF 22 0 3 c261] (.exit 2) h251 [(78, (vB false))] ?_
        obtain ⟨_, h286, s287, w288, c289, rfl, o290, x291, n292⟩ := ids_ok h251 p256 i84
        have z293 : (idsL ma).length ≤ 64 := Nat.le_trans (Nat.le_of_eq (idsL_len _)) (i84).few
        have p294 := p256.keep fun b r _ q => x291 b r q
        have p295 := p257.keep fun b r _ q => x291 b r q
        have p296 := p258.keep fun b r _ q => x291 b r q
        have p297 := p260.keep fun b r _ q => x291 b r q
        have x298 := x252.trans x291
        have z299 : h.size ≤ h251.size := x252.size
        have o300 : ∀ zz, blk (Value.slice w288 ((idsL ma).length) (c289)) zz → h.size ≤ zz := fun zz hz => by have := n292 zz hz; omega
        obtain ⟨_, _, s301, rfl, rfl⟩ := eqI_ok h286 (idsL ma) (idsL ma) _ _ _ _ (o290.slice zc_size) (by have q9 := p296.slice zc_size; rw [q227] at q9; exact q9) (by omega)
        have s302 : SoundCall Tryz.prog 38 #[(Value.slice w288 ((idsL ma).length) (c289)), (Value.slice ia (ids.length) (ic))] h286 (vB true) h286 := by rw [q227]; rw [decide_eq_true (Eq.refl _)] at s301; exact s301
        obtain ⟨_, h303, s304, w305, c306, rfl, o307, x308, n309⟩ := ids_ok h286 p295 i87
        have z310 : (idsL mb).length ≤ 64 := Nat.le_trans (Nat.le_of_eq (idsL_len _)) (i87).few
        have p311 := p294.keep fun b r _ q => x308 b r q
        have p312 := p295.keep fun b r _ q => x308 b r q
        have p313 := p296.keep fun b r _ q => x308 b r q
        have p314 := p297.keep fun b r _ q => x308 b r q
        have x315 := x298.trans x308
        have z316 : h.size ≤ h286.size := x298.size
        have o317 : ∀ zz, blk (Value.slice w305 ((idsL mb).length) (c306)) zz → h.size ≤ zz := fun zz hz => by have := n309 zz hz; omega
        obtain ⟨_, _, s318, rfl, rfl⟩ := eqI_ok h303 (idsL mb) (idsL ma) _ _ _ _ (o307.slice zc_size) (by have q9 := p313.slice zc_size; rw [q227] at q9; exact q9) (by omega)
        have s319 : SoundCall Tryz.prog 38 #[(Value.slice w305 ((idsL mb).length) (c306)), (Value.slice ia (ids.length) (ic))] h303 (vB true) h303 := by rw [q227]; rw [decide_eq_true (by rw [hab])] at s318; exact s318
        obtain ⟨_, h320, s321, w322, c323, rfl, o324, x325, n326⟩ := open_ok h303 p311 i84 (x315 _ _ hg0) (x315 _ _ hg1)
        have z327 : (opnL ma).length ≤ 64 := Nat.le_trans (opnL_len _) (i84).few
        have p328 := p311.keep fun b r _ q => x325 b r q
        have p329 := p312.keep fun b r _ q => x325 b r q
        have p330 := p313.keep fun b r _ q => x325 b r q
        have p331 := p314.keep fun b r _ q => x325 b r q
        have x332 := x315.trans x325
        have z333 : h.size ≤ h303.size := x315.size
        have o334 : ∀ zz, blk (Value.slice w322 ((opnL ma).length) (c323)) zz → h.size ≤ zz := fun zz hz => by have := n326 zz hz; omega
        obtain ⟨_, _, s335, rfl, rfl⟩ := eqI_ok h320 (opnL ma) (idsL ma) _ _ _ _ (o324.slice zc_size) (by have q9 := p330.slice zc_size; rw [q227] at q9; exact q9) (by omega)
        have s336 : SoundCall Tryz.prog 38 #[(Value.slice w322 ((opnL ma).length) (c323)), (Value.slice ia (ids.length) (ic))] h320 (vB true) h320 := by rw [q227]; rw [decide_eq_true hon.1] at s335; exact s335
        obtain ⟨_, h337, s338, w339, c340, rfl, o341, x342, n343⟩ := tnext_ok h320 p329 i87 (x332 _ _ hg0) (x332 _ _ hg1)
        have z344 : (nxtL mb).length ≤ 64 := Nat.le_trans (nxtL_len _) (i87).few
        have p345 := p328.keep fun b r _ q => x342 b r q
        have p346 := p331.keep fun b r _ q => x342 b r q
        have x347 := x332.trans x342
        have z348 : h.size ≤ h320.size := x332.size
        have o349 : ∀ zz, blk (Value.slice w339 ((nxtL mb).length) (c340)) zz → h.size ≤ zz := fun zz hz => by have := n343 zz hz; omega
        obtain ⟨_, _, s350, rfl, rfl⟩ := eqE_ok h337 (nxtL mb) (nxtL ma) _ _ _ _ (o341.slice effc_size) (p346.slice effc_size) (by omega)
        obtain ⟨_, h351, s352, rfl, x353⟩ := len_ok h337 p345 i84
        have p354 := p345.keep fun b r _ q => x353 b r q
        have x355 := x347.trans x353
        by_cases c356 : (((ma.length : Nat)) : Int) = ((ids.length : Nat))
        · obtain ⟨_, h357, s358, rfl, x359⟩ := quiet_ok h351 p354 i84 (x355 _ _ hg0) (x355 _ _ hg1)
          have x360 := x355.trans x359
          rcases Bool.eq_false_or_eq_true ((quietT ma)) with c361 | c361
          · have z362 : (opnL ma).length = 0 := of_decide_eq_true c361
            by_cases c363 : (((ids.length : Nat)) : Int) = 0
            · obtain ⟨_, hh364, sn365, rfl, x366⟩ := works_ok h357 (x360 _ _ hg0) (x360 _ _ hg1)
              have x367 := x360.trans x366
              refine wc_ev [evF 27 1 s287, evF 27 3 s302, evF 27 6 s304, evF 27 8 s319, evF 27 12 s321, evF 27 14 s336, evF 27 18 s338, evFt 27 20 (by rw [hab]) s350, evF 27 24 s352, eqT 27 27 3 c356, evFb 27 31 c361 s358, eqT 27 34 3 c363, evF 27 38 sn365] .ret hh364 [(90, (vP b4 0)), (91, (vL w288 ((idsL ma).length) c289)), (92, (vL ia ids.length ic)), (93, (vB true)), (94, (vB true)), (95, (vP b13 0)), (96, (vL w305 ((idsL mb).length) c306)), (97, (vL ia ids.length ic)), (98, (vB true)), (99, (vB true)), (100, (vB true)), (101, (vP b4 0)), (102, (vL w322 ((opnL ma).length) c323)), (103, (vL ia ids.length ic)), (104, (vB true)), (105, (vB true)), (106, (vB true)), (107, (vP b13 0)), (108, (vL w339 ((nxtL mb).length) c340)), (109, (vL w236 ((nxtL ma).length) c237)), (110, (vB true)), (111, (vB true)), (112, (vB true)), (113, (vP b4 0)), (114, (vI ((ma.length : Nat)))), (115, (vL ia ids.length ic)), (116, (vI ((ids.length : Nat)))), (117, (vB true)), (118, (vB true)), (119, (vB true)), (120, (vP b4 0)), (121, (vB true)), (122, (vL ia ids.length ic)), (123, (vI ((ids.length : Nat)))), (124, (vB true)), (125, (vB true)), (126, (vB true)), (127, (vB true)), (128, (vB true)), (129, (vB true)), (4, (vB true))] ?_
              exact end_ev [] (vB true) (hK _ _ (⟨rfl, x367⟩))
            · refine wc_ev [evF 27 1 s287, evF 27 3 s302, evF 27 6 s304, evF 27 8 s319, evF 27 12 s321, evF 27 14 s336, evF 27 18 s338, evFt 27 20 (by rw [hab]) s350, evF 27 24 s352, eqT 27 27 3 c356, evFb 27 31 c361 s358, eqF 27 34 3 c363] .ret h357 [(90, (vP b4 0)), (91, (vL w288 ((idsL ma).length) c289)), (92, (vL ia ids.length ic)), (93, (vB true)), (94, (vB true)), (95, (vP b13 0)), (96, (vL w305 ((idsL mb).length) c306)), (97, (vL ia ids.length ic)), (98, (vB true)), (99, (vB true)), (100, (vB true)), (101, (vP b4 0)), (102, (vL w322 ((opnL ma).length) c323)), (103, (vL ia ids.length ic)), (104, (vB true)), (105, (vB true)), (106, (vB true)), (107, (vP b13 0)), (108, (vL w339 ((nxtL mb).length) c340)), (109, (vL w236 ((nxtL ma).length) c237)), (110, (vB true)), (111, (vB true)), (112, (vB true)), (113, (vP b4 0)), (114, (vI ((ma.length : Nat)))), (115, (vL ia ids.length ic)), (116, (vI ((ids.length : Nat)))), (117, (vB true)), (118, (vB true)), (119, (vB true)), (120, (vP b4 0)), (121, (vB true)), (122, (vL ia ids.length ic)), (123, (vI ((ids.length : Nat)))), (124, (vB false)), (125, (vB false)), (126, (vB false)), (127, (vB false)), (128, vZ), (129, (vB false)), (4, (vB false))] ?_
              exfalso
              omega
          · have z368 : ¬ (opnL ma).length = 0 := of_decide_eq_false c361
            by_cases c369 : (((ids.length : Nat)) : Int) = 0
            · refine wc_ev [evF 27 1 s287, evF 27 3 s302, evF 27 6 s304, evF 27 8 s319, evF 27 12 s321, evF 27 14 s336, evF 27 18 s338, evFt 27 20 (by rw [hab]) s350, evF 27 24 s352, eqT 27 27 3 c356, evFb 27 31 c361 s358, eqT 27 34 3 c369] .ret h357 [(90, (vP b4 0)), (91, (vL w288 ((idsL ma).length) c289)), (92, (vL ia ids.length ic)), (93, (vB true)), (94, (vB true)), (95, (vP b13 0)), (96, (vL w305 ((idsL mb).length) c306)), (97, (vL ia ids.length ic)), (98, (vB true)), (99, (vB true)), (100, (vB true)), (101, (vP b4 0)), (102, (vL w322 ((opnL ma).length) c323)), (103, (vL ia ids.length ic)), (104, (vB true)), (105, (vB true)), (106, (vB true)), (107, (vP b13 0)), (108, (vL w339 ((nxtL mb).length) c340)), (109, (vL w236 ((nxtL ma).length) c237)), (110, (vB true)), (111, (vB true)), (112, (vB true)), (113, (vP b4 0)), (114, (vI ((ma.length : Nat)))), (115, (vL ia ids.length ic)), (116, (vI ((ids.length : Nat)))), (117, (vB true)), (118, (vB true)), (119, (vB true)), (120, (vP b4 0)), (121, (vB false)), (122, (vL ia ids.length ic)), (123, (vI ((ids.length : Nat)))), (124, (vB true)), (125, (vB false)), (126, (vB false)), (127, (vB false)), (128, vZ), (129, (vB false)), (4, (vB false))] ?_
              exfalso
              omega
            · obtain ⟨_, hh370, sn371, rfl, x372⟩ := works_ok h357 (x360 _ _ hg0) (x360 _ _ hg1)
              have x373 := x360.trans x372
              refine wc_ev [evF 27 1 s287, evF 27 3 s302, evF 27 6 s304, evF 27 8 s319, evF 27 12 s321, evF 27 14 s336, evF 27 18 s338, evFt 27 20 (by rw [hab]) s350, evF 27 24 s352, eqT 27 27 3 c356, evFb 27 31 c361 s358, eqF 27 34 3 c369, evF 27 38 sn371] .ret hh370 [(90, (vP b4 0)), (91, (vL w288 ((idsL ma).length) c289)), (92, (vL ia ids.length ic)), (93, (vB true)), (94, (vB true)), (95, (vP b13 0)), (96, (vL w305 ((idsL mb).length) c306)), (97, (vL ia ids.length ic)), (98, (vB true)), (99, (vB true)), (100, (vB true)), (101, (vP b4 0)), (102, (vL w322 ((opnL ma).length) c323)), (103, (vL ia ids.length ic)), (104, (vB true)), (105, (vB true)), (106, (vB true)), (107, (vP b13 0)), (108, (vL w339 ((nxtL mb).length) c340)), (109, (vL w236 ((nxtL ma).length) c237)), (110, (vB true)), (111, (vB true)), (112, (vB true)), (113, (vP b4 0)), (114, (vI ((ma.length : Nat)))), (115, (vL ia ids.length ic)), (116, (vI ((ids.length : Nat)))), (117, (vB true)), (118, (vB true)), (119, (vB true)), (120, (vP b4 0)), (121, (vB false)), (122, (vL ia ids.length ic)), (123, (vI ((ids.length : Nat)))), (124, (vB false)), (125, (vB true)), (126, (vB true)), (127, (vB true)), (128, (vB true)), (129, (vB true)), (4, (vB true))] ?_
              exact end_ev [] (vB true) (hK _ _ (⟨rfl, x373⟩))
        · refine wc_ev [evF 27 1 s287, evF 27 3 s302, evF 27 6 s304, evF 27 8 s319, evF 27 12 s321, evF 27 14 s336, evF 27 18 s338, evFt 27 20 (by rw [hab]) s350, evF 27 24 s352, eqF 27 27 3 c356] .ret h351 [(90, (vP b4 0)), (91, (vL w288 ((idsL ma).length) c289)), (92, (vL ia ids.length ic)), (93, (vB true)), (94, (vB true)), (95, (vP b13 0)), (96, (vL w305 ((idsL mb).length) c306)), (97, (vL ia ids.length ic)), (98, (vB true)), (99, (vB true)), (100, (vB true)), (101, (vP b4 0)), (102, (vL w322 ((opnL ma).length) c323)), (103, (vL ia ids.length ic)), (104, (vB true)), (105, (vB true)), (106, (vB true)), (107, (vP b13 0)), (108, (vL w339 ((nxtL mb).length) c340)), (109, (vL w236 ((nxtL ma).length) c237)), (110, (vB true)), (111, (vB true)), (112, (vB true)), (113, (vP b4 0)), (114, (vI ((ma.length : Nat)))), (115, (vL ia ids.length ic)), (116, (vI ((ids.length : Nat)))), (117, (vB false)), (118, (vB false)), (119, (vB false)), (120, vZ), (121, vZ), (122, vZ), (123, vZ), (124, vZ), (125, vZ), (126, (vB false)), (127, (vB false)), (128, vZ), (129, (vB false)), (4, (vB false))] ?_
          exfalso
          omega
    · refine wc_ev [neT 19 4 3 c250] .ret h234 [(70, (vL w236 ((nxtL ma).length) c237)), (71, (vI (((nxtL ma).length : Nat)))), (72, (vL ia ids.length ic)), (73, (vI ((ids.length : Nat)))), (74, (vB true)), (4, (vB false))] ?_
      exfalso
      omega
end C29
