/- The run of StorePuts. -/
import Derived.Test.YtciigibbgklcjaaDoorMg
import Derived.KernelRfl
open Go Go.AM Go.Proofs
namespace C08
theorem put_name {k : ByteArray} (m : Sto) (c : CntM) (h : nameB k = false) : putE m k c = 14 := by unfold putE; rw [if_neg (by rw [h]; decide)]
theorem put_arg {k : ByteArray} {c : CntM} (m : Sto) (h : nameB k = true) (h2 : okC c = false) : putE m k c = 2 := by unfold putE; rw [if_pos h, if_neg (by rw [h2]; decide)]
theorem put_rest {k : ByteArray} {c : CntM} (m : Sto) (h : nameB k = true) (h2 : okC c = true) : (getE m k = 0 → putE m k c = 6) ∧ (¬ getE m k = 0 → 64 ≤ (m.length : Nat) → putE m k c = 4) ∧ (¬ getE m k = 0 → ¬ (64 ≤ (m.length : Nat)) → putE m k c = 0) := by
  unfold putE; rw [if_pos h, if_pos h2]
  exact ⟨fun w => if_pos w, fun w w2 => by rw [if_neg w, if_pos w2], fun w w2 => by rw [if_neg w, if_neg w2]⟩
theorem findK_perm {m m' : Sto} (w : (m.map (·.1)).Nodup) (q : m.Perm m') (k : ByteArray) : findK m k = findK m' k := by
  have w' := (q.map (·.1)).nodup_iff.1 w
  cases h : findK m k with
  | none => exact (findK_none.2 fun x => findK_none.1 h ((q.map (·.1)).mem_iff.2 x)).symm
  | some a => exact (findK_of_mem w' (q.mem_iff.1 (findK_mem h))).symm
theorem del_ins {k : ByteArray} {c : CntM} : ∀ {m : Sto}, findK m k = none → delK (insK k c m) k = m
  | [], _ => by simp [insK, delK]
  | p :: m, h => by
    have h' := h
    rw [findK_cons] at h'
    split at h'
    · cases h'
    · rename_i e
      unfold insK; split
      · have := del_ins (c := c) h'
        unfold delK at this ⊢
        rw [List.filter_cons, if_pos (by simp [e]), this]
      · unfold delK
        rw [List.filter_cons, if_neg (by simp)]
        exact filter_id_of fun q hq w => findK_none.1 h (w ▸ List.mem_map_of_mem hq)
theorem put_back {m : Sto} (w : WfM m) {k : ByteArray} {c : CntM} (h : putE m k c = 0) : getE (putM m k c) k = 0 ∧ getC (putM m k c) k = c ∧ (ksL (putM m k c)).length = m.length + 1 ∧ remM (putM m k c) k = m ∧ getE (remM (putM m k c) k) k = getE m k := by
  obtain ⟨h1, h2, h3, h4⟩ := putE_zero h
  have e : putM m k c = insK k c m := if_pos h
  have hf : findK (putM m k c) k = some c := by
    rw [e, findK_perm (insK_ord w.ord h3).apart (insK_perm k c m), findK_cons, if_pos rfl]
  have hr : remM (putM m k c) k = m := by rw [e]; exact del_ins h3
  obtain ⟨g1, g2⟩ := getE_some hf
  exact ⟨g1, g2, by rw [ksL_len, e, insK_len], hr, by rw [hr]⟩
theorem ord_at {m : Sto} (w : WfM m) {i j : Nat} {a b : ByteArray} (h1 : (ksL m)[i]? = some a) (h2 : (ksL m)[j]? = some b) (hij : i < j) : sl a b = true := by
  obtain ⟨l1, e1⟩ := List.getElem?_eq_some_iff.1 h1
  obtain ⟨l2, e2⟩ := List.getElem?_eq_some_iff.1 h2
  have := List.pairwise_iff_getElem.1 w.ord i j l1 l2 hij
  rw [← e1, ← e2]; exact this
set_option maxRecDepth 10000 in
set_option maxHeartbeats 4000000 in
theorem law_puts (h : Heap) (xs : List StepA) (sa : Option Addr) (cp : Nat) (hl : SliceAt h scell 11 xs (.slice sa xs.length cp)) (hlen : xs.length ≤ 9223372036854775807) (key : ByteArray) (c : CntM) : WCall Tryd.prog 8 #[(Value.slice sa (xs.length) (cp)), (vS key), (Value.agg #[(vI (c.v)), (vI (c.up)), (vI (c.dn)), (vI (c.lo)), (vI (c.hi))])] h (fun v h1 => v = .bool true ∧ Ext h h1) := by
  suffices H : ∀ K : Value → Heap → Prop, (∀ v h1, (fun v h1 => v = .bool true ∧ Ext h h1) v h1 → K v h1) → WCall Tryd.prog 8 #[(Value.slice sa (xs.length) (cp)), (vS key), (Value.agg #[(vI (c.v)), (vI (c.up)), (vI (c.dn)), (vI (c.lo)), (vI (c.hi))])] h K from H _ fun _ _ q => q
  intro K hK
  refine wcall_at { tmps := #[(vL sa xs.length cp), (vS key), (vA #[(vI c.v), (vI c.up), (vI c.dn), (vI c.lo), (vI c.hi)]), vZ, vZ, vZ, vZ, vZ, vZ, vZ, vZ, vZ, vZ, vZ, vZ, vZ, vZ, vZ, vZ, vZ, vZ, vZ, vZ, vZ, vZ, vZ, vZ, vZ, vZ, vZ, vZ, vZ, vZ, vZ, vZ, vZ, vZ, vZ, vZ, vZ, vZ, vZ, vZ, vZ, vZ, vZ, vZ, vZ, vZ, vZ, vZ, vZ, vZ, vZ, vZ, vZ, vZ, vZ, vZ, vZ, vZ, vZ, vZ, vZ, vZ, vZ, vZ, vZ, vZ, vZ, vZ, vZ, vZ, vZ, vZ, vZ, vZ, vZ, vZ, vZ, vZ, vZ, vZ, vZ, vZ, vZ, vZ, vZ, vZ, vZ, vZ, vZ, vZ, vZ, vZ, vZ, vZ, vZ, vZ, vZ, vZ, vZ, vZ, vZ, vZ, vZ, vZ, vZ, vZ, vZ, vZ, vZ, vZ, vZ, vZ, vZ, vZ, vZ, vZ, vZ, vZ, vZ, vZ, vZ, vZ, vZ, vZ, vZ, vZ, vZ, vZ, vZ, vZ, vZ, vZ, vZ, vZ, vZ, vZ, vZ, vZ, vZ, vZ, vZ, vZ, vZ, vZ, vZ, vZ, vZ, vZ, vZ, vZ, vZ, vZ, vZ, vZ, vZ, vZ, vZ, vZ, vZ], defers := [] } (by kernel_rfl) ?_
  refine wc_seq' (subc (bodyOf Tryd.prog 8) [0]) (subc (bodyOf Tryd.prog 8) [1]) (by kernel_rfl) ?_
  obtain ⟨b1, eb2⟩ : ∃ zq, zq = h.size := ⟨_, rfl⟩
  obtain ⟨h3, e4⟩ : ∃ zq, zq = h.push (.cells #[(vI (c.v)), (vI (c.up)), (vI (c.dn)), (vI (c.lo)), (vI (c.hi))] 39 (0, 0)) := ⟨_, rfl⟩
  have f5 := push_new e4
  rw [← eb2] at f5
  have x6 : Ext h h3 := by rw [e4]; exact Ext.push _ _
  have o7 : h.size ≤ b1 := by have := (Ext.refl h).size; omega
  have x8 := (Ext.refl h).trans x6
  refine wc_ev [evA 0 0 eb2 e4] .normal h3 [(5, (vP b1 0)), (6, (vB false))] ?_
  refine wc_seq' (subc (bodyOf Tryd.prog 8) [1, 0]) (subc (bodyOf Tryd.prog 8) [1, 1]) (by kernel_rfl) ?_
  by_cases c9 : (100 : Int) < ((xs.length : Nat))
  · obtain ⟨_, hh10, sn11, rfl, x12⟩ := works_ok h3
    have x13 := x8.trans x12
    refine wc_ev [gtT 1 2 3 c9, evF 2 0 sn11] .ret hh10 [(16, (vL sa xs.length cp)), (17, (vI ((xs.length : Nat)))), (18, (vB true)), (19, (vB true)), (20, vZ), (21, vZ), (22, vZ), (23, (vB true)), (24, (vB true)), (25, vZ), (26, vZ), (27, vZ), (28, (vB true)), (29, (vB true)), (6, (vB true))] ?_
    exact end_ev [] (vB true) (hK _ _ (⟨rfl, x13⟩))
  · obtain ⟨_, h14, s15, b16, rfl, q17, x18⟩ := short_ok h3 xs _ _ (hl.keep fun b r _ q => x8 b r q) hlen
    have f19 := x18 _ _ f5
    have x20 := x8.trans x18
    rcases Bool.eq_false_or_eq_true (b16) with c21 | c21
    · obtain ⟨l9xs, s9xs⟩ := q17 c21
      by_cases c22 : (40 : Int) < ((key.size : Nat))
      · obtain ⟨_, hh23, sn24, rfl, x25⟩ := works_ok h14
        have x26 := x20.trans x25
        refine wc_ev [gtF 1 2 3 c9, evFb 1 5 c21 s15, gtT 1 11 3 c22, evF 2 0 sn24] .ret hh23 [(16, (vL sa xs.length cp)), (17, (vI ((xs.length : Nat)))), (18, (vB false)), (19, (vB false)), (20, (vL sa xs.length cp)), (21, (vB true)), (22, (vB false)), (23, (vB false)), (24, (vB false)), (25, (vS key)), (26, (vI ((key.size : Nat)))), (27, (vB true)), (28, (vB true)), (29, (vB true)), (6, (vB true))] ?_
        exact end_ev [] (vB true) (hK _ _ (⟨rfl, x26⟩))
      · refine wc_ev [gtF 1 2 3 c9, evFb 1 5 c21 s15, gtF 1 11 3 c22] .normal h14 [(16, (vL sa xs.length cp)), (17, (vI ((xs.length : Nat)))), (18, (vB false)), (19, (vB false)), (20, (vL sa xs.length cp)), (21, (vB true)), (22, (vB false)), (23, (vB false)), (24, (vB false)), (25, (vS key)), (26, (vI ((key.size : Nat)))), (27, (vB false)), (28, (vB false))] ?_
        refine wc_seq' (subc (bodyOf Tryd.prog 8) [1, 1, 0]) (subc (bodyOf Tryd.prog 8) [1, 1, 1]) (by kernel_rfl) ?_
        obtain ⟨_, h27, s28, b29, O4017, rfl, p30, x31, w32⟩ := filled_ok h14 xs _ _ (hl.keep fun b r _ q => x20 b r q) hlen
        have f33 := x31 _ _ f19
        have x34 := x20.trans x31
        have z35 : h.size ≤ h14.size := x20.size
        have n36 : ∀ zz, O4017 zz → ¬ zz = b1 := fun zz hz ez => by have := w32 zz hz; have := row_lt f19; omega
        have o37 : ∀ zz, O4017 zz → h.size ≤ zz := fun zz hz => by have := w32 zz hz; omega
        refine wc_ev [evF 3 1 s28] .normal h27 [(30, (vL sa xs.length cp)), (31, (vP b29 0)), (7, (vP b29 0))] ?_
        refine wc_seq' (subc (bodyOf Tryd.prog 8) [1, 1, 1, 0]) (subc (bodyOf Tryd.prog 8) [1, 1, 1, 1]) (by kernel_rfl) ?_
        obtain ⟨_, h38, s39, b40, O4030, rfl, p41, x42, w43⟩ := copy_ok h27 p30 (fillM_wf xs)
        have f44 := x42 _ _ f33
        have p45 := p30.keep fun b r _ q => x42 b r q
        have x46 := x34.trans x42
        have z47 : h.size ≤ h27.size := x34.size
        have n48 : ∀ zz, O4030 zz → ¬ O4017 zz := fun zz hz ez => by have := w43 zz hz; have := p30.blk_lt ez; omega
        have o49 : ∀ zz, O4030 zz → h.size ≤ zz := fun zz hz => by have := w43 zz hz; omega
        refine wc_ev [evF 4 1 s39] .normal h38 [(32, (vP b29 0)), (33, (vP b40 0)), (8, (vP b40 0))] ?_
        refine wc_seq' (subc (bodyOf Tryd.prog 8) [1, 1, 1, 1, 0]) (subc (bodyOf Tryd.prog 8) [1, 1, 1, 1, 1]) (by kernel_rfl) ?_
        refine wc_ev [] .normal h38 [(34, (vP b40 0)), (35, (vB false))] ?_
        refine wc_seq' (subc (bodyOf Tryd.prog 8) [1, 1, 1, 1, 1, 0]) (subc (bodyOf Tryd.prog 8) [1, 1, 1, 1, 1, 1]) (by kernel_rfl) ?_
        have q50 := get_facts (fillM xs) key
        obtain ⟨_, hh51, sn52, rfl, x53⟩ := get_ok h38 p45 (fillM_wf xs) key
        have f54 := x53 _ _ f44
        have p55 := p45.keep fun b r _ q => x53 b r q
        have p56 := p41.keep fun b r _ q => x53 b r q
        have x57 := x46.trans x53
        obtain ⟨b58, eb59⟩ : ∃ zq, zq = hh51.size := ⟨_, rfl⟩
        obtain ⟨h60, e61⟩ : ∃ zq, zq = hh51.push (.cells #[(vI 0), (vI 0), (vI 0), (vI 0), (vI 0)] 39 (0, 0)) := ⟨_, rfl⟩
        have f62 := push_new e61
        rw [← eb59] at f62
        have n63 : b58 ≠ b1 := by have := row_lt f54; omega
        have n64 : ∀ zz, O4017 zz → ¬ zz = b58 := fun zz hz ez => by have := p55.blk_lt hz; omega
        have n65 : ∀ zz, O4030 zz → ¬ zz = b58 := fun zz hz ez => by have := p56.blk_lt hz; omega
        have x66 : Ext hh51 h60 := by rw [e61]; exact Ext.push _ _
        have o67 : h.size ≤ b58 := by have := x57.size; omega
        have f68 := x66 _ _ f54
        have p69 := p55.keep fun b r _ q => x66 b r q
        have p70 := p56.keep fun b r _ q => x66 b r q
        have x71 := x57.trans x66
        obtain ⟨h72, e73⟩ : ∃ zq, zq = h60.setIfInBounds b58 (.cells #[(vI ((getC (fillM xs) key).v)), (vI ((getC (fillM xs) key).up)), (vI ((getC (fillM xs) key).dn)), (vI ((getC (fillM xs) key).lo)), (vI ((getC (fillM xs) key).hi))] 39 (0, 0)) := ⟨_, rfl⟩
        have f74 := set_same e73 f62
        have f75 := set_other e73 f68 n63
        have p76 := p69.keep fun b r hb q => (Chg.set e73).same b r q (n64 b hb)
        have p77 := p70.keep fun b r hb q => (Chg.set e73).same b r q (n65 b hb)
        have x78 := Ext.setNew x71 e73 o67
        refine wc_ev [evF 7 2 sn52, evA 7 6 eb59 e61, evUw 7 7 size39 f62 e73] .normal h72 [(37, (vP b29 0)), (38, (vS key)), (39, (vT #[(vA #[(vI ((getC (fillM xs) key).v)), (vI ((getC (fillM xs) key).up)), (vI ((getC (fillM xs) key).dn)), (vI ((getC (fillM xs) key).lo)), (vI ((getC (fillM xs) key).hi))]), (vI (getE (fillM xs) key))])), (36, (vT #[(vA #[(vI ((getC (fillM xs) key).v)), (vI ((getC (fillM xs) key).up)), (vI ((getC (fillM xs) key).dn)), (vI ((getC (fillM xs) key).lo)), (vI ((getC (fillM xs) key).hi))]), (vI (getE (fillM xs) key))])), (40, (vA #[(vI ((getC (fillM xs) key).v)), (vI ((getC (fillM xs) key).up)), (vI ((getC (fillM xs) key).dn)), (vI ((getC (fillM xs) key).lo)), (vI ((getC (fillM xs) key).hi))])), (41, (vI (getE (fillM xs) key))), (9, (vP b58 0)), (10, (vI (getE (fillM xs) key)))] ?_
        refine wc_act { tmps := #[(vL sa xs.length cp), (vS key), (vA #[(vI c.v), (vI c.up), (vI c.dn), (vI c.lo), (vI c.hi)]), vZ, vZ, (vP b1 0), (vB false), (vP b29 0), (vP b40 0), (vP b58 0), (vI (getE (fillM xs) key)), vZ, vZ, vZ, vZ, vZ, (vL sa xs.length cp), (vI ((xs.length : Nat))), (vB false), (vB false), (vL sa xs.length cp), (vB true), (vB false), (vB false), (vB false), (vS key), (vI ((key.size : Nat))), (vB false), (vB false), vZ, (vL sa xs.length cp), (vP b29 0), (vP b29 0), (vP b40 0), (vP b40 0), (vB false), (vT #[(vA #[(vI ((getC (fillM xs) key).v)), (vI ((getC (fillM xs) key).up)), (vI ((getC (fillM xs) key).dn)), (vI ((getC (fillM xs) key).lo)), (vI ((getC (fillM xs) key).hi))]), (vI (getE (fillM xs) key))]), (vP b29 0), (vS key), (vT #[(vA #[(vI ((getC (fillM xs) key).v)), (vI ((getC (fillM xs) key).up)), (vI ((getC (fillM xs) key).dn)), (vI ((getC (fillM xs) key).lo)), (vI ((getC (fillM xs) key).hi))]), (vI (getE (fillM xs) key))]), (vA #[(vI ((getC (fillM xs) key).v)), (vI ((getC (fillM xs) key).up)), (vI ((getC (fillM xs) key).dn)), (vI ((getC (fillM xs) key).lo)), (vI ((getC (fillM xs) key).hi))]), (vI (getE (fillM xs) key)), vZ, vZ, vZ, vZ, vZ, vZ, vZ, vZ, vZ, vZ, vZ, vZ, vZ, vZ, vZ, vZ, vZ, vZ, vZ, vZ, vZ, vZ, vZ, vZ, vZ, vZ, vZ, vZ, vZ, vZ, vZ, vZ, vZ, vZ, vZ, vZ, vZ, vZ, vZ, vZ, vZ, vZ, vZ, vZ, vZ, vZ, vZ, vZ, vZ, vZ, vZ, vZ, vZ, vZ, vZ, vZ, vZ, vZ, vZ, vZ, vZ, vZ, vZ, vZ, vZ, vZ, vZ, vZ, vZ, vZ, vZ, vZ, vZ, vZ, vZ, vZ, vZ, vZ, vZ, vZ, vZ, vZ, vZ, vZ, vZ, vZ, vZ, vZ, vZ, vZ, vZ, vZ, vZ, vZ, vZ, vZ, vZ, vZ, vZ, vZ, vZ, vZ, vZ, vZ, vZ, vZ, vZ, vZ, vZ, vZ, vZ, vZ, vZ, vZ, vZ, vZ, vZ, vZ, vZ, vZ], defers := [] } (by as_aux_lemma => kernel_rfl) ?_
        refine wc_seq' (subc (bodyOf Tryd.prog 8) [1, 1, 1, 1, 1, 1, 0]) (subc (bodyOf Tryd.prog 8) [1, 1, 1, 1, 1, 1, 1]) (by kernel_rfl) ?_
        obtain ⟨_, h79, s80, rfl, x81, O4076, p82, o83⟩ := put_ok h72 p76 (fillM_wf xs) key c
        have k84 := WfM.put (fillM_wf xs) key c
        have q85 := put_facts (fillM xs) key c
        have z86 : h.size ≤ h72.size := x78.size
        have x87 : Ext h _ := (Chg.then (O := fun _ => False) (Chg.ext x78) x81 (fun b hb => .inr (o37 b hb))).toExt'
        have f88 := x81.same _ _ f75 (fun hb => n36 _ hb rfl)
        have f89 := x81.same _ _ f74 (fun hb => n64 _ hb rfl)
        have p90 := p77.keep fun b r hb q => x81.same b r q (n48 b hb)
        have z91 : h.size ≤ h72.size := x78.size
        have n92 : ∀ zz, O4076 zz → ¬ O4030 zz := fun zz hz ez => by rcases o83 zz hz with g | g; (exact n48 _ ez g); have := p77.blk_lt ez; omega
        have o93 : ∀ zz, O4076 zz → h.size ≤ zz := fun zz hz => by rcases o83 zz hz with g | g; (exact o37 zz g); omega
        refine wc_ev [evLw 8 2 agg39 size39 f75, evF 8 3 s80] .normal h79 [(42, (vP b29 0)), (43, (vS key)), (44, (vA #[(vI c.v), (vI c.up), (vI c.dn), (vI c.lo), (vI c.hi)])), (45, (vI (putE (fillM xs) key c))), (11, (vI (putE (fillM xs) key c)))] ?_
        refine wc_seq' (subc (bodyOf Tryd.prog 8) [1, 1, 1, 1, 1, 1, 1, 0]) (subc (bodyOf Tryd.prog 8) [1, 1, 1, 1, 1, 1, 1, 1]) (by kernel_rfl) ?_
        obtain ⟨_, hh94, sn95, rfl, x96⟩ := name_ok h79 key
        have f97 := x96 _ _ f88
        have f98 := x96 _ _ f89
        have p99 := p82.keep fun b r _ q => x96 b r q
        have p100 := p90.keep fun b r _ q => x96 b r q
        have x101 := x87.trans x96
        rcases Bool.eq_false_or_eq_true ((nameB key)) with c102 | c102
        · obtain ⟨_, h103, s104, rfl, x105⟩ := chkC_ok hh94 (c.v) (c.up) (c.dn) (c.lo) (c.hi)
          have f106 := x105 _ _ f97
          have f107 := x105 _ _ f98
          have p108 := p99.keep fun b r _ q => x105 b r q
          have p109 := p100.keep fun b r _ q => x105 b r q
          have x110 := x101.trans x105
          rcases Bool.eq_false_or_eq_true (okc c.v c.up c.dn c.lo c.hi) with c111 | c111
          · by_cases c112 : ((getE (fillM xs) key) : Int) = 0
            · by_cases c113 : ((putE (fillM xs) key c) : Int) = 6
              · have q114 := p108
                rw [(putM_same (by have pz := put_rest (c := c) (fillM xs) c102 c111; have pf := (fillM_wf xs).few; omega))] at q114
                obtain ⟨_, hh115, sn116, rfl, x117⟩ := equal_ok h103 q114 p109 (fillM_wf xs)
                have x118 := x110.trans x117
                obtain ⟨_, hh119, sn120, rfl, x121⟩ := works_ok hh115
                have x122 := x118.trans x121
                refine wc_ev [evFb 9 1 c102 sn95, evLw 11 0 agg39 size39 f97, evF 11 1 (by rw [if_pos c111] at s104; exact s104), eqT 13 1 31 c112, eqT 14 1 31 c113, evF 14 5 sn116, evF 14 8 sn120] .ret hh119 [(47, (vS key)), (48, (vB true)), (49, (vB false)), (46, (vB false)), (61, (vA #[(vI c.v), (vI c.up), (vI c.dn), (vI c.lo), (vI c.hi)])), (62, (vI 0)), (63, (vB false)), (60, (vB false)), (75, (vI (getE (fillM xs) key))), (76, (vB true)), (74, (vB true)), (77, (vI (putE (fillM xs) key c))), (78, (vB true)), (79, (vB true)), (80, (vP b29 0)), (81, (vP b40 0)), (82, (vB true)), (83, (vB true)), (84, (vB true)), (85, (vB true)), (86, (vB true)), (6, (vB true))] ?_
                exact end_ev [] (vB true) (hK _ _ (⟨rfl, x122⟩))
              · refine wc_ev [evFb 9 1 c102 sn95, evLw 11 0 agg39 size39 f97, evF 11 1 (by rw [if_pos c111] at s104; exact s104), eqT 13 1 31 c112, eqF 14 1 31 c113] .ret h103 [(47, (vS key)), (48, (vB true)), (49, (vB false)), (46, (vB false)), (61, (vA #[(vI c.v), (vI c.up), (vI c.dn), (vI c.lo), (vI c.hi)])), (62, (vI 0)), (63, (vB false)), (60, (vB false)), (75, (vI (getE (fillM xs) key))), (76, (vB true)), (74, (vB true)), (77, (vI (putE (fillM xs) key c))), (78, (vB false)), (79, (vB false)), (80, vZ), (81, vZ), (82, vZ), (83, (vB false)), (84, (vB false)), (85, vZ), (86, (vB false)), (6, (vB false))] ?_
                have pz := put_rest (c := c) (fillM xs) c102 c111
                have pf := (fillM_wf xs).few
                exfalso
                omega
            · have q123 := (fillM_wf xs).few
              obtain ⟨_, _, sn124, rfl, rfl⟩ := len_ok h103 p109 (fillM_wf xs)
              by_cases c125 : ((((fillM xs).length : Nat)) : Int) = 64
              · by_cases c126 : ((putE (fillM xs) key c) : Int) = 4
                · have q127 := p108
                  rw [(putM_same (by have pz := put_rest (c := c) (fillM xs) c102 c111; have pf := (fillM_wf xs).few; omega))] at q127
                  obtain ⟨_, hh128, sn129, rfl, x130⟩ := equal_ok h103 q127 p109 (fillM_wf xs)
                  have x131 := x110.trans x130
                  obtain ⟨_, hh132, sn133, rfl, x134⟩ := works_ok hh128
                  have x135 := x131.trans x134
                  refine wc_ev [evFb 9 1 c102 sn95, evLw 11 0 agg39 size39 f97, evF 11 1 (by rw [if_pos c111] at s104; exact s104), eqF 13 1 31 c112, evF 15 1 sn124, eqT 15 2 3 c125, eqT 16 1 31 c126, evF 16 5 sn129, evF 16 8 sn133] .ret hh132 [(47, (vS key)), (48, (vB true)), (49, (vB false)), (46, (vB false)), (61, (vA #[(vI c.v), (vI c.up), (vI c.dn), (vI c.lo), (vI c.hi)])), (62, (vI 0)), (63, (vB false)), (60, (vB false)), (75, (vI (getE (fillM xs) key))), (76, (vB false)), (74, (vB false)), (88, (vP b40 0)), (89, (vI (((fillM xs).length : Nat)))), (90, (vB true)), (87, (vB true)), (91, (vI (putE (fillM xs) key c))), (92, (vB true)), (93, (vB true)), (94, (vP b29 0)), (95, (vP b40 0)), (96, (vB true)), (97, (vB true)), (98, (vB true)), (99, (vB true)), (100, (vB true)), (6, (vB true))] ?_
                  exact end_ev [] (vB true) (hK _ _ (⟨rfl, x135⟩))
                · refine wc_ev [evFb 9 1 c102 sn95, evLw 11 0 agg39 size39 f97, evF 11 1 (by rw [if_pos c111] at s104; exact s104), eqF 13 1 31 c112, evF 15 1 sn124, eqT 15 2 3 c125, eqF 16 1 31 c126] .ret h103 [(47, (vS key)), (48, (vB true)), (49, (vB false)), (46, (vB false)), (61, (vA #[(vI c.v), (vI c.up), (vI c.dn), (vI c.lo), (vI c.hi)])), (62, (vI 0)), (63, (vB false)), (60, (vB false)), (75, (vI (getE (fillM xs) key))), (76, (vB false)), (74, (vB false)), (88, (vP b40 0)), (89, (vI (((fillM xs).length : Nat)))), (90, (vB true)), (87, (vB true)), (91, (vI (putE (fillM xs) key c))), (92, (vB false)), (93, (vB false)), (94, vZ), (95, vZ), (96, vZ), (97, (vB false)), (98, (vB false)), (99, vZ), (100, (vB false)), (6, (vB false))] ?_
                  have pz := put_rest (c := c) (fillM xs) c102 c111
                  have pf := (fillM_wf xs).few
                  exfalso
                  omega
              · refine wc_ev [evFb 9 1 c102 sn95, evLw 11 0 agg39 size39 f97, evF 11 1 (by rw [if_pos c111] at s104; exact s104), eqF 13 1 31 c112, evF 15 1 sn124, eqF 15 2 3 c125] .normal h103 [(47, (vS key)), (48, (vB true)), (49, (vB false)), (46, (vB false)), (61, (vA #[(vI c.v), (vI c.up), (vI c.dn), (vI c.lo), (vI c.hi)])), (62, (vI 0)), (63, (vB false)), (60, (vB false)), (75, (vI (getE (fillM xs) key))), (76, (vB false)), (74, (vB false)), (88, (vP b40 0)), (89, (vI (((fillM xs).length : Nat)))), (90, (vB false)), (87, (vB false))] ?_
                refine wc_seq' (subc (bodyOf Tryd.prog 8) [1, 1, 1, 1, 1, 1, 1, 1, 0]) (subc (bodyOf Tryd.prog 8) [1, 1, 1, 1, 1, 1, 1, 1, 1]) (by kernel_rfl) ?_
                have q136 := get_facts (putM (fillM xs) key c) key
                have pz := put_rest (c := c) (fillM xs) c102 c111
                have pf := (fillM_wf xs).few
                have p0 : putE (fillM xs) key c = 0 := by omega
                obtain ⟨z1, z2, z3, z4, z5⟩ := put_back (fillM_wf xs) p0
                obtain ⟨_, hh137, sn138, rfl, x139⟩ := get_ok h103 p108 k84 key
                have f140 := x139 _ _ f106
                have f141 := x139 _ _ f107
                have p142 := p108.keep fun b r _ q => x139 b r q
                have p143 := p109.keep fun b r _ q => x139 b r q
                have x144 := x110.trans x139
                obtain ⟨b145, eb146⟩ : ∃ zq, zq = hh137.size := ⟨_, rfl⟩
                obtain ⟨h147, e148⟩ : ∃ zq, zq = hh137.push (.cells #[(vI 0), (vI 0), (vI 0), (vI 0), (vI 0)] 39 (0, 0)) := ⟨_, rfl⟩
                have f149 := push_new e148
                rw [← eb146] at f149
                have n150 : b145 ≠ b1 := by have := row_lt f140; omega
                have n151 : b145 ≠ b58 := by have := row_lt f141; omega
                have n152 : ∀ zz, O4076 zz → ¬ zz = b145 := fun zz hz ez => by have := p142.blk_lt hz; omega
                have n153 : ∀ zz, O4030 zz → ¬ zz = b145 := fun zz hz ez => by have := p143.blk_lt hz; omega
                have x154 : Ext hh137 h147 := by rw [e148]; exact Ext.push _ _
                have o155 : h.size ≤ b145 := by have := x144.size; omega
                have f156 := x154 _ _ f140
                have f157 := x154 _ _ f141
                have p158 := p142.keep fun b r _ q => x154 b r q
                have p159 := p143.keep fun b r _ q => x154 b r q
                have x160 := x144.trans x154
                obtain ⟨h161, e162⟩ : ∃ zq, zq = h147.setIfInBounds b145 (.cells #[(vI ((getC (putM (fillM xs) key c) key).v)), (vI ((getC (putM (fillM xs) key c) key).up)), (vI ((getC (putM (fillM xs) key c) key).dn)), (vI ((getC (putM (fillM xs) key c) key).lo)), (vI ((getC (putM (fillM xs) key c) key).hi))] 39 (0, 0)) := ⟨_, rfl⟩
                have f163 := set_same e162 f149
                have f164 := set_other e162 f156 n150
                have f165 := set_other e162 f157 n151
                have p166 := p158.keep fun b r hb q => (Chg.set e162).same b r q (n152 b hb)
                have p167 := p159.keep fun b r hb q => (Chg.set e162).same b r q (n153 b hb)
                have x168 := Ext.setNew x160 e162 o155
                refine wc_ev [evF 17 2 sn138, evA 17 6 eb146 e148, evUw 17 7 size39 f149 e162] .normal h161 [(102, (vP b29 0)), (103, (vS key)), (104, (vT #[(vA #[(vI ((getC (putM (fillM xs) key c) key).v)), (vI ((getC (putM (fillM xs) key c) key).up)), (vI ((getC (putM (fillM xs) key c) key).dn)), (vI ((getC (putM (fillM xs) key c) key).lo)), (vI ((getC (putM (fillM xs) key c) key).hi))]), (vI (getE (putM (fillM xs) key c) key))])), (101, (vT #[(vA #[(vI ((getC (putM (fillM xs) key c) key).v)), (vI ((getC (putM (fillM xs) key c) key).up)), (vI ((getC (putM (fillM xs) key c) key).dn)), (vI ((getC (putM (fillM xs) key c) key).lo)), (vI ((getC (putM (fillM xs) key c) key).hi))]), (vI (getE (putM (fillM xs) key c) key))])), (105, (vA #[(vI ((getC (putM (fillM xs) key c) key).v)), (vI ((getC (putM (fillM xs) key c) key).up)), (vI ((getC (putM (fillM xs) key c) key).dn)), (vI ((getC (putM (fillM xs) key c) key).lo)), (vI ((getC (putM (fillM xs) key c) key).hi))])), (106, (vI (getE (putM (fillM xs) key c) key))), (12, (vP b145 0)), (13, (vI (getE (putM (fillM xs) key c) key)))] ?_
                refine wc_act { tmps := #[(vL sa xs.length cp), (vS key), (vA #[(vI c.v), (vI c.up), (vI c.dn), (vI c.lo), (vI c.hi)]), vZ, vZ, (vP b1 0), (vB false), (vP b29 0), (vP b40 0), (vP b58 0), (vI (getE (fillM xs) key)), (vI (putE (fillM xs) key c)), (vP b145 0), (vI (getE (putM (fillM xs) key c) key)), vZ, vZ, (vL sa xs.length cp), (vI ((xs.length : Nat))), (vB false), (vB false), (vL sa xs.length cp), (vB true), (vB false), (vB false), (vB false), (vS key), (vI ((key.size : Nat))), (vB false), (vB false), vZ, (vL sa xs.length cp), (vP b29 0), (vP b29 0), (vP b40 0), (vP b40 0), (vB false), (vT #[(vA #[(vI ((getC (fillM xs) key).v)), (vI ((getC (fillM xs) key).up)), (vI ((getC (fillM xs) key).dn)), (vI ((getC (fillM xs) key).lo)), (vI ((getC (fillM xs) key).hi))]), (vI (getE (fillM xs) key))]), (vP b29 0), (vS key), (vT #[(vA #[(vI ((getC (fillM xs) key).v)), (vI ((getC (fillM xs) key).up)), (vI ((getC (fillM xs) key).dn)), (vI ((getC (fillM xs) key).lo)), (vI ((getC (fillM xs) key).hi))]), (vI (getE (fillM xs) key))]), (vA #[(vI ((getC (fillM xs) key).v)), (vI ((getC (fillM xs) key).up)), (vI ((getC (fillM xs) key).dn)), (vI ((getC (fillM xs) key).lo)), (vI ((getC (fillM xs) key).hi))]), (vI (getE (fillM xs) key)), (vP b29 0), (vS key), (vA #[(vI c.v), (vI c.up), (vI c.dn), (vI c.lo), (vI c.hi)]), (vI (putE (fillM xs) key c)), (vB false), (vS key), (vB true), (vB false), vZ, vZ, vZ, vZ, vZ, vZ, vZ, vZ, vZ, vZ, (vB false), (vA #[(vI c.v), (vI c.up), (vI c.dn), (vI c.lo), (vI c.hi)]), (vI 0), (vB false), vZ, vZ, vZ, vZ, vZ, vZ, vZ, vZ, vZ, vZ, (vB false), (vI (getE (fillM xs) key)), (vB false), vZ, vZ, vZ, vZ, vZ, vZ, vZ, vZ, vZ, vZ, (vB false), (vP b40 0), (vI (((fillM xs).length : Nat))), (vB false), vZ, vZ, vZ, vZ, vZ, vZ, vZ, vZ, vZ, vZ, (vT #[(vA #[(vI ((getC (putM (fillM xs) key c) key).v)), (vI ((getC (putM (fillM xs) key c) key).up)), (vI ((getC (putM (fillM xs) key c) key).dn)), (vI ((getC (putM (fillM xs) key c) key).lo)), (vI ((getC (putM (fillM xs) key c) key).hi))]), (vI (getE (putM (fillM xs) key c) key))]), (vP b29 0), (vS key), (vT #[(vA #[(vI ((getC (putM (fillM xs) key c) key).v)), (vI ((getC (putM (fillM xs) key c) key).up)), (vI ((getC (putM (fillM xs) key c) key).dn)), (vI ((getC (putM (fillM xs) key c) key).lo)), (vI ((getC (putM (fillM xs) key c) key).hi))]), (vI (getE (putM (fillM xs) key c) key))]), (vA #[(vI ((getC (putM (fillM xs) key c) key).v)), (vI ((getC (putM (fillM xs) key c) key).up)), (vI ((getC (putM (fillM xs) key c) key).dn)), (vI ((getC (putM (fillM xs) key c) key).lo)), (vI ((getC (putM (fillM xs) key c) key).hi))]), (vI (getE (putM (fillM xs) key c) key)), vZ, vZ, vZ, vZ, vZ, vZ, vZ, vZ, vZ, vZ, vZ, vZ, vZ, vZ, vZ, vZ, vZ, vZ, vZ, vZ, vZ, vZ, vZ, vZ, vZ, vZ, vZ, vZ, vZ, vZ, vZ, vZ, vZ, vZ, vZ, vZ, vZ, vZ, vZ, vZ, vZ, vZ, vZ, vZ, vZ, vZ, vZ, vZ, vZ, vZ, vZ, vZ, vZ, vZ, vZ], defers := [] } (by as_aux_lemma => kernel_rfl) ?_
                refine wc_seq' (subc (bodyOf Tryd.prog 8) [1, 1, 1, 1, 1, 1, 1, 1, 1, 0]) (subc (bodyOf Tryd.prog 8) [1, 1, 1, 1, 1, 1, 1, 1, 1, 1]) (by kernel_rfl) ?_
                obtain ⟨_, h169, s170, w171, c172, rfl, o173, x174, b175⟩ := keys_ok h161 p166 k84 
                have l176 := k84.few
                have l176 := k84.few
                have l177 := keys_lens (putM (fillM xs) key c) 
                have f178 := x174 _ _ f164
                have f179 := x174 _ _ f165
                have f180 := x174 _ _ f163
                have p181 := p166.keep fun b r _ q => x174 b r q
                have p182 := p167.keep fun b r _ q => x174 b r q
                have x183 := x168.trans x174
                have z184 : h.size ≤ h161.size := x168.size
                have o185 : ∀ zz, blk (Value.slice w171 ((ksL (putM (fillM xs) key c)).length) (c172)) zz → h.size ≤ zz := fun zz hz => by have := b175 zz hz; omega
                refine wc_ev [evF 18 1 s170] .normal h169 [(107, (vP b29 0)), (108, (Value.slice w171 ((ksL (putM (fillM xs) key c)).length) (c172))), (14, (Value.slice w171 ((ksL (putM (fillM xs) key c)).length) (c172)))] ?_
                refine wc_seq' (subc (bodyOf Tryd.prog 8) [1, 1, 1, 1, 1, 1, 1, 1, 1, 1, 0]) (subc (bodyOf Tryd.prog 8) [1, 1, 1, 1, 1, 1, 1, 1, 1, 1, 1]) (by kernel_rfl) ?_
                by_cases c186 : ((putE (fillM xs) key c) : Int) = 0
                · by_cases c187 : ((getE (putM (fillM xs) key c) key) : Int) = 0
                  · by_cases c188 : ((((getC (putM (fillM xs) key c) key).v) : Int) = (c.v) ∧ (((getC (putM (fillM xs) key c) key).up) : Int) = (c.up) ∧ (((getC (putM (fillM xs) key c) key).dn) : Int) = (c.dn) ∧ (((getC (putM (fillM xs) key c) key).lo) : Int) = (c.lo) ∧ (((getC (putM (fillM xs) key c) key).hi) : Int) = (c.hi))
                    · have q189 := (fillM_wf xs).few
                      obtain ⟨_, _, sn190, rfl, rfl⟩ := len_ok h169 p182 (fillM_wf xs)
                      by_cases c191 : ((((ksL (putM (fillM xs) key c)).length : Nat)) : Int) = ((((fillM xs).length : Nat)) + 1)
                      · refine wc_ev [neF 19 1 31 c186, neF 19 4 31 c187, evLw 19 7 agg39 size39 f180, evLw 19 8 agg39 size39 f178, evQ 19 9 (cmp39_neq (decide_eq_false (not_not_intro c188))), evF 19 15 sn190, evV 19 16 (vI ((((fillM xs).length : Nat)) + 1)) (show binA Tryd.prog .add 3 (vI (((fillM xs).length : Nat))) (vI 1) = some (vI ((((fillM xs).length : Nat)) + 1)) from add_i64 (by omega) (by omega)), neF 19 17 3 c191] .normal h169 [(109, (vI (putE (fillM xs) key c))), (110, (vB false)), (111, (vB false)), (112, (vI (getE (putM (fillM xs) key c) key))), (113, (vB false)), (114, (vB false)), (115, (vB false)), (116, (vA #[(vI ((getC (putM (fillM xs) key c) key).v)), (vI ((getC (putM (fillM xs) key c) key).up)), (vI ((getC (putM (fillM xs) key c) key).dn)), (vI ((getC (putM (fillM xs) key c) key).lo)), (vI ((getC (putM (fillM xs) key c) key).hi))])), (117, (vA #[(vI c.v), (vI c.up), (vI c.dn), (vI c.lo), (vI c.hi)])), (118, (vB false)), (119, (vB false)), (120, (vB false)), (121, (Value.slice w171 ((ksL (putM (fillM xs) key c)).length) (c172))), (122, (vI (((ksL (putM (fillM xs) key c)).length : Nat)))), (123, (vP b40 0)), (124, (vI (((fillM xs).length : Nat)))), (125, (vI ((((fillM xs).length : Nat)) + 1))), (126, (vB false)), (127, (vB false))] ?_
                        refine wc_seq' (subc (bodyOf Tryd.prog 8) [1, 1, 1, 1, 1, 1, 1, 1, 1, 1, 1, 0]) (subc (bodyOf Tryd.prog 8) [1, 1, 1, 1, 1, 1, 1, 1, 1, 1, 1, 1]) (by kernel_rfl) ?_
                        refine wc_seq' (subc (bodyOf Tryd.prog 8) [1, 1, 1, 1, 1, 1, 1, 1, 1, 1, 1, 0, 0]) (subc (bodyOf Tryd.prog 8) [1, 1, 1, 1, 1, 1, 1, 1, 1, 1, 1, 0, 1]) (by kernel_rfl) ?_
                        refine wc_ev [] .normal h169 [(15, (vI 1))] ?_
                        refine wc_block' 1 (subc (bodyOf Tryd.prog 8) [1, 1, 1, 1, 1, 1, 1, 1, 1, 1, 1, 0, 1, 0]) (by kernel_rfl) ?_
                        refine wc_loop' (subc (bodyOf Tryd.prog 8) [1, 1, 1, 1, 1, 1, 1, 1, 1, 1, 1, 0, 1, 0, 0]) (by kernel_rfl) (fun n' a' h' => ∃ (k : Int) (g0 : Nat → Value), a' = { tmps := #[(vL sa xs.length cp), (vS key), (vA #[(vI c.v), (vI c.up), (vI c.dn), (vI c.lo), (vI c.hi)]), vZ, vZ, (vP b1 0), (g0 6), (vP b29 0), (vP b40 0), (vP b58 0), (vI (getE (fillM xs) key)), (vI (putE (fillM xs) key c)), (vP b145 0), (vI (getE (putM (fillM xs) key c) key)), (Value.slice w171 ((ksL (putM (fillM xs) key c)).length) (c172)), (vI k), (vL sa xs.length cp), (vI ((xs.length : Nat))), (vB false), (vB false), (vL sa xs.length cp), (vB true), (vB false), (vB false), (vB false), (vS key), (vI ((key.size : Nat))), (vB false), (vB false), vZ, (vL sa xs.length cp), (vP b29 0), (vP b29 0), (vP b40 0), (vP b40 0), (vB false), (vT #[(vA #[(vI ((getC (fillM xs) key).v)), (vI ((getC (fillM xs) key).up)), (vI ((getC (fillM xs) key).dn)), (vI ((getC (fillM xs) key).lo)), (vI ((getC (fillM xs) key).hi))]), (vI (getE (fillM xs) key))]), (vP b29 0), (vS key), (vT #[(vA #[(vI ((getC (fillM xs) key).v)), (vI ((getC (fillM xs) key).up)), (vI ((getC (fillM xs) key).dn)), (vI ((getC (fillM xs) key).lo)), (vI ((getC (fillM xs) key).hi))]), (vI (getE (fillM xs) key))]), (vA #[(vI ((getC (fillM xs) key).v)), (vI ((getC (fillM xs) key).up)), (vI ((getC (fillM xs) key).dn)), (vI ((getC (fillM xs) key).lo)), (vI ((getC (fillM xs) key).hi))]), (vI (getE (fillM xs) key)), (vP b29 0), (vS key), (vA #[(vI c.v), (vI c.up), (vI c.dn), (vI c.lo), (vI c.hi)]), (vI (putE (fillM xs) key c)), (vB false), (vS key), (vB true), (vB false), vZ, vZ, vZ, vZ, vZ, vZ, vZ, vZ, vZ, vZ, (vB false), (vA #[(vI c.v), (vI c.up), (vI c.dn), (vI c.lo), (vI c.hi)]), (vI 0), (vB false), vZ, vZ, vZ, vZ, vZ, vZ, vZ, vZ, vZ, vZ, (vB false), (vI (getE (fillM xs) key)), (vB false), vZ, vZ, vZ, vZ, vZ, vZ, vZ, vZ, vZ, vZ, (vB false), (vP b40 0), (vI (((fillM xs).length : Nat))), (vB false), vZ, vZ, vZ, vZ, vZ, vZ, vZ, vZ, vZ, vZ, (vT #[(vA #[(vI ((getC (putM (fillM xs) key c) key).v)), (vI ((getC (putM (fillM xs) key c) key).up)), (vI ((getC (putM (fillM xs) key c) key).dn)), (vI ((getC (putM (fillM xs) key c) key).lo)), (vI ((getC (putM (fillM xs) key c) key).hi))]), (vI (getE (putM (fillM xs) key c) key))]), (vP b29 0), (vS key), (vT #[(vA #[(vI ((getC (putM (fillM xs) key c) key).v)), (vI ((getC (putM (fillM xs) key c) key).up)), (vI ((getC (putM (fillM xs) key c) key).dn)), (vI ((getC (putM (fillM xs) key c) key).lo)), (vI ((getC (putM (fillM xs) key c) key).hi))]), (vI (getE (putM (fillM xs) key c) key))]), (vA #[(vI ((getC (putM (fillM xs) key c) key).v)), (vI ((getC (putM (fillM xs) key c) key).up)), (vI ((getC (putM (fillM xs) key c) key).dn)), (vI ((getC (putM (fillM xs) key c) key).lo)), (vI ((getC (putM (fillM xs) key c) key).hi))]), (vI (getE (putM (fillM xs) key c) key)), (vP b29 0), (Value.slice w171 ((ksL (putM (fillM xs) key c)).length) (c172)), (vI (putE (fillM xs) key c)), (vB false), (vB false), (vI (getE (putM (fillM xs) key c) key)), (vB false), (vB false), (vB false), (vA #[(vI ((getC (putM (fillM xs) key c) key).v)), (vI ((getC (putM (fillM xs) key c) key).up)), (vI ((getC (putM (fillM xs) key c) key).dn)), (vI ((getC (putM (fillM xs) key c) key).lo)), (vI ((getC (putM (fillM xs) key c) key).hi))]), (vA #[(vI c.v), (vI c.up), (vI c.dn), (vI c.lo), (vI c.hi)]), (vB false), (vB false), (vB false), (Value.slice w171 ((ksL (putM (fillM xs) key c)).length) (c172)), (vI (((ksL (putM (fillM xs) key c)).length : Nat))), (vP b40 0), (vI (((fillM xs).length : Nat))), (vI ((((fillM xs).length : Nat)) + 1)), (vB false), (vB false), (g0 128), (g0 129), (g0 130), (g0 131), (g0 132), (g0 133), (g0 134), (g0 135), (g0 136), (g0 137), (g0 138), (g0 139), (g0 140), (g0 141), (g0 142), (g0 143), vZ, vZ, vZ, vZ, vZ, vZ, vZ, vZ, vZ, vZ, vZ, vZ, vZ, vZ, vZ, vZ, vZ, vZ], defers := [] } ∧ Ext h h' ∧ n' = (ksL (putM (fillM xs) key c)).length + 1 - k.toNat ∧ h'[b1]? = some (.cells #[(vI c.v), (vI c.up), (vI c.dn), (vI c.lo), (vI c.hi)] 39 (0, 0)) ∧ h'[b58]? = some (.cells #[(vI ((getC (fillM xs) key).v)), (vI ((getC (fillM xs) key).up)), (vI ((getC (fillM xs) key).dn)), (vI ((getC (fillM xs) key).lo)), (vI ((getC (fillM xs) key).hi))] 39 (0, 0)) ∧ h'[b145]? = some (.cells #[(vI ((getC (putM (fillM xs) key c) key).v)), (vI ((getC (putM (fillM xs) key c) key).up)), (vI ((getC (putM (fillM xs) key c) key).dn)), (vI ((getC (putM (fillM xs) key c) key).lo)), (vI ((getC (putM (fillM xs) key c) key).hi))] 39 (0, 0)) ∧ (1 ≤ k ∧ k ≤ ((ksL (putM (fillM xs) key c)).length : Nat) + 1) ∧ StAt 50 h' O4076 b29 (putM (fillM xs) key c) ∧ StAt 50 h' O4030 b40 (fillM xs) ∧ OwnAt h' 9 strc (ksL (putM (fillM xs) key c)) (Value.slice w171 ((ksL (putM (fillM xs) key c)).length) (c172))) ?_ ((ksL (putM (fillM xs) key c)).length + 1 - (1 : Int).toNat) ⟨1, (fun i => ([vU, vU, vU, vU, vU, vU, (vB false), vU, vU, vU, vU, vU, vU, vU, vU, vU, vU, vU, vU, vU, vU, vU, vU, vU, vU, vU, vU, vU, vU, vU, vU, vU, vU, vU, vU, vU, vU, vU, vU, vU, vU, vU, vU, vU, vU, vU, vU, vU, vU, vU, vU, vU, vU, vU, vU, vU, vU, vU, vU, vU, vU, vU, vU, vU, vU, vU, vU, vU, vU, vU, vU, vU, vU, vU, vU, vU, vU, vU, vU, vU, vU, vU, vU, vU, vU, vU, vU, vU, vU, vU, vU, vU, vU, vU, vU, vU, vU, vU, vU, vU, vU, vU, vU, vU, vU, vU, vU, vU, vU, vU, vU, vU, vU, vU, vU, vU, vU, vU, vU, vU, vU, vU, vU, vU, vU, vU, vU, vU, vZ, vZ, vZ, vZ, vZ, vZ, vZ, vZ, vZ, vZ, vZ, vZ, vZ, vZ, vZ, vZ] : List Value).getD i undef), by as_aux_lemma => kernel_rfl, x183, rfl, f178, f179, f180, by omega, p181, p182, o173⟩
                        rintro n' _ h192 ⟨k, g0, rfl, x193, m194, f195, f196, f197, i198, p199, p200, p201⟩
                        by_cases c202 : ((k) : Int) < (((ksL (putM (fillM xs) key c)).length : Nat))
                        · obtain ⟨i203, v204, e205, l206, g207⟩ := list_at (ksL (putM (fillM xs) key c)) (e := ((k) - 1)) (by omega) (by first | omega | (simp only [List.length_set, List.length_append, List.length_singleton]; omega))
                          obtain ⟨b208, o209, q210, a211, k212, u213⟩ := p201.store strc_size g207
                          have gv214 := key_get g207
                          obtain ⟨i215, v216, e217, l218, g219⟩ := list_at (ksL (putM (fillM xs) key c)) (e := (k)) (by omega) (by first | omega | (simp only [List.length_set, List.length_append, List.length_singleton]; omega))
                          obtain ⟨b220, o221, q222, a223, k224, u225⟩ := p201.store strc_size g219
                          have gv226 := key_get g219
                          rcases Bool.eq_false_or_eq_true (sl v204 v216) with c227 | c227
                          · refine wc_ev [ltT 22 3 3 c202, evV 24 2 (vI ((k) - 1)) (show binA Tryd.prog .sub 3 (vI k) (vI 1) = some (vI ((k) - 1)) from sub_i64 (by omega) (by omega)), evV 24 3 (vP b208 o209) (show indexAddrA Tryd.prog 29 (Value.slice w171 ((ksL (putM (fillM xs) key c)).length) (c172)) (vI ((k) - 1)) = some (vP b208 o209) from a211 und29 size9 e205), evV 24 4 (vS v204) (show loadT Tryd.prog h192 9 (vP b208 o209) = some (vS v204) from k212.cell (j := 0) agg9 rfl), evV 24 7 (vP b220 o221) (show indexAddrA Tryd.prog 29 (Value.slice w171 ((ksL (putM (fillM xs) key c)).length) (c172)) (vI k) = some (vP b220 o221) from a223 und29 size9 e217), evV 24 8 (vS v216) (show loadT Tryd.prog h192 9 (vP b220 o221) = some (vS v216) from k224.cell (j := 0) agg9 rfl), evV 24 9 (vB false) (show binA Tryd.prog .geq 9 (vS v204) (vS v216) = some (vB false) from str_geq c227), evV 23 1 (vI ((k) + 1)) (show binA Tryd.prog .add 3 (vI k) (vI 1) = some (vI ((k) + 1)) from add_i64 (by omega) (by omega))] .normal h192 [(128, (vI k)), (129, (Value.slice w171 ((ksL (putM (fillM xs) key c)).length) (c172))), (130, (vI (((ksL (putM (fillM xs) key c)).length : Nat)))), (131, (vB true)), (134, (Value.slice w171 ((ksL (putM (fillM xs) key c)).length) (c172))), (135, (vI k)), (136, (vI ((k) - 1))), (137, (vP b208 o209)), (138, (vS v204)), (139, (Value.slice w171 ((ksL (putM (fillM xs) key c)).length) (c172))), (140, (vI k)), (141, (vP b220 o221)), (142, (vS v216)), (143, (vB false)), (132, (vI k)), (133, (vI ((k) + 1))), (15, (vI ((k) + 1)))] ?_
                            exact ⟨(ksL (putM (fillM xs) key c)).length + 1 - (k + 1).toNat, by omega, ⟨k + 1, (fun i => ([vU, vU, vU, vU, vU, vU, (g0 6), vU, vU, vU, vU, vU, vU, vU, vU, vU, vU, vU, vU, vU, vU, vU, vU, vU, vU, vU, vU, vU, vU, vU, vU, vU, vU, vU, vU, vU, vU, vU, vU, vU, vU, vU, vU, vU, vU, vU, vU, vU, vU, vU, vU, vU, vU, vU, vU, vU, vU, vU, vU, vU, vU, vU, vU, vU, vU, vU, vU, vU, vU, vU, vU, vU, vU, vU, vU, vU, vU, vU, vU, vU, vU, vU, vU, vU, vU, vU, vU, vU, vU, vU, vU, vU, vU, vU, vU, vU, vU, vU, vU, vU, vU, vU, vU, vU, vU, vU, vU, vU, vU, vU, vU, vU, vU, vU, vU, vU, vU, vU, vU, vU, vU, vU, vU, vU, vU, vU, vU, vU, (vI k), (Value.slice w171 ((ksL (putM (fillM xs) key c)).length) (c172)), (vI (((ksL (putM (fillM xs) key c)).length : Nat))), (vB true), (vI k), (vI ((k) + 1)), (Value.slice w171 ((ksL (putM (fillM xs) key c)).length) (c172)), (vI k), (vI ((k) - 1)), (vP b208 o209), (vS v204), (Value.slice w171 ((ksL (putM (fillM xs) key c)).length) (c172)), (vI k), (vP b220 o221), (vS v216), (vB false)] : List Value).getD i undef), by as_aux_lemma => kernel_rfl, x193, rfl, f195, f196, f197, by omega, p199, p200, p201⟩⟩
                          · refine wc_ev [ltT 22 3 3 c202, evV 24 2 (vI ((k) - 1)) (show binA Tryd.prog .sub 3 (vI k) (vI 1) = some (vI ((k) - 1)) from sub_i64 (by omega) (by omega)), evV 24 3 (vP b208 o209) (show indexAddrA Tryd.prog 29 (Value.slice w171 ((ksL (putM (fillM xs) key c)).length) (c172)) (vI ((k) - 1)) = some (vP b208 o209) from a211 und29 size9 e205), evV 24 4 (vS v204) (show loadT Tryd.prog h192 9 (vP b208 o209) = some (vS v204) from k212.cell (j := 0) agg9 rfl), evV 24 7 (vP b220 o221) (show indexAddrA Tryd.prog 29 (Value.slice w171 ((ksL (putM (fillM xs) key c)).length) (c172)) (vI k) = some (vP b220 o221) from a223 und29 size9 e217), evV 24 8 (vS v216) (show loadT Tryd.prog h192 9 (vP b220 o221) = some (vS v216) from k224.cell (j := 0) agg9 rfl), evV 24 9 (vB true) (show binA Tryd.prog .geq 9 (vS v204) (vS v216) = some (vB true) from str_geq c227)] .ret h192 [(128, (vI k)), (129, (Value.slice w171 ((ksL (putM (fillM xs) key c)).length) (c172))), (130, (vI (((ksL (putM (fillM xs) key c)).length : Nat)))), (131, (vB true)), (134, (Value.slice w171 ((ksL (putM (fillM xs) key c)).length) (c172))), (135, (vI k)), (136, (vI ((k) - 1))), (137, (vP b208 o209)), (138, (vS v204)), (139, (Value.slice w171 ((ksL (putM (fillM xs) key c)).length) (c172))), (140, (vI k)), (141, (vP b220 o221)), (142, (vS v216)), (143, (vB true)), (6, (vB false))] ?_
                            exfalso
                            exact absurd (ord_at ((fillM_wf xs).put key c) g207 g219 (by omega)) (by rw [c227]; decide)
                        · refine wc_ev [ltF 22 3 3 c202] (.exit 1) h192 [(128, (vI k)), (129, (Value.slice w171 ((ksL (putM (fillM xs) key c)).length) (c172))), (130, (vI (((ksL (putM (fillM xs) key c)).length : Nat)))), (131, (vB false))] ?_
                          obtain ⟨_, h228, s229, rfl, x230, O4257, p231, o232⟩ := remove_ok h192 p199 k84 key
                          have k233 := WfM.rem k84 key
                          have q234 := get_facts (putM (fillM xs) key c) key
                          have z235 : h.size ≤ h192.size := x193.size
                          have x236 : Ext h _ := (Chg.then (O := fun _ => False) (Chg.ext x193) x230 (fun b hb => .inr (o93 b hb))).toExt'
                          have p237 := p200.keep fun b r hb q => x230.same b r q ((fun b hb hb2 => n92 b hb2 hb) b hb)
                          have z238 : h.size ≤ h192.size := x193.size
                          have o239 : ∀ zz, O4257 zz → h.size ≤ zz := fun zz hz => by rcases o232 zz hz with g | g; (exact o93 zz g); omega
                          have q240 := p231
                          rw [z4] at q240
                          obtain ⟨_, hh241, sn242, rfl, x243⟩ := equal_ok h228 q240 p237 (fillM_wf xs)
                          have p244 := p231.keep fun b r _ q => x243 b r q
                          have x245 := x236.trans x243
                          obtain ⟨_, h246, s247, rfl, x248, O4291, p249, o250⟩ := remove_ok hh241 p244 k233 key
                          have k251 := WfM.rem k233 key
                          have q252 := get_facts (remM (putM (fillM xs) key c) key) key
                          have z253 : h.size ≤ hh241.size := x245.size
                          have x254 : Ext h _ := (Chg.then (O := fun _ => False) (Chg.ext x245) x248 (fun b hb => .inr (o239 b hb))).toExt'
                          have z255 : h.size ≤ hh241.size := x245.size
                          have o256 : ∀ zz, O4291 zz → h.size ≤ zz := fun zz hz => by rcases o250 zz hz with g | g; (exact o239 zz g); omega
                          by_cases c257 : ((getE (remM (putM (fillM xs) key c) key) key) : Int) = 5
                          · obtain ⟨_, hh258, sn259, rfl, x260⟩ := works_ok h246
                            have x261 := x254.trans x260
                            refine wc_ev [evF 26 2 s229, eqT 26 3 31 c187, evF 26 7 sn242, evF 26 12 s247, eqT 26 13 31 c257, evF 26 16 sn259] .ret hh258 [(144, (vP b29 0)), (145, (vS key)), (146, (vI (getE (putM (fillM xs) key c) key))), (147, (vB true)), (148, (vB true)), (149, (vP b29 0)), (150, (vP b40 0)), (151, (vB true)), (152, (vB true)), (153, (vB true)), (154, (vP b29 0)), (155, (vS key)), (156, (vI (getE (remM (putM (fillM xs) key c) key) key))), (157, (vB true)), (158, (vB true)), (159, (vB true)), (160, (vB true)), (161, (vB true)), (6, (vB true))] ?_
                            exact end_ev [] (vB true) (hK _ _ (⟨rfl, x261⟩))
                          · refine wc_ev [evF 26 2 s229, eqT 26 3 31 c187, evF 26 7 sn242, evF 26 12 s247, eqF 26 13 31 c257] .ret h246 [(144, (vP b29 0)), (145, (vS key)), (146, (vI (getE (putM (fillM xs) key c) key))), (147, (vB true)), (148, (vB true)), (149, (vP b29 0)), (150, (vP b40 0)), (151, (vB true)), (152, (vB true)), (153, (vB true)), (154, (vP b29 0)), (155, (vS key)), (156, (vI (getE (remM (putM (fillM xs) key c) key) key))), (157, (vB false)), (158, (vB false)), (159, (vB false)), (160, vZ), (161, (vB false)), (6, (vB false))] ?_
                            have pz := put_rest (c := c) (fillM xs) c102 c111
                            have pf := (fillM_wf xs).few
                            exfalso
                            omega
                      · refine wc_ev [neF 19 1 31 c186, neF 19 4 31 c187, evLw 19 7 agg39 size39 f180, evLw 19 8 agg39 size39 f178, evQ 19 9 (cmp39_neq (decide_eq_false (not_not_intro c188))), evF 19 15 sn190, evV 19 16 (vI ((((fillM xs).length : Nat)) + 1)) (show binA Tryd.prog .add 3 (vI (((fillM xs).length : Nat))) (vI 1) = some (vI ((((fillM xs).length : Nat)) + 1)) from add_i64 (by omega) (by omega)), neT 19 17 3 c191] .ret h169 [(109, (vI (putE (fillM xs) key c))), (110, (vB false)), (111, (vB false)), (112, (vI (getE (putM (fillM xs) key c) key))), (113, (vB false)), (114, (vB false)), (115, (vB false)), (116, (vA #[(vI ((getC (putM (fillM xs) key c) key).v)), (vI ((getC (putM (fillM xs) key c) key).up)), (vI ((getC (putM (fillM xs) key c) key).dn)), (vI ((getC (putM (fillM xs) key c) key).lo)), (vI ((getC (putM (fillM xs) key c) key).hi))])), (117, (vA #[(vI c.v), (vI c.up), (vI c.dn), (vI c.lo), (vI c.hi)])), (118, (vB false)), (119, (vB false)), (120, (vB false)), (121, (Value.slice w171 ((ksL (putM (fillM xs) key c)).length) (c172))), (122, (vI (((ksL (putM (fillM xs) key c)).length : Nat)))), (123, (vP b40 0)), (124, (vI (((fillM xs).length : Nat)))), (125, (vI ((((fillM xs).length : Nat)) + 1))), (126, (vB true)), (127, (vB true)), (6, (vB false))] ?_
                        have pz := put_rest (c := c) (fillM xs) c102 c111
                        have pf := (fillM_wf xs).few
                        exfalso
                        omega
                    · refine wc_ev [neF 19 1 31 c186, neF 19 4 31 c187, evLw 19 7 agg39 size39 f180, evLw 19 8 agg39 size39 f178, evQ 19 9 (cmp39_neq (decide_eq_true c188))] .ret h169 [(109, (vI (putE (fillM xs) key c))), (110, (vB false)), (111, (vB false)), (112, (vI (getE (putM (fillM xs) key c) key))), (113, (vB false)), (114, (vB false)), (115, (vB false)), (116, (vA #[(vI ((getC (putM (fillM xs) key c) key).v)), (vI ((getC (putM (fillM xs) key c) key).up)), (vI ((getC (putM (fillM xs) key c) key).dn)), (vI ((getC (putM (fillM xs) key c) key).lo)), (vI ((getC (putM (fillM xs) key c) key).hi))])), (117, (vA #[(vI c.v), (vI c.up), (vI c.dn), (vI c.lo), (vI c.hi)])), (118, (vB true)), (119, (vB true)), (120, (vB true)), (121, vZ), (122, vZ), (123, vZ), (124, vZ), (125, vZ), (126, vZ), (127, (vB true)), (6, (vB false))] ?_
                      exfalso
                      exact c188 (by rw [z2]; exact ⟨rfl, rfl, rfl, rfl, rfl⟩)
                  · refine wc_ev [neF 19 1 31 c186, neT 19 4 31 c187] .ret h169 [(109, (vI (putE (fillM xs) key c))), (110, (vB false)), (111, (vB false)), (112, (vI (getE (putM (fillM xs) key c) key))), (113, (vB true)), (114, (vB true)), (115, (vB true)), (116, vZ), (117, vZ), (118, vZ), (119, (vB true)), (120, (vB true)), (121, vZ), (122, vZ), (123, vZ), (124, vZ), (125, vZ), (126, vZ), (127, (vB true)), (6, (vB false))] ?_
                    have pz := put_rest (c := c) (fillM xs) c102 c111
                    have pf := (fillM_wf xs).few
                    exfalso
                    omega
                · refine wc_ev [neT 19 1 31 c186] .ret h169 [(109, (vI (putE (fillM xs) key c))), (110, (vB true)), (111, (vB true)), (112, vZ), (113, vZ), (114, (vB true)), (115, (vB true)), (116, vZ), (117, vZ), (118, vZ), (119, (vB true)), (120, (vB true)), (121, vZ), (122, vZ), (123, vZ), (124, vZ), (125, vZ), (126, vZ), (127, (vB true)), (6, (vB false))] ?_
                  have pz := put_rest (c := c) (fillM xs) c102 c111
                  have pf := (fillM_wf xs).few
                  exfalso
                  omega
          · by_cases c262 : ((putE (fillM xs) key c) : Int) = 2
            · have q263 := p108
              rw [(putM_same (by have pz := put_arg (c := c) (fillM xs) c102 c111; omega))] at q263
              obtain ⟨_, hh264, sn265, rfl, x266⟩ := equal_ok h103 q263 p109 (fillM_wf xs)
              have x267 := x110.trans x266
              obtain ⟨_, hh268, sn269, rfl, x270⟩ := works_ok hh264
              have x271 := x267.trans x270
              refine wc_ev [evFb 9 1 c102 sn95, evLw 11 0 agg39 size39 f97, evF 11 1 (by rw [if_neg (by rw [c111]; decide)] at s104; exact s104), eqT 12 1 31 c262, evF 12 5 sn265, evF 12 8 sn269] .ret hh268 [(47, (vS key)), (48, (vB true)), (49, (vB false)), (46, (vB false)), (61, (vA #[(vI c.v), (vI c.up), (vI c.dn), (vI c.lo), (vI c.hi)])), (62, (vI 2)), (63, (vB true)), (60, (vB true)), (64, (vI (putE (fillM xs) key c))), (65, (vB true)), (66, (vB true)), (67, (vP b29 0)), (68, (vP b40 0)), (69, (vB true)), (70, (vB true)), (71, (vB true)), (72, (vB true)), (73, (vB true)), (6, (vB true))] ?_
              exact end_ev [] (vB true) (hK _ _ (⟨rfl, x271⟩))
            · refine wc_ev [evFb 9 1 c102 sn95, evLw 11 0 agg39 size39 f97, evF 11 1 (by rw [if_neg (by rw [c111]; decide)] at s104; exact s104), eqF 12 1 31 c262] .ret h103 [(47, (vS key)), (48, (vB true)), (49, (vB false)), (46, (vB false)), (61, (vA #[(vI c.v), (vI c.up), (vI c.dn), (vI c.lo), (vI c.hi)])), (62, (vI 2)), (63, (vB true)), (60, (vB true)), (64, (vI (putE (fillM xs) key c))), (65, (vB false)), (66, (vB false)), (67, vZ), (68, vZ), (69, vZ), (70, (vB false)), (71, (vB false)), (72, vZ), (73, (vB false)), (6, (vB false))] ?_
              have pz := put_arg (c := c) (fillM xs) c102 c111
              exfalso
              omega
        · by_cases c272 : ((putE (fillM xs) key c) : Int) = 14
          · have q273 := p99
            rw [(putM_same (by have pz := put_name (fillM xs) c c102; omega))] at q273
            obtain ⟨_, hh274, sn275, rfl, x276⟩ := equal_ok hh94 q273 p100 (fillM_wf xs)
            have x277 := x101.trans x276
            obtain ⟨_, hh278, sn279, rfl, x280⟩ := works_ok hh274
            have x281 := x277.trans x280
            refine wc_ev [evFb 9 1 c102 sn95, eqT 10 1 31 c272, evF 10 5 sn275, evF 10 8 sn279] .ret hh278 [(47, (vS key)), (48, (vB false)), (49, (vB true)), (46, (vB true)), (50, (vI (putE (fillM xs) key c))), (51, (vB true)), (52, (vB true)), (53, (vP b29 0)), (54, (vP b40 0)), (55, (vB true)), (56, (vB true)), (57, (vB true)), (58, (vB true)), (59, (vB true)), (6, (vB true))] ?_
            exact end_ev [] (vB true) (hK _ _ (⟨rfl, x281⟩))
          · refine wc_ev [evFb 9 1 c102 sn95, eqF 10 1 31 c272] .ret hh94 [(47, (vS key)), (48, (vB false)), (49, (vB true)), (46, (vB true)), (50, (vI (putE (fillM xs) key c))), (51, (vB false)), (52, (vB false)), (53, vZ), (54, vZ), (55, vZ), (56, (vB false)), (57, (vB false)), (58, vZ), (59, (vB false)), (6, (vB false))] ?_
            have pz := put_name (fillM xs) c c102
            exfalso
            omega
    · obtain ⟨_, hh282, sn283, rfl, x284⟩ := works_ok h14
      have x285 := x20.trans x284
      refine wc_ev [gtF 1 2 3 c9, evFb 1 5 c21 s15, evF 2 0 sn283] .ret hh282 [(16, (vL sa xs.length cp)), (17, (vI ((xs.length : Nat)))), (18, (vB false)), (19, (vB false)), (20, (vL sa xs.length cp)), (21, (vB false)), (22, (vB true)), (23, (vB true)), (24, (vB true)), (25, vZ), (26, vZ), (27, vZ), (28, (vB true)), (29, (vB true)), (6, (vB true))] ?_
      exact end_ev [] (vB true) (hK _ _ (⟨rfl, x285⟩))
theorem law_puts_x (h : Heap) (xs : List StepA) (sa : Option Addr) (cp : Nat) (hl : SliceAt h scell 11 xs (.slice sa xs.length cp)) (hlen : xs.length ≤ 9223372036854775807) (_ : ∀ x ∈ xs, True) (key : ByteArray) (n0 : Int) (_ : -9223372036854775808 ≤ n0 ∧ n0 ≤ 9223372036854775807) (n1 : Int) (_ : -9223372036854775808 ≤ n1 ∧ n1 ≤ 9223372036854775807) (n2 : Int) (_ : -9223372036854775808 ≤ n2 ∧ n2 ≤ 9223372036854775807) (n3 : Int) (_ : -9223372036854775808 ≤ n3 ∧ n3 ≤ 9223372036854775807) (n4 : Int) (_ : -9223372036854775808 ≤ n4 ∧ n4 ≤ 9223372036854775807) : WCall Tryd.prog 8 #[(Value.slice sa (xs.length) (cp)), (vS key), (Value.agg #[(vI (n0)), (vI (n1)), (vI (n2)), (vI (n3)), (vI (n4))])] h (fun v h1 => v = .bool true ∧ Ext h h1) :=
  law_puts h xs sa cp hl hlen key ⟨n0, n1, n2, n3, n4⟩
end C08
