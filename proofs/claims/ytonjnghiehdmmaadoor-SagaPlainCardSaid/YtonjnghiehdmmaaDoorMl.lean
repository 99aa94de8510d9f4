/- Results in the laws; what is looked at. -/
import Derived.Test.YtonjnghiehdmmaaDoorMk
import Derived.KernelRfl
open Go Go.AM Go.Proofs
namespace C28
theorem agg27 : isAggA Tryd.prog 27 = some true := by kernel_rfl
theorem agg37 : isAggA Tryd.prog 37 = some true := by kernel_rfl
theorem size27 : (Tryd.prog.info? 27).map (·.size) = some 10 := by kernel_rfl
theorem size37 : (Tryd.prog.info? 37).map (·.size) = some 10 := by kernel_rfl
theorem resE_zero {s : SagaM} {e1 e2 e3 res now : Int} (h : resE s e1 e2 e3 res now = 0) : chkS s = 0 ∧ (0 ≤ res ∧ res ≤ 18) ∧ (0 ≤ now ∧ now ≤ 2147483648) ∧ s.st < 4 ∧ e1 = 0 ∧ e2 = s.ix ∧ e3 = phS s.st := by
  unfold resE at h
  by_cases h1 : chkS s = 0
  · rw [if_pos h1] at h
    by_cases h2 : (0 ≤ res ∧ res ≤ 18) ∧ 0 ≤ now ∧ now ≤ 2147483648
    · rw [if_pos h2] at h
      by_cases h3 : s.st < 4
      · rw [if_pos h3] at h
        by_cases h4 : e1 = 0 ∧ e2 = s.ix ∧ e3 = phS s.st
        · exact ⟨h1, h2.1, h2.2, h3, h4⟩
        · rw [if_neg h4] at h; cases h
      · rw [if_neg h3] at h; cases h
    · rw [if_neg h2] at h; cases h
  · rw [if_neg h1] at h; exact absurd h h1
theorem bud_zero {t b : Int} (h : budB t b = true) : budB 0 b = true := by have := budB_of h; exact decide_eq_true (by omega)
theorem ag_ok {t b n : Int} {d : DefM} (hb : budB t b = true) (hd : defB d = true) (h : agB t b d n = true) : budB (agT t b d n) (agS t b d n) = true := by
  have w := of_decide_eq_true h
  have h1 := budB_of hb
  have h2 := defB_of hd
  unfold agT agS
  rw [if_pos w.1, if_pos w.1]
  exact decide_eq_true (by omega)
theorem chkS_mk {d : DefM} {st ix : Int} {cn : Bool} {tr bg er : Int} (h1 : defB d = true) (h2 : budB tr bg = true) (h3 : (1 ≤ st ∧ st ≤ 5) ∧ 0 ≤ ix ∧ (st < 4 → ix ≤ (d.xs.length : Nat) - 1) ∧ (4 ≤ st → ix ≤ 0) ∧ ¬ (cnI cn = 1 ∧ (st = 2 ∨ st = 4)) ∧ ((st = 3 ∨ st = 5) → 1 ≤ er ∧ er ≤ 18) ∧ (¬ (st = 3 ∨ st = 5) → er = 0)) : chkS ⟨d, st, ix, cn, tr, bg, er⟩ = 0 := chkS_ok h1 h2 (okI_ok h3)
/-- What follows from a result is possible. -/
theorem nxt_ok {s : SagaM} {res now : Int} (hz : chkS s = 0) (hr : 0 ≤ res ∧ res ≤ 18) (h4 : s.st < 4) : chkS (nxtS s res now) = 0 := by
  obtain ⟨zd, zb, zo⟩ := chkS_zero hz
  have hd := defB_of zd
  have ho := okI_of zo
  have b0 := bud_zero zb
  have hc : cnI s.cn = 0 ∨ cnI s.cn = 1 := by cases s.cn <;> simp [cnI]
  have ht : s.cn = true → cnI s.cn = 1 := cnI_true
  have hf : ¬ s.cn = true → cnI s.cn = 0 := fun h => cnI_false (Bool.eq_false_iff.2 h)
  rcases (show s.st = 1 ∨ s.st = 2 ∨ s.st = 3 by omega) with e | e | e
  · rw [nxtS_1 e]; unfold fwdS
    rw [amE_eq]
    simp only [decide_eq_true_eq]
    repeat' split
    all_goals refine chkS_mk zd ?_ ?_
    all_goals try dsimp only
    all_goals first | exact b0 | exact ag_ok zb zd (by assumption) | omega | (have := hf (by assumption); omega) | (have := ht (by assumption); omega)
  · rw [nxtS_2 e]; unfold freS
    repeat' split
    all_goals refine chkS_mk zd ?_ ?_
    all_goals try dsimp only
    all_goals first | exact b0 | exact zb | omega
  · rw [nxtS_3 e]; unfold undS
    repeat' split
    all_goals refine chkS_mk zd ?_ ?_
    all_goals try dsimp only
    all_goals first | exact b0 | exact zb | omega
theorem sta_ok {d : DefM} {n : Int} (h : staE d n = 0) : chkS (staS d n) = 0 := by
  unfold staE at h
  by_cases h1 : defB d = true
  · rw [if_pos h1] at h
    by_cases h2 : 0 ≤ n ∧ n ≤ 2147483648
    · have hd := defB_of h1
      refine chkS_ok h1 (decide_eq_true (by simp only [staS]; omega)) (okI_ok ?_)
      simp only [staS, cnI]; simp; omega
    · rw [if_neg h2] at h; cases h
  · rw [if_neg h1] at h; cases h
theorem can_ok {s : SagaM} (h : canE s = 0) : chkS (canS s) = 0 := by
  unfold canE at h
  by_cases h1 : chkS s = 0
  · rw [if_pos h1] at h
    by_cases h2 : s.st = 1
    · obtain ⟨zd, zb, zo⟩ := chkS_zero h1
      have ho := okI_of zo
      refine chkS_mk zd zb ?_
      omega
    · rw [if_neg h2] at h; cases h
  · rw [if_neg h1] at h; exact absurd h h1
theorem resE_cases {s : SagaM} {e1 e2 e3 res now : Int} (hz : chkS s = 0) : (resE s e1 e2 e3 res now = 2 ∧ ¬ ((0 ≤ res ∧ res ≤ 18) ∧ 0 ≤ now ∧ now ≤ 2147483648)) ∨
    (resE s e1 e2 e3 res now = 9 ∧ ((0 ≤ res ∧ res ≤ 18) ∧ 0 ≤ now ∧ now ≤ 2147483648) ∧ ¬ s.st < 4) ∨
    (resE s e1 e2 e3 res now = 8 ∧ ((0 ≤ res ∧ res ≤ 18) ∧ 0 ≤ now ∧ now ≤ 2147483648) ∧ s.st < 4 ∧ ¬ (e1 = 0 ∧ e2 = s.ix ∧ e3 = phS s.st)) ∨
    (resE s e1 e2 e3 res now = 0 ∧ ((0 ≤ res ∧ res ≤ 18) ∧ 0 ≤ now ∧ now ≤ 2147483648) ∧ s.st < 4 ∧ (e1 = 0 ∧ e2 = s.ix ∧ e3 = phS s.st)) := by
  unfold resE
  rw [if_pos hz]
  by_cases h2 : (0 ≤ res ∧ res ≤ 18) ∧ 0 ≤ now ∧ now ≤ 2147483648
  · rw [if_pos h2]
    by_cases h3 : s.st < 4
    · rw [if_pos h3]
      by_cases h4 : e1 = 0 ∧ e2 = s.ix ∧ e3 = phS s.st
      · rw [if_pos h4]; exact .inr (.inr (.inr ⟨rfl, h2, h3, h4⟩))
      · rw [if_neg h4]; exact .inr (.inr (.inl ⟨rfl, h2, h3, h4⟩))
    · rw [if_neg h3]; exact .inr (.inl ⟨rfl, h2, h3⟩)
  · rw [if_neg h2]; exact .inl ⟨rfl, h2⟩
set_option maxHeartbeats 4000000 in
theorem short_ok (h : Heap) (d : DefM) (sa : Option Addr) (cp : Nat) (hl : LAt h stepc 2 d.xs (.slice sa d.xs.length cp)) (hlen : d.xs.length ≤ 9223372036854775807) : WCall Tryd.prog 12 #[(Value.agg #[(vS d.name), (vI (d.rt)), (vI (d.dl)), (Value.slice sa (d.xs.length) (cp))])] h (fun v h1 => ∃ q, v = .bool q ∧ (q = true → d.xs.length ≤ 20) ∧ Ext h h1) := by
  suffices H : ∀ K : Value → Heap → Prop, (∀ v h1, (fun v h1 => ∃ q, v = .bool q ∧ (q = true → d.xs.length ≤ 20) ∧ Ext h h1) v h1 → K v h1) → WCall Tryd.prog 12 #[(Value.agg #[(vS d.name), (vI (d.rt)), (vI (d.dl)), (Value.slice sa (d.xs.length) (cp))])] h K from H _ fun _ _ q => q
  intro K hK
  refine wcall_at { tmps := #[(vA #[(vS d.name), (vI d.rt), (vI d.dl), (vL sa d.xs.length cp)]), vZ, vZ, vZ, vZ, vZ, vZ, vZ, vZ, vZ, vZ, vZ, vZ, vZ, vZ, vZ, vZ, vZ, vZ, vZ, vZ, vZ, vZ, vZ, vZ, vZ, vZ, vZ, vZ], defers := [] } (by kernel_rfl) ?_
  refine wc_seq' (subc (bodyOf Tryd.prog 12) [0]) (subc (bodyOf Tryd.prog 12) [1]) (by kernel_rfl) ?_
  obtain ⟨b1, eb2⟩ : ∃ zq, zq = h.size := ⟨_, rfl⟩
  obtain ⟨h3, e4⟩ : ∃ zq, zq = h.push (.cells #[(vS d.name), (vI (d.rt)), (vI (d.dl)), (Value.slice sa (d.xs.length) (cp))] 24 (0, 0)) := ⟨_, rfl⟩
  have f5 := push_new e4
  rw [← eb2] at f5
  have x6 : Ext h h3 := by rw [e4]; exact Ext.push _ _
  have o7 : h.size ≤ b1 := by have := (Ext.refl h).size; omega
  have x8 := (Ext.refl h).trans x6
  refine wc_ev [evA 0 0 eb2 e4] .normal h3 [(1, (vP b1 0)), (2, (vB false))] ?_
  refine wc_seq' (subc (bodyOf Tryd.prog 12) [1, 0]) (subc (bodyOf Tryd.prog 12) [1, 1]) (by kernel_rfl) ?_
  by_cases c9 : (20 : Int) < ((d.xs.length : Nat))
  · refine wc_ev [evC 1 1 3 agg22 f5, gtT 1 3 3 c9] .ret h3 [(4, (vP b1 3)), (5, (vL sa d.xs.length cp)), (6, (vI ((d.xs.length : Nat)))), (7, (vB true)), (8, (vB true)), (9, vZ), (10, vZ), (11, vZ), (12, vZ), (13, (vB true)), (2, (vB false))] ?_
    exact end_ev [] (vB false) (hK _ _ (⟨_, rfl, (fun w => nomatch w), x8⟩))
  · by_cases c10 : (100 : Int) < ((d.name.size : Nat))
    · refine wc_ev [evC 1 1 3 agg22 f5, gtF 1 3 3 c9, evC 1 6 0 agg9 f5, gtT 1 8 3 c10] .ret h3 [(4, (vP b1 3)), (5, (vL sa d.xs.length cp)), (6, (vI ((d.xs.length : Nat)))), (7, (vB false)), (8, (vB false)), (9, (vP b1 0)), (10, (vS d.name)), (11, (vI ((d.name.size : Nat)))), (12, (vB true)), (13, (vB true)), (2, (vB false))] ?_
      exact end_ev [] (vB false) (hK _ _ (⟨_, rfl, (fun w => nomatch w), x8⟩))
    · refine wc_ev [evC 1 1 3 agg22 f5, gtF 1 3 3 c9, evC 1 6 0 agg9 f5, gtF 1 8 3 c10] .normal h3 [(4, (vP b1 3)), (5, (vL sa d.xs.length cp)), (6, (vI ((d.xs.length : Nat)))), (7, (vB false)), (8, (vB false)), (9, (vP b1 0)), (10, (vS d.name)), (11, (vI ((d.name.size : Nat)))), (12, (vB false)), (13, (vB false))] ?_
      refine wc_seq' (subc (bodyOf Tryd.prog 12) [1, 1, 0]) (subc (bodyOf Tryd.prog 12) [1, 1, 1]) (by kernel_rfl) ?_
      refine wc_seq' (subc (bodyOf Tryd.prog 12) [1, 1, 0, 0]) (subc (bodyOf Tryd.prog 12) [1, 1, 0, 1]) (by kernel_rfl) ?_
      refine wc_ev [] .normal h3 [(3, (vI 0))] ?_
      refine wc_block' 0 (subc (bodyOf Tryd.prog 12) [1, 1, 0, 1, 0]) (by kernel_rfl) ?_
      refine wc_loop' (subc (bodyOf Tryd.prog 12) [1, 1, 0, 1, 0, 0]) (by kernel_rfl) (fun n' a' h' => ∃ (k : Int) (g0 : Nat → Value), a' = { tmps := #[(vA #[(vS d.name), (vI d.rt), (vI d.dl), (vL sa d.xs.length cp)]), (vP b1 0), (g0 2), (vI k), (vP b1 3), (vL sa d.xs.length cp), (vI ((d.xs.length : Nat))), (vB false), (vB false), (vP b1 0), (vS d.name), (vI ((d.name.size : Nat))), (vB false), (vB false), (g0 14), (g0 15), (g0 16), (g0 17), (g0 18), (g0 19), (g0 20), (g0 21), (g0 22), (g0 23), (g0 24), (g0 25), (g0 26), (g0 27), (g0 28)], defers := [] } ∧ Ext h h' ∧ n' = d.xs.length - k.toNat ∧ h'[b1]? = some (.cells #[(vS d.name), (vI d.rt), (vI d.dl), (vL sa d.xs.length cp)] 24 (0, 0)) ∧ (0 ≤ k ∧ k ≤ d.xs.length)) ?_ (d.xs.length - (0 : Int).toNat) ⟨0, (fun i => ([vU, vU, (vB false), vU, vU, vU, vU, vU, vU, vU, vU, vU, vU, vU, vZ, vZ, vZ, vZ, vZ, vZ, vZ, vZ, vZ, vZ, vZ, vZ, vZ, vZ, vZ] : List Value).getD i undef), by as_aux_lemma => kernel_rfl, x8, rfl, f5, by omega⟩
      rintro n' _ h11 ⟨k, g0, rfl, x12, m13, f14, i15⟩
      by_cases c16 : ((k) : Int) < ((d.xs.length : Nat))
      · obtain ⟨i17, v18, e19, l20, g21⟩ := list_at d.xs (e := (k)) (by omega) (by first | omega | (simp only [List.length_set, List.length_append, List.length_singleton]; omega))
        obtain ⟨b22, o23, k24, q25, a26⟩ := (hl.slice stepc_size).at stepc_size g21
        by_cases c27 : (100 : Int) < ((v18.key.size : Nat))
        · refine wc_ev [evC 4 2 3 agg22 f14, ltT 4 4 3 c16, evC 6 1 3 agg22 f14, evV 6 3 (vP b22 o23) (show indexAddrA Tryd.prog 22 (vL sa d.xs.length cp) (vI k) = some (vP b22 o23) from a26 und22 size65 e19), evV 6 5 (vS v18.key) (show loadT Tryd.prog h11 9 (vP b22 o23) = some (vS v18.key) from (k24.keep fun b r _ q => x12 b r q).cell (j := 0) agg9 rfl), gtT 6 7 3 c27] .ret h11 [(14, (vI k)), (15, (vP b1 3)), (16, (vL sa d.xs.length cp)), (17, (vI ((d.xs.length : Nat)))), (18, (vB true)), (21, (vP b1 3)), (22, (vL sa d.xs.length cp)), (23, (vI k)), (24, (vP b22 o23)), (25, (vP b22 o23)), (26, (vS v18.key)), (27, (vI ((v18.key.size : Nat)))), (28, (vB true)), (2, (vB false))] ?_
          exact end_ev [] (vB false) (hK _ _ (⟨_, rfl, (fun w => nomatch w), x12⟩))
        · refine wc_ev [evC 4 2 3 agg22 f14, ltT 4 4 3 c16, evC 6 1 3 agg22 f14, evV 6 3 (vP b22 o23) (show indexAddrA Tryd.prog 22 (vL sa d.xs.length cp) (vI k) = some (vP b22 o23) from a26 und22 size65 e19), evV 6 5 (vS v18.key) (show loadT Tryd.prog h11 9 (vP b22 o23) = some (vS v18.key) from (k24.keep fun b r _ q => x12 b r q).cell (j := 0) agg9 rfl), gtF 6 7 3 c27, evV 5 1 (vI ((k) + 1)) (show binA Tryd.prog .add 3 (vI k) (vI 1) = some (vI ((k) + 1)) from add_i64 (by omega) (by omega))] .normal h11 [(14, (vI k)), (15, (vP b1 3)), (16, (vL sa d.xs.length cp)), (17, (vI ((d.xs.length : Nat)))), (18, (vB true)), (21, (vP b1 3)), (22, (vL sa d.xs.length cp)), (23, (vI k)), (24, (vP b22 o23)), (25, (vP b22 o23)), (26, (vS v18.key)), (27, (vI ((v18.key.size : Nat)))), (28, (vB false)), (19, (vI k)), (20, (vI ((k) + 1))), (3, (vI ((k) + 1)))] ?_
          exact ⟨d.xs.length - (k + 1).toNat, by omega, ⟨k + 1, (fun i => ([vU, vU, (g0 2), vU, vU, vU, vU, vU, vU, vU, vU, vU, vU, vU, (vI k), (vP b1 3), (vL sa d.xs.length cp), (vI ((d.xs.length : Nat))), (vB true), (vI k), (vI ((k) + 1)), (vP b1 3), (vL sa d.xs.length cp), (vI k), (vP b22 o23), (vP b22 o23), (vS v18.key), (vI ((v18.key.size : Nat))), (vB false)] : List Value).getD i undef), by as_aux_lemma => kernel_rfl, x12, rfl, f14, by omega⟩⟩
      · refine wc_ev [evC 4 2 3 agg22 f14, ltF 4 4 3 c16] (.exit 0) h11 [(14, (vI k)), (15, (vP b1 3)), (16, (vL sa d.xs.length cp)), (17, (vI ((d.xs.length : Nat)))), (18, (vB false))] ?_
        refine wc_ev [] .ret h11 [(2, (vB true))] ?_
        exact end_ev [] (vB true) (hK _ _ (⟨_, rfl, (fun _ => by omega), x12⟩))
set_option maxHeartbeats 4000000 in
theorem givenV_ok (h : Heap) (s : SagaM) (sa : Option Addr) (cp : Nat) (hl : LAt h stepc 2 s.d.xs (.slice sa s.d.xs.length cp)) (hlen : s.d.xs.length ≤ 9223372036854775807) : WCall Tryd.prog 17 #[(Value.agg #[(vS s.d.name), (vI (s.d.rt)), (vI (s.d.dl)), (Value.slice sa (s.d.xs.length) (cp)), (vI (s.st)), (vI (s.ix)), (vB s.cn), (vI (s.tr)), (vI (s.bg)), (vI (s.er))])] h (fun v h1 => v = (Value.agg #[(vS s.d.name), (vI (s.d.rt)), (vI (s.d.dl)), (Value.slice sa (s.d.xs.length) (cp)), (vI (s.st)), (vI (s.ix)), (vB s.cn), (vI (s.tr)), (vI (s.bg)), (vI (s.er))]) ∧ Ext h h1) := by
  obtain ⟨b1, eb2⟩ : ∃ zq, zq = h.size := ⟨_, rfl⟩
  obtain ⟨h3, e4⟩ : ∃ zq, zq = h.push (.cells #[(vS s.d.name), (vI (s.d.rt)), (vI (s.d.dl)), (Value.slice sa (s.d.xs.length) (cp)), (vI (s.st)), (vI (s.ix)), (vB s.cn), (vI (s.tr)), (vI (s.bg)), (vI (s.er))] 27 (0, 0)) := ⟨_, rfl⟩
  have f5 := push_new e4
  rw [← eb2] at f5
  have x6 : Ext h h3 := by rw [e4]; exact Ext.push _ _
  have o7 : h.size ≤ b1 := by have := (Ext.refl h).size; omega
  have x8 := (Ext.refl h).trans x6
  obtain ⟨b9, eb10⟩ : ∃ zq, zq = h3.size := ⟨_, rfl⟩
  obtain ⟨h11, e12⟩ : ∃ zq, zq = h3.push (.cells #[(vS .empty), (vI 0), (vI 0), (Value.slice none 0 0), (vI 0), (vI 0), (vB false), (vI 0), (vI 0), (vI 0)] 41 (0, 0)) := ⟨_, rfl⟩
  have f13 := push_new e12
  rw [← eb10] at f13
  have x14 : Ext h3 h11 := by rw [e12]; exact Ext.push _ _
  have o15 : h.size ≤ b9 := by have := x8.size; omega
  have f17 := x14 _ _ f5
  have x18 := x8.trans x14
  obtain ⟨h19, e20⟩ : ∃ zq, zq = h11.setIfInBounds b9 (.cells #[(vS s.d.name), (vI (s.d.rt)), (vI (s.d.dl)), (Value.slice sa (s.d.xs.length) (cp)), (vI (s.st)), (vI (s.ix)), (vB s.cn), (vI (s.tr)), (vI (s.bg)), (vI (s.er))] 41 (0, 0)) := ⟨_, rfl⟩
  have f21 := set_same e20 f13
  have x22 := Ext.setNew x18 e20 o15
  exact hCall_ev [evA 0 0 eb2 e4, evA 0 1 eb10 e12, evL 1 1 0 agg24 size24 f17, evC 1 3 4 agg3 f17, evC 1 5 5 agg3 f17, evC 1 7 6 agg4 f17, evC 1 9 7 agg3 f17, evC 1 11 8 agg3 f17, evC 1 14 9 agg25 f17, evUw 1 16 size41 f13 e20] [evLw 0 0 agg41 size41 f21] (vA #[(vS s.d.name), (vI s.d.rt), (vI s.d.dl), (vL sa s.d.xs.length cp), (vI s.st), (vI s.ix), (vB s.cn), (vI s.tr), (vI s.bg), (vI s.er)]) h19 ⟨rfl, x22⟩
set_option maxHeartbeats 4000000 in
theorem refV_ok (h : Heap) (s : SagaM) (sa : Option Addr) (cp : Nat) (hl : LAt h stepc 2 s.d.xs (.slice sa s.d.xs.length cp)) (hlen : s.d.xs.length ≤ 9223372036854775807) : WCall Tryd.prog 15 #[(Value.agg #[(vS s.d.name), (vI (s.d.rt)), (vI (s.d.dl)), (Value.slice sa (s.d.xs.length) (cp)), (vI (s.st)), (vI (s.ix)), (vB s.cn), (vI (s.tr)), (vI (s.bg)), (vI (s.er))])] h (fun v h1 => v = (Value.agg #[(vS s.d.name), (vI (s.d.rt)), (vI (s.d.dl)), (Value.slice sa (s.d.xs.length) (cp)), (vI (s.st)), (vI (s.ix)), (vB s.cn), (vI (s.tr)), (vI (s.bg)), (vI (s.er))]) ∧ Ext h h1) := by
  obtain ⟨b1, eb2⟩ : ∃ zq, zq = h.size := ⟨_, rfl⟩
  obtain ⟨h3, e4⟩ : ∃ zq, zq = h.push (.cells #[(vS s.d.name), (vI (s.d.rt)), (vI (s.d.dl)), (Value.slice sa (s.d.xs.length) (cp)), (vI (s.st)), (vI (s.ix)), (vB s.cn), (vI (s.tr)), (vI (s.bg)), (vI (s.er))] 27 (0, 0)) := ⟨_, rfl⟩
  have f5 := push_new e4
  rw [← eb2] at f5
  have x6 : Ext h h3 := by rw [e4]; exact Ext.push _ _
  have o7 : h.size ≤ b1 := by have := (Ext.refl h).size; omega
  have x8 := (Ext.refl h).trans x6
  obtain ⟨b9, eb10⟩ : ∃ zq, zq = h3.size := ⟨_, rfl⟩
  obtain ⟨h11, e12⟩ : ∃ zq, zq = h3.push (.cells #[(vS .empty), (vI 0), (vI 0), (Value.slice none 0 0), (vI 0), (vI 0), (vB false), (vI 0), (vI 0), (vI 0)] 37 (0, 0)) := ⟨_, rfl⟩
  have f13 := push_new e12
  rw [← eb10] at f13
  have x14 : Ext h3 h11 := by rw [e12]; exact Ext.push _ _
  have o15 : h.size ≤ b9 := by have := x8.size; omega
  have f17 := x14 _ _ f5
  have x18 := x8.trans x14
  obtain ⟨h19, e20⟩ : ∃ zq, zq = h11.setIfInBounds b9 (.cells #[(vS s.d.name), (vI (s.d.rt)), (vI (s.d.dl)), (Value.slice sa (s.d.xs.length) (cp)), (vI (s.st)), (vI (s.ix)), (vB s.cn), (vI (s.tr)), (vI (s.bg)), (vI (s.er))] 37 (0, 0)) := ⟨_, rfl⟩
  have f21 := set_same e20 f13
  have x22 := Ext.setNew x18 e20 o15
  exact hCall_ev [evA 0 0 eb2 e4, evA 0 1 eb10 e12, evL 1 1 0 agg24 size24 f17, evC 1 3 4 agg3 f17, evC 1 5 5 agg3 f17, evC 1 7 6 agg4 f17, evC 1 9 7 agg3 f17, evC 1 11 8 agg3 f17, evC 1 14 9 agg25 f17, evUw 1 16 size37 f13 e20] [evLw 0 0 agg37 size37 f21] (vA #[(vS s.d.name), (vI s.d.rt), (vI s.d.dl), (vL sa s.d.xs.length cp), (vI s.st), (vI s.ix), (vB s.cn), (vI s.tr), (vI s.bg), (vI s.er)]) h19 ⟨rfl, x22⟩
set_option maxHeartbeats 4000000 in
theorem backV_ok (h : Heap) (s : SagaM) (sa : Option Addr) (cp : Nat) (hl : LAt h stepc 2 s.d.xs (.slice sa s.d.xs.length cp)) (hlen : s.d.xs.length ≤ 9223372036854775807) : WCall Tryd.prog 20 #[(Value.agg #[(vS s.d.name), (vI (s.d.rt)), (vI (s.d.dl)), (Value.slice sa (s.d.xs.length) (cp)), (vI (s.st)), (vI (s.ix)), (vB s.cn), (vI (s.tr)), (vI (s.bg)), (vI (s.er))])] h (fun v h1 => v = (Value.agg #[(vS s.d.name), (vI (s.d.rt)), (vI (s.d.dl)), (Value.slice sa (s.d.xs.length) (cp)), (vI (s.st)), (vI (s.ix)), (vB s.cn), (vI (s.tr)), (vI (s.bg)), (vI (s.er))]) ∧ Ext h h1) := by
  obtain ⟨b1, eb2⟩ : ∃ zq, zq = h.size := ⟨_, rfl⟩
  obtain ⟨h3, e4⟩ : ∃ zq, zq = h.push (.cells #[(vS s.d.name), (vI (s.d.rt)), (vI (s.d.dl)), (Value.slice sa (s.d.xs.length) (cp)), (vI (s.st)), (vI (s.ix)), (vB s.cn), (vI (s.tr)), (vI (s.bg)), (vI (s.er))] 41 (0, 0)) := ⟨_, rfl⟩
  have f5 := push_new e4
  rw [← eb2] at f5
  have x6 : Ext h h3 := by rw [e4]; exact Ext.push _ _
  have o7 : h.size ≤ b1 := by have := (Ext.refl h).size; omega
  have x8 := (Ext.refl h).trans x6
  obtain ⟨b9, eb10⟩ : ∃ zq, zq = h3.size := ⟨_, rfl⟩
  obtain ⟨h11, e12⟩ : ∃ zq, zq = h3.push (.cells #[(vS .empty), (vI 0), (vI 0), (Value.slice none 0 0), (vI 0), (vI 0), (vB false), (vI 0), (vI 0), (vI 0)] 27 (0, 0)) := ⟨_, rfl⟩
  have f13 := push_new e12
  rw [← eb10] at f13
  have x14 : Ext h3 h11 := by rw [e12]; exact Ext.push _ _
  have o15 : h.size ≤ b9 := by have := x8.size; omega
  have f17 := x14 _ _ f5
  have x18 := x8.trans x14
  obtain ⟨h19, e20⟩ : ∃ zq, zq = h11.setIfInBounds b9 (.cells #[(vS s.d.name), (vI (s.d.rt)), (vI (s.d.dl)), (Value.slice sa (s.d.xs.length) (cp)), (vI (s.st)), (vI (s.ix)), (vB s.cn), (vI (s.tr)), (vI (s.bg)), (vI (s.er))] 27 (0, 0)) := ⟨_, rfl⟩
  have f21 := set_same e20 f13
  have x22 := Ext.setNew x18 e20 o15
  exact hCall_ev [evA 0 0 eb2 e4, evA 0 1 eb10 e12, evL 1 1 0 agg24 size24 f17, evC 1 3 4 agg3 f17, evC 1 5 5 agg3 f17, evC 1 7 6 agg4 f17, evC 1 10 7 agg3 f17, evC 1 13 8 agg3 f17, evC 1 15 9 agg25 f17, evUw 1 17 size27 f13 e20] [evLw 0 0 agg27 size27 f21] (vA #[(vS s.d.name), (vI s.d.rt), (vI s.d.dl), (vL sa s.d.xs.length cp), (vI s.st), (vI s.ix), (vB s.cn), (vI s.tr), (vI s.bg), (vI s.er)]) h19 ⟨rfl, x22⟩
def I64 (x : Int) : Prop := -9223372036854775808 ≤ x ∧ x ≤ 9223372036854775807
/-- A result of a walk. -/
structure WalkM where
  res : Int
  cn : Bool
  af : Int
def walkc (x : WalkM) : Array Value := #[.int .i64 x.res, .bool x.cn, .int .u8 x.af]
theorem walkc_size (x : WalkM) : (walkc x).size = 3 := rfl
def WOk (x : WalkM) : Prop := I64 x.res ∧ 0 ≤ x.af ∧ x.af ≤ 255
end C28
