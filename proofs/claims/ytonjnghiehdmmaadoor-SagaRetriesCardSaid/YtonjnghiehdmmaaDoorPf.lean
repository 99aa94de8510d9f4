/- The run of SagaRetries. -/
import Derived.Test.YtonjnghiehdmmaaDoorMy
import Derived.KernelRfl
open Go Go.AM Go.Proofs
namespace C28
theorem resE_is {s : SagaM} {e1 e2 e3 res now : Int} (h : chkS s = 0) (h1 : 0 ≤ res ∧ res ≤ 18) (h2 : 0 ≤ now ∧ now ≤ 2147483648) (h3 : s.st < 4) (h4 : e1 = 0 ∧ e2 = s.ix ∧ e3 = phS s.st) : resE s e1 e2 e3 res now = 0 := by
  unfold resE; rw [if_pos h, if_pos ⟨h1, h2⟩, if_pos h3, if_pos h4]
theorem amE_hi {r : Int} (h : 16 ≤ r ∧ r ≤ 18) : amE r = true := by
  rcases (show r = 16 ∨ r = 17 ∨ r = 18 by omega) with e | e | e <;> subst e <;> kernel_rfl
theorem amE_lo {r : Int} (h : 0 ≤ r ∧ r ≤ 15) : amE r = false := by
  simp [amE, ctE, ixE, show ¬ r = 16 by omega, show ¬ r = 17 by omega, show ¬ r = 18 by omega]
/-- How a step is tried again. -/
def RetI (d : DefM) (r k : Int) (s : SagaM) : Prop := chkS s = 0 ∧ 0 ≤ k ∧ ((k ≤ d.rt ∧ s = ⟨⟨d.name, d.rt, 0, d.xs⟩, 1, 0, false, k, 0, 0⟩) ∨ (k = d.rt + 1 ∧ s = ⟨⟨d.name, d.rt, 0, d.xs⟩, 3, 0, false, 0, 0, r⟩))
theorem RetI.facts {d : DefM} {r k : Int} {s : SagaM} (h : RetI d r k s) : k ≤ d.rt + 1 ∧ 0 ≤ k ∧ 0 ≤ d.rt ∧ d.rt ≤ 20 ∧ (k ≤ d.rt → s.st = 1 ∧ s.ix = 0 ∧ phS s.st = 1) ∧ (k = d.rt + 1 → s.st = 3 ∧ s.ix = 0 ∧ s.er = r) ∧ s.d.xs.length = d.xs.length := by
  obtain ⟨hz, h0, h⟩ := h
  have hd := defB_of (chkS_zero hz).1
  rcases h with ⟨h1, rfl⟩ | ⟨h1, rfl⟩
  · simp only at hd
    exact ⟨by omega, h0, by omega, by omega, fun _ => ⟨rfl, rfl, rfl⟩, fun w => by omega, rfl⟩
  · simp only at hd
    exact ⟨by omega, h0, by omega, by omega, fun w => by omega, fun _ => ⟨rfl, rfl, rfl⟩, rfl⟩
theorem RetI.next {d : DefM} {r k : Int} {s s2 : SagaM} (h : RetI d r k s) (hk : k ≤ d.rt) (hr : 16 ≤ r ∧ r ≤ 18) (e : s2 = nxtS s r k) (hz2 : chkS s2 = 0) : RetI d r (k + 1) s2 := by
  obtain ⟨hz, h0, h⟩ := h
  rcases h with ⟨h1, rfl⟩ | ⟨h1, rfl⟩
  · obtain ⟨zd, zb, _⟩ := chkS_zero hz
    have hd := defB_of zd
    simp only at hd zb
    have ht : timB k = true := decide_eq_true (by omega)
    have hc : chkE (budB k 0) (defB ⟨d.name, d.rt, 0, d.xs⟩) (timB k) = 0 := by rw [zb, ht, zd]; rfl
    have hl : lateM k 0 ⟨d.name, d.rt, 0, d.xs⟩ k = false := decide_eq_false (fun w => absurd w.2.1 (by simp))
    have ha : agE k 0 ⟨d.name, d.rt, 0, d.xs⟩ k = 0 := by
      unfold agE; rw [if_pos hc]; simp only; rw [if_neg (by omega)]
    rw [nxtS_1 rfl] at e
    unfold fwdS at e
    rw [if_pos (amE_hi hr), if_neg (by omega)] at e
    simp only [hl, Bool.false_eq_true, if_false] at e
    by_cases hk2 : k + 1 ≤ d.rt
    · have hb : agB k 0 ⟨d.name, d.rt, 0, d.xs⟩ k = true := decide_eq_true ⟨ha, hk2, hl⟩
      rw [hb] at e
      simp only [agT, agS, ha, if_true] at e
      exact ⟨hz2, by omega, .inl ⟨hk2, e⟩⟩
    · have hb : agB k 0 ⟨d.name, d.rt, 0, d.xs⟩ k = false := decide_eq_false (fun w => hk2 w.2.1)
      rw [hb] at e
      simp only [Bool.false_eq_true, if_false] at e
      exact ⟨hz2, by omega, .inr ⟨by omega, e⟩⟩
  · omega
set_option maxRecDepth 10000 in
set_option maxHeartbeats 4000000 in
theorem law_retries (h : Heap) (d : DefM) (sa : Option Addr) (cp : Nat) (hl : LAt h stepc 2 d.xs (.slice sa d.xs.length cp)) (hlen : d.xs.length ≤ 9223372036854775807) (n : Int) (hn : 0 ≤ n ∧ n ≤ 255) (hg0 : h[0]? = some (.cells #[Value.nilFunc, (Value.func (.func 126) #[] #[]), (Value.func (.func 127) #[] #[]), (Value.func (.func 128) #[] #[])] 86 (0, 0))) (hg1 : h[1]? = some (.cells #[(vI 0), (vI 1), (vI 3), (vI 2)] 96 (0, 0))) : WCall Tryd.prog 4 #[(Value.agg #[(vS d.name), (vI (d.rt)), (vI (d.dl)), (Value.slice sa (d.xs.length) (cp))]), (Value.int .u8 (n))] h (fun v h1 => v = .bool true ∧ Ext h h1) := by
  suffices H : ∀ K : Value → Heap → Prop, (∀ v h1, (fun v h1 => v = .bool true ∧ Ext h h1) v h1 → K v h1) → WCall Tryd.prog 4 #[(Value.agg #[(vS d.name), (vI (d.rt)), (vI (d.dl)), (Value.slice sa (d.xs.length) (cp))]), (Value.int .u8 (n))] h K from H _ fun _ _ q => q
  intro K hK
  refine wcall_at { tmps := #[(vA #[(vS d.name), (vI d.rt), (vI d.dl), (vL sa d.xs.length cp)]), (Value.int .u8 (n)), vZ, vZ, vZ, vZ, vZ, vZ, vZ, vZ, vZ, vZ, vZ, vZ, vZ, vZ, vZ, vZ, vZ, vZ, vZ, vZ, vZ, vZ, vZ, vZ, vZ, vZ, vZ, vZ, vZ, vZ, vZ, vZ, vZ, vZ, vZ, vZ, vZ, vZ, vZ, vZ, vZ, vZ, vZ, vZ, vZ, vZ, vZ, vZ, vZ, vZ, vZ, vZ, vZ, vZ, vZ, vZ, vZ, vZ, vZ, vZ, vZ, vZ, vZ, vZ, vZ], defers := [] } (by kernel_rfl) ?_
  refine wc_seq' (subc (bodyOf Tryd.prog 4) [0]) (subc (bodyOf Tryd.prog 4) [1]) (by kernel_rfl) ?_
  obtain ⟨b1, eb2⟩ : ∃ zq, zq = h.size := ⟨_, rfl⟩
  obtain ⟨h3, e4⟩ : ∃ zq, zq = h.push (.cells #[(vS d.name), (vI (d.rt)), (vI (d.dl)), (Value.slice sa (d.xs.length) (cp))] 24 (0, 0)) := ⟨_, rfl⟩
  have f5 := push_new e4
  rw [← eb2] at f5
  have x6 : Ext h h3 := by rw [e4]; exact Ext.push _ _
  have o7 : h.size ≤ b1 := by have := (Ext.refl h).size; omega
  have x8 := (Ext.refl h).trans x6
  refine wc_ev [evA 0 0 eb2 e4] .normal h3 [(2, (vP b1 0)), (4, (vB false))] ?_
  refine wc_seq' (subc (bodyOf Tryd.prog 4) [1, 0]) (subc (bodyOf Tryd.prog 4) [1, 1]) (by kernel_rfl) ?_
  obtain ⟨_, h9, s10, q11, rfl, u12, x13⟩ := short_ok h3 d _ _ (hl.keep fun b r _ q => x8 b r q) (by omega)
  have f14 := x13 _ _ f5
  have x15 := x8.trans x13
  rcases Bool.eq_false_or_eq_true (q11) with c16 | c16
  · have := u12 c16
    refine wc_ev [evLw 1 0 agg24 size24 f5, evFb 1 1 c16 s10] .normal h9 [(9, (vA #[(vS d.name), (vI d.rt), (vI d.dl), (vL sa d.xs.length cp)])), (10, (vB true)), (11, (vB false))] ?_
    refine wc_seq' (subc (bodyOf Tryd.prog 4) [1, 1, 0]) (subc (bodyOf Tryd.prog 4) [1, 1, 1]) (by kernel_rfl) ?_
    obtain ⟨h17, e18⟩ : ∃ zq, zq = h9.setIfInBounds b1 (.cells #[(vS d.name), (vI (d.rt)), (vI 0), (Value.slice sa (d.xs.length) (cp))] 24 (0, 0)) := ⟨_, rfl⟩
    have f19 := set_same e18 f14
    have x20 := Ext.setNew x15 e18 o7
    refine wc_ev [evT 3 1 2 size3 f14 e18] .normal h17 [(13, (vP b1 2))] ?_
    refine wc_seq' (subc (bodyOf Tryd.prog 4) [1, 1, 1, 0]) (subc (bodyOf Tryd.prog 4) [1, 1, 1, 1]) (by kernel_rfl) ?_
    obtain ⟨v21, h22, s23, p24, p25, x26⟩ := sstart_ok h17 (DefM.mk d.name (d.rt) 0 d.xs) _ _ (hl.keep fun b r _ q => x20 b r q) (by show _ ≤ _; simp only []; omega) 0
    have f27 := x26 _ _ f19
    have x28 := x20.trans x26
    by_cases c29 : ((staE (DefM.mk d.name (d.rt) 0 d.xs) 0) : Int) = 0
    · obtain ⟨w30, c31, p32, o33, n34⟩ := p25 c29
      obtain ⟨s35, e36⟩ : ∃ q, q = staS (DefM.mk d.name (d.rt) 0 d.xs) 0 := ⟨_, rfl⟩
      have e37 : s35.d = (DefM.mk d.name (d.rt) 0 d.xs) := by rw [e36]; rfl
      have e38 : s35.d.xs.length = ((DefM.mk d.name (d.rt) 0 d.xs)).xs.length := by rw [e37]
      rw [← e36, ← e37] at p32
      rw [← e37] at o33 n34
      have c39 : chkS s35 = 0 := by rw [e36]; exact sta_ok c29
      have z40 : h.size ≤ h17.size := x20.size
      have o41 : ∀ zz, blk (Value.slice w30 (s35.d.xs.length) (c31)) zz → h.size ≤ zz := fun zz hz => by have := n34 zz hz; omega
      obtain ⟨b42, eb43⟩ : ∃ zq, zq = h22.size := ⟨_, rfl⟩
      obtain ⟨h44, e45⟩ : ∃ zq, zq = h22.push (.cells #[(vS .empty), (vI 0), (vI 0), (Value.slice none 0 0), (vI 0), (vI 0), (vB false), (vI 0), (vI 0), (vI 0)] 41 (0, 0)) := ⟨_, rfl⟩
      have f46 := push_new e45
      rw [← eb43] at f46
      have n47 : b42 ≠ b1 := by have := row_lt f27; omega
      have n48 : ∀ zz, (blk (Value.slice w30 (s35.d.xs.length) (c31))) zz → ¬ zz = b42 := fun zz hz ez => by have := o33.blk_lt hz; omega
      have x49 : Ext h22 h44 := by rw [e45]; exact Ext.push _ _
      have o50 : h.size ≤ b42 := by have := x28.size; omega
      have f51 := x49 _ _ f27
      have p52 := o33.keep fun b r _ q => x49 b r q
      have x53 := x28.trans x49
      obtain ⟨h54, e55⟩ : ∃ zq, zq = h44.setIfInBounds b42 (.cells #[(vS s35.d.name), (vI (s35.d.rt)), (vI (s35.d.dl)), (Value.slice w30 (s35.d.xs.length) (c31)), (vI (s35.st)), (vI (s35.ix)), (vB s35.cn), (vI (s35.tr)), (vI (s35.bg)), (vI (s35.er))] 41 (0, 0)) := ⟨_, rfl⟩
      have f56 := set_same e55 f46
      have f57 := set_other e55 f51 n47
      have p58 := p52.keep fun b r hb q => (Chg.set e55).same b r q (n48 b hb)
      have x59 := Ext.setNew x53 e55 o50
      refine wc_ev [evLw 4 0 agg24 size24 f19, evFe 4 1 p32 s23, evA 4 5 eb43 e45, evUw 4 6 size41 f46 e55] .normal h54 [(15, (vA #[(vS d.name), (vI d.rt), (vI 0), (vL sa d.xs.length cp)])), (16, (vT #[(vA #[(vS s35.d.name), (vI s35.d.rt), (vI s35.d.dl), (vL w30 s35.d.xs.length c31), (vI s35.st), (vI s35.ix), (vB s35.cn), (vI s35.tr), (vI s35.bg), (vI s35.er)]), (vI 0)])), (14, (vT #[(vA #[(vS s35.d.name), (vI s35.d.rt), (vI s35.d.dl), (vL w30 s35.d.xs.length c31), (vI s35.st), (vI s35.ix), (vB s35.cn), (vI s35.tr), (vI s35.bg), (vI s35.er)]), (vI 0)])), (17, (vA #[(vS s35.d.name), (vI s35.d.rt), (vI s35.d.dl), (vL w30 s35.d.xs.length c31), (vI s35.st), (vI s35.ix), (vB s35.cn), (vI s35.tr), (vI s35.bg), (vI s35.er)])), (18, (vI 0)), (5, (vP b42 0)), (6, (vI 0))] ?_
      refine wc_seq' (subc (bodyOf Tryd.prog 4) [1, 1, 1, 1, 0]) (subc (bodyOf Tryd.prog 4) [1, 1, 1, 1, 1]) (by kernel_rfl) ?_
      refine wc_ev [] .normal h54 [(19, (vI 0)), (20, (vB false))] ?_
      refine wc_seq' (subc (bodyOf Tryd.prog 4) [1, 1, 1, 1, 1, 0]) (subc (bodyOf Tryd.prog 4) [1, 1, 1, 1, 1, 1]) (by kernel_rfl) ?_
      have t60 : 0 ≤ Int.tmod (n) 3 ∧ Int.tmod (n) 3 < 3 := ⟨Int.tmod_nonneg _ (by omega), Int.tmod_lt_of_pos _ (by omega)⟩
      refine wc_ev [evV 7 1 (Value.int .u8 (Int.tmod (n) 3)) (show binA Tryd.prog .rem 5 (Value.int .u8 (n)) (Value.int .u8 3) = some (Value.int .u8 (Int.tmod (n) 3)) from rem_int (by omega)), evV 7 2 (vI (Int.tmod (n) 3)) (show (vI (Int.tmod (n) 3)) = (vI (IntKind.i64.wrap (Int.tmod (n) 3))) from by congr 1; rw [IntKind.wrap_i64]; omega), evV 7 3 (vI (16 + (Int.tmod (n) 3))) (show binA Tryd.prog .add 25 (vI 16) (vI (Int.tmod (n) 3)) = some (vI (16 + (Int.tmod (n) 3))) from add_i64 (by omega) (by omega))] .normal h54 [(22, (Value.int .u8 (n))), (23, (Value.int .u8 (Int.tmod (n) 3))), (24, (vI (Int.tmod (n) 3))), (25, (vI (16 + (Int.tmod (n) 3)))), (7, (vI (16 + (Int.tmod (n) 3))))] ?_
      refine wc_seq' (subc (bodyOf Tryd.prog 4) [1, 1, 1, 1, 1, 1, 0]) (subc (bodyOf Tryd.prog 4) [1, 1, 1, 1, 1, 1, 1]) (by kernel_rfl) ?_
      refine wc_seq' (subc (bodyOf Tryd.prog 4) [1, 1, 1, 1, 1, 1, 0, 0]) (subc (bodyOf Tryd.prog 4) [1, 1, 1, 1, 1, 1, 0, 1]) (by kernel_rfl) ?_
      refine wc_ev [] .normal h54 [(8, (vI 0))] ?_
      refine wc_block' 0 (subc (bodyOf Tryd.prog 4) [1, 1, 1, 1, 1, 1, 0, 1, 0]) (by kernel_rfl) ?_
      refine wc_loop' (subc (bodyOf Tryd.prog 4) [1, 1, 1, 1, 1, 1, 0, 1, 0, 0]) (by kernel_rfl) (fun n' a' h' => ∃ (k : Int) (s2 : SagaM) (w2 : Option Addr) (c2 : Nat) (g0 : Nat → Value), a' = { tmps := #[(vA #[(vS d.name), (vI d.rt), (vI d.dl), (vL sa d.xs.length cp)]), (Value.int .u8 (n)), (vP b1 0), vZ, (g0 4), (vP b42 0), (g0 6), (vI (16 + (Int.tmod (n) 3))), (vI k), (vA #[(vS d.name), (vI d.rt), (vI d.dl), (vL sa d.xs.length cp)]), (vB true), (vB false), vZ, (vP b1 2), (vT #[(vA #[(vS s35.d.name), (vI s35.d.rt), (vI s35.d.dl), (vL w30 s35.d.xs.length c31), (vI s35.st), (vI s35.ix), (vB s35.cn), (vI s35.tr), (vI s35.bg), (vI s35.er)]), (vI 0)]), (vA #[(vS d.name), (vI d.rt), (vI 0), (vL sa d.xs.length cp)]), (vT #[(vA #[(vS s35.d.name), (vI s35.d.rt), (vI s35.d.dl), (vL w30 s35.d.xs.length c31), (vI s35.st), (vI s35.ix), (vB s35.cn), (vI s35.tr), (vI s35.bg), (vI s35.er)]), (vI 0)]), (vA #[(vS s35.d.name), (vI s35.d.rt), (vI s35.d.dl), (vL w30 s35.d.xs.length c31), (vI s35.st), (vI s35.ix), (vB s35.cn), (vI s35.tr), (vI s35.bg), (vI s35.er)]), (vI 0), (vI 0), (vB false), vZ, (Value.int .u8 (n)), (Value.int .u8 (Int.tmod (n) 3)), (vI (Int.tmod (n) 3)), (vI (16 + (Int.tmod (n) 3))), (g0 26), (g0 27), (g0 28), (g0 29), (g0 30), (g0 31), (g0 32), (g0 33), (g0 34), (g0 35), (g0 36), (g0 37), (g0 38), (g0 39), (g0 40), (g0 41), (g0 42), (g0 43), (g0 44), (g0 45), (g0 46), (g0 47), (g0 48), (g0 49), vZ, vZ, vZ, vZ, vZ, vZ, vZ, vZ, vZ, vZ, vZ, vZ, vZ, vZ, vZ, vZ, vZ], defers := [] } ∧ Ext h h' ∧ n' = 30 - k.toNat ∧ h'[b1]? = some (.cells #[(vS d.name), (vI d.rt), (vI 0), (vL sa d.xs.length cp)] 24 (0, 0)) ∧ h'[b42]? = some (.cells #[(vS s2.d.name), (vI s2.d.rt), (vI s2.d.dl), (vL w2 s2.d.xs.length c2), (vI s2.st), (vI s2.ix), (vB s2.cn), (vI s2.tr), (vI s2.bg), (vI s2.er)] 41 (0, 0)) ∧ RetI d (16 + n.tmod 3) k s2 ∧ OwnAt h' 65 stepc s2.d.xs (vL w2 s2.d.xs.length c2)) ?_ (30 - (0 : Int).toNat) ⟨0, s35, w30, c31, (fun i => ([vU, vU, vU, vU, (vB false), vU, (vI 0), vU, vU, vU, vU, vU, vU, vU, vU, vU, vU, vU, vU, vU, vU, vU, vU, vU, vU, vU, vZ, vZ, vZ, vZ, vZ, vZ, vZ, vZ, vZ, vZ, vZ, vZ, vZ, vZ, vZ, vZ, vZ, vZ, vZ, vZ, vZ, vZ, vZ, vZ] : List Value).getD i undef), by as_aux_lemma => kernel_rfl, x59, rfl, f57, f56, ⟨c39, by omega, .inl ⟨by have := defB_of (chkS_zero c39).1; rw [e36] at this; simp only [staS] at this; omega, e36⟩⟩, p58⟩
      rintro n' _ h61 ⟨k, s2, w2, c2, g0, rfl, x62, m63, f65, f66, i67, p68⟩
      have rr := i67.facts
      by_cases c69 : ((k) : Int) ≤ (d.rt)
      · by_cases c70 : ((s2.st) : Int) = 1
        · by_cases c71 : ((s2.ix) : Int) = 0
          · obtain ⟨v72, h73, s74, p75, p76, x77⟩ := result_ok h61 s2 _ _ (OwnAt.lat p68 stepc_size (tsz_of size65)) (by omega) 0 0 1 (16 + (Int.tmod (n) 3)) (k) (x62 _ _ hg0) (x62 _ _ hg1)
            have t78 := resE_cases (e1 := 0) (e2 := 0) (e3 := 1) (res := (16 + (Int.tmod (n) 3))) (now := (k)) i67.1
            have f79 := x77 _ _ f65
            have f80 := x77 _ _ f66
            have x81 := x62.trans x77
            by_cases c82 : ((resE s2 0 0 1 (16 + (Int.tmod (n) 3)) (k)) : Int) = 0
            · obtain ⟨w83, c84, p85, o86, n87⟩ := p76 c82
              obtain ⟨s88, e89⟩ : ∃ q, q = nxtS s2 (16 + (Int.tmod (n) 3)) (k) := ⟨_, rfl⟩
              have e90 : s88.d = s2.d := by rw [e89]; exact nxtS_d _ _ _
              have e91 : s88.d.xs.length = (s2.d).xs.length := by rw [e90]
              rw [← e89, ← e90] at p85
              rw [← e90] at o86 n87
              have c92 : chkS s88 = 0 := by rw [e89]; exact nxt_ok (resE_zero c82).1 (resE_zero c82).2.1 (resE_zero c82).2.2.2.1
              have z93 : h.size ≤ h61.size := x62.size
              have n94 : ∀ zz, blk (Value.slice w83 (s88.d.xs.length) (c84)) zz → ¬ zz = b42 := fun zz hz ez => by have := n87 zz hz; have := row_lt f66; omega
              have o95 : ∀ zz, blk (Value.slice w83 (s88.d.xs.length) (c84)) zz → h.size ≤ zz := fun zz hz => by have := n87 zz hz; omega
              obtain ⟨h96, e97⟩ : ∃ zq, zq = h73.setIfInBounds b42 (.cells #[(vS s88.d.name), (vI (s88.d.rt)), (vI (s88.d.dl)), (Value.slice w83 (s88.d.xs.length) (c84)), (vI (s88.st)), (vI (s88.ix)), (vB s88.cn), (vI (s88.tr)), (vI (s88.bg)), (vI (s88.er))] 41 (0, 0)) := ⟨_, rfl⟩
              have f98 := set_same e97 f80
              have f99 := set_other e97 f79 n47
              have p100 := o86.keep fun b r hb q => (Chg.set e97).same b r q (n94 b hb)
              have x101 := Ext.setNew x81 e97 o50
              refine wc_ev [evC 9 2 1 agg3 f65, leT 9 3 3 c69, evC 11 1 4 agg3 f66, neF 11 2 3 c70, evC 11 5 5 agg3 f66, neF 11 6 3 c71, evLw 13 0 agg41 size41 f66, evFe 13 4 p85 s74, evUw 13 8 size41 f80 e97, evV 10 1 (vI ((k) + 1)) (show binA Tryd.prog .add 3 (vI k) (vI 1) = some (vI ((k) + 1)) from add_i64 (by omega) (by omega))] .normal h96 [(26, (vI k)), (27, (vP b1 1)), (28, (vI d.rt)), (29, (vB true)), (32, (vP b42 4)), (33, (vI s2.st)), (34, (vB false)), (35, (vB false)), (36, (vP b42 5)), (37, (vI s2.ix)), (38, (vB false)), (39, (vB false)), (41, (vA #[(vS s2.d.name), (vI s2.d.rt), (vI s2.d.dl), (vL w2 s2.d.xs.length c2), (vI s2.st), (vI s2.ix), (vB s2.cn), (vI s2.tr), (vI s2.bg), (vI s2.er)])), (42, (vA #[(vI 0), (vI 0), (vI 1)])), (43, (vI (16 + (Int.tmod (n) 3)))), (44, (vI k)), (45, (vT #[(vA #[(vS s88.d.name), (vI s88.d.rt), (vI s88.d.dl), (vL w83 s88.d.xs.length c84), (vI s88.st), (vI s88.ix), (vB s88.cn), (vI s88.tr), (vI s88.bg), (vI s88.er)]), (vI 0)])), (40, (vT #[(vA #[(vS s88.d.name), (vI s88.d.rt), (vI s88.d.dl), (vL w83 s88.d.xs.length c84), (vI s88.st), (vI s88.ix), (vB s88.cn), (vI s88.tr), (vI s88.bg), (vI s88.er)]), (vI 0)])), (46, (vA #[(vS s88.d.name), (vI s88.d.rt), (vI s88.d.dl), (vL w83 s88.d.xs.length c84), (vI s88.st), (vI s88.ix), (vB s88.cn), (vI s88.tr), (vI s88.bg), (vI s88.er)])), (47, (vI 0)), (6, (vI 0)), (48, (vI 0)), (49, (vB false)), (30, (vI k)), (31, (vI ((k) + 1))), (8, (vI ((k) + 1)))] ?_
              exact ⟨30 - (k + 1).toNat, by omega, ⟨k + 1, s88, w83, c84, (fun i => ([vU, vU, vU, vU, (g0 4), vU, (vI 0), vU, vU, vU, vU, vU, vU, vU, vU, vU, vU, vU, vU, vU, vU, vU, vU, vU, vU, vU, (vI k), (vP b1 1), (vI d.rt), (vB true), (vI k), (vI ((k) + 1)), (vP b42 4), (vI s2.st), (vB false), (vB false), (vP b42 5), (vI s2.ix), (vB false), (vB false), (vT #[(vA #[(vS s88.d.name), (vI s88.d.rt), (vI s88.d.dl), (vL w83 s88.d.xs.length c84), (vI s88.st), (vI s88.ix), (vB s88.cn), (vI s88.tr), (vI s88.bg), (vI s88.er)]), (vI 0)]), (vA #[(vS s2.d.name), (vI s2.d.rt), (vI s2.d.dl), (vL w2 s2.d.xs.length c2), (vI s2.st), (vI s2.ix), (vB s2.cn), (vI s2.tr), (vI s2.bg), (vI s2.er)]), (vA #[(vI 0), (vI 0), (vI 1)]), (vI (16 + (Int.tmod (n) 3))), (vI k), (vT #[(vA #[(vS s88.d.name), (vI s88.d.rt), (vI s88.d.dl), (vL w83 s88.d.xs.length c84), (vI s88.st), (vI s88.ix), (vB s88.cn), (vI s88.tr), (vI s88.bg), (vI s88.er)]), (vI 0)]), (vA #[(vS s88.d.name), (vI s88.d.rt), (vI s88.d.dl), (vL w83 s88.d.xs.length c84), (vI s88.st), (vI s88.ix), (vB s88.cn), (vI s88.tr), (vI s88.bg), (vI s88.er)]), (vI 0), (vI 0), (vB false)] : List Value).getD i undef), by as_aux_lemma => kernel_rfl, x101, rfl, f99, f98, i67.next (by omega) (by omega) e89 c92, p100⟩⟩
            · obtain ⟨h102, e103⟩ : ∃ zq, zq = h73.setIfInBounds b42 (.cells #[(vS .empty), (vI 0), (vI 0), (Value.slice none 0 0), (vI 0), (vI 0), (vB false), (vI 0), (vI 0), (vI 0)] 41 (0, 0)) := ⟨_, rfl⟩
              refine wc_ev [evC 9 2 1 agg3 f65, leT 9 3 3 c69, evC 11 1 4 agg3 f66, neF 11 2 3 c70, evC 11 5 5 agg3 f66, neF 11 6 3 c71, evLw 13 0 agg41 size41 f66, evFe 13 4 (p75 c82) s74, evUw 13 8 size41 f80 e103, neT 14 1 25 c82] .ret h102 [(26, (vI k)), (27, (vP b1 1)), (28, (vI d.rt)), (29, (vB true)), (32, (vP b42 4)), (33, (vI s2.st)), (34, (vB false)), (35, (vB false)), (36, (vP b42 5)), (37, (vI s2.ix)), (38, (vB false)), (39, (vB false)), (41, (vA #[(vS s2.d.name), (vI s2.d.rt), (vI s2.d.dl), (vL w2 s2.d.xs.length c2), (vI s2.st), (vI s2.ix), (vB s2.cn), (vI s2.tr), (vI s2.bg), (vI s2.er)])), (42, (vA #[(vI 0), (vI 0), (vI 1)])), (43, (vI (16 + (Int.tmod (n) 3)))), (44, (vI k)), (45, (vT #[(vA #[(vS .empty), (vI 0), (vI 0), (vL none 0 0), (vI 0), (vI 0), (vB false), (vI 0), (vI 0), (vI 0)]), (vI (resE s2 0 0 1 (16 + (Int.tmod (n) 3)) (k)))])), (40, (vT #[(vA #[(vS .empty), (vI 0), (vI 0), (vL none 0 0), (vI 0), (vI 0), (vB false), (vI 0), (vI 0), (vI 0)]), (vI (resE s2 0 0 1 (16 + (Int.tmod (n) 3)) (k)))])), (46, (vA #[(vS .empty), (vI 0), (vI 0), (vL none 0 0), (vI 0), (vI 0), (vB false), (vI 0), (vI 0), (vI 0)])), (47, (vI (resE s2 0 0 1 (16 + (Int.tmod (n) 3)) (k)))), (6, (vI (resE s2 0 0 1 (16 + (Int.tmod (n) 3)) (k)))), (48, (vI (resE s2 0 0 1 (16 + (Int.tmod (n) 3)) (k)))), (49, (vB true)), (4, (vB false))] ?_
              exfalso
              omega
          · refine wc_ev [evC 9 2 1 agg3 f65, leT 9 3 3 c69, evC 11 1 4 agg3 f66, neF 11 2 3 c70, evC 11 5 5 agg3 f66, neT 11 6 3 c71] .ret h61 [(26, (vI k)), (27, (vP b1 1)), (28, (vI d.rt)), (29, (vB true)), (32, (vP b42 4)), (33, (vI s2.st)), (34, (vB false)), (35, (vB false)), (36, (vP b42 5)), (37, (vI s2.ix)), (38, (vB true)), (39, (vB true)), (4, (vB false))] ?_
            exfalso
            omega
        · refine wc_ev [evC 9 2 1 agg3 f65, leT 9 3 3 c69, evC 11 1 4 agg3 f66, neT 11 2 3 c70] .ret h61 [(26, (vI k)), (27, (vP b1 1)), (28, (vI d.rt)), (29, (vB true)), (32, (vP b42 4)), (33, (vI s2.st)), (34, (vB true)), (35, (vB true)), (36, vZ), (37, vZ), (38, vZ), (39, (vB true)), (4, (vB false))] ?_
          exfalso
          omega
      · refine wc_ev [evC 9 2 1 agg3 f65, leF 9 3 3 c69] (.exit 0) h61 [(26, (vI k)), (27, (vP b1 1)), (28, (vI d.rt)), (29, (vB false))] ?_
        by_cases c104 : ((s2.st) : Int) = 3
        · by_cases c105 : ((s2.ix) : Int) = 0
          · by_cases c106 : ((s2.er) : Int) = (16 + (Int.tmod (n) 3))
            · obtain ⟨_, hh107, sn108, rfl, x109⟩ := works_ok h61 (x62 _ _ hg0) (x62 _ _ hg1)
              have x110 := x62.trans x109
              refine wc_ev [evC 16 1 4 agg3 f66, eqT 16 2 3 c104, evC 16 5 5 agg3 f66, eqT 16 6 3 c105, evC 16 10 9 agg25 f66, eqT 16 12 25 c106, evF 16 15 sn108] .ret hh107 [(50, (vP b42 4)), (51, (vI s2.st)), (52, (vB true)), (53, (vB true)), (54, (vP b42 5)), (55, (vI s2.ix)), (56, (vB true)), (57, (vB true)), (58, (vB true)), (59, (vP b42 9)), (60, (vI s2.er)), (61, (vI (16 + (Int.tmod (n) 3)))), (62, (vB true)), (63, (vB true)), (64, (vB true)), (65, (vB true)), (66, (vB true)), (4, (vB true))] ?_
              exact end_ev [] (vB true) (hK _ _ (⟨rfl, x110⟩))
            · refine wc_ev [evC 16 1 4 agg3 f66, eqT 16 2 3 c104, evC 16 5 5 agg3 f66, eqT 16 6 3 c105, evC 16 10 9 agg25 f66, eqF 16 12 25 c106] .ret h61 [(50, (vP b42 4)), (51, (vI s2.st)), (52, (vB true)), (53, (vB true)), (54, (vP b42 5)), (55, (vI s2.ix)), (56, (vB true)), (57, (vB true)), (58, (vB true)), (59, (vP b42 9)), (60, (vI s2.er)), (61, (vI (16 + (Int.tmod (n) 3)))), (62, (vB false)), (63, (vB false)), (64, (vB false)), (65, vZ), (66, (vB false)), (4, (vB false))] ?_
              exfalso
              omega
          · refine wc_ev [evC 16 1 4 agg3 f66, eqT 16 2 3 c104, evC 16 5 5 agg3 f66, eqF 16 6 3 c105] .ret h61 [(50, (vP b42 4)), (51, (vI s2.st)), (52, (vB true)), (53, (vB true)), (54, (vP b42 5)), (55, (vI s2.ix)), (56, (vB false)), (57, (vB false)), (58, (vB false)), (59, vZ), (60, vZ), (61, vZ), (62, vZ), (63, (vB false)), (64, (vB false)), (65, vZ), (66, (vB false)), (4, (vB false))] ?_
            exfalso
            omega
        · refine wc_ev [evC 16 1 4 agg3 f66, eqF 16 2 3 c104] .ret h61 [(50, (vP b42 4)), (51, (vI s2.st)), (52, (vB false)), (53, (vB false)), (54, vZ), (55, vZ), (56, vZ), (57, (vB false)), (58, (vB false)), (59, vZ), (60, vZ), (61, vZ), (62, vZ), (63, (vB false)), (64, (vB false)), (65, vZ), (66, (vB false)), (4, (vB false))] ?_
          exfalso
          omega
    · obtain ⟨b111, eb112⟩ : ∃ zq, zq = h22.size := ⟨_, rfl⟩
      obtain ⟨h113, e114⟩ : ∃ zq, zq = h22.push (.cells #[(vS .empty), (vI 0), (vI 0), (Value.slice none 0 0), (vI 0), (vI 0), (vB false), (vI 0), (vI 0), (vI 0)] 41 (0, 0)) := ⟨_, rfl⟩
      have f115 := push_new e114
      rw [← eb112] at f115
      have x116 : Ext h22 h113 := by rw [e114]; exact Ext.push _ _
      have o117 : h.size ≤ b111 := by have := x28.size; omega
      have x118 := x28.trans x116
      obtain ⟨h119, e120⟩ : ∃ zq, zq = h113.setIfInBounds b111 (.cells #[(vS .empty), (vI 0), (vI 0), (Value.slice none 0 0), (vI 0), (vI 0), (vB false), (vI 0), (vI 0), (vI 0)] 41 (0, 0)) := ⟨_, rfl⟩
      have x121 := Ext.setNew x118 e120 o117
      refine wc_ev [evLw 4 0 agg24 size24 f19, evFe 4 1 (p24 c29) s23, evA 4 5 eb112 e114, evUw 4 6 size41 f115 e120] .normal h119 [(15, (vA #[(vS d.name), (vI d.rt), (vI 0), (vL sa d.xs.length cp)])), (16, (vT #[(vA #[(vS .empty), (vI 0), (vI 0), (vL none 0 0), (vI 0), (vI 0), (vB false), (vI 0), (vI 0), (vI 0)]), (vI (staE (DefM.mk d.name (d.rt) 0 d.xs) 0))])), (14, (vT #[(vA #[(vS .empty), (vI 0), (vI 0), (vL none 0 0), (vI 0), (vI 0), (vB false), (vI 0), (vI 0), (vI 0)]), (vI (staE (DefM.mk d.name (d.rt) 0 d.xs) 0))])), (17, (vA #[(vS .empty), (vI 0), (vI 0), (vL none 0 0), (vI 0), (vI 0), (vB false), (vI 0), (vI 0), (vI 0)])), (18, (vI (staE (DefM.mk d.name (d.rt) 0 d.xs) 0))), (5, (vP b111 0)), (6, (vI (staE (DefM.mk d.name (d.rt) 0 d.xs) 0)))] ?_
      refine wc_seq' (subc (bodyOf Tryd.prog 4) [1, 1, 1, 1, 0]) (subc (bodyOf Tryd.prog 4) [1, 1, 1, 1, 1]) (by kernel_rfl) ?_
      obtain ⟨_, hh122, sn123, rfl, x124⟩ := works_ok h119 (x121 _ _ hg0) (x121 _ _ hg1)
      have x125 := x121.trans x124
      refine wc_ev [neT 5 1 25 c29, evF 6 0 sn123] .ret hh122 [(19, (vI (staE (DefM.mk d.name (d.rt) 0 d.xs) 0))), (20, (vB true)), (21, (vB true)), (4, (vB true))] ?_
      exact end_ev [] (vB true) (hK _ _ (⟨rfl, x125⟩))
  · obtain ⟨_, hh126, sn127, rfl, x128⟩ := works_ok h9 (x15 _ _ hg0) (x15 _ _ hg1)
    have x129 := x15.trans x128
    refine wc_ev [evLw 1 0 agg24 size24 f5, evFb 1 1 c16 s10, evF 2 0 sn127] .ret hh126 [(9, (vA #[(vS d.name), (vI d.rt), (vI d.dl), (vL sa d.xs.length cp)])), (10, (vB false)), (11, (vB true)), (12, (vB true)), (4, (vB true))] ?_
    exact end_ev [] (vB true) (hK _ _ (⟨rfl, x129⟩))
theorem law_retries_x (h : Heap) (nm : ByteArray) (_hnm : nm.size ≤ 9223372036854775807) (rt : Int) (_irt : -9223372036854775808 ≤ rt ∧ rt ≤ 9223372036854775807) (dl : Int) (_idl : -9223372036854775808 ≤ dl ∧ dl ≤ 9223372036854775807) (xs : List StepM) (sa : Option Addr) (cp : Nat) (k : LAt h stepc 2 xs (.slice sa xs.length cp)) (l : xs.length ≤ 9223372036854775807) (_q : ∀ x ∈ xs, x.key.size ≤ 9223372036854775807) (n : Int) (hn : 0 ≤ n ∧ n ≤ 255) (hg0 : h[0]? = some (.cells #[Value.nilFunc, (Value.func (.func 126) #[] #[]), (Value.func (.func 127) #[] #[]), (Value.func (.func 128) #[] #[])] 86 (0, 0))) (hg1 : h[1]? = some (.cells #[(vI 0), (vI 1), (vI 3), (vI 2)] 96 (0, 0))) : WCall Tryd.prog 4 #[.agg #[.string nm, .int .i64 rt, .int .i64 dl, .slice sa xs.length cp], .int .u8 n] h (fun v h1 => v = .bool true ∧ Ext h h1) := law_retries h ⟨nm, rt, dl, xs⟩ sa cp k l n hn hg0 hg1
end C28
