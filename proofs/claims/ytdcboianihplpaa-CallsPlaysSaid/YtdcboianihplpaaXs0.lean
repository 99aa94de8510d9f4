/- The reference shows what the program shows. -/
import Derived.Test.YtdcboianihplpaaXr9
import Derived.Test.YtdcboianihplpaaXj0
import Derived.KernelRfl
open Go Go.AM Go.Proofs
namespace C36
/-- What the reference keeps is what a table keeps. -/
structure RefSim (m : TabM) (M : RefM) : Prop where
  good : m.good
  es : M.es = m.evs
  cl : M.cs.length = m.ats.length
  rl : M.rs.length = m.ats.length
  hl : M.hs.length = m.ats.length
  c : ∀ (k : Nat) (a : Int), m.ats[k]? = some a → ∃ x, m.evs[a.toNat]? = some x ∧ M.cs[k]? = some x.cmd
  w : ∀ (k : Nat) (r : Int), m.rps[k]? = some r → r < 0 → M.hs[k]? = some false ∧ M.rs[k]? = some ⟨0, 0, .empty⟩
  r : ∀ (k : Nat) (r : Int), m.rps[k]? = some r → 0 ≤ r → ∃ x, m.evs[r.toNat]? = some x ∧ M.hs[k]? = some true ∧ M.rs[k]? = some ⟨x.err, x.num, x.text⟩
theorem sim_new : RefSim ⟨[], [], []⟩ ⟨[], [], [], []⟩ := ⟨fill_good [], rfl, rfl, rfl, rfl, fun k a h => (by simp at h), fun k r h => (by simp at h), fun k r h => (by simp at h)⟩
theorem sim_opened {m : TabM} {M : RefM} (s : RefSim m M) (c : CmdM) : RefSim (m.opened c) (M.opened c) := by
  have hrl := s.good.len
  refine ⟨opened_good s.good c, ?_, ?_, ?_, ?_, fun k a h => ?_, fun k r h h0 => ?_, fun k r h h0 => ?_⟩
  · simp [RefM.opened, TabM.opened, s.es, s.cl]
  · simp [RefM.opened, TabM.opened, s.cl]
  · simp [RefM.opened, TabM.opened, s.rl]
  · simp [RefM.opened, TabM.opened, s.hl]
  · rcases get_app h with q | ⟨rfl, rfl⟩
    · obtain ⟨x, h1, h2⟩ := s.c k a q
      exact ⟨x, app_get h1, app_get h2⟩
    · exact ⟨_, app_last (by omega), by rw [← s.cl]; exact app_last rfl⟩
  · rcases get_app h with q | ⟨rfl, rfl⟩
    · obtain ⟨h1, h2⟩ := s.w k r q h0
      exact ⟨app_get h1, app_get h2⟩
    · exact ⟨app_last (by rw [hrl, s.hl]), app_last (by rw [hrl, s.rl])⟩
  · rcases get_app h with q | ⟨rfl, rfl⟩
    · obtain ⟨x, h1, h2, h3⟩ := s.r k r q h0
      exact ⟨x, app_get h1, app_get h2, app_get h3⟩
    · exact absurd h0 (by decide)
theorem sim_hs {m : TabM} {M : RefM} (s : RefSim m M) {i : Nat} (hi : i < m.ats.length) : M.hs.getD i false = decide (0 ≤ m.rps.getD i 0) := by
  have hrl := s.good.len
  have hx := List.getElem?_eq_getElem (show i < m.rps.length by omega)
  rw [getD_at hx]
  by_cases h : 0 ≤ m.rps[i]'(by omega)
  · obtain ⟨x, _, h2, _⟩ := s.r _ _ hx h
    rw [getD_at h2, decide_eq_true h]
  · obtain ⟨h2, _⟩ := s.w _ _ hx (by omega)
    rw [getD_at h2, decide_eq_false h]
theorem sim_closed {m : TabM} {M : RefM} (s : RefSim m M) {k0 : Int} (h0 : 1 ≤ k0) (h1 : k0 ≤ m.ats.length) (h2 : m.rps.getD (k0 - 1).toNat 0 < 0) (e n : Int) (d : ByteArray) : RefSim (m.closed k0 e n d) (M.closed k0 e n d) := by
  have hrl := s.good.len
  refine ⟨closed_good s.good h0 h1 h2 e n d, ?_, ?_, ?_, ?_, fun k a h => ?_, fun k r h hr0 => ?_, fun k r h hr0 => ?_⟩
  · simp [RefM.closed, TabM.closed, s.es]
  · simp [RefM.closed, TabM.closed, s.cl]
  · simp [RefM.closed, TabM.closed, s.rl]
  · simp [RefM.closed, TabM.closed, s.hl]
  · obtain ⟨x, h3, h4⟩ := s.c k a h
    exact ⟨x, app_get h3, h4⟩
  · have h' : (m.rps.set (k0 - 1).toNat (m.evs.length : Int))[k]? = some r := h
    by_cases hk : (k0 - 1).toNat = k
    · subst hk
      rw [List.getElem?_set_self (by omega)] at h'
      have := Option.some.inj h'
      omega
    · rw [List.getElem?_set_ne hk] at h'
      obtain ⟨h3, h4⟩ := s.w k r h' hr0
      refine ⟨?_, ?_⟩
      · show (M.hs.set _ _)[_]? = _
        rw [List.getElem?_set_ne hk]; exact h3
      · show (M.rs.set _ _)[_]? = _
        rw [List.getElem?_set_ne hk]; exact h4
  · have h' : (m.rps.set (k0 - 1).toNat (m.evs.length : Int))[k]? = some r := h
    by_cases hk : (k0 - 1).toNat = k
    · subst hk
      rw [List.getElem?_set_self (by omega)] at h'
      have hr := Option.some.inj h'
      refine ⟨_, app_last (by omega), ?_, ?_⟩
      · show (M.hs.set _ _)[_]? = _
        rw [List.getElem?_set_self (by have := s.hl; omega)]
      · show (M.rs.set _ _)[_]? = _
        rw [List.getElem?_set_self (by have := s.rl; omega)]
    · rw [List.getElem?_set_ne hk] at h'
      obtain ⟨x, h3, h4, h5⟩ := s.r k r h' hr0
      refine ⟨x, app_get h3, ?_, ?_⟩
      · show (M.hs.set _ _)[_]? = _
        rw [List.getElem?_set_ne hk]; exact h4
      · show (M.rs.set _ _)[_]? = _
        rw [List.getElem?_set_ne hk]; exact h5
theorem sim_get {m : TabM} {M : RefM} (s : RefSim m M) (k : Int) : rgetC M k = getC m k ∧ rgetB M k = getB m k ∧ rgetE M k = getE m k ∧ (rgetR M k).err = (getR m k).err ∧ (rgetR M k).num = (getR m k).num ∧ (rgetR M k).text = (getR m k).text := by
  have hrl := s.good.len
  have hcl := s.cl
  by_cases hb : k < 1 ∨ ((m.ats.length : Nat) : Int) < k
  · have hb' : k < 1 ∨ ((M.cs.length : Nat) : Int) < k := by omega
    simp only [rgetC, rgetB, rgetE, rgetR, getC, getB, getE, getR, if_pos hb, if_pos hb']
    exact ⟨trivial, trivial, trivial, rfl, rfl, rfl⟩
  · have hb' : ¬ (k < 1 ∨ ((M.cs.length : Nat) : Int) < k) := by omega
    have hlt : (k - 1).toNat < m.ats.length := by omega
    have ha := List.getElem?_eq_getElem hlt
    have hr := List.getElem?_eq_getElem (show (k - 1).toNat < m.rps.length by omega)
    obtain ⟨x, h1, h2⟩ := s.c _ _ ha
    have g1 : getC m k = x.cmd := by rw [getC, if_neg hb, getD_at ha, getD_at h1]
    have g2 : rgetC M k = x.cmd := by rw [rgetC, if_neg hb', getD_at h2]
    have g3 : rgetB M k = getB m k := by rw [rgetB, getB, if_neg hb, if_neg hb', sim_hs s hlt]
    have g4 : rgetE M k = getE m k := by rw [rgetE, getE, if_neg hb, if_neg hb']
    refine ⟨g2.trans g1.symm, g3, g4, ?_⟩
    by_cases h : 0 ≤ m.rps[(k - 1).toNat]'(by omega)
    · obtain ⟨y, q1, q2, q3⟩ := s.r _ _ hr h
      have e1 : rgetR M k = ⟨y.err, y.num, y.text⟩ := by rw [rgetR, if_neg hb', getD_at q3]
      have e2 : getR m k = y := by rw [getR, if_neg hb, getD_at hr, if_neg (by omega), getD_at q1]
      rw [e1, e2]; exact ⟨rfl, rfl, rfl⟩
    · obtain ⟨q2, q3⟩ := s.w _ _ hr (by omega)
      have e1 : rgetR M k = ⟨0, 0, .empty⟩ := by rw [rgetR, if_neg hb', getD_at q3]
      have e2 : getR m k = noEv := by rw [getR, if_neg hb, getD_at hr, if_pos (by omega)]
      rw [e1, e2]; exact ⟨rfl, rfl, rfl⟩
theorem sim_wait {m : TabM} {M : RefM} (s : RefSim m M) : rwaitM M = waitM m := by
  have hrl := s.good.len
  have hl := s.hl
  unfold rwaitM waitM rwaitP waitP
  rw [show M.hs.length = m.rps.length by omega]
  congr 1
  refine List.filter_congr fun i hi => ?_
  have hi := List.mem_range.1 hi
  rw [sim_hs s (by omega)]
  by_cases h : 0 ≤ m.rps.getD i 0
  · rw [decide_eq_true h, decide_eq_false (by omega)]; rfl
  · rw [decide_eq_false h, decide_eq_true (by omega)]; rfl
theorem scan_of {m : TabM} (g : m.good) {a b : Int} (ha : 1 ≤ a ∧ a ≤ m.ats.length) (hb : 1 ≤ b ∧ b ≤ m.ats.length) : ∀ (d j : Nat), m.evs.length = j + d → (0 ≤ rpOf m a → (j : Int) ≤ rpOf m a) → (j : Int) ≤ atOf m b → rscan a b (m.evs.drop j) = decide (0 ≤ rpOf m a ∧ rpOf m a < atOf m b)
  | 0, j, hd, h1, h2 => by have := (at_range g hb).2; omega
  | d + 1, j, hd, h1, h2 => by
    have hx := List.getElem?_eq_getElem (show j < m.evs.length by omega)
    rw [rscan_next hx]
    have ec := ev_call g hb hx
    have er := ev_reply g ha hx
    by_cases hc : (m.evs[j]'(by omega)).call = b ∧ (m.evs[j]'(by omega)).reply = false
    · rw [if_pos hc, decide_eq_false]
      have := ec.1 hc
      omega
    · rw [if_neg hc]
      have hc' : ¬ atOf m b = j := fun w => hc (ec.2 w)
      by_cases hr : (m.evs[j]'(by omega)).call = a ∧ (m.evs[j]'(by omega)).reply = true
      · rw [if_pos hr, decide_eq_true]
        have := er.1 hr
        omega
      · rw [if_neg hr]
        have hr' : ¬ rpOf m a = j := fun w => hr (er.2 w)
        exact scan_of g ha hb d (j + 1) (by omega) (by omega) (by omega)
theorem sim_bef {m : TabM} {M : RefM} (s : RefSim m M) (a b : Int) : rbefB M a b = befB m a b ∧ rbefE M a b = befE m a b := by
  have hcl := s.cl
  unfold rbefB rbefE befB befE
  rw [hcl]
  refine ⟨?_, rfl⟩
  by_cases hb : (a < 1 ∨ ((m.ats.length : Nat) : Int) < a) ∨ (b < 1 ∨ ((m.ats.length : Nat) : Int) < b)
  · rw [if_pos hb, if_pos hb]
  · rw [if_neg hb, if_neg hb, s.es]
    have h1 : 1 ≤ a ∧ a ≤ m.ats.length := by omega
    have h2 : 1 ≤ b ∧ b ≤ m.ats.length := by omega
    have := scan_of s.good h1 h2 m.evs.length 0 (by omega) (by omega) (at_range s.good h2).1
    rw [List.drop_zero] at this
    rw [this]
    show decide (0 ≤ rpOf m a ∧ rpOf m a < atOf m b) = (decide (0 ≤ rpOf m a) && decide (rpOf m a < atOf m b))
    by_cases q : 0 ≤ rpOf m a <;> by_cases q2 : rpOf m a < atOf m b <;> simp [q, q2]
theorem sim_small {m : TabM} {M : RefM} (s : RefSim m M) (hs : m.small) : (∀ x ∈ M.cs, x.steps.length ≤ 1048576) ∧ ∀ x ∈ M.es, x.cmd.steps.length ≤ 1048576 := by
  refine ⟨fun x hx => ?_, fun x hx => hs x (by rw [← s.es]; exact hx)⟩
  obtain ⟨k, hk, he⟩ := List.mem_iff_getElem.1 hx
  have hk' : k < m.ats.length := by have := s.cl; omega
  obtain ⟨y, h1, h2⟩ := s.c _ _ (List.getElem?_eq_getElem hk')
  rw [List.getElem?_eq_getElem hk, he] at h2
  cases h2
  exact hs _ (List.mem_of_getElem? h1)
/-- A table of the reference that shows what a table of the program shows. -/
def RTab (h : Heap) (O : Nat → Prop) (t : Nat) (m : TabM) : Prop := ∃ M, Ref h O t M ∧ RefSim m M
theorem RTab.keep {h h1 : Heap} {O : Nat → Prop} {t : Nat} {m : TabM} (k : RTab h O t m) (w : ∀ b r, O b → h[b]? = some r → h1[b]? = some r) : RTab h1 O t m := by
  obtain ⟨M, k, s⟩ := k; exact ⟨M, k.keep w, s⟩
theorem RTab.blk_lt {h : Heap} {O : Nat → Prop} {t : Nat} {m : TabM} (k : RTab h O t m) {b : Nat} (hb : O b) : b < h.size := by
  obtain ⟨M, k, s⟩ := k; exact k.blk_lt hb
theorem rnew_all (h : Heap) : WCall Try.prog 23 #[] h (fun v h1 => ∃ b O, v = .pointer (some ⟨b, 0, none⟩) ∧ RTab h1 O b ⟨[], [], []⟩ ∧ Ext h h1 ∧ ∀ zz, O zz → h.size ≤ zz) := by
  refine (rnew_ok h).mono fun v h1 q => ?_
  obtain ⟨b, rfl, tb, x, lt⟩ := q
  obtain ⟨O, tt, oo⟩ := tb.ref
  exact ⟨b, O, rfl, ⟨_, tt, sim_new⟩, x, fun zz hz => by have := oo zz hz; omega⟩
theorem ropen_all (h : Heap) {O : Nat → Prop} {t : Nat} {m : TabM} (hT : RTab h O t m) {n : Nat} (hm : m.ok n) (hn : n ≤ 100000) (c : CmdM) (sa : Option Addr) (cp : Nat) (hl : SliceAt h stepc 2 c.steps (.slice sa c.steps.length cp)) (hlen : c.steps.length ≤ 1048576) : WCall Try.prog 27 #[.pointer (some ⟨t, 0, none⟩), (Value.agg (cmdc c (Value.slice sa (c.steps.length) (cp))))] h
    (fun v h1 => v = .tuple #[.int .i64 (openN m c), .int .i64 (openE m c)] ∧ Chg O h h1 ∧ ∃ O', RTab h1 O' t (openM m c) ∧ ∀ b, O' b → O b ∨ h.size ≤ b) := by
  obtain ⟨m1, m2, m3⟩ := hm
  obtain ⟨M, hR, s⟩ := hT
  have hcl := s.cl
  have hrl := s.rl
  have hhl := s.hl
  have hes := congrArg List.length s.es
  refine (ropen_ok h hR.1 (by omega) (by omega) (by omega) c sa cp hl hlen).mono fun v h1 q => ?_
  rw [hcl] at q
  obtain ⟨q1, q2, q3⟩ := q
  unfold openN openE openM
  by_cases hc : c.call ≠ 0 ∨ ¬ c.kind ∈ ([2, 11, 12, 13, 14] : List Int)
  · obtain ⟨rfl, x⟩ := q1 hc
    simp only [if_pos hc]
    exact ⟨trivial, Chg.ext x, O, ⟨M, hR.keep fun b r _ q => x b r q, s⟩, fun b hb => .inl hb⟩
  · simp only [if_neg hc]
    by_cases hd : 2000 ≤ m.ats.length
    · obtain ⟨rfl, x⟩ := q2 ⟨hc, hd⟩
      simp only [if_pos hd]
      exact ⟨trivial, Chg.ext x, O, ⟨M, hR.keep fun b r _ q => x b r q, s⟩, fun b hb => .inl hb⟩
    · obtain ⟨rfl, x, tb⟩ := q3 ⟨hc, by omega⟩
      simp only [if_neg hd]
      obtain ⟨O', tt, oo⟩ := tb.ref
      exact ⟨trivial, x, O', ⟨_, tt, sim_opened s c⟩, oo⟩
theorem rclose_all (h : Heap) {O : Nat → Prop} {t : Nat} {m : TabM} (hT : RTab h O t m) {n' : Nat} (hm : m.ok n') (hn : n' ≤ 100000) (k e n : Int) (d : ByteArray) : WCall Try.prog 26 #[.pointer (some ⟨t, 0, none⟩), .int .i64 k, .agg #[.int .i64 e, .int .i64 n, .string d]] h
    (fun v h1 => v = .int .i64 (closeE m k e n d) ∧ Chg O h h1 ∧ ∃ O', RTab h1 O' t (closeM m k e n d) ∧ ∀ b, O' b → O b ∨ h.size ≤ b) := by
  obtain ⟨m1, m2, m3⟩ := hm
  obtain ⟨M, hR, s⟩ := hT
  have hcl := s.cl
  have hrl := s.rl
  have hhl := s.hl
  have hes := congrArg List.length s.es
  refine (rclose_ok h hR.1 (by omega) (by omega) (by omega) (by omega) k e n d).mono fun v h1 q => ?_
  rw [hcl] at q
  obtain ⟨q1, q2, q3, q4⟩ := q
  unfold closeE closeM
  by_cases hc : k < 1 ∨ ((m.ats.length : Nat) : Int) < k
  · obtain ⟨rfl, x⟩ := q1 hc
    simp only [if_pos hc]
    exact ⟨trivial, Chg.ext x, O, ⟨M, hR.keep fun b r _ q => x b r q, s⟩, fun b hb => .inl hb⟩
  · simp only [if_neg hc]
    have hi : 1 ≤ k ∧ k ≤ ((m.ats.length : Nat) : Int) := by omega
    by_cases hd : chkR e n d = 0
    · have hd' : ¬ chkR e n d ≠ 0 := fun q => q hd
      simp only [if_neg hd']
      have hh := sim_hs s (show (k - 1).toNat < m.ats.length by omega)
      rw [hh] at q3 q4
      by_cases hr : 0 ≤ m.rps.getD (k - 1).toNat 0
      · obtain ⟨rfl, x⟩ := q3 ⟨hi, hd, decide_eq_true hr⟩
        simp only [if_pos hr]
        exact ⟨trivial, Chg.ext x, O, ⟨M, hR.keep fun b r _ q => x b r q, s⟩, fun b hb => .inl hb⟩
      · obtain ⟨rfl, x, tb⟩ := q4 ⟨hi, hd, decide_eq_false hr⟩
        simp only [if_neg hr]
        obtain ⟨O', tt, oo⟩ := tb.ref
        exact ⟨trivial, x, O', ⟨_, tt, sim_closed s hi.1 hi.2 (by omega) e n d⟩, oo⟩
    · obtain ⟨rfl, x⟩ := q2 ⟨hi, hd⟩
      simp only [if_pos hd]
      exact ⟨trivial, Chg.ext x, O, ⟨M, hR.keep fun b r _ q => x b r q, s⟩, fun b hb => .inl hb⟩
theorem rlen_all (h : Heap) {O : Nat → Prop} {t : Nat} {m : TabM} (hT : RTab h O t m) : WCall Try.prog 28 #[.pointer (some ⟨t, 0, none⟩)] h (fun v h1 => v = .int .i64 ((m.ats.length : Nat) : Int) ∧ h = h1) := by
  obtain ⟨M, hR, s⟩ := hT
  refine (rlen_ok h hR.1).mono fun v h1 q => ?_
  rw [s.cl] at q; exact q
theorem rcopy_all (h : Heap) {O : Nat → Prop} {t : Nat} {m : TabM} (hT : RTab h O t m) {n' : Nat} (hm : m.ok n') (hn : n' ≤ 100000) (hs : m.small) : WCall Try.prog 25 #[.pointer (some ⟨t, 0, none⟩)] h (fun v h1 => ∃ b O', v = .pointer (some ⟨b, 0, none⟩) ∧ RTab h1 O' b m ∧ Ext h h1 ∧ ∀ zz, O' zz → h.size ≤ zz) := by
  obtain ⟨m1, m2, m3⟩ := hm
  obtain ⟨M, hR, s⟩ := hT
  have hcl := s.cl
  have hrl := s.rl
  have hhl := s.hl
  have hes := congrArg List.length s.es
  have hsm := sim_small s hs
  refine (rcopy_ok h hR.1 (by omega) (by omega) (by omega) (by omega) hsm.1 hsm.2).mono fun v h1 q => ?_
  obtain ⟨b, O', e, tt, x, oo⟩ := q
  exact ⟨b, O', e, ⟨M, tt, s⟩, x, oo⟩
theorem rget_all (h : Heap) {O : Nat → Prop} {t : Nat} {m : TabM} (hT : RTab h O t m) {n' : Nat} (hm : m.ok n') (hn : n' ≤ 100000) (hs : m.small) (k : Int) : WCall Try.prog 31 #[.pointer (some ⟨t, 0, none⟩), .int .i64 k] h (fun v h1 => ∃ w cw, v = .tuple #[.agg #[(vI ((getC m k).kind)), (vI ((getC m k).call)), (vI ((getC m k).saga)), (vI ((getC m k).e1)), (vI ((getC m k).e2)), (vI ((getC m k).e3)), (vS (getC m k).key), (vI ((getC m k).delta)), (vI ((getC m k).move)), (vS (getC m k).rf), (vS (getC m k).rt), (vI ((getC m k).group)), (vS (getC m k).dn), (vI ((getC m k).dr)), (vI ((getC m k).dd)), (Value.slice w ((getC m k).steps.length) (cw)), (vI ((getC m k).i1)), (vI ((getC m k).i2)), (vI ((getC m k).i3)), (vI ((getC m k).im)), (vB (getC m k).ii), (vI ((getC m k).ig)), (vI ((getC m k).res)), (vS (getC m k).data)], .agg #[.int .i64 (getR m k).err, .int .i64 (getR m k).num, .string (getR m k).text], .bool (getB m k), .int .i64 (getE m k)] ∧ OwnAt h1 74 stepc (getC m k).steps (.slice w (getC m k).steps.length cw) ∧ Ext h h1 ∧ ∀ b, blk (.slice w (getC m k).steps.length cw) b → h.size ≤ b) := by
  obtain ⟨m1, m2, m3⟩ := hm
  obtain ⟨M, hR, s⟩ := hT
  have hcl := s.cl
  have hrl := s.rl
  have hhl := s.hl
  have hsm := sim_small s hs
  obtain ⟨g1, g2, g3, g4, g5, g6⟩ := sim_get s k
  refine (rget_ok h hR.1 (by omega) (by omega) (by omega) hsm.1 k).mono fun v h1 q => ?_
  rw [g1, g2, g3, g4, g5, g6] at q
  exact q
theorem rwaiting_all (h : Heap) {O : Nat → Prop} {t : Nat} {m : TabM} (hT : RTab h O t m) {n' : Nat} (hm : m.ok n') : WCall Try.prog 30 #[.pointer (some ⟨t, 0, none⟩)] h (fun v h1 => ∃ wa wc, v = .slice wa (waitM m).length wc ∧ OwnAt h1 3 icell (waitM m) v ∧ Ext h h1 ∧ ∀ b, blk v b → h.size ≤ b) := by
  obtain ⟨m1, m2, m3⟩ := hm
  obtain ⟨M, hR, s⟩ := hT
  have hcl := s.cl
  have hhl := s.hl
  refine (rwaiting_ok h hR.1 (by omega) (by omega)).mono fun v h1 q => ?_
  rw [sim_wait s] at q; exact q
theorem rbefore_all (h : Heap) {O : Nat → Prop} {t : Nat} {m : TabM} (hT : RTab h O t m) {n' : Nat} (hm : m.ok n') (hn : n' ≤ 100000) (a b : Int) : WCall Try.prog 33 #[.pointer (some ⟨t, 0, none⟩), .int .i64 a, .int .i64 b] h (fun v h1 => v = .tuple #[.bool (befB m a b), .int .i64 (befE m a b)] ∧ h = h1) := by
  obtain ⟨m1, m2, m3⟩ := hm
  obtain ⟨M, hR, s⟩ := hT
  have hcl := s.cl
  have hes := congrArg List.length s.es
  refine (rbefore_ok h hR.1 (by omega) (by omega) a b).mono fun v h1 q => ?_
  rw [(sim_bef s a b).1, (sim_bef s a b).2] at q; exact q
theorem revents_all (h : Heap) {O : Nat → Prop} {t : Nat} {m : TabM} (hT : RTab h O t m) {n' : Nat} (hm : m.ok n') (hn : n' ≤ 100000) (hs : m.small) : WCall Try.prog 35 #[.pointer (some ⟨t, 0, none⟩)] h (fun v h1 => ∃ (out : List (EvM × Option Addr × Nat)) (oa : Option Addr) (oc : Nat), v = .slice oa out.length oc ∧ OwnAt h1 47 evc out v ∧ StepsAt h1 out ∧ out.map Prod.fst = m.evs ∧ Ext h h1 ∧ (∀ zz, blk v zz → h.size ≤ zz) ∧ ∀ zz, sfoot out zz → h.size ≤ zz) := by
  obtain ⟨m1, m2, m3⟩ := hm
  obtain ⟨M, hR, s⟩ := hT
  have hes := congrArg List.length s.es
  refine (revents_ok h hR.1 (by omega) (sim_small s hs).2).mono fun v h1 q => ?_
  rw [s.es] at q; exact q
end C36
