/- Calls and replies, and their order. -/
import Derived.Test.YtdcboianihplpaaXe
import Derived.KernelRfl
open Go Go.AM Go.Proofs
namespace C36
/-- The events, and the places of calls and replies, fit each other. -/
structure TabM.good (m : TabM) : Prop where
  call : ∀ (i : Nat) (x : EvM), m.evs[i]? = some x → x.reply = false → 1 ≤ x.call ∧ m.ats[(x.call - 1).toNat]? = some (i : Int)
  reply : ∀ (i : Nat) (x : EvM), m.evs[i]? = some x → x.reply = true → 1 ≤ x.call ∧ m.rps[(x.call - 1).toNat]? = some (i : Int)
  ats : ∀ (k : Nat) (a : Int), m.ats[k]? = some a → 0 ≤ a ∧ ∃ x, m.evs[a.toNat]? = some x ∧ x.reply = false ∧ x.call = (k : Int) + 1
  rps : ∀ (k : Nat) (r : Int), m.rps[k]? = some r → 0 ≤ r → (∃ x, m.evs[r.toNat]? = some x ∧ x.reply = true ∧ x.call = (k : Int) + 1) ∧ ∃ a, m.ats[k]? = some a ∧ a < r
  len : m.rps.length = m.ats.length
theorem get_app {α : Type} {l : List α} {x y : α} {i : Nat} (h : (l ++ [x])[i]? = some y) : l[i]? = some y ∨ (i = l.length ∧ y = x) := by
  rw [List.getElem?_append] at h
  split at h
  · exact .inl h
  · obtain ⟨hl, he⟩ := List.getElem?_eq_some_iff.1 h
    have e : i - l.length = 0 := by simp at hl; omega
    simp only [e, List.getElem_cons_zero] at he
    exact .inr ⟨by simp at hl; omega, he.symm⟩
theorem app_get {α : Type} {l : List α} {x y : α} {i : Nat} (h : l[i]? = some y) : (l ++ [x])[i]? = some y := by
  rw [List.getElem?_append_left (List.getElem?_eq_some_iff.1 h).1]; exact h
theorem app_last {α : Type} {l : List α} {x : α} {i : Nat} (h : i = l.length) : (l ++ [x])[i]? = some x := by subst h; simp
theorem opened_good {m : TabM} (g : m.good) (c : CmdM) : (m.opened c).good := by
  refine ⟨fun i x hx hr => ?_, fun i x hx hr => ?_, fun k a ha => ?_, fun k r hr h0 => ?_, by simp [TabM.opened, g.len]⟩
  · rcases get_app hx with q | ⟨rfl, rfl⟩
    · obtain ⟨h1, h2⟩ := g.call i x q hr; exact ⟨h1, app_get h2⟩
    · exact ⟨by simp only; omega, app_last (by simp only; omega)⟩
  · rcases get_app hx with q | ⟨rfl, rfl⟩
    · obtain ⟨h1, h2⟩ := g.reply i x q hr; exact ⟨h1, app_get h2⟩
    · cases hr
  · rcases get_app ha with q | ⟨rfl, rfl⟩
    · obtain ⟨h1, x, h2, h3⟩ := g.ats k a q; exact ⟨h1, x, app_get h2, h3⟩
    · exact ⟨by omega, _, app_last (by omega), rfl, rfl⟩
  · rcases get_app hr with q | ⟨rfl, rfl⟩
    · obtain ⟨⟨x, h1, h2⟩, a, h3, h4⟩ := g.rps k r q h0; exact ⟨⟨x, app_get h1, h2⟩, a, app_get h3, h4⟩
    · exact absurd h0 (by decide)
theorem closed_good {m : TabM} (g : m.good) {k0 : Int} (h0 : 1 ≤ k0) (h1 : k0 ≤ m.ats.length) (h2 : m.rps.getD (k0 - 1).toNat 0 < 0) (e n : Int) (d : ByteArray) : (m.closed k0 e n d).good := by
  have hlt : (k0 - 1).toNat < m.rps.length := by have := g.len; omega
  have hg : m.rps[(k0 - 1).toNat]? = some (m.rps.getD (k0 - 1).toNat 0) := by
    rw [List.getD_eq_getElem?_getD, List.getElem?_eq_getElem hlt]; rfl
  refine ⟨fun i x hx hr => ?_, fun i x hx hr => ?_, fun k a ha => ?_, fun k r hr hr0 => ?_, by simp [TabM.closed, g.len]⟩
  · rcases get_app hx with q | ⟨rfl, rfl⟩
    · exact g.call i x q hr
    · cases hr
  · rcases get_app hx with q | ⟨rfl, rfl⟩
    · obtain ⟨h3, h4⟩ := g.reply i x q hr
      refine ⟨h3, ?_⟩
      have hne : (k0 - 1).toNat ≠ (x.call - 1).toNat := by
        intro w; rw [← w, hg] at h4; have := Option.some.inj h4; omega
      show (m.rps.set _ _)[_]? = _
      rw [List.getElem?_set_ne hne]; exact h4
    · refine ⟨h0, ?_⟩
      show (m.rps.set _ _)[_]? = _
      rw [List.getElem?_set_self hlt]
  · obtain ⟨h3, x, h4, h5⟩ := g.ats k a ha; exact ⟨h3, x, app_get h4, h5⟩
  · have hr' : (m.rps.set (k0 - 1).toNat (m.evs.length : Int))[k]? = some r := hr
    by_cases hk : (k0 - 1).toNat = k
    · subst hk
      rw [List.getElem?_set_self hlt] at hr'
      cases hr'
      have hla : (k0 - 1).toNat < m.ats.length := by omega
      obtain ⟨h3, x, h4, _⟩ := g.ats _ _ (List.getElem?_eq_getElem hla)
      have := (List.getElem?_eq_some_iff.1 h4).1
      exact ⟨⟨_, app_last (by omega), rfl, by simp only; omega⟩, _, List.getElem?_eq_getElem hla, by omega⟩
    · rw [List.getElem?_set_ne hk] at hr'
      obtain ⟨⟨x, h3, h4⟩, a, h5, h6⟩ := g.rps k r hr' hr0; exact ⟨⟨x, app_get h3, h4⟩, a, h5, h6⟩
theorem stepM_good {m : TabM} (g : m.good) (s : StepA) : (stepM m s).good := by
  unfold stepM
  split
  · unfold closeM
    split
    · exact g
    · split
      · exact g
      · split
        · exact g
        · exact closed_good g (by omega) (by omega) (by omega) _ _ _
  · unfold openM
    split
    · exact g
    · split
      · exact g
      · exact opened_good g _
theorem fill_good (l : List StepA) : (fillM l).good := foldl_inv (I := TabM.good) (fun m s h => stepM_good h s) l ⟨[], [], []⟩ ⟨fun i x h => (by simp at h), fun i x h => (by simp at h), fun i x h => (by simp at h), fun i x h => (by simp at h), rfl⟩
/-- The places of a call's event and of its reply. -/
def atOf (m : TabM) (k : Int) : Int := m.ats.getD (k - 1).toNat 0
def rpOf (m : TabM) (k : Int) : Int := m.rps.getD (k - 1).toNat 0
theorem atOf_get {m : TabM} {k : Int} (h1 : k ≤ m.ats.length) (h0 : 1 ≤ k) : m.ats[(k - 1).toNat]? = some (atOf m k) := by
  have hlt : (k - 1).toNat < m.ats.length := by omega
  rw [atOf, List.getD_eq_getElem?_getD, List.getElem?_eq_getElem hlt]; rfl
theorem rpOf_get {m : TabM} (g : m.good) {k : Int} (h1 : k ≤ m.ats.length) (h0 : 1 ≤ k) : m.rps[(k - 1).toNat]? = some (rpOf m k) := by
  have hlt : (k - 1).toNat < m.rps.length := by have := g.len; omega
  rw [rpOf, List.getD_eq_getElem?_getD, List.getElem?_eq_getElem hlt]; rfl
theorem befE_in {m : TabM} {a b : Int} (ha : 1 ≤ a ∧ a ≤ m.ats.length) (hb : 1 ≤ b ∧ b ≤ m.ats.length) : befE m a b = 0 := by rw [befE, if_neg (by omega)]
theorem befB_in {m : TabM} {a b : Int} (ha : 1 ≤ a ∧ a ≤ m.ats.length) (hb : 1 ≤ b ∧ b ≤ m.ats.length) : befB m a b = true ↔ 0 ≤ rpOf m a ∧ rpOf m a < atOf m b := by
  rw [befB, if_neg (by omega)]
  simp only [Bool.and_eq_true, decide_eq_true_eq]
  rfl
theorem good_lt {m : TabM} (g : m.good) {k : Int} (hk : 1 ≤ k ∧ k ≤ m.ats.length) (h : 0 ≤ rpOf m k) : atOf m k < rpOf m k := by
  obtain ⟨_, a, h1, h2⟩ := g.rps _ _ (rpOf_get g hk.2 hk.1) h
  rw [atOf_get hk.2 hk.1] at h1
  cases h1; exact h2
theorem bef_own {m : TabM} (g : m.good) {k : Int} (hk : 1 ≤ k ∧ k ≤ m.ats.length) : befB m k k = false := by
  cases h : befB m k k with
  | false => rfl
  | true => have q := (befB_in hk hk).1 h; have := good_lt g hk q.1; omega
theorem bef_trans {m : TabM} (g : m.good) {a b c : Int} (ha : 1 ≤ a ∧ a ≤ m.ats.length) (hb : 1 ≤ b ∧ b ≤ m.ats.length) (hc : 1 ≤ c ∧ c ≤ m.ats.length) (h1 : befB m a b = true) (h2 : befB m b c = true) : befB m a c = true := by
  have q1 := (befB_in ha hb).1 h1
  have q2 := (befB_in hb hc).1 h2
  have := good_lt g hb q2.1
  exact (befB_in ha hc).2 ⟨q1.1, by omega⟩
theorem bef_cross {m : TabM} {a b c d : Int} (ha : 1 ≤ a ∧ a ≤ m.ats.length) (hb : 1 ≤ b ∧ b ≤ m.ats.length) (hc : 1 ≤ c ∧ c ≤ m.ats.length) (hd : 1 ≤ d ∧ d ≤ m.ats.length) (h1 : befB m a b = true) (h2 : befB m c d = true) (h3 : befB m a d = false) : befB m c b = true := by
  have q1 := (befB_in ha hb).1 h1
  have q2 := (befB_in hc hd).1 h2
  have q3 : ¬ (0 ≤ rpOf m a ∧ rpOf m a < atOf m d) := fun w => by rw [(befB_in ha hd).2 w] at h3; cases h3
  exact (befB_in hc hb).2 ⟨q2.1, by omega⟩
/-- Which events are a call's, and its reply's. -/
theorem ev_reply {m : TabM} (g : m.good) {k : Int} (hk : 1 ≤ k ∧ k ≤ m.ats.length) {i : Nat} {x : EvM} (hx : m.evs[i]? = some x) : (x.call = k ∧ x.reply = true) ↔ rpOf m k = i := by
  constructor
  · rintro ⟨rfl, h⟩
    have := (g.reply i x hx h).2
    rw [rpOf_get g hk.2 hk.1] at this
    exact Option.some.inj this
  · intro h
    obtain ⟨⟨y, h1, h2, h3⟩, _⟩ := g.rps _ _ (rpOf_get g hk.2 hk.1) (by omega)
    rw [h] at h1
    have e : ((i : Int)).toNat = i := by omega
    rw [e, hx] at h1
    cases h1
    exact ⟨by omega, h2⟩
theorem ev_call {m : TabM} (g : m.good) {k : Int} (hk : 1 ≤ k ∧ k ≤ m.ats.length) {i : Nat} {x : EvM} (hx : m.evs[i]? = some x) : (x.call = k ∧ x.reply = false) ↔ atOf m k = i := by
  constructor
  · rintro ⟨rfl, h⟩
    have := (g.call i x hx h).2
    rw [atOf_get hk.2 hk.1] at this
    exact Option.some.inj this
  · intro h
    obtain ⟨_, y, h1, h2, h3⟩ := g.ats _ _ (atOf_get hk.2 hk.1)
    rw [h] at h1
    have e : ((i : Int)).toNat = i := by omega
    rw [e, hx] at h1
    cases h1
    exact ⟨by omega, h2⟩
theorem at_range {m : TabM} (g : m.good) {k : Int} (hk : 1 ≤ k ∧ k ≤ m.ats.length) : 0 ≤ atOf m k ∧ atOf m k < m.evs.length := by
  obtain ⟨h0, y, h1, _⟩ := g.ats _ _ (atOf_get hk.2 hk.1)
  have := (List.getElem?_eq_some_iff.1 h1).1
  omega
theorem rp_range {m : TabM} (g : m.good) {k : Int} (hk : 1 ≤ k ∧ k ≤ m.ats.length) : rpOf m k < m.evs.length := by
  by_cases h : 0 ≤ rpOf m k
  · obtain ⟨⟨y, h1, _⟩, _⟩ := g.rps _ _ (rpOf_get g hk.2 hk.1) h
    have := (List.getElem?_eq_some_iff.1 h1).1
    omega
  · omega
theorem ev_at {out : List (EvM × Option Addr × Nat)} {evs : List EvM} (h : out.map Prod.fst = evs) {i : Nat} {x : EvM × Option Addr × Nat} (hx : out[i]? = some x) : evs[i]? = some x.1 := by
  rw [← h, List.getElem?_map, hx]; rfl
end C36
