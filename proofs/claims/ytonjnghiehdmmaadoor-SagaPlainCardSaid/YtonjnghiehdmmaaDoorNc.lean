/- A saga without disturbance, or with one refusal, in plain terms. -/
import Derived.Test.YtonjnghiehdmmaaDoorNa
import Derived.KernelRfl
open Go Go.AM Go.Proofs
namespace C28
/-- An effect. -/
structure EffM where
  sg : Int
  sp : Int
  ph : Int
def effc (x : EffM) : Array Value := #[.int .i64 x.sg, .int .i64 x.sp, .int .i64 x.ph]
theorem effc_size (x : EffM) : (effc x).size = 3 := rfl
/-- The effect that is wanted in a place. -/
def wantE (n k j : Int) : EffM := if k = n then (if j < n then ⟨0, j, 1⟩ else ⟨0, j - n, 3⟩) else (if j ≤ k then ⟨0, j, 1⟩ else ⟨0, 2 * k - j, 2⟩)
def WantI (n k : Int) (es : List EffM) : Prop := ∀ (i : Nat) (x : EffM), es[i]? = some x → x = wantE n k i
theorem WantI.nil (n k : Int) : WantI n k [] := fun i x h => by simp at h
theorem WantI.add {n k : Int} {es : List EffM} {x : EffM} (h : WantI n k es) (e : x = wantE n k es.length) : WantI n k (es ++ [x]) := fun i y hy => by
  rw [List.getElem?_append] at hy
  split at hy
  · exact h i y hy
  · rename_i hi
    have : i - es.length = 0 := by
      have := (List.getElem?_eq_some_iff.1 hy).1
      simp at this; omega
    rw [this] at hy
    simp only [List.getElem?_cons_zero, Option.some.injEq] at hy
    rw [← hy, e, show i = es.length by omega]
theorem WantI.fwd {n k i : Int} {es : List EffM} (h : WantI n k es) (hi : i = es.length) (hk : i ≤ k) (hn : i < n) : WantI n k (es ++ [⟨0, i, 1⟩]) := h.add (by
  unfold wantE; rw [← hi, if_pos hn, if_pos hk]; split <;> rfl)
theorem WantI.fre {n k i : Int} {es : List EffM} (h : WantI n k es) (hi : (es.length : Int) = n + i) (h0 : 0 ≤ i) (hk : k = n) : WantI n k (es ++ [⟨0, i, 3⟩]) := h.add (by
  unfold wantE; rw [if_pos hk, if_neg (by omega), hi, show n + i - n = i by omega])
theorem WantI.und {n k i : Int} {es : List EffM} (h : WantI n k es) (hi : (es.length : Int) = 2 * k - i) (h0 : i < k) (hk : k < n) : WantI n k (es ++ [⟨0, i, 2⟩]) := h.add (by
  unfold wantE; rw [if_neg (by omega), if_neg (by omega), hi, show 2 * k - (2 * k - i) = i by omega])
/-- The course of a saga without disturbance, or with one refusal. -/
def PlI (d : DefM) (k b i : Int) (s : SagaM) : Prop := chkS s = 0 ∧ s.d = ⟨d.name, d.rt, 0, d.xs⟩ ∧ s.cn = false ∧ 0 ≤ i ∧ 0 ≤ k ∧
    (k = d.xs.length → i ≤ 2 * (d.xs.length : Int) ∧ (i < d.xs.length → s.st = 1 ∧ s.ix = i) ∧ ((d.xs.length : Int) ≤ i → i < 2 * (d.xs.length : Int) → s.st = 2 ∧ s.ix = i - d.xs.length) ∧ (i = 2 * (d.xs.length : Int) → s.st = 4)) ∧
    (k < d.xs.length → i ≤ 2 * k + 1 ∧ (i ≤ k → s.st = 1 ∧ s.ix = i) ∧ (k < i → i ≤ 2 * k → s.st = 3 ∧ s.ix = 2 * k - i ∧ s.er = b) ∧ (i = 2 * k + 1 → s.st = 5 ∧ s.er = b))
theorem fwd_fine {s : SagaM} {now : Int} (h1 : s.st = 1) (hc : s.cn = false) (hd : s.d.dl = 0) : ¬ (nxtS s 0 now).st = 3 := by
  have hl : lateM s.tr s.bg s.d now = false := decide_eq_false (fun w => by have := w.2.1; omega)
  rw [nxtS_1 h1]
  unfold fwdS
  rw [amE_eq, hc, hl]
  simp only [show decide ((0 : Int) = 16 ∨ (0 : Int) = 17 ∨ (0 : Int) = 18) = false from rfl, Bool.false_eq_true, if_false, if_true]
  split <;> simp
theorem PlI.start {d : DefM} {k b : Int} {s : SagaM} (hk : 0 ≤ k ∧ k ≤ d.xs.length) (e : s = staS ⟨d.name, d.rt, 0, d.xs⟩ 0) (hz : chkS s = 0) : PlI d k b 0 s := by
  have hf := chk_facts hz
  subst e
  have hl : 1 ≤ d.xs.length := hf.1
  refine ⟨hz, rfl, rfl, by omega, hk.1, fun h => ⟨by omega, fun _ => ⟨rfl, rfl⟩, fun _ _ => by omega, fun _ => by omega⟩, fun h => ⟨by omega, fun _ => ⟨rfl, rfl⟩, fun _ _ => by omega, fun _ => by omega⟩⟩
theorem PlI.len {d : DefM} {k b i : Int} {s : SagaM} (h : PlI d k b i s) : s.d.xs.length = d.xs.length := by rw [h.2.1]
/-- Before the end, it is open. -/
theorem PlI.live {d : DefM} {k b i : Int} {s : SagaM} (h : PlI d k b i s) (hk : k ≤ d.xs.length) (hi : (k = d.xs.length → i < 2 * (d.xs.length : Int)) ∧ (k < d.xs.length → i < 2 * k + 1)) : s.st < 4 ∧ wantE d.xs.length k i = ⟨0, s.ix, phS s.st⟩ := by
  obtain ⟨_, _, _, h0, h1, g1, g2⟩ := h
  by_cases e : k = d.xs.length
  · have g := g1 e
    have hi := hi.1 e
    by_cases hn : i < d.xs.length
    · obtain ⟨w1, w2⟩ := g.2.1 hn
      refine ⟨by omega, ?_⟩
      unfold wantE; rw [if_pos e, if_pos hn, w1, w2]; rfl
    · obtain ⟨w1, w2⟩ := g.2.2.1 (by omega) hi
      refine ⟨by omega, ?_⟩
      unfold wantE; rw [if_pos e, if_neg hn, w1, w2]; rfl
  · have g := g2 (by omega)
    have hi := hi.2 (by omega)
    by_cases hn : i ≤ k
    · obtain ⟨w1, w2⟩ := g.2.1 hn
      refine ⟨by omega, ?_⟩
      unfold wantE; rw [if_neg e, if_pos hn, w1, w2]; rfl
    · obtain ⟨w1, w2, _⟩ := g.2.2.1 (by omega) (by omega)
      refine ⟨by omega, ?_⟩
      unfold wantE; rw [if_neg e, if_neg hn, w1, w2]; rfl
theorem PlI.el {d : DefM} {k b i : Int} {s : SagaM} {es : List EffM} {j : Nat} {x : EffM} (h : PlI d k b i s) (hW : WantI d.xs.length k es) (hx : es[j]? = some x) (hj : i = j) (hk : k ≤ d.xs.length) (hi : (k = d.xs.length → i < 2 * (d.xs.length : Int)) ∧ (k < d.xs.length → i < 2 * k + 1)) : 0 = x.sg ∧ s.ix = x.sp ∧ phS s.st = x.ph := by
  have := hW j x hx
  rw [← hj, (h.live hk hi).2] at this
  subst this
  exact ⟨rfl, rfl, rfl⟩
set_option maxHeartbeats 4000000 in
theorem PlI.next {d : DefM} {k b i r : Int} {s s2 : SagaM} (h : PlI d k b i s) (hk : k ≤ d.xs.length) (hb : 1 ≤ b ∧ b ≤ 15) (hi : (k = d.xs.length → i < 2 * (d.xs.length : Int)) ∧ (k < d.xs.length → i < 2 * k + 1)) (hr : (i = k ∧ k < d.xs.length → r = b) ∧ (¬ (i = k ∧ k < d.xs.length) → r = 0)) (e : s2 = nxtS s r i) : PlI d k b (i + 1) s2 := by
  have hl := h.live hk hi
  have hlen := h.len
  obtain ⟨hz, hd, hc, h0, h1, g1, g2⟩ := h
  have hr18 : 0 ≤ r ∧ r ≤ 18 := by omega
  have hz2 := nxt_ok (now := i) hz hr18 hl.1
  have hw := nxt_how (now := i) hz hr18 hl.1
  have hfine : s.st = 1 → r = 0 → ¬ s2.st = 3 := fun w1 w2 => by rw [e, w2]; exact fwd_fine w1 hc (by rw [hd])
  have hd2 : s2.d = ⟨d.name, d.rt, 0, d.xs⟩ := by rw [e, nxtS_d]; exact hd
  have hc2 : s2.cn = false := by rw [e, hw.1]; exact hc
  rw [← e] at hz2 hw
  obtain ⟨_, hw⟩ := hw
  rw [hlen] at hw
  have hl4 := hl.1
  clear hl hz
  by_cases ek : k = d.xs.length
  · have r0 : r = 0 := hr.2 (by omega)
    have g := g1 ek
    have hi := hi.1 ek
    clear g1 g2 hr
    refine ⟨hz2, hd2, hc2, by omega, h1, fun _ => ?_, fun w => by omega⟩
    by_cases hn : i < d.xs.length
    · have w := g.2.1 hn
      have hf := hfine w.1 r0
      clear g hfine
      rcases hw with hw | hw | hw | hw | hw | hw | hw | hw | hw | hw | hw | hw <;> first | omega | (refine ⟨by omega, fun _ => ?_, fun _ _ => ?_, fun _ => ?_⟩ <;> omega)
    · have w := g.2.2.1 (by omega) hi
      clear g hfine
      rcases hw with hw | hw | hw | hw | hw | hw | hw | hw | hw | hw | hw | hw <;> first | omega | (refine ⟨by omega, fun _ => ?_, fun _ _ => ?_, fun _ => ?_⟩ <;> omega)
  · have g := g2 (by omega)
    have hi := hi.2 (by omega)
    have hkn : k < d.xs.length := by omega
    clear g1 g2
    refine ⟨hz2, hd2, hc2, by omega, h1, fun w => absurd w ek, fun _ => ?_⟩
    by_cases hn : i ≤ k
    · have w := g.2.1 hn
      clear g
      by_cases hik : i = k
      · have rb : r = b := hr.1 ⟨hik, hkn⟩
        clear hr hfine
        rcases hw with hw | hw | hw | hw | hw | hw | hw | hw | hw | hw | hw | hw <;> first | omega | (refine ⟨by omega, fun _ => ?_, fun _ _ => ?_, fun _ => ?_⟩ <;> omega)
      · have r0 : r = 0 := hr.2 (by omega)
        have hf := hfine w.1 r0
        clear hr hfine
        rcases hw with hw | hw | hw | hw | hw | hw | hw | hw | hw | hw | hw | hw <;> first | omega | (refine ⟨by omega, fun _ => ?_, fun _ _ => ?_, fun _ => ?_⟩ <;> omega)
    · have w := g.2.2.1 (by omega) (by omega)
      have r0 : r = 0 := hr.2 (by omega)
      clear g hr hfine
      rcases hw with hw | hw | hw | hw | hw | hw | hw | hw | hw | hw | hw | hw <;> first | omega | (refine ⟨by omega, fun _ => ?_, fun _ _ => ?_, fun _ => ?_⟩ <;> omega)
/-- At the end. -/
theorem PlI.last {d : DefM} {k b i : Int} {s : SagaM} (h : PlI d k b i s) (hk : k ≤ d.xs.length) (hi : (k = d.xs.length → i = 2 * (d.xs.length : Int)) ∧ (k < d.xs.length → i = 2 * k + 1)) : (k = d.xs.length → s.st = 4 ∧ s.er = 0) ∧ (k < d.xs.length → s.st = 5 ∧ s.er = b) ∧ 4 ≤ s.st := by
  have hf := chk_facts h.1
  obtain ⟨hz, hd, hc, h0, h1, g1, g2⟩ := h
  have q1 : k = d.xs.length → s.st = 4 := fun w => (g1 w).2.2.2 (hi.1 w)
  have q2 : k < d.xs.length → s.st = 5 ∧ s.er = b := fun w => (g2 w).2.2.2 (hi.2 w)
  clear g1 g2 hi
  refine ⟨fun w => ⟨q1 w, ?_⟩, q2, ?_⟩
  · have := q1 w; clear q1 q2; omega
  · by_cases e : k = d.xs.length
    · have := q1 e; omega
    · have := q2 (by omega); omega
end C28
