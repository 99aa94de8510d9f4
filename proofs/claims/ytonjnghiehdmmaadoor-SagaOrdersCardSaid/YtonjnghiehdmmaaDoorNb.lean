/- The effects of a saga are in a legal order, in plain terms. -/
import Derived.Test.YtonjnghiehdmmaaDoorNa
import Derived.KernelRfl
open Go Go.AM Go.Proofs
namespace C28
theorem phS_facts (x : Int) : (x = 1 → phS x = 1) ∧ (x = 2 → phS x = 3) ∧ (x = 3 → phS x = 2) := by
  refine ⟨fun e => ?_, fun e => ?_, fun e => ?_⟩ <;> subst e <;> rfl
theorem canE_facts {s : SagaM} (hz : chkS s = 0) : (s.st = 1 → canE s = 0) ∧ (¬ s.st = 1 → canE s = 9) := by
  unfold canE
  rw [if_pos hz]
  exact ⟨fun h => if_pos h, fun h => if_neg h⟩
/-- The effects that were done fit to the saga. -/
def OrdI (n : Nat) (k t dn fr bk : Int) (s : SagaM) : Prop := chkS s = 0 ∧ s.d.xs.length = n ∧ (0 ≤ k ∧ 0 ≤ t ∧ t ≤ 65535 + 255 * k ∧ -1 ≤ bk ∧ bk ≤ 8 ∧ 0 ≤ dn ∧ dn ≤ n ∧ 0 ≤ fr ∧ fr ≤ n) ∧
    (s.st = 1 → bk = -1 ∧ fr = 0 ∧ dn = s.ix) ∧ (s.st = 2 → bk = -1 ∧ dn = n ∧ fr = s.ix) ∧ (s.st = 3 → fr = 0 ∧ (bk = -1 ∧ (s.ix = dn ∨ s.ix = dn - 1) ∨ bk = s.ix)) ∧ (s.st = 4 → dn = n ∧ fr = n) ∧ (s.st = 5 → dn = 0 ∧ fr = 0)
theorem OrdI.start {d : DefM} {x : Int} {s : SagaM} (hx : 0 ≤ x ∧ x ≤ 65535) (e : s = staS d x) (hz : chkS s = 0) : OrdI d.xs.length 0 x 0 0 (-1) s := by
  subst e
  refine ⟨hz, rfl, by omega, fun _ => ⟨rfl, rfl, rfl⟩, fun w => ?_, fun w => ?_, fun w => ?_, fun w => ?_⟩ <;> simp [staS] at w
theorem OrdI.can {n : Nat} {k t dn fr bk : Int} {s s2 : SagaM} (h : OrdI n k t dn fr bk s) (e : s2 = canS s) (hz : chkS s2 = 0) : OrdI n k t dn fr bk s2 := by
  subst e; exact ⟨hz, h.2⟩
theorem OrdI.later {n : Nat} {k t dn fr bk a : Int} {s : SagaM} (h : OrdI n k t dn fr bk s) (ha : 0 ≤ a ∧ a ≤ 255) : OrdI n k t dn fr bk s := h
/-- What an effect with a result turns. -/
def OrdS (st ix r dn fr bk dn' fr' bk' : Int) : Prop := (r = 0 → (st = 1 → dn' = dn + 1 ∧ fr' = fr ∧ bk' = bk) ∧ (st = 2 → dn' = dn ∧ fr' = fr + 1 ∧ bk' = bk) ∧ (st = 3 → dn' = ix ∧ fr' = fr ∧ (ix = 0 → bk' = 0) ∧ (¬ ix = 0 → bk' = ix - 1))) ∧
    (¬ r = 0 → dn' = dn ∧ fr' = fr ∧ (st < 3 → bk' = bk) ∧ (st = 3 → bk' = ix))
theorem OrdI.small {n : Nat} {k t dn fr bk : Int} {s : SagaM} (h : OrdI n k t dn fr bk s) : (1 ≤ n ∧ n ≤ 8 ∧ s.d.xs.length = n ∧ 0 ≤ k ∧ 0 ≤ t ∧ t ≤ 65535 + 255 * k ∧ -1 ≤ bk ∧ bk ≤ 8 ∧ 0 ≤ dn ∧ dn ≤ n ∧ 0 ≤ fr ∧ fr ≤ n) ∧ 1 ≤ s.st ∧ s.st ≤ 5 ∧ 0 ≤ s.ix ∧ s.ix ≤ 8 := by
  have hf := chk_facts h.1
  have h1 := h.2.1
  have h2 := h.2.2.1
  clear h
  omega
theorem OrdI.facts {n : Nat} {k t dn fr bk : Int} {s : SagaM} (h : OrdI n k t dn fr bk s) : (s.st = 1 → bk = -1 ∧ fr = 0 ∧ dn = s.ix) ∧ (s.st = 2 → bk = -1 ∧ dn = n ∧ fr = s.ix) ∧ (s.st = 3 → fr = 0 ∧ (bk = -1 ∧ (s.ix = dn ∨ s.ix = dn - 1) ∨ bk = s.ix)) ∧ (s.st = 4 → dn = n ∧ fr = n) ∧ (s.st = 5 → dn = 0 ∧ fr = 0) := h.2.2.2
set_option maxHeartbeats 4000000 in
theorem OrdI.next {n : Nat} {k t dn fr bk r a dn' fr' bk' : Int} {s s2 : SagaM} (h : OrdI n k t dn fr bk s) (hr : 0 ≤ r ∧ r ≤ 18) (h4 : s.st < 4) (ha : 0 ≤ a ∧ a ≤ 255) (hs : OrdS s.st s.ix r dn fr bk dn' fr' bk') (e : s2 = nxtS s r (t + a)) : OrdI n (k + 1) (t + a) dn' fr' bk' s2 := by
  obtain ⟨hz, hl, hb, g1, g2, g3, _, _⟩ := h
  have hz2 := nxt_ok (now := t + a) hz hr h4
  have hw := (nxt_how (now := t + a) hz hr h4).2
  have hl2 : s2.d.xs.length = n := by rw [e, nxtS_d]; exact hl
  rw [← e] at hz2 hw
  have q := chk_facts hz
  have q1 : 0 ≤ s.ix := q.2.2.2.2.1
  have q2 : s.ix ≤ (s.d.xs.length : Nat) - 1 := q.2.2.2.2.2.1 h4
  have q3 : (s.d.xs.length : Nat) ≤ 8 := q.2.1
  have q4 : 1 ≤ s.st := q.2.2.1
  clear q hz hr
  have key : (-1 ≤ bk' ∧ bk' ≤ 8 ∧ 0 ≤ dn' ∧ dn' ≤ n ∧ 0 ≤ fr' ∧ fr' ≤ n) ∧
    (s2.st = 1 → bk' = -1 ∧ fr' = 0 ∧ dn' = s2.ix) ∧ (s2.st = 2 → bk' = -1 ∧ dn' = n ∧ fr' = s2.ix) ∧ (s2.st = 3 → fr' = 0 ∧ (bk' = -1 ∧ (s2.ix = dn' ∨ s2.ix = dn' - 1) ∨ bk' = s2.ix)) ∧ (s2.st = 4 → dn' = n ∧ fr' = n) ∧ (s2.st = 5 → dn' = 0 ∧ fr' = 0) := by
    rcases (show s.st = 1 ∨ s.st = 2 ∨ s.st = 3 by omega) with es | es | es
    · have g := g1 es
      clear g1 g2 g3
      by_cases h0 : r = 0
      · have w := (hs.1 h0).1 es
        clear hs
        rcases hw with hw | hw | hw | hw | hw | hw | hw | hw | hw | hw | hw | hw <;> first | omega | (refine ⟨by omega, fun _ => ?_, fun _ => ?_, fun _ => ?_, fun _ => ?_, fun _ => ?_⟩ <;> omega)
      · have w := hs.2 h0
        have w1 := w.2.2.1 (by omega)
        have w2 : dn' = dn ∧ fr' = fr := ⟨w.1, w.2.1⟩
        clear hs w
        rcases hw with hw | hw | hw | hw | hw | hw | hw | hw | hw | hw | hw | hw <;> first | omega | (refine ⟨by omega, fun _ => ?_, fun _ => ?_, fun _ => ?_, fun _ => ?_, fun _ => ?_⟩ <;> omega)
    · have g := g2 es
      clear g1 g2 g3
      by_cases h0 : r = 0
      · have w := (hs.1 h0).2.1 es
        clear hs
        rcases hw with hw | hw | hw | hw | hw | hw | hw | hw | hw | hw | hw | hw <;> first | omega | (refine ⟨by omega, fun _ => ?_, fun _ => ?_, fun _ => ?_, fun _ => ?_, fun _ => ?_⟩ <;> omega)
      · have w := hs.2 h0
        have w1 := w.2.2.1 (by omega)
        have w2 : dn' = dn ∧ fr' = fr := ⟨w.1, w.2.1⟩
        clear hs w
        rcases hw with hw | hw | hw | hw | hw | hw | hw | hw | hw | hw | hw | hw <;> first | omega | (refine ⟨by omega, fun _ => ?_, fun _ => ?_, fun _ => ?_, fun _ => ?_, fun _ => ?_⟩ <;> omega)
    · have g := g3 es
      clear g1 g2 g3
      by_cases h0 : r = 0
      · have w := (hs.1 h0).2.2 es
        clear hs
        rcases hw with hw | hw | hw | hw | hw | hw | hw | hw | hw | hw | hw | hw <;> first | omega | (refine ⟨by omega, fun _ => ?_, fun _ => ?_, fun _ => ?_, fun _ => ?_, fun _ => ?_⟩ <;> omega)
      · have w := hs.2 h0
        have w1 := w.2.2.2 es
        have w2 : dn' = dn ∧ fr' = fr := ⟨w.1, w.2.1⟩
        clear hs w
        rcases hw with hw | hw | hw | hw | hw | hw | hw | hw | hw | hw | hw | hw <;> first | omega | (refine ⟨by omega, fun _ => ?_, fun _ => ?_, fun _ => ?_, fun _ => ?_, fun _ => ?_⟩ <;> omega)
  exact ⟨hz2, hl2, by omega, key.2⟩
section
variable {n : Nat} {k t dn fr bk : Int} {s : SagaM}
theorem OrdI.f1 (h : OrdI n k t dn fr bk s) (h4 : s.st < 4) (c : phS s.st = 1) : s.st = 1 ∧ bk = -1 ∧ fr = 0 ∧ dn = s.ix := by
  have hp := phS_facts s.st
  have hf := chk_facts h.1
  have e : s.st = 1 := by
    rcases (show s.st = 1 ∨ s.st = 2 ∨ s.st = 3 by omega) with e | e | e <;> omega
  exact ⟨e, h.facts.1 e⟩
theorem OrdI.f2 (h : OrdI n k t dn fr bk s) (h4 : s.st < 4) (c : phS s.st = 3) : s.st = 2 ∧ bk = -1 ∧ dn = n ∧ fr = s.ix := by
  have hp := phS_facts s.st
  have hf := chk_facts h.1
  have e : s.st = 2 := by
    rcases (show s.st = 1 ∨ s.st = 2 ∨ s.st = 3 by omega) with e | e | e <;> omega
  exact ⟨e, h.facts.2.1 e⟩
theorem OrdI.f2c (h : OrdI n k t dn fr bk s) (h4 : s.st < 4) (c : phS s.st = 3) : cnI s.cn = 0 := by
  have e := (h.f2 h4 c).1
  have hf := (chk_facts h.1).2.2.2.2.2.2.2.1
  have := (cnI_01 s.cn).2.2
  omega
theorem OrdI.f3 (h : OrdI n k t dn fr bk s) (h4 : s.st < 4) (c : phS s.st = 2) : s.st = 3 ∧ fr = 0 ∧ (bk = -1 ∧ (s.ix = dn ∨ s.ix = dn - 1) ∨ bk = s.ix) := by
  have hp := phS_facts s.st
  have hf := chk_facts h.1
  have e : s.st = 3 := by
    rcases (show s.st = 1 ∨ s.st = 2 ∨ s.st = 3 by omega) with e | e | e <;> omega
  exact ⟨e, h.facts.2.2.1 e⟩
theorem OrdI.f0 (h : OrdI n k t dn fr bk s) (h4 : s.st < 4) (c1 : ¬ phS s.st = 1) (c2 : ¬ phS s.st = 3) (c3 : ¬ phS s.st = 2) : False := by
  have hp := phS_facts s.st
  have hf := chk_facts h.1
  rcases (show s.st = 1 ∨ s.st = 2 ∨ s.st = 3 by omega) with e | e | e <;> omega
theorem OrdI.done (h : OrdI n k t dn fr bk s) (c : s.st = 4) : dn = n ∧ fr = n ∧ cnI s.cn = 0 ∧ s.er = 0 := by
  have hf := chk_facts h.1
  have hg := h.facts.2.2.2.1 c
  have := (cnI_01 s.cn).2.2
  refine ⟨hg.1, hg.2, by omega, by omega⟩
theorem OrdI.abrt (h : OrdI n k t dn fr bk s) (c : s.st = 5) : dn = 0 ∧ fr = 0 ∧ 1 ≤ s.er := by
  have hf := chk_facts h.1
  have hg := h.facts.2.2.2.2 c
  refine ⟨hg.1, hg.2, by omega⟩
end
end C28
