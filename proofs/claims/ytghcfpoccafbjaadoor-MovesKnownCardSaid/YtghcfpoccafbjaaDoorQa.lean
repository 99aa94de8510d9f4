/- Open moves share no names, in plain terms. -/
import Derived.Test.YtghcfpoccafbjaaDoorNc
import Derived.KernelRfl
open Go Go.AM Go.Proofs
namespace C32
theorem mxS_comm (a b : ByteArray) : mxS a b = mxS b a := by
  rw [mxS_eq, mxS_eq]
  cases h : sl a b <;> cases h2 : sl b a
  · simp [sl_total h h2]
  · simp
  · simp
  · rw [sl_asymm h] at h2; cases h2
theorem endS_comm (a b : ByteArray) : endS a b = endS b a := by
  unfold endS
  by_cases h1 : a = .empty <;> by_cases h2 : b = .empty
  · simp [h1, h2]
  · simp [h1, h2]
  · simp [h1, h2]
  · simp only [h1, h2, if_false]
    cases h : sl a b <;> cases h3 : sl b a
    · simp [sl_total h h3]
    · simp
    · simp
    · rw [sl_asymm h] at h3; cases h3
theorem share_comm (a0 a1 b0 b1 : ByteArray) : (rmeet a0 a1 b0 b1).2.2.1 = (rmeet b0 b1 a0 a1).2.2.1 := by
  rw [← smeetV_eq, ← smeetV_eq]
  unfold smeetV sboth
  rw [mxS_comm a0 b0, endS_comm a1 b1]
  rcases rchk_02 a0 a1 with h1 | h1 <;> rcases rchk_02 b0 b1 with h2 | h2 <;> rcases rchk_02 (mxS b0 a0) (endS b1 a1) with h3 | h3 <;> simp [h1, h2, h3]
theorem meet_fine {a0 a1 b0 b1 : ByteArray} (h1 : rchk a0 a1 = 0) (h2 : rchk b0 b1 = 0) : (rmeet a0 a1 b0 b1).2.2.2 = 0 := by
  rw [← smeetV_eq]
  unfold smeetV sboth
  rcases rchk_02 (mxS a0 b0) (endS a1 b1) with h3 | h3 <;> simp [h1, h2, h3]
theorem has_of {r0 r1 k : ByteArray} (h : rhas r0 r1 k = true) : rchk r0 r1 = 0 ∧ nameB k = true ∧ sl k r0 = false ∧ (r1 = .empty ∨ sl k r1 = true) := by
  rw [← shasB_eq] at h
  unfold shasB at h
  rcases rchk_02 r0 r1 with h1 | h1
  · cases h2 : nameB k with
    | false => simp [h1, h2] at h
    | true => cases h3 : sl k r0 with
      | true => simp [h1, h2, h3] at h
      | false =>
        by_cases h4 : r1 = .empty
        · exact ⟨h1, rfl, rfl, .inl h4⟩
        · cases h5 : sl k r1 with
          | true => exact ⟨h1, rfl, rfl, .inr rfl⟩
          | false => simp [h1, h2, h3, h4, h5] at h
  · simp [h1] at h
theorem rchk_of {a b : ByteArray} (h : rchk a b = 0) : (a = .empty ∨ nameB a = true) ∧ (b = .empty ∨ (nameB b = true ∧ sl a b = true)) := by
  unfold rchk at h
  by_cases h1 : a = .empty <;> by_cases h2 : b = .empty <;> cases h3 : nameB a <;> cases h4 : nameB b <;> cases h5 : sl a b <;> simp_all
theorem rchk_mk {a b : ByteArray} (h1 : a = .empty ∨ nameB a = true) (h2 : b = .empty ∨ (nameB b = true ∧ sl a b = true)) : rchk a b = 0 := by
  unfold rchk
  rcases h1 with h1 | h1 <;> rcases h2 with h2 | ⟨h2, h3⟩ <;> by_cases e1 : a = .empty <;> by_cases e2 : b = .empty <;> simp_all
theorem has_share {a0 a1 b0 b1 k : ByteArray} (h1 : rhas a0 a1 k = true) (h2 : rhas b0 b1 k = true) : (rmeet a0 a1 b0 b1).2.2.1 = true := by
  obtain ⟨c1, n1, s1, e1⟩ := has_of h1
  obtain ⟨c2, n2, s2, e2⟩ := has_of h2
  have hc : rchk (mxS a0 b0) (endS a1 b1) = 0 := by
    have q1 := rchk_of c1
    have q2 := rchk_of c2
    have sm : sl k (mxS a0 b0) = false := by rw [mxS_eq]; split <;> assumption
    apply rchk_mk
    · rw [mxS_eq]; split
      · exact q2.1
      · exact q1.1
    · by_cases he : endS a1 b1 = .empty
      · exact .inl he
      · right
        have hm : (nameB (endS a1 b1) = true ∧ sl k (endS a1 b1) = true) := by
          unfold endS at he ⊢
          by_cases g1 : a1 = .empty
          · simp only [g1, if_true] at he ⊢
            exact ⟨(q2.2.resolve_left he).1, e2.resolve_left he⟩
          · simp only [g1, if_false] at he ⊢
            by_cases g2 : b1 = .empty
            · simp only [g2, if_true] at he ⊢
              exact ⟨(q1.2.resolve_left he).1, e1.resolve_left he⟩
            · simp only [g2, if_false] at he ⊢
              cases g3 : sl b1 a1 with
              | true => simp only [if_true]; exact ⟨(q2.2.resolve_left g2).1, e2.resolve_left g2⟩
              | false => simp only [Bool.false_eq_true, if_false]; exact ⟨(q1.2.resolve_left g1).1, e1.resolve_left g1⟩
        exact ⟨hm.1, sl_le_trans sm hm.2⟩
  rw [← smeetV_eq]
  unfold smeetV sboth
  simp [c1, c2, hc]
/-- What holds of the moves of a table. -/
structure Inv (l : List MoveM) : Prop where
  ok : ∀ m ∈ l, rchk m.rf m.rt = 0 ∧ (m.st = 1 ∨ m.st = 2 ∨ m.st = 3) ∧ ¬ m.f = m.t ∧ (¬ m.st = 2 → m.d = .empty)
  ap : ∀ (i j : Nat) (a b : MoveM), i < j → l[i]? = some a → l[j]? = some b → ¬ a.st = 3 → ¬ b.st = 3 → (rmeet a.rf a.rt b.rf b.rt).2.2.1 = false
theorem set_at {α : Type} {hs : List α} {k j : Nat} {y x : α} (h : (hs.set k y)[j]? = some x) : (j = k ∧ x = y) ∨ (¬ j = k ∧ hs[j]? = some x) := by
  rw [List.getElem?_set] at h
  split at h
  · rename_i e; subst e
    split at h
    · cases h; exact .inl ⟨rfl, rfl⟩
    · cases h
  · rename_i e; exact .inr ⟨fun w => e w.symm, h⟩
theorem inv_nil : Inv [] := ⟨fun m h => (by cases h), fun i j a b _ h => (by simp at h)⟩
theorem any_false {α : Type} {l : List α} {F : α → Bool} (h : l.any F = false) {x : α} (hx : x ∈ l) : F x = false := by
  cases hf : F x with
  | false => rfl
  | true => rw [List.any_eq_true.2 ⟨x, hx, hf⟩] at h; cases h
theorem inv_start {l : List MoveM} (I : Inv l) (r0 r1 : ByteArray) (f t : Int) : Inv (startL l r0 r1 f t) := by
  unfold startL
  split
  · rename_i e
    unfold startE at e
    split at e
    · rename_i g
      split at e
      · cases e
      · rename_i hs
        have hs' : shareB l r0 r1 = false := by cases q : shareB l r0 r1 with
          | false => rfl
          | true => exact absurd q hs
        refine ⟨fun m hm => ?_, fun i j a b hij ha hb h1 h2 => ?_⟩
        · rcases List.mem_append.1 hm with hm | hm
          · exact I.ok m hm
          · rw [List.mem_singleton.1 hm]; exact ⟨g.1, .inl rfl, g.2.2.2, fun _ => rfl⟩
        · have hj := (List.getElem?_eq_some_iff.1 hb).1
          simp only [List.length_append, List.length_singleton] at hj
          rw [List.getElem?_append_left (by omega)] at ha
          by_cases c : j < l.length
          · rw [List.getElem?_append_left c] at hb; exact I.ap i j a b hij ha hb h1 h2
          · have ej : j = l.length := by omega
            subst ej
            simp at hb
            subst hb
            exact any_false (x := ((i : Int) + 1, a)) hs' (mem_opn (by omega) ha h1)
    · cases e
  · exact I
theorem inv_set {l : List MoveM} (I : Inv l) {j : Nat} {m x : MoveM} (hm : l[j]? = some m) (hr : x.rf = m.rf ∧ x.rt = m.rt ∧ x.f = m.f ∧ x.t = m.t) (hst : x.st = 2 ∨ (x.st = 3 ∧ x.d = .empty)) (ho : ¬ x.st = 3 → ¬ m.st = 3) : Inv (l.set j x) := by
  have hmem := List.mem_of_getElem? hm
  obtain ⟨r1, r2, r3, r4⟩ := hr
  refine ⟨fun y hy => ?_, fun i k a b hik ha hb h1 h2 => ?_⟩
  · rcases List.mem_or_eq_of_mem_set hy with hy | rfl
    · exact I.ok y hy
    · obtain ⟨q1, q2, q3, q4⟩ := I.ok m hmem
      rw [r1, r2, r3, r4]
      refine ⟨q1, by omega, q3, fun w => ?_⟩
      rcases hst with h | h
      · exact absurd h w
      · exact h.2
  · rcases set_at ha with ⟨e1, e2⟩ | ⟨e1, e2⟩ <;> rcases set_at hb with ⟨e3, e4⟩ | ⟨e3, e4⟩
    · omega
    · subst e2; subst e1; rw [r1, r2]; exact I.ap _ _ _ _ hik hm e4 (ho h1) h2
    · subst e4; subst e3; rw [r1, r2]; exact I.ap _ _ _ _ hik e2 hm h1 (ho h2)
    · exact I.ap _ _ _ _ hik e2 e4 h1 h2
theorem find_at {l : List MoveM} {n : Int} (h : findE l n = 0) : ∃ j : Nat, n = (j : Int) + 1 ∧ l[j]? = some (getM l n) := by
  obtain ⟨h1, h2⟩ := findE_zero h
  have hj : (n - 1).toNat < l.length := by omega
  refine ⟨(n - 1).toNat, by omega, ?_⟩
  rw [getM_at (List.getElem?_eq_getElem hj) (by omega)]
  exact List.getElem?_eq_getElem hj
theorem given_st {l : List MoveM} {n : Int} {d : ByteArray} (h : givenE l n d = 0) : (getM l n).st = 1 := by
  unfold givenE at h; split at h
  · split at h
    · cases h
    · split at h
      · assumption
      · cases h
  · cases h
theorem taken_st {l : List MoveM} {n : Int} (h : takenE l n = 0) : (getM l n).st = 2 := by
  unfold takenE at h; split at h
  · split at h
    · assumption
    · cases h
  · cases h
theorem inv_given {l : List MoveM} (I : Inv l) (n : Int) (d : ByteArray) : Inv (givenL l n d) := by
  unfold givenL; split
  · rename_i e
    obtain ⟨j, e1, e2⟩ := find_at (givenE_find e)
    rw [show (n - 1).toNat = j by omega]
    exact inv_set I e2 ⟨rfl, rfl, rfl, rfl⟩ (.inl rfl) fun _ => by have := given_st e; omega
  · exact I
theorem inv_taken {l : List MoveM} (I : Inv l) (n : Int) : Inv (takenL l n) := by
  unfold takenL; split
  · rename_i e
    obtain ⟨j, e1, e2⟩ := find_at (takenE_find e)
    rw [show (n - 1).toNat = j by omega]
    exact inv_set I e2 ⟨rfl, rfl, rfl, rfl⟩ (.inr ⟨rfl, rfl⟩) fun w => absurd rfl w
  · exact I
theorem inv_step {l : List MoveM} (I : Inv l) (s : StepA) : Inv (stepM l s) := by
  unfold stepM; split
  · exact inv_start I _ _ _ _
  · split
    · exact inv_given I _ _
    · split
      · exact inv_taken I _
      · exact I
theorem inv_fill (xs : List StepA) : Inv (fillM xs) := fold_inv (J := Inv) (f := stepM) (fun _ s h => inv_step h s) xs [] inv_nil
theorem opn_pair {l : List MoveM} {R : MoveM → MoveM → Prop} (h : ∀ (i j : Nat) (a b : MoveM), i < j → l[i]? = some a → l[j]? = some b → ¬ a.st = 3 → ¬ b.st = 3 → R a b) : ∀ k, List.Pairwise (fun (y z : Int × MoveM) => y.1 < z.1 ∧ R y.2 z.2) (opn l k)
  | 0 => List.Pairwise.nil
  | k + 1 => by
    simp only [opn]
    rw [List.pairwise_append]
    refine ⟨opn_pair h k, ?_, fun y hy z hz => ?_⟩
    · split
      · split
        · exact List.Pairwise.nil
        · exact List.pairwise_singleton _ _
      · exact List.Pairwise.nil
    · split at hz
      · rename_i m hm
        split at hz
        · cases hz
        · rename_i c
          rw [List.mem_singleton.1 hz]
          obtain ⟨j, hj, q1, q2, q3⟩ := opn_mem hy
          exact ⟨by simp only; omega, h j k _ _ hj q1 hm q3 c⟩
      · cases hz
/-- The open moves, by their places. -/
theorem open_get {l : List MoveM} {i : Nat} {n : Int} (h : (openL l)[i]? = some n) : (1 ≤ n ∧ n ≤ (l.length : Nat)) ∧ findE l n = 0 ∧ ¬ (getM l n).st = 3 ∧ getM l n ∈ l ∧ (opn l l.length)[i]? = some (n, getM l n) := by
  unfold openL at h
  rw [List.getElem?_map] at h
  cases hy : (opn l l.length)[i]? with
  | none => rw [hy] at h; cases h
  | some y =>
    rw [hy] at h
    simp only [Option.map_some, Option.some.injEq] at h
    subst h
    obtain ⟨j, hj, q1, q2, q3⟩ := opn_mem (List.mem_of_getElem? hy)
    have g := getM_at q1 q2
    rw [g]
    exact ⟨by omega, findE_at (by omega) (by omega), q3, List.mem_of_getElem? q1, rfl⟩
theorem open_apart {l : List MoveM} (I : Inv l) {i j : Nat} {a b : Int} (ha : (openL l)[i]? = some a) (hb : (openL l)[j]? = some b) (hij : j < i) :
    b < a ∧ (rmeet (getM l a).rf (getM l a).rt (getM l b).rf (getM l b).rt).2.2.1 = false ∧ (rmeet (getM l a).rf (getM l a).rt (getM l b).rf (getM l b).rt).2.2.2 = 0 := by
  obtain ⟨_, _, _, m1, p1⟩ := open_get ha
  obtain ⟨_, _, _, m2, p2⟩ := open_get hb
  have := List.pairwise_iff_getElem.1 (opn_pair I.ap l.length)
  obtain ⟨l1, e1⟩ := List.getElem?_eq_some_iff.1 p1
  obtain ⟨l2, e2⟩ := List.getElem?_eq_some_iff.1 p2
  have q := this j i l2 l1 hij
  rw [e1, e2] at q
  exact ⟨q.1, by rw [share_comm]; exact q.2, meet_fine (I.ok _ m1).1 (I.ok _ m2).1⟩
theorem cnt_one {α : Type} {F : α → Bool} : ∀ (l : List α), List.Pairwise (fun a b => ¬ (F a = true ∧ F b = true)) l → l.countP F ≤ 1 ∧ (l.any F = true ↔ l.countP F = 1)
  | [], _ => ⟨Nat.zero_le _, by simp⟩
  | a :: l, h => by
    rw [List.pairwise_cons] at h
    obtain ⟨i1, i2⟩ := cnt_one l h.2
    cases ha : F a with
    | false => simp only [List.countP_cons, List.any_cons, ha, Bool.false_or, Bool.false_eq_true, if_false, Nat.add_zero]; exact ⟨i1, i2⟩
    | true =>
      have h0 : l.countP F = 0 := List.countP_eq_zero.2 fun b hb w => h.1 b hb ⟨ha, w⟩
      simp only [List.countP_cons, List.any_cons, ha, Bool.true_or, h0]; simp
/-- How many open moves have a key. -/
def hasN (l : List MoveM) (key : ByteArray) (k : Nat) : Int := ((((opn l l.length).take k).countP fun y => rhas y.2.rf y.2.rt key : Nat) : Int)
theorem hasN_next {l : List MoveM} {key : ByteArray} {k : Nat} {n : Int} (h : (openL l)[k]? = some n) : hasN l key (k + 1) = hasN l key k + if rhas (getM l n).rf (getM l n).rt key = true then 1 else 0 := by
  have p := (open_get h).2.2.2.2
  unfold hasN
  rw [take_next p, List.countP_append, List.countP_singleton]
  split <;> simp_all
theorem hasN_all {l : List MoveM} (I : Inv l) (key : ByteArray) : hasN l key (openL l).length ≤ 1 ∧ (busyB l key = true ↔ hasN l key (openL l).length = 1) := by
  have := cnt_one (F := fun y : Int × MoveM => rhas y.2.rf y.2.rt key) (opn l l.length) ((opn_pair I.ap l.length).imp fun {y z} q w => by have := has_share w.1 w.2; rw [q.2] at this; cases this)
  unfold hasN openL busyB
  rw [List.length_map, List.take_length]
  constructor
  · omega
  · rw [this.2]; omega
end C32
