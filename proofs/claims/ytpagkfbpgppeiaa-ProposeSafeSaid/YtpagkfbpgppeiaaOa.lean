/- Rounds of votes, in plain terms: a chosen value is found out. -/
import Derived.Test.YtpagkfbpgppeiaaMp
import Derived.Test.YtpagkfbpgppeiaaMg
import Derived.KernelRfl
open Go Go.AM Go.Proofs
namespace C14
/-- What a node has accepted. -/
structure VoteM where
  rd : Int
  nd : Int
  v : ByteArray
def votec (x : VoteM) : Array Value := #[.int .i64 x.rd, .int .i64 x.nd, .string x.v]
theorem votec_size (x : VoteM) : (votec x).size = 3 := rfl
def noVote : VoteM := ⟨0, 0, .empty⟩
structure BalM where
  rd : Int
  nd : Int
def balc (x : BalM) : Array Value := #[.int .i64 x.rd, .int .i64 x.nd]
theorem balc_size (x : BalM) : (balc x).size = 2 := rfl
/-- How many numbers below n have a property. -/
def cntP (p : Nat → Bool) : Nat → Nat
  | 0 => 0
  | k + 1 => cntP p k + (p k).toNat
theorem cntP_mono {p q : Nat → Bool} : ∀ n, (∀ j, j < n → p j = true → q j = true) → cntP p n ≤ cntP q n
  | 0, _ => Nat.le_refl _
  | n + 1, h => by
    have h1 := cntP_mono n fun j hj => h j (by omega)
    have h2 := h n (by omega)
    simp only [cntP]
    cases hp : p n with
    | false => simp; omega
    | true => rw [h2 hp]; simp; omega
theorem cntP_apart {p q : Nat → Bool} : ∀ n, (∀ j, j < n → ¬ (p j = true ∧ q j = true)) → cntP p n + cntP q n ≤ n
  | 0, _ => by simp [cntP]
  | n + 1, h => by
    have h1 := cntP_apart n fun j hj => h j (by omega)
    have h2 := h n (by omega)
    simp only [cntP]
    cases hp : p n <;> cases hq : q n <;> simp_all <;> omega
theorem cntP_meet {p q : Nat → Bool} {n : Nat} (h : n < cntP p n + cntP q n) : ∃ j, j < n ∧ p j = true ∧ q j = true := by
  apply Classical.byContradiction
  intro w
  have := cntP_apart n fun j hj w2 => w ⟨j, hj, w2⟩
  omega
theorem cntP_one {p q : Nat → Bool} {k : Nat} (h1 : p k = false) (h2 : q k = true) : ∀ n, (∀ j, j < n → ¬ j = k → q j = p j) → cntP q n = cntP p n + if k < n then 1 else 0
  | 0, _ => rfl
  | n + 1, h => by
    have ih := cntP_one h1 h2 n fun j hj => h j (by omega)
    simp only [cntP, ih]
    by_cases e : n = k
    · subst e; rw [h1, h2, if_neg (by omega), if_pos (by omega)]; rfl
    · rw [h n (by omega) e]
      by_cases c : k < n
      · rw [if_pos c, if_pos (by omega)]; omega
      · rw [if_neg c, if_neg (by omega)]; omega
theorem cntP_none {p : Nat → Bool} : ∀ n, (∀ j, j < n → p j = false) → cntP p n = 0
  | 0, _ => rfl
  | n + 1, h => by simp only [cntP, cntP_none n fun j hj => h j (by omega), h n (by omega)]; rfl
/-- The bits of a number of eight bits, as they are reckoned. -/
def shrR (x k : Int) : Int := x.fdiv (2 ^ (min k.toNat IntKind.u8.bits))
def bitR (x k : Int) : Int := IntKind.u8.wrap (BitVec.ofInt 8 (shrR x k) &&& BitVec.ofInt 8 1).toNat
/-- What a node tells, and what a proposer has been told of the first k nodes. -/
def entS (hs : List VoteM) (k : Nat) : List EntM := match hs[k]? with
  | some x => if x.v.size = 0 then [] else [⟨0, x.rd, x.nd, x.v⟩]
  | none => []
def tellM (m : PropM) (hs : List VoteM) (b : Int) : Nat → PropM
  | 0 => m
  | k + 1 => if bitR b (k : Int) = 0 then tellM m hs b k else (tellM m hs b k).told k (entS hs k) 0
theorem tell_same (m : PropM) (hs : List VoteM) (b : Int) : ∀ k, (tellM m hs b k).n = m.n ∧ (tellM m hs b k).frm = m.frm ∧ (tellM m hs b k).rd = m.rd ∧ (tellM m hs b k).nd = m.nd
  | 0 => ⟨rfl, rfl, rfl, rfl⟩
  | k + 1 => by
    unfold tellM
    split
    · exact tell_same m hs b k
    · exact tell_same m hs b k
theorem tell_ps (m : PropM) (hs : List VoteM) (b : Int) (j : Nat) : ∀ k, (tellM m hs b k).ps j = if j < k ∧ ¬ bitR b (j : Int) = 0 then ⟨entS hs j, 0, true⟩ else m.ps j
  | 0 => by rw [if_neg (by omega)]; rfl
  | k + 1 => by
    have ih := tell_ps m hs b j k
    unfold tellM
    split
    · rename_i c
      rw [ih]
      by_cases e : j < k
      · by_cases d : bitR b (j : Int) = 0
        · rw [if_neg (fun w => w.2 d), if_neg (fun w => w.2 d)]
        · rw [if_pos ⟨e, d⟩, if_pos ⟨by omega, d⟩]
      · rw [if_neg (fun w => e w.1), if_neg]
        rintro ⟨w1, w2⟩
        have : j = k := by omega
        subst this; exact w2 c
    · rename_i c
      simp only [PropM.told]
      by_cases e : j = k
      · subst e; rw [if_pos rfl, if_pos ⟨by omega, c⟩]
      · rw [if_neg e, ih]
        by_cases d : j < k ∧ ¬ bitR b (j : Int) = 0
        · rw [if_pos d, if_pos ⟨by omega, d.2⟩]
        · rw [if_neg d, if_neg (fun w => d ⟨by omega, w.2⟩)]
def bitP (b : Int) (j : Nat) : Bool := decide (¬ bitR b (j : Int) = 0)
theorem tell_cnt {n rd nd : Int} {hs : List VoteM} {b : Int} : ∀ k, k ≤ 7 → cntM (tellM (newM n rd nd 0) hs b k) = cntP (bitP b) k
  | 0, _ => cnt_new n rd nd 0
  | k + 1, h => by
    have ih := tell_cnt (n := n) (rd := rd) (nd := nd) (hs := hs) (b := b) k (by omega)
    unfold tellM
    simp only [cntP]
    split
    · rename_i c; rw [ih, show bitP b k = false from decide_eq_false (fun w => w c)]; rfl
    · rename_i c
      rw [(told_code (by omega) (by rw [tell_ps, if_neg (fun w => absurd w.1 (by omega))]; rfl) _ _).2, ih, show bitP b k = true from decide_eq_true c]; rfl
/-- The votes of n nodes before round i + 1. -/
structure Votes (n i : Int) (hs : List VoteM) : Prop where
  len : (hs.length : Int) = n
  ok : ∀ (j : Nat) (x : VoteM), hs[j]? = some x → x.v.size = 0 ∨ (x.v.size = 2 ∧ 1 ≤ x.rd ∧ x.rd ≤ i ∧ 0 ≤ x.nd ∧ x.nd < n)
def geB (hs : List VoteM) (R : Int) (j : Nat) : Bool := match hs[j]? with
  | some x => decide (¬ x.v.size = 0 ∧ R ≤ x.rd)
  | none => false
theorem geB_some {hs : List VoteM} {R : Int} {j : Nat} {x : VoteM} (h : hs[j]? = some x) : geB hs R j = decide (¬ x.v.size = 0 ∧ R ≤ x.rd) := by simp only [geB, h]
theorem geB_true {hs : List VoteM} {R : Int} {j : Nat} (h : geB hs R j = true) : ∃ x, hs[j]? = some x ∧ ¬ x.v.size = 0 ∧ R ≤ x.rd := by
  unfold geB at h
  split at h
  · rename_i x hx; exact ⟨x, hx, of_decide_eq_true h⟩
  · cases h
/-- A value is chosen: from some round on all votes hold it, and more than half of the nodes have such a vote. -/
def Chosen (n i : Int) (hs : List VoteM) (ch : ByteArray) : Prop := ch.size = 0 ∨ ∃ R : Int, R ≤ i ∧ n < 2 * ((cntP (geB hs R) n.toNat : Nat) : Int) ∧ ∀ (j : Nat) (x : VoteM), hs[j]? = some x → ¬ x.v.size = 0 → R ≤ x.rd → x.v = ch
theorem chk_zero {rd nd n : Int} (hn : 1 ≤ n ∧ n ≤ 7) (h : 1 ≤ rd ∧ rd ≤ 1073741824 ∧ 0 ≤ nd ∧ nd < n) : chkB rd nd n = 0 := by
  unfold chkB; rw [if_neg (by omega), if_neg (by omega), if_neg (by omega)]
theorem new_fine {n i nd : Int} (hn : 1 ≤ n ∧ n ≤ 7) (hi : 0 ≤ i ∧ i ≤ 40) (hd : 0 ≤ nd ∧ nd < n) : newE n (i + 1) nd 0 = 0 := by
  unfold newE; rw [chk_zero hn (by omega), if_neg (by omega)]
theorem ent_cases {n i : Int} {hs : List VoteM} (V : Votes n i hs) (k : Nat) : entS hs k = [] ∨ ∃ x, hs[k]? = some x ∧ ¬ x.v.size = 0 ∧ entS hs k = [⟨0, x.rd, x.nd, x.v⟩] ∧ x.v.size = 2 ∧ 1 ≤ x.rd ∧ x.rd ≤ i ∧ 0 ≤ x.nd ∧ x.nd < n := by
  unfold entS
  split
  · rename_i x hx
    by_cases c : x.v.size = 0
    · rw [if_pos c]; exact .inl rfl
    · rw [if_neg c]
      rcases V.ok k x hx with q | q
      · exact absurd q c
      · exact .inr ⟨x, hx, c, rfl, q⟩
  · exact .inl rfl
theorem tell_add {n i nd b : Int} {hs : List VoteM} (hn : 1 ≤ n ∧ n ≤ 7) (hi : 0 ≤ i ∧ i ≤ 40) (V : Votes n i hs) {k : Int} (hk : 0 ≤ k ∧ k < n) : addE (tellM (newM n (i + 1) nd 0) hs b k.toNat) k (entS hs k.toNat) 0 = 0 := by
  obtain ⟨e1, e2, _, _⟩ := tell_same (newM n (i + 1) nd 0) hs b k.toNat
  have ha : allowB n 0 (entS hs k.toNat) = true ∧ longB (entS hs k.toNat) = false := by
    rcases ent_cases V k.toNat with e | ⟨x, _, _, e, e3, e4⟩
    · rw [e]; exact ⟨rfl, rfl⟩
    · rw [e]
      refine ⟨?_, ?_⟩
      · simp only [allowB, Bool.and_true, decide_eq_true_eq]
        exact ⟨by omega, by omega, by omega, chk_zero hn (by omega)⟩
      · simp only [longB, List.any_cons, List.any_nil, Bool.or_false, decide_eq_false_iff_not]; omega
  unfold addE
  rw [e1, e2, if_neg, if_neg (by rw [ha.2]; decide), if_neg (by rw [tell_ps, if_neg (fun w => absurd w.1 (by omega))]; exact Bool.false_ne_true)]
  rintro (w | w | w | w | w)
  · omega
  · have : (newM n (i + 1) nd 0).n = n := rfl
    omega
  · have : allowB n 0 (entS hs k.toNat) = false := w
    rw [ha.1] at this; cases this
  · omega
  · omega
theorem mem_entM {m : PropM} {j : Nat} {x : EntM} (hx : x ∈ (m.ps j).list) : ∀ k, j < k → x ∈ entM m k
  | 0, h => by omega
  | k + 1, h => by
    unfold entM
    by_cases e : j = k
    · subst e; exact List.mem_append.2 (.inr hx)
    · exact List.mem_append.2 (.inl (mem_entM hx k (by omega)))
theorem up_zero {m : PropM} (h : ∀ i, (m.ps i).upto = 0) : ∀ k, upM m k = 0
  | 0 => rfl
  | k + 1 => by simp only [upM, up_zero h k, h k]; rfl
theorem best_fold : ∀ (E : List EntM) (z : EntM), (∀ x ∈ E, x.slot = 0) → (E.foldl (pick 0) z = z ∨ E.foldl (pick 0) z ∈ E) ∧ z.rd ≤ (E.foldl (pick 0) z).rd ∧ ∀ x ∈ E, x.rd ≤ (E.foldl (pick 0) z).rd
  | [], z, _ => ⟨.inl rfl, Int.le_refl _, fun x hx => by cases hx⟩
  | y :: E, z, h => by
    have ih := best_fold E (pick 0 z y) fun x hx => h x (List.mem_cons_of_mem _ hx)
    have hy := h y (List.mem_cons_self ..)
    have hp : (pick 0 z y = z ∧ y.rd ≤ z.rd) ∨ (pick 0 z y = y ∧ z.rd ≤ y.rd) := by
      unfold pick
      by_cases c : 0 < ordB y.rd y.nd z.rd z.nd
      · rw [if_pos ⟨hy, c⟩]
        refine .inr ⟨rfl, ?_⟩
        apply Classical.byContradiction
        intro w
        rw [ordB_lt (by omega)] at c; omega
      · rw [if_neg (fun w => c w.2)]
        refine .inl ⟨rfl, ?_⟩
        apply Classical.byContradiction
        intro w
        rw [ordB_gt (by omega)] at c; omega
    simp only [List.foldl_cons]
    obtain ⟨i1, i2, i3⟩ := ih
    rcases hp with ⟨e, l⟩ | ⟨e, l⟩ <;> rw [e] at i1 i2 i3 ⊢
    · refine ⟨i1.imp id (List.mem_cons_of_mem _), i2, fun x hx => ?_⟩
      rcases List.mem_cons.1 hx with rfl | hx
      · omega
      · exact i3 x hx
    · refine ⟨.inr ?_, by omega, fun x hx => ?_⟩
      · rcases i1 with q | q
        · rw [q]; exact List.mem_cons_self ..
        · exact List.mem_cons_of_mem _ q
      · rcases List.mem_cons.1 hx with rfl | hx
        · exact i2
        · exact i3 x hx
/-- What a proposer that more than half of the nodes have told finds out. -/
theorem tell_vals {n i nd b : Int} {hs : List VoteM} {ch : ByteArray} {m : PropM} (hn : 1 ≤ n ∧ n ≤ 7) (V : Votes n i hs) (C : Chosen n i hs ch) (hm : m.ok) (em : m = tellM (newM n (i + 1) nd 0) hs b n.toNat) (hr : readyB m = true) :
    (valuesM m = [] ∧ ch.size = 0) ∨ ∃ v, valuesM m = [⟨0, i + 1, nd, v⟩] ∧ v.size = 2 ∧ (ch.size = 0 ∨ v = ch) := by
  obtain ⟨e1, e2, e3, e4⟩ := tell_same (newM n (i + 1) nd 0) hs b n.toNat
  rw [← em] at e1 e2 e3 e4
  have en : m.n = n := e1
  have er : m.rd = i + 1 := e3
  have ed : m.nd = nd := e4
  have hps : ∀ j, m.ps j = if j < n.toNat ∧ ¬ bitR b (j : Int) = 0 then ⟨entS hs j, 0, true⟩ else noTol := fun j => by rw [em, tell_ps]; rfl
  have hb0 : begM m = 0 := by
    have : upM m 7 = 0 := up_zero (fun j => by rw [hps]; split <;> rfl) 7
    have : m.frm = 0 := e2
    unfold begM; omega
  have hE : ∀ x ∈ entM m 7, x.slot = 0 ∧ x.val.size = 2 ∧ 1 ≤ x.rd ∧ ∃ (j : Nat) (y : VoteM), hs[j]? = some y ∧ ¬ y.v.size = 0 ∧ y.rd = x.rd ∧ y.v = x.val := by
    intro x hx
    obtain ⟨j, _, hj⟩ := entM_mem 7 x hx
    rw [hps] at hj
    split at hj
    · rcases ent_cases V j with e | ⟨y, y1, y2, e, y3, y4, _⟩
      · simp only [e] at hj; cases hj
      · simp only [e, List.mem_singleton] at hj
        subst hj
        exact ⟨rfl, y3, y4, j, y, y1, y2, rfl, rfl⟩
    · cases hj
  have hv : valuesM m = [] ∨ (∃ x, x ∈ entM m 7) := by
    cases hq : entM m 7 with
    | nil => left; unfold valuesM; rw [hq]; rfl
    | cons x r => right; exact ⟨x, List.mem_cons_self ..⟩
  -- the best of what was told
  have hbest : (∃ x, x ∈ entM m 7) → ∃ x ∈ entM m 7, valuesM m = [⟨0, i + 1, nd, x.val⟩] ∧ ∀ y ∈ entM m 7, y.rd ≤ x.rd := by
    rintro ⟨x0, hx0⟩
    obtain ⟨f1, f2, f3⟩ := best_fold (entM m 7) zeroEnt fun x hx => (hE x hx).1
    have hl : lenOf 0 (entM m 7) = 1 := by
      have a : lenOf 0 (entM m 7) ≤ 1 := lenOf_le fun x hx => by rw [(hE x hx).1]; decide
      have c := lenOf_ge (bg := 0) hx0
      rw [(hE x0 hx0).1] at c
      have : (0 - 0 + 1 : Int).toNat = 1 := by decide
      omega
    have hb : bestAt (entM m 7) 0 ∈ entM m 7 := by
      rcases f1 with q | q
      · exfalso
        have h1 := f3 x0 hx0
        rw [q] at h1
        have h2 := (hE x0 hx0).2.2.1
        have : zeroEnt.rd = 0 := rfl
        omega
      · exact q
    refine ⟨_, hb, ?_, f3⟩
    unfold valuesM
    rw [hb0, hl, er, ed]
    simp only [List.range_one, List.map_cons, List.map_nil]
    rfl
  by_cases hx : ∃ x, x ∈ entM m 7
  · obtain ⟨x, hx, e, hmax⟩ := hbest hx
    obtain ⟨_, s2, _, j, y, y1, y2, y3, y4⟩ := hE x hx
    refine .inr ⟨x.val, e, s2, ?_⟩
    rcases C with C | ⟨R, _, c2, c3⟩
    · exact .inl C
    · right
      have hcnt := ready_cnt hm
      rw [hr] at hcnt
      have hlt := of_decide_eq_true hcnt.symm
      rw [en] at hlt
      have hc : cntM m = cntP (bitP b) n.toNat := by rw [em]; exact tell_cnt n.toNat (by omega)
      rw [hc] at hlt
      obtain ⟨q, q1, q2, q3⟩ := cntP_meet (p := bitP b) (q := geB hs R) (n := n.toNat) (by omega)
      obtain ⟨z, z1, z2, z3⟩ := geB_true q3
      have q2' : ¬ bitR b (q : Int) = 0 := of_decide_eq_true q2
      have hin : (⟨0, z.rd, z.nd, z.v⟩ : EntM) ∈ entM m 7 := by
        refine mem_entM (j := q) ?_ 7 (by omega)
        rw [hps, if_pos ⟨q1, q2'⟩]
        simp only [entS, z1, if_neg z2, List.mem_singleton]
      have := hmax _ hin
      rw [← y4]
      exact c3 j y y1 y2 (by rw [y3]; simp only at this; omega)
  · refine .inl ⟨hv.resolve_right hx, ?_⟩
    rcases C with C | ⟨R, _, c2, c3⟩
    · exact C
    · exfalso
      have hcnt := ready_cnt hm
      rw [hr] at hcnt
      have hlt := of_decide_eq_true hcnt.symm
      rw [en] at hlt
      have hc : cntM m = cntP (bitP b) n.toNat := by rw [em]; exact tell_cnt n.toNat (by omega)
      rw [hc] at hlt
      obtain ⟨q, q1, q2, q3⟩ := cntP_meet (p := bitP b) (q := geB hs R) (n := n.toNat) (by omega)
      obtain ⟨z, z1, z2, z3⟩ := geB_true q3
      have q2' : ¬ bitR b (q : Int) = 0 := of_decide_eq_true q2
      refine hx ⟨(⟨0, z.rd, z.nd, z.v⟩ : EntM), mem_entM (j := q) ?_ 7 (by omega)⟩
      rw [hps, if_pos ⟨q1, q2'⟩]
      simp only [entS, z1, if_neg z2, List.mem_singleton]
/-- The votes while the nodes of a round accept: before node k. -/
structure Acc (n i nd : Int) (val : ByteArray) (hs : List VoteM) (k : Nat) : Prop where
  votes : Votes n (i + 1) hs
  new : ∀ (j : Nat) (x : VoteM), hs[j]? = some x → ¬ x.v.size = 0 → i + 1 ≤ x.rd → x = ⟨i + 1, nd, val⟩ ∧ j < k
theorem Acc.start {n i nd : Int} {val : ByteArray} {hs : List VoteM} (V : Votes n i hs) : Acc n i nd val hs 0 :=
  ⟨⟨V.len, fun j x hx => (V.ok j x hx).imp id fun q => by omega⟩, fun j x hx h1 h2 => by rcases V.ok j x hx with q | q; exact absurd q h1; omega⟩
theorem Acc.skip {n i nd : Int} {val : ByteArray} {hs : List VoteM} {k : Nat} (A : Acc n i nd val hs k) : Acc n i nd val hs (k + 1) := ⟨A.votes, fun j x hx h1 h2 => ⟨(A.new j x hx h1 h2).1, by have := (A.new j x hx h1 h2).2; omega⟩⟩
theorem set_at {α : Type} {hs : List α} {k j : Nat} {y x : α} (h : (hs.set k y)[j]? = some x) : (j = k ∧ x = y) ∨ (¬ j = k ∧ hs[j]? = some x) := by
  rw [List.getElem?_set] at h
  split at h
  · rename_i e; subst e
    split at h
    · cases h; exact .inl ⟨rfl, rfl⟩
    · cases h
  · rename_i e; exact .inr ⟨fun w => e w.symm, h⟩
theorem Acc.set {n i nd : Int} {val : ByteArray} {hs : List VoteM} {k : Nat} (A : Acc n i nd val hs k) (hv : val.size = 2) (hi : 0 ≤ i) (hd : 0 ≤ nd ∧ nd < n) : Acc n i nd val (hs.set k ⟨i + 1, nd, val⟩) (k + 1) := by
  refine ⟨⟨by rw [List.length_set]; exact A.votes.len, fun j x hx => ?_⟩, fun j x hx h1 h2 => ?_⟩
  · rcases set_at hx with ⟨e, e2⟩ | ⟨e, e2⟩
    · subst e2; exact .inr ⟨hv, by simp only; omega, by simp only; omega, hd.1, hd.2⟩
    · exact A.votes.ok j x e2
  · rcases set_at hx with ⟨e, e2⟩ | ⟨e, e2⟩
    · exact ⟨e2, by omega⟩
    · have := A.new j x e2 h1 h2
      exact ⟨this.1, by omega⟩
theorem Acc.done {n i nd : Int} {val : ByteArray} {hs : List VoteM} {k : Nat} (A : Acc n i nd val hs k) : Votes n (i + 1) hs := A.votes
theorem set_ge {hs : List VoteM} {k : Nat} {y : VoteM} {R : Int} (hk : k < hs.length) (h1 : ¬ y.v.size = 0) (h2 : R ≤ y.rd) (j : Nat) : geB (hs.set k y) R j = if j = k then true else geB hs R j := by
  unfold geB
  by_cases e : j = k
  · subst e; rw [List.getElem?_set_self hk, if_pos rfl]; exact decide_eq_true ⟨h1, h2⟩
  · rw [List.getElem?_set_ne (fun w => e w.symm), if_neg e]
theorem Acc.cnt {n i nd : Int} {val : ByteArray} {hs : List VoteM} {k : Nat} (A : Acc n i nd val hs k) (hv : val.size = 2) (hk : (k : Int) < n) : cntP (geB (hs.set k ⟨i + 1, nd, val⟩) (i + 1)) n.toNat = cntP (geB hs (i + 1)) n.toNat + 1 := by
  have hl := A.votes.len
  have g := set_ge (hs := hs) (k := k) (y := ⟨i + 1, nd, val⟩) (R := i + 1) (by omega) (by simp only; omega) (Int.le_refl _)
  have h0 : geB hs (i + 1) k = false := by
    apply Bool.eq_false_iff.2
    intro w
    obtain ⟨x, x1, x2, x3⟩ := geB_true w
    have := (A.new k x x1 x2 x3).2
    omega
  rw [cntP_one h0 (by rw [g, if_pos rfl]) n.toNat (fun j _ hj => by rw [g, if_neg hj]), if_pos (by omega)]
theorem cnt_start {n i : Int} {hs : List VoteM} (V : Votes n i hs) : cntP (geB hs (i + 1)) n.toNat = 0 := cntP_none _ fun j _ => by
  apply Bool.eq_false_iff.2
  intro w
  obtain ⟨x, x1, x2, x3⟩ := geB_true w
  rcases V.ok j x x1 with q | q
  · exact x2 q
  · omega
theorem Chosen.next {n i : Int} {hs : List VoteM} {ch : ByteArray} (C : Chosen n i hs ch) : Chosen n (i + 1) hs ch := C.imp id fun ⟨R, h1, h2⟩ => ⟨R, by omega, h2⟩
theorem Chosen.set {n i nd : Int} {val ch : ByteArray} {hs : List VoteM} {k : Nat} (C : Chosen n (i + 1) hs ch) (hc : ch.size = 0 ∨ ch = val) (hv : val.size = 2) (hl : (hs.length : Int) = n) (hk : (k : Int) < n) : Chosen n (i + 1) (hs.set k ⟨i + 1, nd, val⟩) ch := by
  rcases C with C | ⟨R, h1, h2, h3⟩
  · exact .inl C
  · rcases hc with hc | hc
    · exact .inl hc
    · have g := set_ge (hs := hs) (k := k) (y := ⟨i + 1, nd, val⟩) (R := R) (by omega) (by simp only; omega) h1
      refine .inr ⟨R, h1, ?_, fun j x hx w1 w2 => ?_⟩
      · have := cntP_mono (p := geB hs R) (q := geB (hs.set k ⟨i + 1, nd, val⟩) R) n.toNat fun j _ hj => by rw [g]; split; rfl; exact hj
        omega
      · rcases set_at hx with ⟨_, e2⟩ | ⟨_, e2⟩
        · subst e2; exact hc.symm
        · exact h3 j x e2 w1 w2
theorem Acc.chosen {n i nd : Int} {val : ByteArray} {hs : List VoteM} {k : Nat} (A : Acc n i nd val hs k) (h : n < 2 * ((cntP (geB hs (i + 1)) n.toNat : Nat) : Int)) : Chosen n (i + 1) hs val :=
  .inr ⟨i + 1, Int.le_refl _, h, fun j x hx h1 h2 => by rw [(A.new j x hx h1 h2).1]⟩
/-- Counted votes. -/
noncomputable def lk : List (VoteM × Int) → VoteM → Int
  | [], _ => 0
  | e :: r, x => @ite _ (e.1 = x) (Classical.propDecidable _) e.2 (lk r x)
noncomputable def put : List (VoteM × Int) → VoteM → Int → List (VoteM × Int)
  | [], x, c => [(x, c)]
  | e :: r, x, c => @ite _ (e.1 = x) (Classical.propDecidable _) ((x, c) :: r) (e :: put r x c)
theorem lk_put (x : VoteM) (c : Int) : ∀ cm, lk (put cm x c) x = c
  | [] => by simp [put, lk]
  | e :: r => by
    unfold put
    by_cases h : e.1 = x
    · rw [if_pos h]; unfold lk; rw [if_pos rfl]
    · rw [if_neg h]; unfold lk; rw [if_neg h]; exact lk_put x c r
theorem put_len (x : VoteM) (c : Int) : ∀ cm, (put cm x c).length ≤ cm.length + 1
  | [] => by simp [put]
  | e :: r => by
    unfold put
    by_cases h : e.1 = x
    · rw [if_pos h]; simp
    · rw [if_neg h]; have := put_len x c r; simp; omega
def KeysLe (cm : List (VoteM × Int)) (i : Int) : Prop := ∀ e ∈ cm, e.1.rd ≤ i
theorem lk_none {x : VoteM} {i : Int} (hx : x.rd = i + 1) : ∀ cm, KeysLe cm i → lk cm x = 0
  | [], _ => rfl
  | e :: r, h => by
    unfold lk
    rw [if_neg (fun w => by have := h e (List.mem_cons_self ..); rw [w] at this; omega)]
    exact lk_none hx r fun y hy => h y (List.mem_cons_of_mem _ hy)
theorem put_keys {x : VoteM} {c i : Int} (hx : x.rd ≤ i) : ∀ cm, KeysLe cm i → KeysLe (put cm x c) i
  | [], _ => by intro e he; simp [put] at he; subst he; exact hx
  | e :: r, h => by
    unfold put
    by_cases w : e.1 = x
    · rw [if_pos w]
      intro y hy
      rcases List.mem_cons.1 hy with rfl | hy
      · exact hx
      · exact h y (List.mem_cons_of_mem _ hy)
    · rw [if_neg w]
      intro y hy
      rcases List.mem_cons.1 hy with rfl | hy
      · exact h _ (List.mem_cons_self ..)
      · exact put_keys hx r (fun z hz => h z (List.mem_cons_of_mem _ hz)) y hy
def PromOk (i nd : Int) (ps : List BalM) : Prop := ∀ (j : Nat) (x : BalM), ps[j]? = some x → x.rd ≤ i ∨ (x.rd = i + 1 ∧ x.nd = nd)
theorem prom_ord {i nd : Int} {x : BalM} (h : x.rd ≤ i ∨ (x.rd = i + 1 ∧ x.nd = nd)) : ¬ 0 < ordB x.rd x.nd (i + 1) nd := by
  rcases h with h | h
  · rw [ordB_lt (by omega)]; omega
  · rw [ordB_eq (by omega)]; omega
theorem PromOk.set {i nd : Int} {ps : List BalM} (h : PromOk i nd ps) (k : Nat) : PromOk i nd (ps.set k ⟨i + 1, nd⟩) := fun j x hx => by
  rcases set_at hx with ⟨_, e⟩ | ⟨_, e⟩
  · subst e; exact .inr ⟨rfl, rfl⟩
  · exact h j x e
theorem PromOk.next {i nd nd2 : Int} {ps : List BalM} (h : PromOk i nd ps) : PromOk (i + 1) nd2 ps := fun j x hx => by rcases h j x hx with q | q; exact .inl (by omega); exact .inl (by omega)
def two (a b : Int) : ByteArray := (ByteArray.empty.push (UInt8.ofNat a.toNat)).push (UInt8.ofNat b.toNat)
theorem two_size (a b : Int) : (two a b).size = 2 := rfl
end C14
