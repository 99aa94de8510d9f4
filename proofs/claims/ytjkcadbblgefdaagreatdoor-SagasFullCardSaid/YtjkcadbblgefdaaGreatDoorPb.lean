/- The run of SagasFull. -/
import Derived.Test.YtjkcadbblgefdaaGreatDoorTj
import Derived.KernelRfl
open Go Go.AM Go.Proofs
namespace C29
/-- A saga without disturbance. -/
def ES (d : DefM) (st ix er : Int) : SagaM := ⟨d, st, ix, false, 0, 0, er⟩
/-- .. behind k results. -/
def EP (d : DefM) (st k : Int) : SagaM := if k < (d.xs.length : Nat) then ES d st k 0 else ES d (if st = 1 then 2 else 4) 0 0
theorem EP_lt {d : DefM} {st k : Int} (h : k < (d.xs.length : Nat)) : EP d st k = ES d st k 0 := if_pos h
theorem EP_end {d : DefM} {st k : Int} (h : ¬ k < (d.xs.length : Nat)) : EP d st k = ES d (if st = 1 then 2 else 4) 0 0 := if_neg h
theorem late0 {d : DefM} : lateM 0 0 d 0 = false := decide_eq_false (fun w => absurd w (by omega))
theorem ES_ok {d : DefM} {st ix er : Int} (hd : defB d = true) (h1 : 1 ≤ st ∧ st ≤ 5) (h2 : 0 ≤ ix ∧ (st < 4 → ix < (d.xs.length : Nat)) ∧ (4 ≤ st → ix = 0)) (h3 : ((st = 3 ∨ st = 5) → 1 ≤ er ∧ er ≤ 18) ∧ (¬ (st = 3 ∨ st = 5) → er = 0)) : chkS (ES d st ix er) = 0 :=
  chkS_ok hd (show budB 0 0 = true by decide) (okI_ok (s := ES d st ix er) (by
    refine ⟨h1, h2.1, fun w => ?_, fun w => ?_, ?_, h3.1, h3.2⟩
    · have := h2.2.1 w; show ix ≤ _; simp only [ES]; omega
    · have := h2.2.2 w; show ix ≤ _; omega
    · intro w; exact absurd (show (0 : Int) = 1 from w.1) (by decide)))
theorem ES_fwd {d : DefM} {k : Int} (hl : k < (d.xs.length : Nat)) : nxtS (ES d 1 k 0) 0 0 = EP d 1 (k + 1) := by
  rw [nxtS_1 rfl]
  unfold fwdS EP
  rw [amE_eq]
  simp only [ES, late0]
  by_cases h : k < (d.xs.length : Nat) - 1
  · rw [if_pos (show k + 1 < (d.xs.length : Nat) by omega)]; simp [h]
  · rw [if_neg (show ¬ k + 1 < (d.xs.length : Nat) by omega)]; simp [h]
theorem ES_fre {d : DefM} {k : Int} (hl : k < (d.xs.length : Nat)) : nxtS (ES d 2 k 0) 0 0 = EP d 2 (k + 1) := by
  rw [nxtS_2 rfl]
  unfold freS EP
  simp only [ES]
  by_cases h : k < (d.xs.length : Nat) - 1
  · rw [if_pos (show k + 1 < (d.xs.length : Nat) by omega)]; simp [h]
  · rw [if_neg (show ¬ k + 1 < (d.xs.length : Nat) by omega)]; simp [h]
theorem ES_bad {d : DefM} {r : Int} (hr : 1 ≤ r ∧ r ≤ 15) : nxtS (ES d 1 0 0) r 0 = ES d 5 0 r := by
  rw [nxtS_1 rfl]
  unfold fwdS
  rw [amE_eq]
  simp only [ES, late0]
  simp [show ¬ r = 0 by omega, show ¬ (r = 16 ∨ r = 17 ∨ r = 18) by omega]
theorem resE_at {s : SagaM} {e1 e2 e3 res now : Int} (h : chkS s = 0) (hr : (0 ≤ res ∧ res ≤ 18) ∧ 0 ≤ now ∧ now ≤ 2147483648) (h4 : s.st < 4) (he : e1 = 0 ∧ e2 = s.ix ∧ e3 = phS s.st) : resE s e1 e2 e3 res now = 0 := by
  unfold resE; rw [if_pos h, if_pos hr, if_pos h4, if_pos he]
theorem resE_end {s : SagaM} {e1 e2 e3 res now : Int} (h : chkS s = 0) (hr : (0 ≤ res ∧ res ≤ 18) ∧ 0 ≤ now ∧ now ≤ 2147483648) (h4 : ¬ s.st < 4) : resE s e1 e2 e3 res now = 9 := by
  unfold resE; rw [if_pos h, if_pos hr, if_neg h4]
/-- Two sagas. -/
abbrev T2 (a b : SagaM) : Tab := [(1, a), (2, b)]
theorem T2_start2 {d : DefM} (hd : defB d = true) : startE [] 2 d 0 = 0 ∧ startM [] 2 d 0 = [(2, ES d 1 0 0)] := by
  have e : startE [] 2 d 0 = 0 := by unfold startE; rw [if_pos (by decide), if_pos hd]; rfl
  refine ⟨e, ?_⟩
  unfold startM; rw [if_pos e]; rfl
theorem T2_start1 {d : DefM} (hd : defB d = true) : startE [(2, ES d 1 0 0)] 1 d 0 = 0 ∧ startM [(2, ES d 1 0 0)] 1 d 0 = T2 (ES d 1 0 0) (ES d 1 0 0) := by
  have e : startE [(2, ES d 1 0 0)] 1 d 0 = 0 := by unfold startE; rw [if_pos (by decide), if_pos hd]; rfl
  refine ⟨e, ?_⟩
  unfold startM; rw [if_pos e]; rfl
theorem T2_get (a b : SagaM) : getE (T2 a b) 1 = 0 ∧ getE (T2 a b) 2 = 0 ∧ getS (T2 a b) 1 = a ∧ getS (T2 a b) 2 = b := ⟨rfl, rfl, rfl, rfl⟩
theorem T2_r1 {a b : SagaM} {e2 e3 res now E : Int} (h : resE a 0 e2 e3 res now = E) : resTE (T2 a b) 1 1 e2 e3 res now = E ∧ (E = 0 → resTM (T2 a b) 1 1 e2 e3 res now = T2 (nxtS a res now) b) ∧ (¬ E = 0 → resTM (T2 a b) 1 1 e2 e3 res now = T2 a b) := by
  subst h
  have h0 : effD 1 1 = 0 := by decide
  have e : resTE (T2 a b) 1 1 e2 e3 res now = resE a 0 e2 e3 res now := by unfold resTE; rw [h0]; rfl
  refine ⟨e, fun w => ?_, fun w => ?_⟩
  · unfold resTM; rw [e]; exact if_pos w
  · unfold resTM; rw [e]; exact if_neg w
theorem T2_r2 {a b : SagaM} {e2 e3 res now E : Int} (h : resE b 0 e2 e3 res now = E) : resTE (T2 a b) 2 2 e2 e3 res now = E ∧ (E = 0 → resTM (T2 a b) 2 2 e2 e3 res now = T2 a (nxtS b res now)) ∧ (¬ E = 0 → resTM (T2 a b) 2 2 e2 e3 res now = T2 a b) := by
  subst h
  have h0 : effD 2 2 = 0 := by decide
  have e : resTE (T2 a b) 2 2 e2 e3 res now = resE b 0 e2 e3 res now := by unfold resTE; rw [h0]; rfl
  refine ⟨e, fun w => ?_, fun w => ?_⟩
  · unfold resTM; rw [e]; exact if_pos w
  · unfold resTM; rw [e]; exact if_neg w
theorem T2_can {a b : SagaM} {k : Int} (hk : k = 1 ∨ k = 2) (ha : canE a = 9) (hb : canE b = 9) : canTE (T2 a b) k = 9 ∧ canTM (T2 a b) k = T2 a b := by
  rcases hk with rfl | rfl
  · have e : canTE (T2 a b) 1 = 9 := ha
    exact ⟨e, by unfold canTM; rw [e]; rfl⟩
  · have e : canTE (T2 a b) 2 = 9 := hb
    exact ⟨e, by unfold canTM; rw [e]; rfl⟩
theorem canE_end {s : SagaM} (h : chkS s = 0) (h4 : ¬ s.st < 4) : canE s = 9 := by unfold canE; rw [if_pos h, if_neg (by omega)]
/-- A table that is filled from the greatest number down. -/
def FT (d : DefM) : Nat → Tab
  | 0 => []
  | i + 1 => (9999 - (i : Int), staS d i) :: FT d i
theorem FT_len (d : DefM) : ∀ i, (FT d i).length = i
  | 0 => rfl
  | i + 1 => by rw [FT, List.length_cons, FT_len d i]
theorem FT_find (d : DefM) : ∀ (i : Nat) (k : Int), findK (FT d i) k = if 9999 - (i : Int) < k ∧ k ≤ 9999 then some (staS d (9999 - k)) else none
  | 0, k => by rw [if_neg (by omega)]; rfl
  | i + 1, k => by
    rw [FT, findK_cons, FT_find d i k]
    by_cases h : 9999 - (i : Int) = k
    · rw [if_pos h, if_pos (by omega), ← h, show 9999 - (9999 - (i : Int)) = i by omega]
    · rw [if_neg h]
      by_cases h2 : 9999 - (i : Int) < k ∧ k ≤ 9999
      · rw [if_pos h2, if_pos (by omega)]
      · rw [if_neg h2, if_neg (by omega)]
theorem FT_ins (d : DefM) (i : Nat) (s : SagaM) {k : Int} (hk : k = 9999 - (i : Int)) : insT k s (FT d i) = (k, s) :: FT d i := by
  subst hk
  cases i with
  | zero => rfl
  | succ i => rw [FT, insT, if_neg (by simp only []; omega)]
theorem FT_start {d : DefM} {i : Nat} {k n : Int} (hd : defB d = true) (hi : i < 64) (hk : k = 9999 - (i : Int)) (hn : n = i) : startE (FT d i) k d n = 0 ∧ startM (FT d i) k d n = FT d (i + 1) := by
  have e : startE (FT d i) k d n = 0 := by
    have hf : findK (FT d i) k = none := by rw [FT_find, if_neg (by omega)]
    unfold startE
    rw [if_pos (by omega), if_pos hd, addE_none hf, FT_len, if_neg (by omega)]
  refine ⟨e, ?_⟩
  unfold startM; rw [if_pos e, FT_ins d i _ hk, hk, hn]; rfl
/-- .. where the first saga has been refused. -/
def FU (d : DefM) : Tab := setK (FT d 64) 9999 (ES d 5 0 7)
theorem FU_len (d : DefM) : (FU d).length = 64 := by unfold FU; rw [setK_len, FT_len]
theorem FU_find (d : DefM) (k : Int) : findK (FU d) k = if k = 9999 then some (ES d 5 0 7) else if 9935 < k ∧ k < 9999 then some (staS d (9999 - k)) else none := by
  unfold FU
  rw [findK_set (by rw [FT_find, if_pos (by omega)]; rfl), FT_find]
  by_cases h : k = 9999
  · rw [if_pos h, if_pos h]
  · rw [if_neg h, if_neg h]
    by_cases h2 : 9935 < k ∧ k < 9999
    · rw [if_pos h2, if_pos (by omega)]
    · rw [if_neg h2, if_neg (by omega)]
theorem FT_get (d : DefM) : getE (FT d 64) 9999 = 0 ∧ getS (FT d 64) 9999 = ES d 1 0 0 := by
  have q := FT_find d 64 9999
  rw [if_pos (by omega)] at q
  exact getE_some q
theorem FU_res {d : DefM} (hd : defB d = true) : resTE (FT d 64) 9999 9999 0 1 7 0 = 0 ∧ resTM (FT d 64) 9999 9999 0 1 7 0 = FU d := by
  have hc := defB_of hd
  have h0 : effD 9999 9999 = 0 := by decide
  have e : resTE (FT d 64) 9999 9999 0 1 7 0 = 0 := by
    unfold resTE; rw [if_pos (FT_get d).1, (FT_get d).2, h0]
    exact resE_at (ES_ok hd (by omega) (by omega) (by omega)) (by omega) (show (1 : Int) < 4 by decide) ⟨rfl, rfl, rfl⟩
  refine ⟨e, ?_⟩
  unfold resTM; rw [if_pos e, (FT_get d).2, ES_bad (by omega)]; rfl
theorem add_full {m : Tab} {k : Int} (hn : findK m k = none) (hl : m.length = 64) : addE m k = 4 := by unfold addE; rw [hn, hl]; rfl
theorem add_have {m : Tab} {k : Int} {s : SagaM} (hn : findK m k = some s) : addE m k = 6 := addE_some hn
/-- What is refused, and leaves the table as it is. -/
theorem start_no {m : Tab} {k n e : Int} {d : DefM} (he : startE m k d n = e) (h0 : ¬ e = 0) : startM m k d n = m := by unfold startM; rw [he, if_neg h0]
theorem put_no {m : Tab} {k e : Int} {s : SagaM} (he : putE m k s = e) (h0 : ¬ e = 0) : putM m k s = m := by unfold putM; rw [he, if_neg h0]
theorem can_no {m : Tab} {k e : Int} (he : canTE m k = e) (h0 : ¬ e = 0) : canTM m k = m := by unfold canTM; rw [he, if_neg h0]
theorem res_no {m : Tab} {k e1 e2 e3 r w e : Int} (he : resTE m k e1 e2 e3 r w = e) (h0 : ¬ e = 0) : resTM m k e1 e2 e3 r w = m := by unfold resTM; rw [he, if_neg h0]
theorem start_arg {m : Tab} {k n : Int} {d : DefM} (h : ¬ ((1 ≤ k ∧ k ≤ 9999) ∧ 0 ≤ n ∧ n ≤ 2147483648)) : startE m k d n = 2 := by unfold startE; rw [if_neg h]
theorem start_def {m : Tab} {k n : Int} {d : DefM} (h : (1 ≤ k ∧ k ≤ 9999) ∧ 0 ≤ n ∧ n ≤ 2147483648) (hd : defB d = false) : startE m k d n = 15 := by unfold startE; rw [if_pos h, hd]; rfl
theorem start_add {m : Tab} {k n : Int} {d : DefM} (h : (1 ≤ k ∧ k ≤ 9999) ∧ 0 ≤ n ∧ n ≤ 2147483648) (hd : defB d = true) : startE m k d n = addE m k := by unfold startE; rw [if_pos h, if_pos hd]
theorem put_arg {m : Tab} {k : Int} {s : SagaM} (h : ¬ (1 ≤ k ∧ k ≤ 9999)) : putE m k s = 2 := by unfold putE; rw [if_neg h]
theorem put_chk {m : Tab} {k e : Int} {s : SagaM} (h : 1 ≤ k ∧ k ≤ 9999) (hc : chkS s = e) (h0 : ¬ e = 0) : putE m k s = e := by unfold putE; rw [if_pos h, hc, if_neg h0]
theorem put_add {m : Tab} {k : Int} {s : SagaM} (h : 1 ≤ k ∧ k ≤ 9999) (hc : chkS s = 0) : putE m k s = addE m k := by unfold putE; rw [if_pos h, if_pos hc]
theorem can_none {m : Tab} {k : Int} (h : findK m k = none) : canTE m k = 5 := by unfold canTE; rw [(getE_none h).1]; rfl
theorem res_none {m : Tab} {k e1 e2 e3 r w : Int} (h : findK m k = none) : resTE m k e1 e2 e3 r w = 5 := by unfold resTE; rw [(getE_none h).1]; rfl
theorem res_some {m : Tab} {k e1 e2 e3 r w : Int} {s : SagaM} (h : findK m k = some s) : resTE m k e1 e2 e3 r w = resE s (effD e1 k) e2 e3 r w := by unfold resTE; rw [if_pos (getE_some h).1, (getE_some h).2]
theorem FU_none {d : DefM} {k : Int} (h : ¬ (9935 < k ∧ k ≤ 9999)) : findK (FU d) k = none := by rw [FU_find, if_neg (by omega), if_neg (by omega)]
theorem FU_last (d : DefM) : findK (FU d) 9999 = some (ES d 5 0 7) := by rw [FU_find, if_pos rfl]
theorem FU_some {d : DefM} {k : Int} (h : 9935 < k ∧ k < 9999) : findK (FU d) k = some (staS d (9999 - k)) := by rw [FU_find, if_neg (by omega), if_pos h]
theorem resE_arg {s : SagaM} {e1 e2 e3 r w : Int} (h : chkS s = 0) (ha : ¬ ((0 ≤ r ∧ r ≤ 18) ∧ 0 ≤ w ∧ w ≤ 2147483648)) : resE s e1 e2 e3 r w = 2 := by unfold resE; rw [if_pos h, if_neg ha]
theorem resE_order {s : SagaM} {e1 e2 e3 r w : Int} (h : chkS s = 0) (ha : (0 ≤ r ∧ r ≤ 18) ∧ 0 ≤ w ∧ w ≤ 2147483648) (h4 : s.st < 4) (he : ¬ (e1 = 0 ∧ e2 = s.ix ∧ e3 = phS s.st)) : resE s e1 e2 e3 r w = 8 := by unfold resE; rw [if_pos h, if_pos ha, if_pos h4, if_neg he]
theorem sta_chk {d : DefM} {n : Int} (hd : defB d = true) (hn : 0 ≤ n ∧ n ≤ 2147483648) : chkS (staS d n) = 0 := sta_ok (by unfold staE; rw [if_pos hd, if_pos hn])
theorem none_bad (a : ByteArray) (b c : Int) : defB ⟨a, b, c, []⟩ = false := by
  cases h : defB ⟨a, b, c, []⟩ with
  | false => rfl
  | true => have := defB_of h; simp only [List.length_nil] at this; omega
theorem wrong_bad {d : DefM} {x : Int} (hd : defB d = true) (hx : (d.xs.length : Nat) ≤ x) : chkS (SagaM.mk d 1 x false 0 0 0) = 2 :=
  chkS_int hd (okI_bad (s := SagaM.mk d 1 x false 0 0 0) (by
    intro w
    have := w.2.2.1 (show (1 : Int) < 4 by decide)
    simp only [] at this
    omega))
theorem FT_nxt (d : DefM) : ∀ i, nxtL (FT d i) = ((List.range i).map fun (j : Nat) => (⟨10000 - (i : Int) + (j : Int), 0, 1⟩ : EffM))
  | 0 => rfl
  | i + 1 => by
    have e : nxtL (FT d (i + 1)) = ⟨9999 - (i : Int), 0, 1⟩ :: nxtL (FT d i) := rfl
    rw [e, FT_nxt d i, List.range_succ_eq_map, List.map_cons, List.map_map]
    refine congr (congrArg List.cons ?_) (List.map_congr_left fun j _ => ?_)
    · rw [EffM.mk.injEq]; refine ⟨?_, rfl, rfl⟩; omega
    · simp only [Function.comp_apply, EffM.mk.injEq, and_true]; omega
/-- What comes next in a full table. -/
def FN : List EffM := (List.range 63).map fun (j : Nat) => (⟨9936 + (j : Int), 0, 1⟩ : EffM)
theorem FN_len : FN.length = 63 := rfl
theorem setK_app (m1 m2 : Tab) (k : Int) (s : SagaM) : setK (m1 ++ m2) k s = setK m1 k s ++ setK m2 k s := by unfold setK; rw [List.map_append]
theorem FT_top (d : DefM) : ∀ i, FT d (i + 1) = ((List.range i).map fun (j : Nat) => (9999 - (i : Int) + (j : Int), staS d ((i : Int) - (j : Int)))) ++ [(9999, staS d 0)]
  | 0 => rfl
  | i + 1 => by
    rw [FT, FT_top d i, List.range_succ_eq_map, List.map_cons, List.map_map, List.cons_append]
    refine congr (congrArg List.cons ?_) (congrArg (· ++ _) (List.map_congr_left fun j _ => ?_))
    · simp
    · simp only [Function.comp_apply, Prod.mk.injEq]
      constructor
      · omega
      · congr 1; omega
theorem FU_nxt (d : DefM) : nxtL (FU d) = FN := by
  have e := FT_top d 63
  unfold FU
  rw [e, setK_app]
  have e1 : setK ((List.range 63).map fun (j : Nat) => (9999 - ((63 : Nat) : Int) + (j : Int), staS d (((63 : Nat) : Int) - (j : Int)))) 9999 (ES d 5 0 7) = (List.range 63).map fun (j : Nat) => (9999 - ((63 : Nat) : Int) + (j : Int), staS d (((63 : Nat) : Int) - (j : Int))) := by
    unfold setK
    rw [List.map_map]
    refine List.map_congr_left fun j hj => ?_
    have := List.mem_range.1 hj
    simp only [Function.comp_apply]
    rw [if_neg (by omega)]
  rw [e1]
  have e2 : setK [((9999 : Int), staS d 0)] 9999 (ES d 5 0 7) = [(9999, ES d 5 0 7)] := rfl
  rw [e2]
  unfold nxtL opnT
  rw [List.filter_append, List.filter_eq_self.2 (fun p hp => by
    obtain ⟨j, _, rfl⟩ := List.mem_map.1 hp
    exact decide_eq_true (show (1 : Int) < 4 by decide))]
  have e3 : ([((9999 : Int), ES d 5 0 7)] : Tab).filter (fun p => decide (p.2.st < 4)) = [] := rfl
  rw [e3, List.append_nil, List.map_map]
  rfl
theorem effD_of {a b : Int} (h : -9223372036854775808 ≤ a - b ∧ a - b ≤ 9223372036854775807) : effD a b = a - b := by unfold effD; rw [IntKind.wrap_i64]; omega
theorem FN_at {j : Nat} {x : EffM} (h : FN[j]? = some x) : x.sg = 9936 + (j : Int) ∧ x.sp = 0 ∧ x.ph = 1 := by
  unfold FN at h
  rw [List.getElem?_map] at h
  cases q : (List.range 63)[j]? with
  | none => rw [q] at h; cases h
  | some i =>
    rw [q] at h
    have e : i = j := by rw [List.getElem?_range (by have := (List.getElem?_eq_some_iff.1 q).1; simpa using this)] at q; cases q; rfl
    subst e
    cases h; exact ⟨rfl, rfl, rfl⟩
theorem FU_first {d : DefM} {k e1 e2 e3 r w : Int} (hk : k = 9936) : resTE (FU d) k e1 e2 e3 r w = resE (staS d 63) (effD e1 k) e2 e3 r w := by
  subst hk; exact res_some (FU_some (by omega))
set_option maxRecDepth 10000 in
set_option maxHeartbeats 4000000 in
theorem law_full (h : Heap) (n : Int) (hn : 0 ≤ n ∧ n ≤ 255) (far : Int) (hfar : 0 ≤ far ∧ far ≤ 65535) (hg0 : h[0]? = some (.cells #[(vI 0), (vI 1), (vI 3), (vI 2)] 128 (0, 0))) (hg1 : h[1]? = some (.cells #[Value.nilFunc, (Value.func (.func 178) #[] #[]), (Value.func (.func 179) #[] #[]), (Value.func (.func 180) #[] #[])] 130 (0, 0))) : WCall Tryz.prog 9 #[(Value.int .u8 (n)), (Value.int .u16 (far))] h (fun v h1 => v = .bool true ∧ Ext h h1) := by
  suffices H : ∀ K : Value → Heap → Prop, (∀ v h1, (fun v h1 => v = .bool true ∧ Ext h h1) v h1 → K v h1) → WCall Tryz.prog 9 #[(Value.int .u8 (n)), (Value.int .u16 (far))] h K from H _ fun _ _ q => q
  intro K hK
  refine wcall_at { tmps := #[(Value.int .u8 (n)), (Value.int .u16 (far)), vZ, vZ, vZ, vZ, vZ, vZ, vZ, vZ, vZ, vZ, vZ, vZ, vZ, vZ, vZ, vZ, vZ, vZ, vZ, vZ, vZ, vZ, vZ, vZ, vZ, vZ, vZ, vZ, vZ, vZ, vZ, vZ, vZ, vZ, vZ, vZ, vZ, vZ, vZ, vZ, vZ, vZ, vZ, vZ, vZ, vZ, vZ, vZ, vZ, vZ, vZ, vZ, vZ, vZ, vZ, vZ, vZ, vZ, vZ, vZ, vZ, vZ, vZ, vZ, vZ, vZ, vZ, vZ, vZ, vZ, vZ, vZ, vZ, vZ, vZ, vZ, vZ, vZ, vZ, vZ, vZ, vZ, vZ, vZ, vZ, vZ, vZ, vZ, vZ, vZ, vZ, vZ, vZ, vZ, vZ, vZ, vZ, vZ, vZ, vZ, vZ, vZ, vZ, vZ, vZ, vZ, vZ, vZ, vZ, vZ, vZ, vZ, vZ, vZ, vZ, vZ, vZ, vZ, vZ, vZ, vZ, vZ, vZ, vZ, vZ, vZ, vZ, vZ, vZ, vZ, vZ, vZ, vZ, vZ, vZ, vZ, vZ, vZ, vZ, vZ, vZ, vZ, vZ, vZ, vZ, vZ, vZ, vZ, vZ, vZ, vZ, vZ, vZ, vZ, vZ, vZ, vZ, vZ, vZ, vZ, vZ, vZ, vZ, vZ, vZ, vZ, vZ, vZ, vZ, vZ, vZ, vZ, vZ, vZ, vZ, vZ, vZ, vZ, vZ, vZ, vZ, vZ, vZ, vZ, vZ, vZ, vZ, vZ, vZ, vZ, vZ, vZ, vZ, vZ, vZ, vZ, vZ, vZ, vZ, vZ, vZ, vZ, vZ, vZ, vZ, vZ, vZ, vZ, vZ, vZ, vZ, vZ, vZ, vZ, vZ, vZ, vZ, vZ, vZ, vZ, vZ, vZ, vZ, vZ, vZ, vZ, vZ, vZ, vZ, vZ, vZ, vZ], defers := [] } (by kernel_rfl) ?_
  refine wc_seq' (subc (bodyOf Tryz.prog 9) [0]) (subc (bodyOf Tryz.prog 9) [1]) (by kernel_rfl) ?_
  refine wc_ev [] .normal h [(4, (vB false))] ?_
  refine wc_seq' (subc (bodyOf Tryz.prog 9) [1, 0]) (subc (bodyOf Tryz.prog 9) [1, 1]) (by kernel_rfl) ?_
  obtain ⟨_, h2, s3, b4, O6626, rfl, p5, x6, w7⟩ := tnew_ok h
  have x8 := (Ext.refl h).trans x6
  have z9 : h.size ≤ h.size := (Ext.refl h).size
  have o10 : ∀ zz, O6626 zz → h.size ≤ zz := fun zz hz => by have := w7 zz hz; omega
  obtain ⟨_, h11, s12, w13, c14, rfl, o15, x16, n17⟩ := def_ok h2 (n) (by omega)
  obtain ⟨d18, e19⟩ : ∃ q, q = defN (n) := ⟨_, rfl⟩
  rw [← e19] at s12 o15 n17
  have k20 : defB d18 = true := by rw [e19]; exact defN_ok (by omega)
  have q21 := defB_of k20
  have p22 := p5.keep fun b r _ q => x16 b r q
  have x23 := x8.trans x16
  have z24 : h.size ≤ h2.size := x8.size
  have n25 : ∀ zz, blk (Value.slice w13 (d18.xs.length) (c14)) zz → ¬ O6626 zz := fun zz hz ez => by have := n17 zz hz; have := p5.blk_lt ez; omega
  have o26 : ∀ zz, blk (Value.slice w13 (d18.xs.length) (c14)) zz → h.size ≤ zz := fun zz hz => by have := n17 zz hz; omega
  obtain ⟨b27, eb28⟩ : ∃ zq, zq = h11.size := ⟨_, rfl⟩
  obtain ⟨h29, e30⟩ : ∃ zq, zq = h11.push (.cells #[(vS .empty), (vI 0), (vI 0), (Value.slice none 0 0)] 31 (0, 0)) := ⟨_, rfl⟩
  have f31 := push_new e30
  rw [← eb28] at f31
  have n32 : ∀ zz, O6626 zz → ¬ zz = b27 := fun zz hz ez => by have := p22.blk_lt hz; omega
  have n33 : ∀ zz, (blk (Value.slice w13 (d18.xs.length) (c14))) zz → ¬ zz = b27 := fun zz hz ez => by have := o15.blk_lt hz; omega
  have x34 : Ext h11 h29 := by rw [e30]; exact Ext.push _ _
  have o35 : h.size ≤ b27 := by have := x23.size; omega
  have p36 := p22.keep fun b r _ q => x34 b r q
  have p37 := o15.keep fun b r _ q => x34 b r q
  have x38 := x23.trans x34
  obtain ⟨h39, e40⟩ : ∃ zq, zq = h29.setIfInBounds b27 (.cells #[(vS d18.name), (vI (d18.rt)), (vI (d18.dl)), (Value.slice w13 (d18.xs.length) (c14))] 31 (0, 0)) := ⟨_, rfl⟩
  have f41 := set_same e40 f31
  have p42 := p36.keep fun b r hb q => (Chg.set e40).same b r q (n32 b hb)
  have p43 := p37.keep fun b r hb q => (Chg.set e40).same b r q (n33 b hb)
  have x44 := Ext.setNew x38 e40 o35
  refine wc_ev [evF 1 0 s3, evF 1 2 s12, evV 1 4 (vI far) (show (vI far) = (vI (IntKind.i64.wrap (far))) from by congr 1; rw [IntKind.wrap_i64]; omega), evA 1 5 eb28 e30, evUw 1 7 size31 f31 e40] .normal h39 [(19, (vP b4 0)), (20, (Value.int .u8 (n))), (21, (vA #[(vS d18.name), (vI d18.rt), (vI d18.dl), (vL w13 d18.xs.length c14)])), (22, (Value.int .u16 (far))), (23, (vI far)), (6, (vP b27 0)), (5, (vP b4 0)), (7, (vI far))] ?_
  refine wc_seq' (subc (bodyOf Tryz.prog 9) [1, 1, 0]) (subc (bodyOf Tryz.prog 9) [1, 1, 1]) (by kernel_rfl) ?_
  refine wc_seq' (subc (bodyOf Tryz.prog 9) [1, 1, 0, 0]) (subc (bodyOf Tryz.prog 9) [1, 1, 0, 1]) (by kernel_rfl) ?_
  refine wc_ev [] .normal h39 [(24, (vI 0))] ?_
  refine wc_block' 0 (subc (bodyOf Tryz.prog 9) [1, 1, 0, 1, 0]) (by kernel_rfl) ?_
  have ft0 : ([] : Tab) = FT d18 (0 : Int).toNat := rfl
  refine wc_loop' (subc (bodyOf Tryz.prog 9) [1, 1, 0, 1, 0, 0]) (by kernel_rfl) (fun n' a' h' => ∃ (kf : Int) (Ot : Nat → Prop) (g0 : Nat → Value), a' = { tmps := #[(Value.int .u8 (n)), (Value.int .u16 (far)), vZ, vZ, (g0 4), (vP b4 0), (vP b27 0), (vI far), (g0 8), vZ, vZ, vZ, vZ, vZ, vZ, vZ, vZ, vZ, vZ, (vP b4 0), (Value.int .u8 (n)), (vA #[(vS d18.name), (vI d18.rt), (vI d18.dl), (vL w13 d18.xs.length c14)]), (Value.int .u16 (far)), (vI far), (vI kf), (g0 25), (g0 26), (g0 27), (g0 28), (g0 29), (g0 30), (g0 31), (g0 32), (g0 33), (g0 34), vZ, vZ, vZ, vZ, vZ, vZ, vZ, vZ, vZ, vZ, vZ, vZ, vZ, vZ, vZ, vZ, vZ, vZ, vZ, vZ, vZ, vZ, vZ, vZ, vZ, vZ, vZ, vZ, vZ, vZ, vZ, vZ, vZ, vZ, vZ, vZ, vZ, vZ, vZ, vZ, vZ, vZ, vZ, vZ, vZ, vZ, vZ, vZ, vZ, vZ, vZ, vZ, vZ, vZ, vZ, vZ, vZ, vZ, vZ, vZ, vZ, vZ, vZ, vZ, vZ, vZ, vZ, vZ, vZ, vZ, vZ, vZ, vZ, vZ, vZ, vZ, vZ, vZ, vZ, vZ, vZ, vZ, vZ, vZ, vZ, vZ, vZ, vZ, vZ, vZ, vZ, vZ, vZ, vZ, vZ, vZ, vZ, vZ, vZ, vZ, vZ, vZ, vZ, vZ, vZ, vZ, vZ, vZ, vZ, vZ, vZ, vZ, vZ, vZ, vZ, vZ, vZ, vZ, vZ, vZ, vZ, vZ, vZ, vZ, vZ, vZ, vZ, vZ, vZ, vZ, vZ, vZ, vZ, vZ, vZ, vZ, vZ, vZ, vZ, vZ, vZ, vZ, vZ, vZ, vZ, vZ, vZ, vZ, vZ, vZ, vZ, vZ, vZ, vZ, vZ, vZ, vZ, vZ, vZ, vZ, vZ, vZ, vZ, vZ, vZ, vZ, vZ, vZ, vZ, vZ, vZ, vZ, vZ, vZ, vZ, vZ, vZ, vZ, vZ, vZ, vZ, vZ, vZ, vZ, vZ, vZ, vZ, vZ, vZ, vZ, vZ, vZ, vZ, vZ, vZ, vZ, vZ, vZ, vZ], defers := [] } ∧ Ext h h' ∧ n' = 64 - kf.toNat ∧ h'[b27]? = some (.cells #[(vS d18.name), (vI d18.rt), (vI d18.dl), (vL w13 d18.xs.length c14)] 31 (0, 0)) ∧ (0 ≤ kf ∧ kf ≤ 64) ∧ (∀ zz, Ot zz → h.size ≤ zz) ∧ WfT (FT d18 kf.toNat) ∧ (∀ zz, Ot zz → ¬ (blk (vL w13 d18.xs.length c14)) zz) ∧ TbAt 57 h' Ot b4 (FT d18 kf.toNat) ∧ OwnAt h' 67 stepc d18.xs (vL w13 d18.xs.length c14)) ?_ (64 - (0 : Int).toNat) ⟨0, O6626, (fun i => ([vU, vU, vU, vU, (vB false), vU, vU, vU, vZ, vU, vU, vU, vU, vU, vU, vU, vU, vU, vU, vU, vU, vU, vU, vU, vU, vZ, vZ, vZ, vZ, vZ, vZ, vZ, vZ, vZ, vZ] : List Value).getD i undef), by as_aux_lemma => kernel_rfl, x44, rfl, f41, by omega, o10, (by have q9 := WfT.nil; rw [ft0] at q9; exact q9), (fun zz hz hz2 => n25 zz hz2 hz), (by have q9 := p42; rw [ft0] at q9; exact q9), p43⟩
  rintro n' _ h45 ⟨kf, Ot, g0, rfl, x46, m47, f48, i49, i50, i51, i52, p53, p54⟩
  by_cases c55 : ((kf) : Int) < 64
  · obtain ⟨_, h56, s57, rfl, x58, O6689, p59, o60⟩ := tstart_ok h45 p53 i51 (9999 - (kf)) d18 _ _ (OwnAt.lat p54 stepc_size (tsz_of size67)) (by omega) (kf)
    have k61 := WfT.start i51 (9999 - (kf)) d18 (kf)
    have q62 := FT_start (d := d18) (i := kf.toNat) (k := (9999 - (kf))) (n := (kf)) k20 (by omega) (by omega) (by omega)
    have e63 : startE (FT d18 kf.toNat) (9999 - (kf)) d18 (kf) = 0 := q62.1
    rw [e63] at s57
    have e64 : (startM (FT d18 kf.toNat) (9999 - (kf)) d18 (kf)) = (FT d18 (kf + 1).toNat) := by rw [q62.2, show kf.toNat + 1 = (kf + 1).toNat by omega]
    rw [e64] at p59 k61
    have z65 : h.size ≤ h45.size := x46.size
    have x66 : Ext h _ := (Chg.then (O := fun _ => False) (Chg.ext x46) x58 (fun b hb => .inr (i50 b hb))).toExt'
    have f67 := x58.same _ _ f48 (fun hb => p53.ne f48 (by decide) (by decide) _ hb rfl)
    have p68 := p54.keep fun b r hb q => x58.same b r q ((fun b hb hb2 => i52 b hb2 hb) b hb)
    have z69 : h.size ≤ h45.size := x46.size
    have n70 : ∀ zz, O6689 zz → ¬ (blk (Value.slice w13 (d18.xs.length) (c14))) zz := fun zz hz ez => by rcases o60 zz hz with g | g; (exact i52 _ g ez); have := p54.blk_lt ez; omega
    have o71 : ∀ zz, O6689 zz → h.size ≤ zz := fun zz hz => by rcases o60 zz hz with g | g; (exact i50 zz g); omega
    refine wc_ev [ltT 3 0 3 c55, evV 5 2 (vI (9999 - (kf))) (show binA Tryz.prog .sub 3 (vI 9999) (vI kf) = some (vI (9999 - (kf))) from sub_i64 (by omega) (by omega)), evLw 5 3 agg31 size31 f48, evF 5 5 s57, evV 7 0 (vI ((kf) + 1)) (show binA Tryz.prog .add 3 (vI kf) (vI 1) = some (vI ((kf) + 1)) from add_i64 (by omega) (by omega))] .normal h56 [(25, (vB true)), (26, (vI kf)), (8, (vI kf)), (27, (vP b4 0)), (28, (vI kf)), (29, (vI (9999 - (kf)))), (30, (vA #[(vS d18.name), (vI d18.rt), (vI d18.dl), (vL w13 d18.xs.length c14)])), (31, (vI kf)), (32, (vI 0)), (33, (vB false)), (34, (vI ((kf) + 1))), (24, (vI ((kf) + 1)))] ?_
    exact ⟨64 - (kf + 1).toNat, by omega, ⟨kf + 1, O6689, (fun i => ([vU, vU, vU, vU, (g0 4), vU, vU, vU, (vI kf), vU, vU, vU, vU, vU, vU, vU, vU, vU, vU, vU, vU, vU, vU, vU, vU, (vB true), (vI kf), (vP b4 0), (vI kf), (vI (9999 - (kf))), (vA #[(vS d18.name), (vI d18.rt), (vI d18.dl), (vL w13 d18.xs.length c14)]), (vI kf), (vI 0), (vB false), (vI ((kf) + 1))] : List Value).getD i undef), by as_aux_lemma => kernel_rfl, x66, rfl, f67, by omega, o71, k61, n70, p59, p68⟩⟩
  · refine wc_ev [ltF 3 0 3 c55] (.exit 0) h45 [(25, (vB false))] ?_
    refine wc_seq' (subc (bodyOf Tryz.prog 9) [1, 1, 1, 0]) (subc (bodyOf Tryz.prog 9) [1, 1, 1, 1]) (by kernel_rfl) ?_
    obtain ⟨v72, h73, s74, p75, p76, x77⟩ := tget_ok h45 p53 i51 9999
    have f78 := x77 _ _ f48
    have p79 := p53.keep fun b r _ q => x77 b r q
    have p80 := p54.keep fun b r _ q => x77 b r q
    have x81 := x46.trans x77
    have ek : kf.toNat = 64 := by omega
    obtain ⟨s1, es1⟩ : ∃ q : SagaM, q = ES d18 1 0 0 := ⟨_, rfl⟩
    have : s1.d.xs.length = d18.xs.length := by rw [es1]; rfl
    have c82 : getE (FT d18 kf.toNat) 9999 = 0 := by rw [ek]; exact (FT_get _).1
    obtain ⟨w83, c84, p85, o86, n87⟩ := p76 c82
    have f88 := getE_zero c82
    have c89 := ((i51).at f88).1
    have e90 : (getS (FT d18 kf.toNat) 9999) = s1 := by rw [ek, es1]; exact (FT_get _).2
    rw [e90] at p85 o86 n87 c89 f88
    have z91 : h.size ≤ h45.size := x46.size
    have n92 : ∀ zz, blk (Value.slice w83 (s1.d.xs.length) (c84)) zz → ¬ Ot zz := fun zz hz ez => by have := n87 zz hz; have := p53.blk_lt ez; omega
    have o93 : ∀ zz, blk (Value.slice w83 (s1.d.xs.length) (c84)) zz → h.size ≤ zz := fun zz hz => by have := n87 zz hz; omega
    obtain ⟨b94, eb95⟩ : ∃ zq, zq = h73.size := ⟨_, rfl⟩
    obtain ⟨h96, e97⟩ : ∃ zq, zq = h73.push (.cells #[(vS .empty), (vI 0), (vI 0), (Value.slice none 0 0), (vI 0), (vI 0), (vB false), (vI 0), (vI 0), (vI 0)] 38 (0, 0)) := ⟨_, rfl⟩
    have f98 := push_new e97
    rw [← eb95] at f98
    have n99 : b94 ≠ b27 := by have := row_lt f78; omega
    have n100 : ∀ zz, Ot zz → ¬ zz = b94 := fun zz hz ez => by have := p79.blk_lt hz; omega
    have n101 : ∀ zz, (blk (Value.slice w13 (d18.xs.length) (c14))) zz → ¬ zz = b94 := fun zz hz ez => by have := p80.blk_lt hz; omega
    have n102 : ∀ zz, (blk (Value.slice w83 (s1.d.xs.length) (c84))) zz → ¬ zz = b94 := fun zz hz ez => by have := o86.blk_lt hz; omega
    have x103 : Ext h73 h96 := by rw [e97]; exact Ext.push _ _
    have o104 : h.size ≤ b94 := by have := x81.size; omega
    have f105 := x103 _ _ f78
    have p106 := p79.keep fun b r _ q => x103 b r q
    have p107 := p80.keep fun b r _ q => x103 b r q
    have p108 := o86.keep fun b r _ q => x103 b r q
    have x109 := x81.trans x103
    obtain ⟨h110, e111⟩ : ∃ zq, zq = h96.setIfInBounds b94 (.cells #[(vS s1.d.name), (vI (s1.d.rt)), (vI (s1.d.dl)), (Value.slice w83 (s1.d.xs.length) (c84)), (vI (s1.st)), (vI (s1.ix)), (vB s1.cn), (vI (s1.tr)), (vI (s1.bg)), (vI (s1.er))] 38 (0, 0)) := ⟨_, rfl⟩
    have f112 := set_same e111 f98
    have f113 := set_other e111 f105 n99
    have p114 := p106.keep fun b r hb q => (Chg.set e111).same b r q (n100 b hb)
    have p115 := p107.keep fun b r hb q => (Chg.set e111).same b r q (n101 b hb)
    have p116 := p108.keep fun b r hb q => (Chg.set e111).same b r q (n102 b hb)
    have x117 := Ext.setNew x109 e111 o104
    refine wc_ev [evFe 8 1 p85 s74, evA 8 5 eb95 e97, evUw 8 6 size38 f98 e111] .normal h110 [(36, (vP b4 0)), (37, (vT #[(vA #[(vS s1.d.name), (vI s1.d.rt), (vI s1.d.dl), (vL w83 s1.d.xs.length c84), (vI s1.st), (vI s1.ix), (vB s1.cn), (vI s1.tr), (vI s1.bg), (vI s1.er)]), (vI 0)])), (35, (vT #[(vA #[(vS s1.d.name), (vI s1.d.rt), (vI s1.d.dl), (vL w83 s1.d.xs.length c84), (vI s1.st), (vI s1.ix), (vB s1.cn), (vI s1.tr), (vI s1.bg), (vI s1.er)]), (vI 0)])), (38, (vA #[(vS s1.d.name), (vI s1.d.rt), (vI s1.d.dl), (vL w83 s1.d.xs.length c84), (vI s1.st), (vI s1.ix), (vB s1.cn), (vI s1.tr), (vI s1.bg), (vI s1.er)])), (39, (vI 0)), (9, (vP b94 0)), (10, (vI 0))] ?_
    refine wc_seq' (subc (bodyOf Tryz.prog 9) [1, 1, 1, 1, 0]) (subc (bodyOf Tryz.prog 9) [1, 1, 1, 1, 1]) (by kernel_rfl) ?_
    obtain ⟨_, h118, s119, rfl, x120, O6762, p121, o122⟩ := tresult_ok h110 p114 i51 9999 9999 0 1 7 0 (x117 _ _ hg0) (x117 _ _ hg1)
    have k123 := WfT.res i51 9999 9999 0 1 7 0
    have q124 := FU_res k20
    rw [← ek] at q124
    have e125 : resTE (FT d18 kf.toNat) 9999 9999 0 1 7 0 = 0 := q124.1
    rw [e125] at s119
    have e126 : (resTM (FT d18 kf.toNat) 9999 9999 0 1 7 0) = (FU d18) := q124.2
    rw [e126] at p121 k123
    have z127 : h.size ≤ h110.size := x117.size
    have x128 : Ext h _ := (Chg.then (O := fun _ => False) (Chg.ext x117) x120 (fun b hb => .inr (i50 b hb))).toExt'
    have f129 := x120.same _ _ f113 (fun hb => p114.ne f113 (by decide) (by decide) _ hb rfl)
    have f130 := x120.same _ _ f112 (fun hb => n100 _ hb rfl)
    have p131 := p115.keep fun b r hb q => x120.same b r q ((fun b hb hb2 => i52 b hb2 hb) b hb)
    have p132 := p116.keep fun b r hb q => x120.same b r q (n92 b hb)
    have z133 : h.size ≤ h110.size := x117.size
    have n134 : ∀ zz, O6762 zz → ¬ zz = b94 := fun zz hz ez => by rcases o122 zz hz with g | g; (exact n100 _ g ez); have := row_lt f112; omega
    have n135 : ∀ zz, O6762 zz → ¬ (blk (Value.slice w13 (d18.xs.length) (c14))) zz := fun zz hz ez => by rcases o122 zz hz with g | g; (exact i52 _ g ez); have := p115.blk_lt ez; omega
    have n136 : ∀ zz, O6762 zz → ¬ (blk (Value.slice w83 (s1.d.xs.length) (c84))) zz := fun zz hz ez => by rcases o122 zz hz with g | g; (exact n92 _ ez g); have := p116.blk_lt ez; omega
    have o137 : ∀ zz, O6762 zz → h.size ≤ zz := fun zz hz => by rcases o122 zz hz with g | g; (exact i50 zz g); omega
    obtain ⟨_, h138, s139, rfl, x140, O6783, p141, o142⟩ := tstart_ok h118 p121 k123 1 d18 _ _ (OwnAt.lat p131 stepc_size (tsz_of size67)) (by omega) 0
    have k143 := WfT.start k123 1 d18 0
    have q144 : startE (FU d18) 1 d18 0 = 4 := (start_add (by omega) k20).trans (add_full (FU_none (by omega)) (FU_len _))
    have e145 : startE (FU d18) 1 d18 0 = 4 := q144
    rw [e145] at s139
    have e146 : (startM (FU d18) 1 d18 0) = (FU d18) := start_no q144 (by decide)
    rw [e146] at p141 k143
    have z147 : h.size ≤ h118.size := x128.size
    have x148 : Ext h _ := (Chg.then (O := fun _ => False) (Chg.ext x128) x140 (fun b hb => .inr (o137 b hb))).toExt'
    have f149 := x140.same _ _ f129 (fun hb => p121.ne f129 (by decide) (by decide) _ hb rfl)
    have f150 := x140.same _ _ f130 (fun hb => n134 _ hb rfl)
    have p151 := p131.keep fun b r hb q => x140.same b r q ((fun b hb hb2 => n135 b hb2 hb) b hb)
    have p152 := p132.keep fun b r hb q => x140.same b r q ((fun b hb hb2 => n136 b hb2 hb) b hb)
    have z153 : h.size ≤ h118.size := x128.size
    have n154 : ∀ zz, O6783 zz → ¬ zz = b94 := fun zz hz ez => by rcases o142 zz hz with g | g; (exact n134 _ g ez); have := row_lt f130; omega
    have n155 : ∀ zz, O6783 zz → ¬ (blk (Value.slice w13 (d18.xs.length) (c14))) zz := fun zz hz ez => by rcases o142 zz hz with g | g; (exact n135 _ g ez); have := p131.blk_lt ez; omega
    have n156 : ∀ zz, O6783 zz → ¬ (blk (Value.slice w83 (s1.d.xs.length) (c84))) zz := fun zz hz ez => by rcases o142 zz hz with g | g; (exact n136 _ g ez); have := p132.blk_lt ez; omega
    have o157 : ∀ zz, O6783 zz → h.size ≤ zz := fun zz hz => by rcases o142 zz hz with g | g; (exact o137 zz g); omega
    obtain ⟨_, h158, s159, rfl, x160, O6804, p161, o162⟩ := put_ok h138 p141 k143 1 s1 _ _ (OwnAt.lat p152 stepc_size (tsz_of size67)) (by omega)
    have k163 := WfT.put k143 1 s1
    have q164 : putE (FU d18) 1 s1 = 4 := (put_add (by omega) c89).trans (add_full (FU_none (by omega)) (FU_len _))
    have e165 : putE (FU d18) 1 s1 = 4 := q164
    rw [e165] at s159
    have e166 : (putM (FU d18) 1 s1) = (FU d18) := put_no q164 (by decide)
    rw [e166] at p161 k163
    have z167 : h.size ≤ h138.size := x148.size
    have x168 : Ext h _ := (Chg.then (O := fun _ => False) (Chg.ext x148) x160 (fun b hb => .inr (o157 b hb))).toExt'
    have f169 := x160.same _ _ f149 (fun hb => p141.ne f149 (by decide) (by decide) _ hb rfl)
    have f170 := x160.same _ _ f150 (fun hb => n154 _ hb rfl)
    have p171 := p151.keep fun b r hb q => x160.same b r q ((fun b hb hb2 => n155 b hb2 hb) b hb)
    have p172 := p152.keep fun b r hb q => x160.same b r q ((fun b hb hb2 => n156 b hb2 hb) b hb)
    have z173 : h.size ≤ h138.size := x148.size
    have n174 : ∀ zz, O6804 zz → ¬ zz = b94 := fun zz hz ez => by rcases o162 zz hz with g | g; (exact n154 _ g ez); have := row_lt f150; omega
    have n175 : ∀ zz, O6804 zz → ¬ (blk (Value.slice w13 (d18.xs.length) (c14))) zz := fun zz hz ez => by rcases o162 zz hz with g | g; (exact n155 _ g ez); have := p151.blk_lt ez; omega
    have n176 : ∀ zz, O6804 zz → ¬ (blk (Value.slice w83 (s1.d.xs.length) (c84))) zz := fun zz hz ez => by rcases o162 zz hz with g | g; (exact n156 _ g ez); have := p152.blk_lt ez; omega
    have o177 : ∀ zz, O6804 zz → h.size ≤ zz := fun zz hz => by rcases o162 zz hz with g | g; (exact o157 zz g); omega
    obtain ⟨_, h178, s179, rfl, x180, O6825, p181, o182⟩ := put_ok h158 p161 k163 9999 s1 _ _ (OwnAt.lat p172 stepc_size (tsz_of size67)) (by omega)
    have k183 := WfT.put k163 9999 s1
    have q184 : putE (FU d18) 9999 s1 = 6 := (put_add (by omega) c89).trans (add_have (FU_last _))
    have e185 : putE (FU d18) 9999 s1 = 6 := q184
    rw [e185] at s179
    have e186 : (putM (FU d18) 9999 s1) = (FU d18) := put_no q184 (by decide)
    rw [e186] at p181 k183
    have z187 : h.size ≤ h158.size := x168.size
    have x188 : Ext h _ := (Chg.then (O := fun _ => False) (Chg.ext x168) x180 (fun b hb => .inr (o177 b hb))).toExt'
    have f189 := x180.same _ _ f169 (fun hb => p161.ne f169 (by decide) (by decide) _ hb rfl)
    have f190 := x180.same _ _ f170 (fun hb => n174 _ hb rfl)
    have p191 := p171.keep fun b r hb q => x180.same b r q ((fun b hb hb2 => n175 b hb2 hb) b hb)
    have p192 := p172.keep fun b r hb q => x180.same b r q ((fun b hb hb2 => n176 b hb2 hb) b hb)
    have z193 : h.size ≤ h158.size := x168.size
    have n194 : ∀ zz, O6825 zz → ¬ zz = b94 := fun zz hz ez => by rcases o182 zz hz with g | g; (exact n174 _ g ez); have := row_lt f170; omega
    have n195 : ∀ zz, O6825 zz → ¬ (blk (Value.slice w13 (d18.xs.length) (c14))) zz := fun zz hz ez => by rcases o182 zz hz with g | g; (exact n175 _ g ez); have := p171.blk_lt ez; omega
    have n196 : ∀ zz, O6825 zz → ¬ (blk (Value.slice w83 (s1.d.xs.length) (c84))) zz := fun zz hz ez => by rcases o182 zz hz with g | g; (exact n176 _ g ez); have := p172.blk_lt ez; omega
    have o197 : ∀ zz, O6825 zz → h.size ≤ zz := fun zz hz => by rcases o182 zz hz with g | g; (exact o177 zz g); omega
    obtain ⟨_, h198, s199, rfl, x200, O6846, p201, o202⟩ := tstart_ok h178 p181 k183 9999 d18 _ _ (OwnAt.lat p191 stepc_size (tsz_of size67)) (by omega) 0
    have k203 := WfT.start k183 9999 d18 0
    have q204 : startE (FU d18) 9999 d18 0 = 6 := (start_add (by omega) k20).trans (add_have (FU_last _))
    have e205 : startE (FU d18) 9999 d18 0 = 6 := q204
    rw [e205] at s199
    have e206 : (startM (FU d18) 9999 d18 0) = (FU d18) := start_no q204 (by decide)
    rw [e206] at p201 k203
    have z207 : h.size ≤ h178.size := x188.size
    have x208 : Ext h _ := (Chg.then (O := fun _ => False) (Chg.ext x188) x200 (fun b hb => .inr (o197 b hb))).toExt'
    have f209 := x200.same _ _ f189 (fun hb => p181.ne f189 (by decide) (by decide) _ hb rfl)
    have f210 := x200.same _ _ f190 (fun hb => n194 _ hb rfl)
    have p211 := p191.keep fun b r hb q => x200.same b r q ((fun b hb hb2 => n195 b hb2 hb) b hb)
    have p212 := p192.keep fun b r hb q => x200.same b r q ((fun b hb hb2 => n196 b hb2 hb) b hb)
    have z213 : h.size ≤ h178.size := x188.size
    have n214 : ∀ zz, O6846 zz → ¬ (blk (Value.slice w13 (d18.xs.length) (c14))) zz := fun zz hz ez => by rcases o202 zz hz with g | g; (exact n195 _ g ez); have := p191.blk_lt ez; omega
    have n215 : ∀ zz, O6846 zz → ¬ (blk (Value.slice w83 (s1.d.xs.length) (c84))) zz := fun zz hz ez => by rcases o202 zz hz with g | g; (exact n196 _ g ez); have := p192.blk_lt ez; omega
    have o216 : ∀ zz, O6846 zz → h.size ≤ zz := fun zz hz => by rcases o202 zz hz with g | g; (exact o197 zz g); omega
    refine wc_ev [evF 9 5 s119, evLw 9 10 agg31 size31 f129, evF 9 11 s139, evLw 9 16 agg38 size38 f150, evF 9 17 s159, evLw 9 22 agg38 size38 f170, evF 9 23 s179, evLw 9 28 agg31 size31 f189, evF 9 29 s199] .normal h198 [(40, (vI 0)), (41, (vB false)), (42, (vB false)), (43, (vP b4 0)), (44, (vA #[(vI 9999), (vI 0), (vI 1)])), (45, (vI 0)), (46, (vB false)), (47, (vB false)), (48, (vB false)), (49, (vP b4 0)), (50, (vA #[(vS d18.name), (vI d18.rt), (vI d18.dl), (vL w13 d18.xs.length c14)])), (51, (vI 4)), (52, (vB false)), (53, (vB false)), (54, (vB false)), (55, (vP b4 0)), (56, (vA #[(vS s1.d.name), (vI s1.d.rt), (vI s1.d.dl), (vL w83 s1.d.xs.length c84), (vI s1.st), (vI s1.ix), (vB s1.cn), (vI s1.tr), (vI s1.bg), (vI s1.er)])), (57, (vI 4)), (58, (vB false)), (59, (vB false)), (60, (vB false)), (61, (vP b4 0)), (62, (vA #[(vS s1.d.name), (vI s1.d.rt), (vI s1.d.dl), (vL w83 s1.d.xs.length c84), (vI s1.st), (vI s1.ix), (vB s1.cn), (vI s1.tr), (vI s1.bg), (vI s1.er)])), (63, (vI 6)), (64, (vB false)), (65, (vB false)), (66, (vB false)), (67, (vP b4 0)), (68, (vA #[(vS d18.name), (vI d18.rt), (vI d18.dl), (vL w13 d18.xs.length c14)])), (69, (vI 6)), (70, (vB false)), (71, (vB false))] ?_
    refine wc_act { tmps := #[(Value.int .u8 (n)), (Value.int .u16 (far)), vZ, vZ, (g0 4), (vP b4 0), (vP b27 0), (vI far), (g0 8), (vP b94 0), (vI 0), vZ, vZ, vZ, vZ, vZ, vZ, vZ, vZ, (vP b4 0), (Value.int .u8 (n)), (vA #[(vS d18.name), (vI d18.rt), (vI d18.dl), (vL w13 d18.xs.length c14)]), (Value.int .u16 (far)), (vI far), (vI kf), (vB false), (g0 26), (g0 27), (g0 28), (g0 29), (g0 30), (g0 31), (g0 32), (g0 33), (g0 34), (vT #[(vA #[(vS s1.d.name), (vI s1.d.rt), (vI s1.d.dl), (vL w83 s1.d.xs.length c84), (vI s1.st), (vI s1.ix), (vB s1.cn), (vI s1.tr), (vI s1.bg), (vI s1.er)]), (vI 0)]), (vP b4 0), (vT #[(vA #[(vS s1.d.name), (vI s1.d.rt), (vI s1.d.dl), (vL w83 s1.d.xs.length c84), (vI s1.st), (vI s1.ix), (vB s1.cn), (vI s1.tr), (vI s1.bg), (vI s1.er)]), (vI 0)]), (vA #[(vS s1.d.name), (vI s1.d.rt), (vI s1.d.dl), (vL w83 s1.d.xs.length c84), (vI s1.st), (vI s1.ix), (vB s1.cn), (vI s1.tr), (vI s1.bg), (vI s1.er)]), (vI 0), (vI 0), (vB false), (vB false), (vP b4 0), (vA #[(vI 9999), (vI 0), (vI 1)]), (vI 0), (vB false), (vB false), (vB false), (vP b4 0), (vA #[(vS d18.name), (vI d18.rt), (vI d18.dl), (vL w13 d18.xs.length c14)]), (vI 4), (vB false), (vB false), (vB false), (vP b4 0), (vA #[(vS s1.d.name), (vI s1.d.rt), (vI s1.d.dl), (vL w83 s1.d.xs.length c84), (vI s1.st), (vI s1.ix), (vB s1.cn), (vI s1.tr), (vI s1.bg), (vI s1.er)]), (vI 4), (vB false), (vB false), (vB false), (vP b4 0), (vA #[(vS s1.d.name), (vI s1.d.rt), (vI s1.d.dl), (vL w83 s1.d.xs.length c84), (vI s1.st), (vI s1.ix), (vB s1.cn), (vI s1.tr), (vI s1.bg), (vI s1.er)]), (vI 6), (vB false), (vB false), (vB false), (vP b4 0), (vA #[(vS d18.name), (vI d18.rt), (vI d18.dl), (vL w13 d18.xs.length c14)]), (vI 6), (vB false), (vB false), vZ, vZ, vZ, vZ, vZ, vZ, vZ, vZ, vZ, vZ, vZ, vZ, vZ, vZ, vZ, vZ, vZ, vZ, vZ, vZ, vZ, vZ, vZ, vZ, vZ, vZ, vZ, vZ, vZ, vZ, vZ, vZ, vZ, vZ, vZ, vZ, vZ, vZ, vZ, vZ, vZ, vZ, vZ, vZ, vZ, vZ, vZ, vZ, vZ, vZ, vZ, vZ, vZ, vZ, vZ, vZ, vZ, vZ, vZ, vZ, vZ, vZ, vZ, vZ, vZ, vZ, vZ, vZ, vZ, vZ, vZ, vZ, vZ, vZ, vZ, vZ, vZ, vZ, vZ, vZ, vZ, vZ, vZ, vZ, vZ, vZ, vZ, vZ, vZ, vZ, vZ, vZ, vZ, vZ, vZ, vZ, vZ, vZ, vZ, vZ, vZ, vZ, vZ, vZ, vZ, vZ, vZ, vZ, vZ, vZ, vZ, vZ, vZ, vZ, vZ, vZ, vZ, vZ, vZ, vZ, vZ, vZ, vZ, vZ, vZ, vZ, vZ, vZ, vZ, vZ, vZ, vZ, vZ, vZ, vZ, vZ, vZ, vZ, vZ, vZ, vZ, vZ, vZ, vZ, vZ, vZ, vZ, vZ, vZ, vZ, vZ, vZ, vZ, vZ, vZ, vZ, vZ, vZ, vZ, vZ, vZ, vZ], defers := [] } (by as_aux_lemma => kernel_rfl) ?_
    refine wc_seq' (subc (bodyOf Tryz.prog 9) [1, 1, 1, 1, 1, 0]) (subc (bodyOf Tryz.prog 9) [1, 1, 1, 1, 1, 1]) (by kernel_rfl) ?_
    obtain ⟨b217, eb218⟩ : ∃ zq, zq = h198.size := ⟨_, rfl⟩
    obtain ⟨h219, e220⟩ : ∃ zq, zq = h198.push (.cells #[(vS .empty), (vI 0), (vI 0), (Value.slice none 0 0)] 31 (0, 0)) := ⟨_, rfl⟩
    have f221 := push_new e220
    rw [← eb218] at f221
    have n222 : b217 ≠ b27 := by have := row_lt f209; omega
    have n223 : b217 ≠ b94 := by have := row_lt f210; omega
    have n224 : ∀ zz, O6846 zz → ¬ zz = b217 := fun zz hz ez => by have := p201.blk_lt hz; omega
    have n225 : ∀ zz, (blk (Value.slice w13 (d18.xs.length) (c14))) zz → ¬ zz = b217 := fun zz hz ez => by have := p211.blk_lt hz; omega
    have n226 : ∀ zz, (blk (Value.slice w83 (s1.d.xs.length) (c84))) zz → ¬ zz = b217 := fun zz hz ez => by have := p212.blk_lt hz; omega
    have x227 : Ext h198 h219 := by rw [e220]; exact Ext.push _ _
    have o228 : h.size ≤ b217 := by have := x208.size; omega
    have f229 := x227 _ _ f209
    have f230 := x227 _ _ f210
    have p231 := p201.keep fun b r _ q => x227 b r q
    have p232 := p211.keep fun b r _ q => x227 b r q
    have p233 := p212.keep fun b r _ q => x227 b r q
    have x234 := x208.trans x227
    obtain ⟨h235, e236⟩ : ∃ zq, zq = h219.setIfInBounds b217 (.cells #[(vS d18.name), (vI (d18.rt)), (vI (d18.dl)), (Value.slice w13 (d18.xs.length) (c14))] 31 (0, 0)) := ⟨_, rfl⟩
    have f237 := set_same e236 f221
    have f238 := set_other e236 f229 n222
    have f239 := set_other e236 f230 n223
    have p240 := p231.keep fun b r hb q => (Chg.set e236).same b r q (n224 b hb)
    have p241 := p232.keep fun b r hb q => (Chg.set e236).same b r q (n225 b hb)
    have p242 := p233.keep fun b r hb q => (Chg.set e236).same b r q (n226 b hb)
    have x243 := Ext.setNew x234 e236 o228
    refine wc_ev [evLw 11 0 agg31 size31 f209, evA 11 1 eb218 e220, evUw 11 2 size31 f221 e236] .normal h235 [(72, (vA #[(vS d18.name), (vI d18.rt), (vI d18.dl), (vL w13 d18.xs.length c14)])), (11, (vP b217 0))] ?_
    refine wc_seq' (subc (bodyOf Tryz.prog 9) [1, 1, 1, 1, 1, 1, 0]) (subc (bodyOf Tryz.prog 9) [1, 1, 1, 1, 1, 1, 1]) (by kernel_rfl) ?_
    obtain ⟨h244, e245⟩ : ∃ zq, zq = h235.setIfInBounds b217 (.cells #[(vS d18.name), (vI (d18.rt)), (vI (d18.dl)), (Value.slice none 0 0)] 31 (0, 0)) := ⟨_, rfl⟩
    have f246 := set_same e245 f237
    have f247 := set_other e245 f238 n222
    have f248 := set_other e245 f239 n223
    have p249 := p240.keep fun b r hb q => (Chg.set e245).same b r q (n224 b hb)
    have p250 := p241.keep fun b r hb q => (Chg.set e245).same b r q (n225 b hb)
    have p251 := p242.keep fun b r hb q => (Chg.set e245).same b r q (n226 b hb)
    have x252 := Ext.setNew x243 e245 o228
    refine wc_ev [evT 12 1 3 size29 f237 e245] .normal h244 [(73, (vP b217 3))] ?_
    refine wc_seq' (subc (bodyOf Tryz.prog 9) [1, 1, 1, 1, 1, 1, 1, 0]) (subc (bodyOf Tryz.prog 9) [1, 1, 1, 1, 1, 1, 1, 1]) (by kernel_rfl) ?_
    obtain ⟨b253, eb254⟩ : ∃ zq, zq = h244.size := ⟨_, rfl⟩
    obtain ⟨h255, e256⟩ : ∃ zq, zq = h244.push (.cells #[(vS .empty), (vI 0), (vI 0), (Value.slice none 0 0), (vI 0), (vI 0), (vB false), (vI 0), (vI 0), (vI 0)] 38 (0, 0)) := ⟨_, rfl⟩
    have f257 := push_new e256
    rw [← eb254] at f257
    have n258 : b253 ≠ b27 := by have := row_lt f247; omega
    have n259 : b253 ≠ b217 := by have := row_lt f246; omega
    have n260 : ∀ zz, O6846 zz → ¬ zz = b253 := fun zz hz ez => by have := p249.blk_lt hz; omega
    have n261 : ∀ zz, (blk (Value.slice w13 (d18.xs.length) (c14))) zz → ¬ zz = b253 := fun zz hz ez => by have := p250.blk_lt hz; omega
    have n262 : ∀ zz, (blk (Value.slice w83 (s1.d.xs.length) (c84))) zz → ¬ zz = b253 := fun zz hz ez => by have := p251.blk_lt hz; omega
    have x263 : Ext h244 h255 := by rw [e256]; exact Ext.push _ _
    have o264 : h.size ≤ b253 := by have := x252.size; omega
    have f265 := x263 _ _ f247
    have f266 := x263 _ _ f246
    have p267 := p249.keep fun b r _ q => x263 b r q
    have p268 := p250.keep fun b r _ q => x263 b r q
    have p269 := p251.keep fun b r _ q => x263 b r q
    have x270 := x252.trans x263
    obtain ⟨h271, e272⟩ : ∃ zq, zq = h255.setIfInBounds b253 (.cells #[(vS s1.d.name), (vI (s1.d.rt)), (vI (s1.d.dl)), (Value.slice w83 (s1.d.xs.length) (c84)), (vI (s1.st)), (vI (s1.ix)), (vB s1.cn), (vI (s1.tr)), (vI (s1.bg)), (vI (s1.er))] 38 (0, 0)) := ⟨_, rfl⟩
    have f273 := set_same e272 f257
    have f274 := set_other e272 f265 n258
    have f275 := set_other e272 f266 n259
    have p276 := p267.keep fun b r hb q => (Chg.set e272).same b r q (n260 b hb)
    have p277 := p268.keep fun b r hb q => (Chg.set e272).same b r q (n261 b hb)
    have p278 := p269.keep fun b r hb q => (Chg.set e272).same b r q (n262 b hb)
    have x279 := Ext.setNew x270 e272 o264
    refine wc_ev [evLw 13 0 agg38 size38 f248, evA 13 1 eb254 e256, evUw 13 2 size38 f257 e272] .normal h271 [(74, (vA #[(vS s1.d.name), (vI s1.d.rt), (vI s1.d.dl), (vL w83 s1.d.xs.length c84), (vI s1.st), (vI s1.ix), (vB s1.cn), (vI s1.tr), (vI s1.bg), (vI s1.er)])), (12, (vP b253 0))] ?_
    refine wc_seq' (subc (bodyOf Tryz.prog 9) [1, 1, 1, 1, 1, 1, 1, 1, 0]) (subc (bodyOf Tryz.prog 9) [1, 1, 1, 1, 1, 1, 1, 1, 1]) (by kernel_rfl) ?_
    obtain ⟨h280, e281⟩ : ∃ zq, zq = h271.setIfInBounds b253 (.cells #[(vS s1.d.name), (vI (s1.d.rt)), (vI (s1.d.dl)), (Value.slice w83 (s1.d.xs.length) (c84)), (vI (s1.st)), (vI (((d18.xs.length : Nat)) + (far))), (vB s1.cn), (vI (s1.tr)), (vI (s1.bg)), (vI (s1.er))] 38 (0, 0)) := ⟨_, rfl⟩
    have f282 := set_same e281 f273
    have f283 := set_other e281 f274 n258
    have f284 := set_other e281 f275 n259
    have p285 := p276.keep fun b r hb q => (Chg.set e281).same b r q (n260 b hb)
    have p286 := p277.keep fun b r hb q => (Chg.set e281).same b r q (n261 b hb)
    have p287 := p278.keep fun b r hb q => (Chg.set e281).same b r q (n262 b hb)
    have x288 := Ext.setNew x279 e281 o264
    refine wc_ev [evC 14 1 3 agg29 f274, evV 14 4 (vI (((d18.xs.length : Nat)) + (far))) (show binA Tryz.prog .add 3 (vI ((d18.xs.length : Nat))) (vI far) = some (vI (((d18.xs.length : Nat)) + (far))) from add_i64 (by omega) (by omega)), evT 14 6 5 size3 f273 e281] .normal h280 [(75, (vP b27 3)), (76, (vL w13 d18.xs.length c14)), (77, (vI ((d18.xs.length : Nat)))), (78, (vI far)), (79, (vI (((d18.xs.length : Nat)) + (far)))), (80, (vP b253 5))] ?_
    refine wc_seq' (subc (bodyOf Tryz.prog 9) [1, 1, 1, 1, 1, 1, 1, 1, 1, 0]) (subc (bodyOf Tryz.prog 9) [1, 1, 1, 1, 1, 1, 1, 1, 1, 1]) (by kernel_rfl) ?_
    refine wc_seq' (subc (bodyOf Tryz.prog 9) [1, 1, 1, 1, 1, 1, 1, 1, 1, 0, 0]) (subc (bodyOf Tryz.prog 9) [1, 1, 1, 1, 1, 1, 1, 1, 1, 0, 1]) (by kernel_rfl) ?_
    obtain ⟨b289, eb290⟩ : ∃ zq, zq = h280.size := ⟨_, rfl⟩
    obtain ⟨h291, e292⟩ : ∃ zq, zq = h280.push (.cells #[(vI (0 - (far))), (vI (10000 + (far)))] 3 (0, 0)) := ⟨_, rfl⟩
    have f293 := push_new e292
    rw [← eb290] at f293
    have n294 : ∀ zz, O6846 zz → ¬ zz = b289 := fun zz hz ez => by have := p285.blk_lt hz; omega
    have x295 : Ext h280 h291 := by rw [e292]; exact Ext.push _ _
    have o296 : h.size ≤ b289 := by have := x288.size; omega
    have f297 := x295 _ _ f283
    have f298 := x295 _ _ f284
    have f299 := x295 _ _ f282
    have p300 := p285.keep fun b r _ q => x295 b r q
    have p301 := p286.keep fun b r _ q => x295 b r q
    have p302 := p287.keep fun b r _ q => x295 b r q
    have x303 := x288.trans x295
    refine wc_ev [evV 15 1 (vI (0 - (far))) (show (vI (0 - (far))) = (vI (IntKind.i64.wrap (0 - (far)))) from by congr 1; rw [IntKind.wrap_i64]; omega), evV 15 3 (vI (10000 + (far))) (show binA Tryz.prog .add 3 (vI 10000) (vI far) = some (vI (10000 + (far))) from add_i64 (by omega) (by omega)), evS 15 4 2 eb290 e292] .normal h291 [(81, (vI far)), (82, (vI (0 - (far)))), (83, (vI far)), (84, (vI (10000 + (far)))), (85, (vL (some ⟨b289, 0, none⟩) 2 2)), (86, (vI 2)), (87, (vI 0))] ?_
    refine wc_block' 2 (subc (bodyOf Tryz.prog 9) [1, 1, 1, 1, 1, 1, 1, 1, 1, 0, 1, 0]) (by kernel_rfl) ?_
    refine wc_once (subc (bodyOf Tryz.prog 9) [1, 1, 1, 1, 1, 1, 1, 1, 1, 0, 1, 0, 0]) (by kernel_rfl) ?_
    obtain ⟨_, h304, s305, rfl, x306, O6975, p307, o308⟩ := tstart_ok h291 p300 k203 (0 - (far)) (DefM.mk d18.name (d18.rt) (d18.dl) []) _ _ lat_none (by exact Nat.zero_le _) (-1)
    have k309 := WfT.start k203 (0 - (far)) (DefM.mk d18.name (d18.rt) (d18.dl) []) (-1)
    have q310 : startE (FU d18) (0 - (far)) (DefM.mk d18.name (d18.rt) (d18.dl) []) (-1) = 2 := start_arg (by omega)
    have e311 : startE (FU d18) (0 - (far)) (DefM.mk d18.name (d18.rt) (d18.dl) []) (-1) = 2 := q310
    rw [e311] at s305
    have e312 : (startM (FU d18) (0 - (far)) (DefM.mk d18.name (d18.rt) (d18.dl) []) (-1)) = (FU d18) := start_no q310 (by decide)
    rw [e312] at p307 k309
    have z313 : h.size ≤ h291.size := x303.size
    have x314 : Ext h _ := (Chg.then (O := fun _ => False) (Chg.ext x303) x306 (fun b hb => .inr (o216 b hb))).toExt'
    have f315 := x306.same _ _ f297 (fun hb => p300.ne f297 (by decide) (by decide) _ hb rfl)
    have f316 := x306.same _ _ f298 (fun hb => n224 _ hb rfl)
    have f317 := x306.same _ _ f299 (fun hb => n260 _ hb rfl)
    have f318 := x306.same _ _ f293 (fun hb => n294 _ hb rfl)
    have p319 := p301.keep fun b r hb q => x306.same b r q ((fun b hb hb2 => n214 b hb2 hb) b hb)
    have p320 := p302.keep fun b r hb q => x306.same b r q ((fun b hb hb2 => n215 b hb2 hb) b hb)
    have z321 : h.size ≤ h291.size := x303.size
    have n322 : ∀ zz, O6975 zz → ¬ zz = b217 := fun zz hz ez => by rcases o308 zz hz with g | g; (exact n224 _ g ez); have := row_lt f298; omega
    have n323 : ∀ zz, O6975 zz → ¬ zz = b253 := fun zz hz ez => by rcases o308 zz hz with g | g; (exact n260 _ g ez); have := row_lt f299; omega
    have n324 : ∀ zz, O6975 zz → ¬ zz = b289 := fun zz hz ez => by rcases o308 zz hz with g | g; (exact n294 _ g ez); have := row_lt f293; omega
    have n325 : ∀ zz, O6975 zz → ¬ (blk (Value.slice w13 (d18.xs.length) (c14))) zz := fun zz hz ez => by rcases o308 zz hz with g | g; (exact n214 _ g ez); have := p301.blk_lt ez; omega
    have n326 : ∀ zz, O6975 zz → ¬ (blk (Value.slice w83 (s1.d.xs.length) (c84))) zz := fun zz hz ez => by rcases o308 zz hz with g | g; (exact n215 _ g ez); have := p302.blk_lt ez; omega
    have o327 : ∀ zz, O6975 zz → h.size ≤ zz := fun zz hz => by rcases o308 zz hz with g | g; (exact o216 zz g); omega
    obtain ⟨_, h328, s329, rfl, x330, O7002, p331, o332⟩ := put_ok h304 p307 k309 (0 - (far)) (SagaM.mk s1.d (s1.st) (((d18.xs.length : Nat)) + (far)) s1.cn (s1.tr) (s1.bg) (s1.er)) _ _ (OwnAt.lat p320 stepc_size (tsz_of size67)) (by first | omega | (show _ ≤ _; simp only []; omega))
    have k333 := WfT.put k309 (0 - (far)) (SagaM.mk s1.d (s1.st) (((d18.xs.length : Nat)) + (far)) s1.cn (s1.tr) (s1.bg) (s1.er))
    have q334 : putE (FU d18) (0 - (far)) (SagaM.mk s1.d (s1.st) (((d18.xs.length : Nat)) + (far)) s1.cn (s1.tr) (s1.bg) (s1.er)) = 2 := put_arg (by omega)
    have e335 : putE (FU d18) (0 - (far)) (SagaM.mk s1.d (s1.st) (((d18.xs.length : Nat)) + (far)) s1.cn (s1.tr) (s1.bg) (s1.er)) = 2 := q334
    rw [e335] at s329
    have e336 : (putM (FU d18) (0 - (far)) (SagaM.mk s1.d (s1.st) (((d18.xs.length : Nat)) + (far)) s1.cn (s1.tr) (s1.bg) (s1.er))) = (FU d18) := put_no q334 (by decide)
    rw [e336] at p331 k333
    have z337 : h.size ≤ h304.size := x314.size
    have x338 : Ext h _ := (Chg.then (O := fun _ => False) (Chg.ext x314) x330 (fun b hb => .inr (o327 b hb))).toExt'
    have f339 := x330.same _ _ f315 (fun hb => p307.ne f315 (by decide) (by decide) _ hb rfl)
    have f340 := x330.same _ _ f316 (fun hb => n322 _ hb rfl)
    have f341 := x330.same _ _ f317 (fun hb => n323 _ hb rfl)
    have f342 := x330.same _ _ f318 (fun hb => n324 _ hb rfl)
    have p343 := p319.keep fun b r hb q => x330.same b r q ((fun b hb hb2 => n325 b hb2 hb) b hb)
    have p344 := p320.keep fun b r hb q => x330.same b r q ((fun b hb hb2 => n326 b hb2 hb) b hb)
    have z345 : h.size ≤ h304.size := x314.size
    have n346 : ∀ zz, O7002 zz → ¬ zz = b217 := fun zz hz ez => by rcases o332 zz hz with g | g; (exact n322 _ g ez); have := row_lt f316; omega
    have n347 : ∀ zz, O7002 zz → ¬ zz = b253 := fun zz hz ez => by rcases o332 zz hz with g | g; (exact n323 _ g ez); have := row_lt f317; omega
    have n348 : ∀ zz, O7002 zz → ¬ zz = b289 := fun zz hz ez => by rcases o332 zz hz with g | g; (exact n324 _ g ez); have := row_lt f318; omega
    have n349 : ∀ zz, O7002 zz → ¬ (blk (Value.slice w13 (d18.xs.length) (c14))) zz := fun zz hz ez => by rcases o332 zz hz with g | g; (exact n325 _ g ez); have := p319.blk_lt ez; omega
    have n350 : ∀ zz, O7002 zz → ¬ (blk (Value.slice w83 (s1.d.xs.length) (c84))) zz := fun zz hz ez => by rcases o332 zz hz with g | g; (exact n326 _ g ez); have := p320.blk_lt ez; omega
    have o351 : ∀ zz, O7002 zz → h.size ≤ zz := fun zz hz => by rcases o332 zz hz with g | g; (exact o327 zz g); omega
    obtain ⟨_, h352, s353, rfl, x354, O7029, p355, o356⟩ := tcancel_ok h328 p331 k333 (0 - (far))
    have k357 := WfT.can k333 (0 - (far))
    have q358 : canTE (FU d18) (0 - (far)) = 5 := can_none (FU_none (by omega))
    have e359 : canTE (FU d18) (0 - (far)) = 5 := q358
    rw [e359] at s353
    have e360 : (canTM (FU d18) (0 - (far))) = (FU d18) := can_no q358 (by decide)
    rw [e360] at p355 k357
    have z361 : h.size ≤ h328.size := x338.size
    have x362 : Ext h _ := (Chg.then (O := fun _ => False) (Chg.ext x338) x354 (fun b hb => .inr (o351 b hb))).toExt'
    have f363 := x354.same _ _ f339 (fun hb => p331.ne f339 (by decide) (by decide) _ hb rfl)
    have f364 := x354.same _ _ f340 (fun hb => n346 _ hb rfl)
    have f365 := x354.same _ _ f341 (fun hb => n347 _ hb rfl)
    have f366 := x354.same _ _ f342 (fun hb => n348 _ hb rfl)
    have p367 := p343.keep fun b r hb q => x354.same b r q ((fun b hb hb2 => n349 b hb2 hb) b hb)
    have p368 := p344.keep fun b r hb q => x354.same b r q ((fun b hb hb2 => n350 b hb2 hb) b hb)
    have z369 : h.size ≤ h328.size := x338.size
    have n370 : ∀ zz, O7029 zz → ¬ zz = b217 := fun zz hz ez => by rcases o356 zz hz with g | g; (exact n346 _ g ez); have := row_lt f340; omega
    have n371 : ∀ zz, O7029 zz → ¬ zz = b253 := fun zz hz ez => by rcases o356 zz hz with g | g; (exact n347 _ g ez); have := row_lt f341; omega
    have n372 : ∀ zz, O7029 zz → ¬ zz = b289 := fun zz hz ez => by rcases o356 zz hz with g | g; (exact n348 _ g ez); have := row_lt f342; omega
    have n373 : ∀ zz, O7029 zz → ¬ (blk (Value.slice w13 (d18.xs.length) (c14))) zz := fun zz hz ez => by rcases o356 zz hz with g | g; (exact n349 _ g ez); have := p343.blk_lt ez; omega
    have n374 : ∀ zz, O7029 zz → ¬ (blk (Value.slice w83 (s1.d.xs.length) (c84))) zz := fun zz hz ez => by rcases o356 zz hz with g | g; (exact n350 _ g ez); have := p344.blk_lt ez; omega
    have o375 : ∀ zz, O7029 zz → h.size ≤ zz := fun zz hz => by rcases o356 zz hz with g | g; (exact o351 zz g); omega
    obtain ⟨_, h376, s377, rfl, x378, O7056, p379, o380⟩ := tresult_ok h352 p355 k357 (0 - (far)) 0 0 0 (19 + (far)) 0 (x362 _ _ hg0) (x362 _ _ hg1)
    have k381 := WfT.res k357 (0 - (far)) 0 0 0 (19 + (far)) 0
    have q382 : resTE (FU d18) (0 - (far)) 0 0 0 (19 + (far)) 0 = 5 := res_none (FU_none (by omega))
    have e383 : resTE (FU d18) (0 - (far)) 0 0 0 (19 + (far)) 0 = 5 := q382
    rw [e383] at s377
    have e384 : (resTM (FU d18) (0 - (far)) 0 0 0 (19 + (far)) 0) = (FU d18) := res_no q382 (by decide)
    rw [e384] at p379 k381
    have z385 : h.size ≤ h352.size := x362.size
    have x386 : Ext h _ := (Chg.then (O := fun _ => False) (Chg.ext x362) x378 (fun b hb => .inr (o375 b hb))).toExt'
    have f387 := x378.same _ _ f363 (fun hb => p355.ne f363 (by decide) (by decide) _ hb rfl)
    have f388 := x378.same _ _ f364 (fun hb => n370 _ hb rfl)
    have f389 := x378.same _ _ f365 (fun hb => n371 _ hb rfl)
    have f390 := x378.same _ _ f366 (fun hb => n372 _ hb rfl)
    have p391 := p367.keep fun b r hb q => x378.same b r q ((fun b hb hb2 => n373 b hb2 hb) b hb)
    have p392 := p368.keep fun b r hb q => x378.same b r q ((fun b hb hb2 => n374 b hb2 hb) b hb)
    have z393 : h.size ≤ h352.size := x362.size
    have n394 : ∀ zz, O7056 zz → ¬ zz = b217 := fun zz hz ez => by rcases o380 zz hz with g | g; (exact n370 _ g ez); have := row_lt f364; omega
    have n395 : ∀ zz, O7056 zz → ¬ zz = b253 := fun zz hz ez => by rcases o380 zz hz with g | g; (exact n371 _ g ez); have := row_lt f365; omega
    have n396 : ∀ zz, O7056 zz → ¬ (blk (Value.slice w13 (d18.xs.length) (c14))) zz := fun zz hz ez => by rcases o380 zz hz with g | g; (exact n373 _ g ez); have := p367.blk_lt ez; omega
    have n397 : ∀ zz, O7056 zz → ¬ (blk (Value.slice w83 (s1.d.xs.length) (c84))) zz := fun zz hz ez => by rcases o380 zz hz with g | g; (exact n374 _ g ez); have := p368.blk_lt ez; omega
    have o398 : ∀ zz, O7056 zz → h.size ≤ zz := fun zz hz => by rcases o380 zz hz with g | g; (exact o375 zz g); omega
    obtain ⟨v399, h400, s401, p402, p403, x404⟩ := tget_ok h376 p379 k381 (0 - (far))
    have f405 := x404 _ _ f387
    have f406 := x404 _ _ f388
    have f407 := x404 _ _ f389
    have f408 := x404 _ _ f390
    have p409 := p379.keep fun b r _ q => x404 b r q
    have p410 := p391.keep fun b r _ q => x404 b r q
    have p411 := p392.keep fun b r _ q => x404 b r q
    have x412 := x386.trans x404
    have c413 : ¬ getE (FU d18) (0 - (far)) = 0 := by rw [(getE_none (FU_none (d := d18) (k := (0 - (far))) (by omega))).1]; decide
    have p414 := p402 c413
    rw [(getE_ne c413).2.1] at p414
    obtain ⟨b415, eb416⟩ : ∃ zq, zq = h400.size := ⟨_, rfl⟩
    obtain ⟨h417, e418⟩ : ∃ zq, zq = h400.push (.cells #[(vS .empty), (vI 0), (vI 0), (Value.slice none 0 0), (vI 0), (vI 0), (vB false), (vI 0), (vI 0), (vI 0)] 38 (0, 0)) := ⟨_, rfl⟩
    have f419 := push_new e418
    rw [← eb416] at f419
    have n420 : b415 ≠ b27 := by have := row_lt f405; omega
    have n421 : b415 ≠ b217 := by have := row_lt f406; omega
    have n422 : b415 ≠ b253 := by have := row_lt f407; omega
    have n423 : b415 ≠ b289 := by have := row_lt f408; omega
    have n424 : ∀ zz, O7056 zz → ¬ zz = b415 := fun zz hz ez => by have := p409.blk_lt hz; omega
    have n425 : ∀ zz, (blk (Value.slice w13 (d18.xs.length) (c14))) zz → ¬ zz = b415 := fun zz hz ez => by have := p410.blk_lt hz; omega
    have n426 : ∀ zz, (blk (Value.slice w83 (s1.d.xs.length) (c84))) zz → ¬ zz = b415 := fun zz hz ez => by have := p411.blk_lt hz; omega
    have x427 : Ext h400 h417 := by rw [e418]; exact Ext.push _ _
    have o428 : h.size ≤ b415 := by have := x412.size; omega
    have f429 := x427 _ _ f405
    have f430 := x427 _ _ f406
    have f431 := x427 _ _ f407
    have f432 := x427 _ _ f408
    have p433 := p409.keep fun b r _ q => x427 b r q
    have p434 := p410.keep fun b r _ q => x427 b r q
    have p435 := p411.keep fun b r _ q => x427 b r q
    have x436 := x412.trans x427
    obtain ⟨h437, e438⟩ : ∃ zq, zq = h417.setIfInBounds b415 (.cells #[(vS .empty), (vI 0), (vI 0), (Value.slice none 0 0), (vI 0), (vI 0), (vB false), (vI 0), (vI 0), (vI 0)] 38 (0, 0)) := ⟨_, rfl⟩
    have f439 := set_same e438 f419
    have f440 := set_other e438 f429 n420
    have f441 := set_other e438 f430 n421
    have f442 := set_other e438 f431 n422
    have f443 := set_other e438 f432 n423
    have p444 := p433.keep fun b r hb q => (Chg.set e438).same b r q (n424 b hb)
    have p445 := p434.keep fun b r hb q => (Chg.set e438).same b r q (n425 b hb)
    have p446 := p435.keep fun b r hb q => (Chg.set e438).same b r q (n426 b hb)
    have x447 := Ext.setNew x436 e438 o428
    obtain ⟨_, hh448, sn449, rfl, x450⟩ := lsame_ok h437 (SagaM.mk (DefM.mk .empty 0 0 ([] : List StepM)) 0 0 false 0 0 0) _ _ lat_none (by exact Nat.zero_le _) _ _ lat_none
    have f451 := x450 _ _ f440
    have f452 := x450 _ _ f441
    have f453 := x450 _ _ f442
    have f454 := x450 _ _ f443
    have p455 := p444.keep fun b r _ q => x450 b r q
    have p456 := p445.keep fun b r _ q => x450 b r q
    have p457 := p446.keep fun b r _ q => x450 b r q
    have x458 := x447.trans x450
    refine wc_ev [evC 17 1 0 agg3 f293, evLw 18 2 agg31 size31 f298, evF 18 3 s305, evLw 18 8 agg38 size38 f317, evF 18 9 s329, evF 18 15 s353, evV 18 23 (vI (19 + (far))) (show binA Tryz.prog .add 3 (vI 19) (vI far) = some (vI (19 + (far))) from add_i64 (by omega) (by omega)), evF 18 24 s377, evFe 20 2 p414 s401, evA 20 6 eb416 e418, evUw 20 7 size38 f419 e438, evLw 21 3 agg38 size38 f439, evF 21 5 sn449] .normal hh448 [(88, (vB true)), (89, (vP b289 0)), (90, (vI (0 - (far)))), (14, (vI (0 - (far)))), (91, (vP b4 0)), (92, (vI (0 - (far)))), (93, (vA #[(vS d18.name), (vI d18.rt), (vI d18.dl), (vL none 0 0)])), (94, (vI 2)), (95, (vB false)), (96, (vB false)), (97, (vP b4 0)), (98, (vI (0 - (far)))), (99, (vA #[(vS s1.d.name), (vI s1.d.rt), (vI s1.d.dl), (vL w83 s1.d.xs.length c84), (vI s1.st), (vI (((d18.xs.length : Nat)) + (far))), (vB s1.cn), (vI s1.tr), (vI s1.bg), (vI s1.er)])), (100, (vI 2)), (101, (vB false)), (102, (vB false)), (103, (vB false)), (104, (vP b4 0)), (105, (vI (0 - (far)))), (106, (vI 5)), (107, (vB false)), (108, (vB false)), (109, (vB false)), (110, (vP b4 0)), (111, (vI (0 - (far)))), (112, (vA #[(vI 0), (vI 0), (vI 0)])), (113, (vI far)), (114, (vI (19 + (far)))), (115, (vI 5)), (116, (vB false)), (117, (vB false)), (119, (vP b4 0)), (120, (vI (0 - (far)))), (121, (vT #[(vA #[(vS .empty), (vI 0), (vI 0), (vL none 0 0), (vI 0), (vI 0), (vB false), (vI 0), (vI 0), (vI 0)]), (vI 5)])), (118, (vT #[(vA #[(vS .empty), (vI 0), (vI 0), (vL none 0 0), (vI 0), (vI 0), (vB false), (vI 0), (vI 0), (vI 0)]), (vI 5)])), (122, (vA #[(vS .empty), (vI 0), (vI 0), (vL none 0 0), (vI 0), (vI 0), (vB false), (vI 0), (vI 0), (vI 0)])), (123, (vI 5)), (15, (vP b415 0)), (16, (vI 5)), (124, (vI 5)), (125, (vB false)), (126, (vB false)), (127, (vA #[(vS .empty), (vI 0), (vI 0), (vL none 0 0), (vI 0), (vI 0), (vB false), (vI 0), (vI 0), (vI 0)])), (128, (vA #[(vS .empty), (vI 0), (vI 0), (vL none 0 0), (vI 0), (vI 0), (vB false), (vI 0), (vI 0), (vI 0)])), (129, (vB true)), (130, (vB false)), (131, (vB false)), (132, (vI 1)), (87, (vI 1))] ?_
    refine wc_once (subc (bodyOf Tryz.prog 9) [1, 1, 1, 1, 1, 1, 1, 1, 1, 0, 1, 0, 0]) rfl ?_
    refine wc_act { tmps := #[(Value.int .u8 (n)), (Value.int .u16 (far)), vZ, vZ, (g0 4), (vP b4 0), (vP b27 0), (vI far), (g0 8), (vP b94 0), (vI 0), (vP b217 0), (vP b253 0), vZ, (vI (0 - (far))), (vP b415 0), (vI 5), vZ, vZ, (vP b4 0), (Value.int .u8 (n)), (vA #[(vS d18.name), (vI d18.rt), (vI d18.dl), (vL w13 d18.xs.length c14)]), (Value.int .u16 (far)), (vI far), (vI kf), (vB false), (g0 26), (g0 27), (g0 28), (g0 29), (g0 30), (g0 31), (g0 32), (g0 33), (g0 34), (vT #[(vA #[(vS s1.d.name), (vI s1.d.rt), (vI s1.d.dl), (vL w83 s1.d.xs.length c84), (vI s1.st), (vI s1.ix), (vB s1.cn), (vI s1.tr), (vI s1.bg), (vI s1.er)]), (vI 0)]), (vP b4 0), (vT #[(vA #[(vS s1.d.name), (vI s1.d.rt), (vI s1.d.dl), (vL w83 s1.d.xs.length c84), (vI s1.st), (vI s1.ix), (vB s1.cn), (vI s1.tr), (vI s1.bg), (vI s1.er)]), (vI 0)]), (vA #[(vS s1.d.name), (vI s1.d.rt), (vI s1.d.dl), (vL w83 s1.d.xs.length c84), (vI s1.st), (vI s1.ix), (vB s1.cn), (vI s1.tr), (vI s1.bg), (vI s1.er)]), (vI 0), (vI 0), (vB false), (vB false), (vP b4 0), (vA #[(vI 9999), (vI 0), (vI 1)]), (vI 0), (vB false), (vB false), (vB false), (vP b4 0), (vA #[(vS d18.name), (vI d18.rt), (vI d18.dl), (vL w13 d18.xs.length c14)]), (vI 4), (vB false), (vB false), (vB false), (vP b4 0), (vA #[(vS s1.d.name), (vI s1.d.rt), (vI s1.d.dl), (vL w83 s1.d.xs.length c84), (vI s1.st), (vI s1.ix), (vB s1.cn), (vI s1.tr), (vI s1.bg), (vI s1.er)]), (vI 4), (vB false), (vB false), (vB false), (vP b4 0), (vA #[(vS s1.d.name), (vI s1.d.rt), (vI s1.d.dl), (vL w83 s1.d.xs.length c84), (vI s1.st), (vI s1.ix), (vB s1.cn), (vI s1.tr), (vI s1.bg), (vI s1.er)]), (vI 6), (vB false), (vB false), (vB false), (vP b4 0), (vA #[(vS d18.name), (vI d18.rt), (vI d18.dl), (vL w13 d18.xs.length c14)]), (vI 6), (vB false), (vB false), (vA #[(vS d18.name), (vI d18.rt), (vI d18.dl), (vL w13 d18.xs.length c14)]), (vP b217 3), (vA #[(vS s1.d.name), (vI s1.d.rt), (vI s1.d.dl), (vL w83 s1.d.xs.length c84), (vI s1.st), (vI s1.ix), (vB s1.cn), (vI s1.tr), (vI s1.bg), (vI s1.er)]), (vP b27 3), (vL w13 d18.xs.length c14), (vI ((d18.xs.length : Nat))), (vI far), (vI (((d18.xs.length : Nat)) + (far))), (vP b253 5), (vI far), (vI (0 - (far))), (vI far), (vI (10000 + (far))), (vL (some ⟨b289, 0, none⟩) 2 2), (vI 2), (vI 1), (vB true), (vP b289 0), (vI (0 - (far))), (vP b4 0), (vI (0 - (far))), (vA #[(vS d18.name), (vI d18.rt), (vI d18.dl), (vL none 0 0)]), (vI 2), (vB false), (vB false), (vP b4 0), (vI (0 - (far))), (vA #[(vS s1.d.name), (vI s1.d.rt), (vI s1.d.dl), (vL w83 s1.d.xs.length c84), (vI s1.st), (vI (((d18.xs.length : Nat)) + (far))), (vB s1.cn), (vI s1.tr), (vI s1.bg), (vI s1.er)]), (vI 2), (vB false), (vB false), (vB false), (vP b4 0), (vI (0 - (far))), (vI 5), (vB false), (vB false), (vB false), (vP b4 0), (vI (0 - (far))), (vA #[(vI 0), (vI 0), (vI 0)]), (vI far), (vI (19 + (far))), (vI 5), (vB false), (vB false), (vT #[(vA #[(vS .empty), (vI 0), (vI 0), (vL none 0 0), (vI 0), (vI 0), (vB false), (vI 0), (vI 0), (vI 0)]), (vI 5)]), (vP b4 0), (vI (0 - (far))), (vT #[(vA #[(vS .empty), (vI 0), (vI 0), (vL none 0 0), (vI 0), (vI 0), (vB false), (vI 0), (vI 0), (vI 0)]), (vI 5)]), (vA #[(vS .empty), (vI 0), (vI 0), (vL none 0 0), (vI 0), (vI 0), (vB false), (vI 0), (vI 0), (vI 0)]), (vI 5), (vI 5), (vB false), (vB false), (vA #[(vS .empty), (vI 0), (vI 0), (vL none 0 0), (vI 0), (vI 0), (vB false), (vI 0), (vI 0), (vI 0)]), (vA #[(vS .empty), (vI 0), (vI 0), (vL none 0 0), (vI 0), (vI 0), (vB false), (vI 0), (vI 0), (vI 0)]), (vB true), (vB false), (vB false), (vI 1), vZ, vZ, vZ, vZ, vZ, vZ, vZ, vZ, vZ, vZ, vZ, vZ, vZ, vZ, vZ, vZ, vZ, vZ, vZ, vZ, vZ, vZ, vZ, vZ, vZ, vZ, vZ, vZ, vZ, vZ, vZ, vZ, vZ, vZ, vZ, vZ, vZ, vZ, vZ, vZ, vZ, vZ, vZ, vZ, vZ, vZ, vZ, vZ, vZ, vZ, vZ, vZ, vZ, vZ, vZ, vZ, vZ, vZ, vZ, vZ, vZ, vZ, vZ, vZ, vZ, vZ, vZ, vZ, vZ, vZ, vZ, vZ, vZ, vZ, vZ, vZ, vZ, vZ, vZ, vZ, vZ, vZ, vZ, vZ, vZ, vZ, vZ, vZ, vZ, vZ, vZ, vZ, vZ, vZ, vZ, vZ, vZ, vZ, vZ, vZ, vZ], defers := [] } (by as_aux_lemma => kernel_rfl) ?_
    obtain ⟨_, h459, s460, rfl, x461, O7153, p462, o463⟩ := tstart_ok hh448 p455 k381 (10000 + (far)) (DefM.mk d18.name (d18.rt) (d18.dl) []) _ _ lat_none (by exact Nat.zero_le _) (-1)
    have k464 := WfT.start k381 (10000 + (far)) (DefM.mk d18.name (d18.rt) (d18.dl) []) (-1)
    have q465 : startE (FU d18) (10000 + (far)) (DefM.mk d18.name (d18.rt) (d18.dl) []) (-1) = 2 := start_arg (by omega)
    have e466 : startE (FU d18) (10000 + (far)) (DefM.mk d18.name (d18.rt) (d18.dl) []) (-1) = 2 := q465
    rw [e466] at s460
    have e467 : (startM (FU d18) (10000 + (far)) (DefM.mk d18.name (d18.rt) (d18.dl) []) (-1)) = (FU d18) := start_no q465 (by decide)
    rw [e467] at p462 k464
    have z468 : h.size ≤ hh448.size := x458.size
    have x469 : Ext h _ := (Chg.then (O := fun _ => False) (Chg.ext x458) x461 (fun b hb => .inr (o398 b hb))).toExt'
    have f470 := x461.same _ _ f451 (fun hb => p455.ne f451 (by decide) (by decide) _ hb rfl)
    have f471 := x461.same _ _ f452 (fun hb => n394 _ hb rfl)
    have f472 := x461.same _ _ f453 (fun hb => n395 _ hb rfl)
    have p473 := p456.keep fun b r hb q => x461.same b r q ((fun b hb hb2 => n396 b hb2 hb) b hb)
    have p474 := p457.keep fun b r hb q => x461.same b r q ((fun b hb hb2 => n397 b hb2 hb) b hb)
    have z475 : h.size ≤ hh448.size := x458.size
    have n476 : ∀ zz, O7153 zz → ¬ zz = b217 := fun zz hz ez => by rcases o463 zz hz with g | g; (exact n394 _ g ez); have := row_lt f452; omega
    have n477 : ∀ zz, O7153 zz → ¬ zz = b253 := fun zz hz ez => by rcases o463 zz hz with g | g; (exact n395 _ g ez); have := row_lt f453; omega
    have n478 : ∀ zz, O7153 zz → ¬ (blk (Value.slice w13 (d18.xs.length) (c14))) zz := fun zz hz ez => by rcases o463 zz hz with g | g; (exact n396 _ g ez); have := p456.blk_lt ez; omega
    have n479 : ∀ zz, O7153 zz → ¬ (blk (Value.slice w83 (s1.d.xs.length) (c84))) zz := fun zz hz ez => by rcases o463 zz hz with g | g; (exact n397 _ g ez); have := p457.blk_lt ez; omega
    have o480 : ∀ zz, O7153 zz → h.size ≤ zz := fun zz hz => by rcases o463 zz hz with g | g; (exact o398 zz g); omega
    obtain ⟨_, h481, s482, rfl, x483, O7182, p484, o485⟩ := put_ok h459 p462 k464 (10000 + (far)) (SagaM.mk s1.d (s1.st) (((d18.xs.length : Nat)) + (far)) s1.cn (s1.tr) (s1.bg) (s1.er)) _ _ (OwnAt.lat p474 stepc_size (tsz_of size67)) (by first | omega | (show _ ≤ _; simp only []; omega))
    have k486 := WfT.put k464 (10000 + (far)) (SagaM.mk s1.d (s1.st) (((d18.xs.length : Nat)) + (far)) s1.cn (s1.tr) (s1.bg) (s1.er))
    have q487 : putE (FU d18) (10000 + (far)) (SagaM.mk s1.d (s1.st) (((d18.xs.length : Nat)) + (far)) s1.cn (s1.tr) (s1.bg) (s1.er)) = 2 := put_arg (by omega)
    have e488 : putE (FU d18) (10000 + (far)) (SagaM.mk s1.d (s1.st) (((d18.xs.length : Nat)) + (far)) s1.cn (s1.tr) (s1.bg) (s1.er)) = 2 := q487
    rw [e488] at s482
    have e489 : (putM (FU d18) (10000 + (far)) (SagaM.mk s1.d (s1.st) (((d18.xs.length : Nat)) + (far)) s1.cn (s1.tr) (s1.bg) (s1.er))) = (FU d18) := put_no q487 (by decide)
    rw [e489] at p484 k486
    have z490 : h.size ≤ h459.size := x469.size
    have x491 : Ext h _ := (Chg.then (O := fun _ => False) (Chg.ext x469) x483 (fun b hb => .inr (o480 b hb))).toExt'
    have f492 := x483.same _ _ f470 (fun hb => p462.ne f470 (by decide) (by decide) _ hb rfl)
    have f493 := x483.same _ _ f471 (fun hb => n476 _ hb rfl)
    have f494 := x483.same _ _ f472 (fun hb => n477 _ hb rfl)
    have p495 := p473.keep fun b r hb q => x483.same b r q ((fun b hb hb2 => n478 b hb2 hb) b hb)
    have p496 := p474.keep fun b r hb q => x483.same b r q ((fun b hb hb2 => n479 b hb2 hb) b hb)
    have z497 : h.size ≤ h459.size := x469.size
    have n498 : ∀ zz, O7182 zz → ¬ zz = b217 := fun zz hz ez => by rcases o485 zz hz with g | g; (exact n476 _ g ez); have := row_lt f471; omega
    have n499 : ∀ zz, O7182 zz → ¬ zz = b253 := fun zz hz ez => by rcases o485 zz hz with g | g; (exact n477 _ g ez); have := row_lt f472; omega
    have n500 : ∀ zz, O7182 zz → ¬ (blk (Value.slice w13 (d18.xs.length) (c14))) zz := fun zz hz ez => by rcases o485 zz hz with g | g; (exact n478 _ g ez); have := p473.blk_lt ez; omega
    have n501 : ∀ zz, O7182 zz → ¬ (blk (Value.slice w83 (s1.d.xs.length) (c84))) zz := fun zz hz ez => by rcases o485 zz hz with g | g; (exact n479 _ g ez); have := p474.blk_lt ez; omega
    have o502 : ∀ zz, O7182 zz → h.size ≤ zz := fun zz hz => by rcases o485 zz hz with g | g; (exact o480 zz g); omega
    obtain ⟨_, h503, s504, rfl, x505, O7211, p506, o507⟩ := tcancel_ok h481 p484 k486 (10000 + (far))
    have k508 := WfT.can k486 (10000 + (far))
    have q509 : canTE (FU d18) (10000 + (far)) = 5 := can_none (FU_none (by omega))
    have e510 : canTE (FU d18) (10000 + (far)) = 5 := q509
    rw [e510] at s504
    have e511 : (canTM (FU d18) (10000 + (far))) = (FU d18) := can_no q509 (by decide)
    rw [e511] at p506 k508
    have z512 : h.size ≤ h481.size := x491.size
    have x513 : Ext h _ := (Chg.then (O := fun _ => False) (Chg.ext x491) x505 (fun b hb => .inr (o502 b hb))).toExt'
    have f514 := x505.same _ _ f492 (fun hb => p484.ne f492 (by decide) (by decide) _ hb rfl)
    have f515 := x505.same _ _ f493 (fun hb => n498 _ hb rfl)
    have f516 := x505.same _ _ f494 (fun hb => n499 _ hb rfl)
    have p517 := p495.keep fun b r hb q => x505.same b r q ((fun b hb hb2 => n500 b hb2 hb) b hb)
    have p518 := p496.keep fun b r hb q => x505.same b r q ((fun b hb hb2 => n501 b hb2 hb) b hb)
    have z519 : h.size ≤ h481.size := x491.size
    have n520 : ∀ zz, O7211 zz → ¬ zz = b217 := fun zz hz ez => by rcases o507 zz hz with g | g; (exact n498 _ g ez); have := row_lt f493; omega
    have n521 : ∀ zz, O7211 zz → ¬ zz = b253 := fun zz hz ez => by rcases o507 zz hz with g | g; (exact n499 _ g ez); have := row_lt f494; omega
    have n522 : ∀ zz, O7211 zz → ¬ (blk (Value.slice w13 (d18.xs.length) (c14))) zz := fun zz hz ez => by rcases o507 zz hz with g | g; (exact n500 _ g ez); have := p495.blk_lt ez; omega
    have n523 : ∀ zz, O7211 zz → ¬ (blk (Value.slice w83 (s1.d.xs.length) (c84))) zz := fun zz hz ez => by rcases o507 zz hz with g | g; (exact n501 _ g ez); have := p496.blk_lt ez; omega
    have o524 : ∀ zz, O7211 zz → h.size ≤ zz := fun zz hz => by rcases o507 zz hz with g | g; (exact o502 zz g); omega
    obtain ⟨_, h525, s526, rfl, x527, O7240, p528, o529⟩ := tresult_ok h503 p506 k508 (10000 + (far)) 0 0 0 (19 + (far)) 0 (x513 _ _ hg0) (x513 _ _ hg1)
    have k530 := WfT.res k508 (10000 + (far)) 0 0 0 (19 + (far)) 0
    have q531 : resTE (FU d18) (10000 + (far)) 0 0 0 (19 + (far)) 0 = 5 := res_none (FU_none (by omega))
    have e532 : resTE (FU d18) (10000 + (far)) 0 0 0 (19 + (far)) 0 = 5 := q531
    rw [e532] at s526
    have e533 : (resTM (FU d18) (10000 + (far)) 0 0 0 (19 + (far)) 0) = (FU d18) := res_no q531 (by decide)
    rw [e533] at p528 k530
    have z534 : h.size ≤ h503.size := x513.size
    have x535 : Ext h _ := (Chg.then (O := fun _ => False) (Chg.ext x513) x527 (fun b hb => .inr (o524 b hb))).toExt'
    have f536 := x527.same _ _ f514 (fun hb => p506.ne f514 (by decide) (by decide) _ hb rfl)
    have f537 := x527.same _ _ f515 (fun hb => n520 _ hb rfl)
    have f538 := x527.same _ _ f516 (fun hb => n521 _ hb rfl)
    have p539 := p517.keep fun b r hb q => x527.same b r q ((fun b hb hb2 => n522 b hb2 hb) b hb)
    have p540 := p518.keep fun b r hb q => x527.same b r q ((fun b hb hb2 => n523 b hb2 hb) b hb)
    have z541 : h.size ≤ h503.size := x513.size
    have n542 : ∀ zz, O7240 zz → ¬ zz = b217 := fun zz hz ez => by rcases o529 zz hz with g | g; (exact n520 _ g ez); have := row_lt f515; omega
    have n543 : ∀ zz, O7240 zz → ¬ zz = b253 := fun zz hz ez => by rcases o529 zz hz with g | g; (exact n521 _ g ez); have := row_lt f516; omega
    have n544 : ∀ zz, O7240 zz → ¬ (blk (Value.slice w13 (d18.xs.length) (c14))) zz := fun zz hz ez => by rcases o529 zz hz with g | g; (exact n522 _ g ez); have := p517.blk_lt ez; omega
    have n545 : ∀ zz, O7240 zz → ¬ (blk (Value.slice w83 (s1.d.xs.length) (c84))) zz := fun zz hz ez => by rcases o529 zz hz with g | g; (exact n523 _ g ez); have := p518.blk_lt ez; omega
    have o546 : ∀ zz, O7240 zz → h.size ≤ zz := fun zz hz => by rcases o529 zz hz with g | g; (exact o524 zz g); omega
    obtain ⟨v547, h548, s549, p550, p551, x552⟩ := tget_ok h525 p528 k530 (10000 + (far))
    have f553 := x552 _ _ f536
    have f554 := x552 _ _ f537
    have f555 := x552 _ _ f538
    have p556 := p528.keep fun b r _ q => x552 b r q
    have p557 := p539.keep fun b r _ q => x552 b r q
    have p558 := p540.keep fun b r _ q => x552 b r q
    have x559 := x535.trans x552
    have c560 : ¬ getE (FU d18) (10000 + (far)) = 0 := by rw [(getE_none (FU_none (d := d18) (k := (10000 + (far))) (by omega))).1]; decide
    have p561 := p550 c560
    rw [(getE_ne c560).2.1] at p561
    obtain ⟨b562, eb563⟩ : ∃ zq, zq = h548.size := ⟨_, rfl⟩
    obtain ⟨h564, e565⟩ : ∃ zq, zq = h548.push (.cells #[(vS .empty), (vI 0), (vI 0), (Value.slice none 0 0), (vI 0), (vI 0), (vB false), (vI 0), (vI 0), (vI 0)] 38 (0, 0)) := ⟨_, rfl⟩
    have f566 := push_new e565
    rw [← eb563] at f566
    have n567 : b562 ≠ b27 := by have := row_lt f553; omega
    have n568 : b562 ≠ b217 := by have := row_lt f554; omega
    have n569 : b562 ≠ b253 := by have := row_lt f555; omega
    have n570 : ∀ zz, O7240 zz → ¬ zz = b562 := fun zz hz ez => by have := p556.blk_lt hz; omega
    have n571 : ∀ zz, (blk (Value.slice w13 (d18.xs.length) (c14))) zz → ¬ zz = b562 := fun zz hz ez => by have := p557.blk_lt hz; omega
    have n572 : ∀ zz, (blk (Value.slice w83 (s1.d.xs.length) (c84))) zz → ¬ zz = b562 := fun zz hz ez => by have := p558.blk_lt hz; omega
    have x573 : Ext h548 h564 := by rw [e565]; exact Ext.push _ _
    have o574 : h.size ≤ b562 := by have := x559.size; omega
    have f575 := x573 _ _ f553
    have f576 := x573 _ _ f554
    have f577 := x573 _ _ f555
    have p578 := p556.keep fun b r _ q => x573 b r q
    have p579 := p557.keep fun b r _ q => x573 b r q
    have p580 := p558.keep fun b r _ q => x573 b r q
    have x581 := x559.trans x573
    obtain ⟨h582, e583⟩ : ∃ zq, zq = h564.setIfInBounds b562 (.cells #[(vS .empty), (vI 0), (vI 0), (Value.slice none 0 0), (vI 0), (vI 0), (vB false), (vI 0), (vI 0), (vI 0)] 38 (0, 0)) := ⟨_, rfl⟩
    have f584 := set_same e583 f566
    have f585 := set_other e583 f575 n567
    have f586 := set_other e583 f576 n568
    have f587 := set_other e583 f577 n569
    have p588 := p578.keep fun b r hb q => (Chg.set e583).same b r q (n570 b hb)
    have p589 := p579.keep fun b r hb q => (Chg.set e583).same b r q (n571 b hb)
    have p590 := p580.keep fun b r hb q => (Chg.set e583).same b r q (n572 b hb)
    have x591 := Ext.setNew x581 e583 o574
    obtain ⟨_, hh592, sn593, rfl, x594⟩ := lsame_ok h582 (SagaM.mk (DefM.mk .empty 0 0 ([] : List StepM)) 0 0 false 0 0 0) _ _ lat_none (by exact Nat.zero_le _) _ _ lat_none
    have f595 := x594 _ _ f585
    have f596 := x594 _ _ f586
    have f597 := x594 _ _ f587
    have p598 := p588.keep fun b r _ q => x594 b r q
    have p599 := p589.keep fun b r _ q => x594 b r q
    have p600 := p590.keep fun b r _ q => x594 b r q
    have x601 := x591.trans x594
    refine wc_ev [evC 17 1 1 agg3 f454, evLw 18 2 agg31 size31 f452, evF 18 3 s460, evLw 18 8 agg38 size38 f472, evF 18 9 s482, evF 18 15 s504, evV 18 23 (vI (19 + (far))) (show binA Tryz.prog .add 3 (vI 19) (vI far) = some (vI (19 + (far))) from add_i64 (by omega) (by omega)), evF 18 24 s526, evFe 20 2 p561 s549, evA 20 6 eb563 e565, evUw 20 7 size38 f566 e583, evLw 21 3 agg38 size38 f584, evF 21 5 sn593] .normal hh592 [(88, (vB true)), (89, (vP b289 1)), (90, (vI (10000 + (far)))), (14, (vI (10000 + (far)))), (91, (vP b4 0)), (92, (vI (10000 + (far)))), (93, (vA #[(vS d18.name), (vI d18.rt), (vI d18.dl), (vL none 0 0)])), (94, (vI 2)), (95, (vB false)), (96, (vB false)), (97, (vP b4 0)), (98, (vI (10000 + (far)))), (99, (vA #[(vS s1.d.name), (vI s1.d.rt), (vI s1.d.dl), (vL w83 s1.d.xs.length c84), (vI s1.st), (vI (((d18.xs.length : Nat)) + (far))), (vB s1.cn), (vI s1.tr), (vI s1.bg), (vI s1.er)])), (100, (vI 2)), (101, (vB false)), (102, (vB false)), (103, (vB false)), (104, (vP b4 0)), (105, (vI (10000 + (far)))), (106, (vI 5)), (107, (vB false)), (108, (vB false)), (109, (vB false)), (110, (vP b4 0)), (111, (vI (10000 + (far)))), (112, (vA #[(vI 0), (vI 0), (vI 0)])), (113, (vI far)), (114, (vI (19 + (far)))), (115, (vI 5)), (116, (vB false)), (117, (vB false)), (119, (vP b4 0)), (120, (vI (10000 + (far)))), (121, (vT #[(vA #[(vS .empty), (vI 0), (vI 0), (vL none 0 0), (vI 0), (vI 0), (vB false), (vI 0), (vI 0), (vI 0)]), (vI 5)])), (118, (vT #[(vA #[(vS .empty), (vI 0), (vI 0), (vL none 0 0), (vI 0), (vI 0), (vB false), (vI 0), (vI 0), (vI 0)]), (vI 5)])), (122, (vA #[(vS .empty), (vI 0), (vI 0), (vL none 0 0), (vI 0), (vI 0), (vB false), (vI 0), (vI 0), (vI 0)])), (123, (vI 5)), (15, (vP b562 0)), (16, (vI 5)), (124, (vI 5)), (125, (vB false)), (126, (vB false)), (127, (vA #[(vS .empty), (vI 0), (vI 0), (vL none 0 0), (vI 0), (vI 0), (vB false), (vI 0), (vI 0), (vI 0)])), (128, (vA #[(vS .empty), (vI 0), (vI 0), (vL none 0 0), (vI 0), (vI 0), (vB false), (vI 0), (vI 0), (vI 0)])), (129, (vB true)), (130, (vB false)), (131, (vB false)), (132, (vI 2)), (87, (vI 2))] ?_
    refine wc_once (subc (bodyOf Tryz.prog 9) [1, 1, 1, 1, 1, 1, 1, 1, 1, 0, 1, 0, 0]) rfl ?_
    refine wc_act { tmps := #[(Value.int .u8 (n)), (Value.int .u16 (far)), vZ, vZ, (g0 4), (vP b4 0), (vP b27 0), (vI far), (g0 8), (vP b94 0), (vI 0), (vP b217 0), (vP b253 0), vZ, (vI (10000 + (far))), (vP b562 0), (vI 5), vZ, vZ, (vP b4 0), (Value.int .u8 (n)), (vA #[(vS d18.name), (vI d18.rt), (vI d18.dl), (vL w13 d18.xs.length c14)]), (Value.int .u16 (far)), (vI far), (vI kf), (vB false), (g0 26), (g0 27), (g0 28), (g0 29), (g0 30), (g0 31), (g0 32), (g0 33), (g0 34), (vT #[(vA #[(vS s1.d.name), (vI s1.d.rt), (vI s1.d.dl), (vL w83 s1.d.xs.length c84), (vI s1.st), (vI s1.ix), (vB s1.cn), (vI s1.tr), (vI s1.bg), (vI s1.er)]), (vI 0)]), (vP b4 0), (vT #[(vA #[(vS s1.d.name), (vI s1.d.rt), (vI s1.d.dl), (vL w83 s1.d.xs.length c84), (vI s1.st), (vI s1.ix), (vB s1.cn), (vI s1.tr), (vI s1.bg), (vI s1.er)]), (vI 0)]), (vA #[(vS s1.d.name), (vI s1.d.rt), (vI s1.d.dl), (vL w83 s1.d.xs.length c84), (vI s1.st), (vI s1.ix), (vB s1.cn), (vI s1.tr), (vI s1.bg), (vI s1.er)]), (vI 0), (vI 0), (vB false), (vB false), (vP b4 0), (vA #[(vI 9999), (vI 0), (vI 1)]), (vI 0), (vB false), (vB false), (vB false), (vP b4 0), (vA #[(vS d18.name), (vI d18.rt), (vI d18.dl), (vL w13 d18.xs.length c14)]), (vI 4), (vB false), (vB false), (vB false), (vP b4 0), (vA #[(vS s1.d.name), (vI s1.d.rt), (vI s1.d.dl), (vL w83 s1.d.xs.length c84), (vI s1.st), (vI s1.ix), (vB s1.cn), (vI s1.tr), (vI s1.bg), (vI s1.er)]), (vI 4), (vB false), (vB false), (vB false), (vP b4 0), (vA #[(vS s1.d.name), (vI s1.d.rt), (vI s1.d.dl), (vL w83 s1.d.xs.length c84), (vI s1.st), (vI s1.ix), (vB s1.cn), (vI s1.tr), (vI s1.bg), (vI s1.er)]), (vI 6), (vB false), (vB false), (vB false), (vP b4 0), (vA #[(vS d18.name), (vI d18.rt), (vI d18.dl), (vL w13 d18.xs.length c14)]), (vI 6), (vB false), (vB false), (vA #[(vS d18.name), (vI d18.rt), (vI d18.dl), (vL w13 d18.xs.length c14)]), (vP b217 3), (vA #[(vS s1.d.name), (vI s1.d.rt), (vI s1.d.dl), (vL w83 s1.d.xs.length c84), (vI s1.st), (vI s1.ix), (vB s1.cn), (vI s1.tr), (vI s1.bg), (vI s1.er)]), (vP b27 3), (vL w13 d18.xs.length c14), (vI ((d18.xs.length : Nat))), (vI far), (vI (((d18.xs.length : Nat)) + (far))), (vP b253 5), (vI far), (vI (0 - (far))), (vI far), (vI (10000 + (far))), (vL (some ⟨b289, 0, none⟩) 2 2), (vI 2), (vI 2), (vB true), (vP b289 1), (vI (10000 + (far))), (vP b4 0), (vI (10000 + (far))), (vA #[(vS d18.name), (vI d18.rt), (vI d18.dl), (vL none 0 0)]), (vI 2), (vB false), (vB false), (vP b4 0), (vI (10000 + (far))), (vA #[(vS s1.d.name), (vI s1.d.rt), (vI s1.d.dl), (vL w83 s1.d.xs.length c84), (vI s1.st), (vI (((d18.xs.length : Nat)) + (far))), (vB s1.cn), (vI s1.tr), (vI s1.bg), (vI s1.er)]), (vI 2), (vB false), (vB false), (vB false), (vP b4 0), (vI (10000 + (far))), (vI 5), (vB false), (vB false), (vB false), (vP b4 0), (vI (10000 + (far))), (vA #[(vI 0), (vI 0), (vI 0)]), (vI far), (vI (19 + (far))), (vI 5), (vB false), (vB false), (vT #[(vA #[(vS .empty), (vI 0), (vI 0), (vL none 0 0), (vI 0), (vI 0), (vB false), (vI 0), (vI 0), (vI 0)]), (vI 5)]), (vP b4 0), (vI (10000 + (far))), (vT #[(vA #[(vS .empty), (vI 0), (vI 0), (vL none 0 0), (vI 0), (vI 0), (vB false), (vI 0), (vI 0), (vI 0)]), (vI 5)]), (vA #[(vS .empty), (vI 0), (vI 0), (vL none 0 0), (vI 0), (vI 0), (vB false), (vI 0), (vI 0), (vI 0)]), (vI 5), (vI 5), (vB false), (vB false), (vA #[(vS .empty), (vI 0), (vI 0), (vL none 0 0), (vI 0), (vI 0), (vB false), (vI 0), (vI 0), (vI 0)]), (vA #[(vS .empty), (vI 0), (vI 0), (vL none 0 0), (vI 0), (vI 0), (vB false), (vI 0), (vI 0), (vI 0)]), (vB true), (vB false), (vB false), (vI 2), vZ, vZ, vZ, vZ, vZ, vZ, vZ, vZ, vZ, vZ, vZ, vZ, vZ, vZ, vZ, vZ, vZ, vZ, vZ, vZ, vZ, vZ, vZ, vZ, vZ, vZ, vZ, vZ, vZ, vZ, vZ, vZ, vZ, vZ, vZ, vZ, vZ, vZ, vZ, vZ, vZ, vZ, vZ, vZ, vZ, vZ, vZ, vZ, vZ, vZ, vZ, vZ, vZ, vZ, vZ, vZ, vZ, vZ, vZ, vZ, vZ, vZ, vZ, vZ, vZ, vZ, vZ, vZ, vZ, vZ, vZ, vZ, vZ, vZ, vZ, vZ, vZ, vZ, vZ, vZ, vZ, vZ, vZ, vZ, vZ, vZ, vZ, vZ, vZ, vZ, vZ, vZ, vZ, vZ, vZ, vZ, vZ, vZ, vZ, vZ, vZ], defers := [] } (by as_aux_lemma => kernel_rfl) ?_
    refine wc_ev [] (.exit 2) hh592 [(88, (vB false))] ?_
    obtain ⟨_, h602, s603, w604, c605, rfl, o606, x607, n608⟩ := tnext_ok hh592 p598 k530 (x601 _ _ hg0) (x601 _ _ hg1)
    have := FN_len
    have e609 : (nxtL (FU d18)) = FN := FU_nxt _
    rw [e609] at s603 o606 n608
    have f610 := x607 _ _ f595
    have f611 := x607 _ _ f596
    have f612 := x607 _ _ f597
    have p613 := p598.keep fun b r _ q => x607 b r q
    have p614 := p599.keep fun b r _ q => x607 b r q
    have p615 := p600.keep fun b r _ q => x607 b r q
    have x616 := x601.trans x607
    have z617 : h.size ≤ hh592.size := x601.size
    have n618 : ∀ zz, blk (Value.slice w604 (FN.length) (c605)) zz → ¬ O7240 zz := fun zz hz ez => by have := n608 zz hz; have := p598.blk_lt ez; omega
    have o619 : ∀ zz, blk (Value.slice w604 (FN.length) (c605)) zz → h.size ≤ zz := fun zz hz => by have := n608 zz hz; omega
    by_cases c620 : (((FN.length : Nat)) : Int) = 63
    · obtain ⟨i621, v622, e623, l624, g625⟩ := list_at FN (e := 0) (by omega) (by first | omega | (simp only [List.length_set, List.length_append, List.length_singleton]; omega))
      obtain ⟨b626, o627, q628, a629, k630, u631⟩ := o606.store effc_size g625
      have z632 := FN_at g625
      obtain ⟨b633, eb634⟩ : ∃ zq, zq = h602.size := ⟨_, rfl⟩
      obtain ⟨h635, e636⟩ : ∃ zq, zq = h602.push (.cells #[(vI 0), (vI 0), (vI 0)] 33 (0, 0)) := ⟨_, rfl⟩
      have f637 := push_new e636
      rw [← eb634] at f637
      have n638 : b633 ≠ b27 := by have := row_lt f610; omega
      have n639 : b633 ≠ b217 := by have := row_lt f611; omega
      have n640 : b633 ≠ b253 := by have := row_lt f612; omega
      have n641 : ∀ zz, O7240 zz → ¬ zz = b633 := fun zz hz ez => by have := p613.blk_lt hz; omega
      have n642 : ∀ zz, (blk (Value.slice w13 (d18.xs.length) (c14))) zz → ¬ zz = b633 := fun zz hz ez => by have := p614.blk_lt hz; omega
      have n643 : ∀ zz, (blk (Value.slice w83 (s1.d.xs.length) (c84))) zz → ¬ zz = b633 := fun zz hz ez => by have := p615.blk_lt hz; omega
      have n644 : ∀ zz, (blk (Value.slice w604 (FN.length) (c605))) zz → ¬ zz = b633 := fun zz hz ez => by have := o606.blk_lt hz; omega
      have x645 : Ext h602 h635 := by rw [e636]; exact Ext.push _ _
      have o646 : h.size ≤ b633 := by have := x616.size; omega
      have f647 := x645 _ _ f610
      have f648 := x645 _ _ f611
      have f649 := x645 _ _ f612
      have p650 := p613.keep fun b r _ q => x645 b r q
      have p651 := p614.keep fun b r _ q => x645 b r q
      have p652 := p615.keep fun b r _ q => x645 b r q
      have p653 := o606.keep fun b r _ q => x645 b r q
      have x654 := x616.trans x645
      obtain ⟨h655, e656⟩ : ∃ zq, zq = h635.setIfInBounds b633 (.cells #[(vI (v622.sg)), (vI (v622.sp)), (vI (v622.ph))] 33 (0, 0)) := ⟨_, rfl⟩
      have f657 := set_same e656 f637
      have f658 := set_other e656 f647 n638
      have f659 := set_other e656 f648 n639
      have f660 := set_other e656 f649 n640
      have p661 := p650.keep fun b r hb q => (Chg.set e656).same b r q (n641 b hb)
      have p662 := p651.keep fun b r hb q => (Chg.set e656).same b r q (n642 b hb)
      have p663 := p652.keep fun b r hb q => (Chg.set e656).same b r q (n643 b hb)
      have p664 := p653.keep fun b r hb q => (Chg.set e656).same b r q (n644 b hb)
      have x665 := Ext.setNew x654 e656 o646
      obtain ⟨_, h666, s667, rfl, x668, O7442, p669, o670⟩ := tstart_ok h655 p661 k530 9999 (DefM.mk d18.name (d18.rt) (d18.dl) []) _ _ lat_none (by exact Nat.zero_le _) 0
      have k671 := WfT.start k530 9999 (DefM.mk d18.name (d18.rt) (d18.dl) []) 0
      have q672 : startE (FU d18) 9999 (DefM.mk d18.name (d18.rt) (d18.dl) []) 0 = 15 := start_def (by omega) (none_bad _ _ _)
      have e673 : startE (FU d18) 9999 (DefM.mk d18.name (d18.rt) (d18.dl) []) 0 = 15 := q672
      rw [e673] at s667
      have e674 : (startM (FU d18) 9999 (DefM.mk d18.name (d18.rt) (d18.dl) []) 0) = (FU d18) := start_no q672 (by decide)
      rw [e674] at p669 k671
      have z675 : h.size ≤ h655.size := x665.size
      have x676 : Ext h _ := (Chg.then (O := fun _ => False) (Chg.ext x665) x668 (fun b hb => .inr (o546 b hb))).toExt'
      have f677 := x668.same _ _ f658 (fun hb => p661.ne f658 (by decide) (by decide) _ hb rfl)
      have f678 := x668.same _ _ f659 (fun hb => n542 _ hb rfl)
      have f679 := x668.same _ _ f660 (fun hb => n543 _ hb rfl)
      have f680 := x668.same _ _ f657 (fun hb => n641 _ hb rfl)
      have p681 := p662.keep fun b r hb q => x668.same b r q ((fun b hb hb2 => n544 b hb2 hb) b hb)
      have p682 := p663.keep fun b r hb q => x668.same b r q ((fun b hb hb2 => n545 b hb2 hb) b hb)
      have p683 := p664.keep fun b r hb q => x668.same b r q (n618 b hb)
      have z684 : h.size ≤ h655.size := x665.size
      have n685 : ∀ zz, O7442 zz → ¬ zz = b217 := fun zz hz ez => by rcases o670 zz hz with g | g; (exact n542 _ g ez); have := row_lt f659; omega
      have n686 : ∀ zz, O7442 zz → ¬ zz = b253 := fun zz hz ez => by rcases o670 zz hz with g | g; (exact n543 _ g ez); have := row_lt f660; omega
      have n687 : ∀ zz, O7442 zz → ¬ zz = b633 := fun zz hz ez => by rcases o670 zz hz with g | g; (exact n641 _ g ez); have := row_lt f657; omega
      have n688 : ∀ zz, O7442 zz → ¬ (blk (Value.slice w13 (d18.xs.length) (c14))) zz := fun zz hz ez => by rcases o670 zz hz with g | g; (exact n544 _ g ez); have := p662.blk_lt ez; omega
      have n689 : ∀ zz, O7442 zz → ¬ (blk (Value.slice w83 (s1.d.xs.length) (c84))) zz := fun zz hz ez => by rcases o670 zz hz with g | g; (exact n545 _ g ez); have := p663.blk_lt ez; omega
      have n690 : ∀ zz, O7442 zz → ¬ (blk (Value.slice w604 (FN.length) (c605))) zz := fun zz hz ez => by rcases o670 zz hz with g | g; (exact n618 _ ez g); have := p664.blk_lt ez; omega
      have o691 : ∀ zz, O7442 zz → h.size ≤ zz := fun zz hz => by rcases o670 zz hz with g | g; (exact o546 zz g); omega
      obtain ⟨_, h692, s693, rfl, x694, O7477, p695, o696⟩ := tstart_ok h666 p669 k671 9999 (DefM.mk d18.name (d18.rt) (d18.dl) []) _ _ lat_none (by exact Nat.zero_le _) ((-1) - (far))
      have k697 := WfT.start k671 9999 (DefM.mk d18.name (d18.rt) (d18.dl) []) ((-1) - (far))
      have q698 : startE (FU d18) 9999 (DefM.mk d18.name (d18.rt) (d18.dl) []) ((-1) - (far)) = 2 := start_arg (by omega)
      have e699 : startE (FU d18) 9999 (DefM.mk d18.name (d18.rt) (d18.dl) []) ((-1) - (far)) = 2 := q698
      rw [e699] at s693
      have e700 : (startM (FU d18) 9999 (DefM.mk d18.name (d18.rt) (d18.dl) []) ((-1) - (far))) = (FU d18) := start_no q698 (by decide)
      rw [e700] at p695 k697
      have z701 : h.size ≤ h666.size := x676.size
      have x702 : Ext h _ := (Chg.then (O := fun _ => False) (Chg.ext x676) x694 (fun b hb => .inr (o691 b hb))).toExt'
      have f703 := x694.same _ _ f677 (fun hb => p669.ne f677 (by decide) (by decide) _ hb rfl)
      have f704 := x694.same _ _ f678 (fun hb => n685 _ hb rfl)
      have f705 := x694.same _ _ f679 (fun hb => n686 _ hb rfl)
      have f706 := x694.same _ _ f680 (fun hb => n687 _ hb rfl)
      have p707 := p681.keep fun b r hb q => x694.same b r q ((fun b hb hb2 => n688 b hb2 hb) b hb)
      have p708 := p682.keep fun b r hb q => x694.same b r q ((fun b hb hb2 => n689 b hb2 hb) b hb)
      have p709 := p683.keep fun b r hb q => x694.same b r q ((fun b hb hb2 => n690 b hb2 hb) b hb)
      have z710 : h.size ≤ h666.size := x676.size
      have n711 : ∀ zz, O7477 zz → ¬ zz = b217 := fun zz hz ez => by rcases o696 zz hz with g | g; (exact n685 _ g ez); have := row_lt f678; omega
      have n712 : ∀ zz, O7477 zz → ¬ zz = b253 := fun zz hz ez => by rcases o696 zz hz with g | g; (exact n686 _ g ez); have := row_lt f679; omega
      have n713 : ∀ zz, O7477 zz → ¬ zz = b633 := fun zz hz ez => by rcases o696 zz hz with g | g; (exact n687 _ g ez); have := row_lt f680; omega
      have n714 : ∀ zz, O7477 zz → ¬ (blk (Value.slice w83 (s1.d.xs.length) (c84))) zz := fun zz hz ez => by rcases o696 zz hz with g | g; (exact n689 _ g ez); have := p682.blk_lt ez; omega
      have n715 : ∀ zz, O7477 zz → ¬ (blk (Value.slice w604 (FN.length) (c605))) zz := fun zz hz ez => by rcases o696 zz hz with g | g; (exact n690 _ g ez); have := p683.blk_lt ez; omega
      have o716 : ∀ zz, O7477 zz → h.size ≤ zz := fun zz hz => by rcases o696 zz hz with g | g; (exact o691 zz g); omega
      obtain ⟨_, h717, s718, rfl, x719, O7512, p720, o721⟩ := tstart_ok h692 p695 k697 9999 d18 _ _ (OwnAt.lat p707 stepc_size (tsz_of size67)) (by omega) (2147483649 + (far))
      have k722 := WfT.start k697 9999 d18 (2147483649 + (far))
      have q723 : startE (FU d18) 9999 d18 (2147483649 + (far)) = 2 := start_arg (by omega)
      have e724 : startE (FU d18) 9999 d18 (2147483649 + (far)) = 2 := q723
      rw [e724] at s718
      have e725 : (startM (FU d18) 9999 d18 (2147483649 + (far))) = (FU d18) := start_no q723 (by decide)
      rw [e725] at p720 k722
      have z726 : h.size ≤ h692.size := x702.size
      have x727 : Ext h _ := (Chg.then (O := fun _ => False) (Chg.ext x702) x719 (fun b hb => .inr (o716 b hb))).toExt'
      have f728 := x719.same _ _ f704 (fun hb => n711 _ hb rfl)
      have f729 := x719.same _ _ f705 (fun hb => n712 _ hb rfl)
      have f730 := x719.same _ _ f706 (fun hb => n713 _ hb rfl)
      have p731 := p708.keep fun b r hb q => x719.same b r q ((fun b hb hb2 => n714 b hb2 hb) b hb)
      have p732 := p709.keep fun b r hb q => x719.same b r q ((fun b hb hb2 => n715 b hb2 hb) b hb)
      have z733 : h.size ≤ h692.size := x702.size
      have n734 : ∀ zz, O7512 zz → ¬ zz = b217 := fun zz hz ez => by rcases o721 zz hz with g | g; (exact n711 _ g ez); have := row_lt f704; omega
      have n735 : ∀ zz, O7512 zz → ¬ zz = b633 := fun zz hz ez => by rcases o721 zz hz with g | g; (exact n713 _ g ez); have := row_lt f706; omega
      have n736 : ∀ zz, O7512 zz → ¬ (blk (Value.slice w604 (FN.length) (c605))) zz := fun zz hz ez => by rcases o721 zz hz with g | g; (exact n715 _ g ez); have := p709.blk_lt ez; omega
      have o737 : ∀ zz, O7512 zz → h.size ≤ zz := fun zz hz => by rcases o721 zz hz with g | g; (exact o716 zz g); omega
      obtain ⟨_, h738, s739, rfl, x740, O7547, p741, o742⟩ := put_ok h717 p720 k722 9999 (SagaM.mk s1.d (s1.st) (((d18.xs.length : Nat)) + (far)) s1.cn (s1.tr) (s1.bg) (s1.er)) _ _ (OwnAt.lat p731 stepc_size (tsz_of size67)) (by first | omega | (show _ ≤ _; simp only []; omega))
      have k743 := WfT.put k722 9999 (SagaM.mk s1.d (s1.st) (((d18.xs.length : Nat)) + (far)) s1.cn (s1.tr) (s1.bg) (s1.er))
      have q744 : putE (FU d18) 9999 (SagaM.mk s1.d (s1.st) (((d18.xs.length : Nat)) + (far)) s1.cn (s1.tr) (s1.bg) (s1.er)) = 2 := put_chk (by omega) (by rw [es1]; exact wrong_bad (d := d18) k20 (by omega)) (by decide)
      have e745 : putE (FU d18) 9999 (SagaM.mk s1.d (s1.st) (((d18.xs.length : Nat)) + (far)) s1.cn (s1.tr) (s1.bg) (s1.er)) = 2 := q744
      rw [e745] at s739
      have e746 : (putM (FU d18) 9999 (SagaM.mk s1.d (s1.st) (((d18.xs.length : Nat)) + (far)) s1.cn (s1.tr) (s1.bg) (s1.er))) = (FU d18) := put_no q744 (by decide)
      rw [e746] at p741 k743
      have z747 : h.size ≤ h717.size := x727.size
      have x748 : Ext h _ := (Chg.then (O := fun _ => False) (Chg.ext x727) x740 (fun b hb => .inr (o737 b hb))).toExt'
      have f749 := x740.same _ _ f728 (fun hb => n734 _ hb rfl)
      have f750 := x740.same _ _ f730 (fun hb => n735 _ hb rfl)
      have p751 := p732.keep fun b r hb q => x740.same b r q ((fun b hb hb2 => n736 b hb2 hb) b hb)
      have z752 : h.size ≤ h717.size := x727.size
      have n753 : ∀ zz, O7547 zz → ¬ zz = b633 := fun zz hz ez => by rcases o742 zz hz with g | g; (exact n735 _ g ez); have := row_lt f730; omega
      have n754 : ∀ zz, O7547 zz → ¬ (blk (Value.slice w604 (FN.length) (c605))) zz := fun zz hz ez => by rcases o742 zz hz with g | g; (exact n736 _ g ez); have := p732.blk_lt ez; omega
      have o755 : ∀ zz, O7547 zz → h.size ≤ zz := fun zz hz => by rcases o742 zz hz with g | g; (exact o737 zz g); omega
      obtain ⟨_, h756, s757, rfl, x758, O7582, p759, o760⟩ := put_ok h738 p741 k743 1 (SagaM.mk (DefM.mk d18.name (d18.rt) (d18.dl) []) 0 0 false 0 0 0) _ _ lat_none (by exact Nat.zero_le _)
      have k761 := WfT.put k743 1 (SagaM.mk (DefM.mk d18.name (d18.rt) (d18.dl) []) 0 0 false 0 0 0)
      have q762 : putE (FU d18) 1 (SagaM.mk (DefM.mk d18.name (d18.rt) (d18.dl) []) 0 0 false 0 0 0) = 15 := put_chk (by omega) (chkS_def (none_bad _ _ _)) (by decide)
      have e763 : putE (FU d18) 1 (SagaM.mk (DefM.mk d18.name (d18.rt) (d18.dl) []) 0 0 false 0 0 0) = 15 := q762
      rw [e763] at s757
      have e764 : (putM (FU d18) 1 (SagaM.mk (DefM.mk d18.name (d18.rt) (d18.dl) []) 0 0 false 0 0 0)) = (FU d18) := put_no q762 (by decide)
      rw [e764] at p759 k761
      have z765 : h.size ≤ h738.size := x748.size
      have x766 : Ext h _ := (Chg.then (O := fun _ => False) (Chg.ext x748) x758 (fun b hb => .inr (o755 b hb))).toExt'
      have f767 := x758.same _ _ f750 (fun hb => n753 _ hb rfl)
      have p768 := p751.keep fun b r hb q => x758.same b r q ((fun b hb hb2 => n754 b hb2 hb) b hb)
      have z769 : h.size ≤ h738.size := x748.size
      have n770 : ∀ zz, O7582 zz → ¬ zz = b633 := fun zz hz ez => by rcases o760 zz hz with g | g; (exact n753 _ g ez); have := row_lt f750; omega
      have n771 : ∀ zz, O7582 zz → ¬ (blk (Value.slice w604 (FN.length) (c605))) zz := fun zz hz ez => by rcases o760 zz hz with g | g; (exact n754 _ g ez); have := p751.blk_lt ez; omega
      have o772 : ∀ zz, O7582 zz → h.size ≤ zz := fun zz hz => by rcases o760 zz hz with g | g; (exact o755 zz g); omega
      obtain ⟨_, h773, s774, rfl, x775, O7617, p776, o777⟩ := tresult_ok h756 p759 k761 (v622.sg) (v622.sg) (v622.sp) (v622.ph) (19 + (far)) 0 (x766 _ _ hg0) (x766 _ _ hg1)
      have k778 := WfT.res k761 (v622.sg) (v622.sg) (v622.sp) (v622.ph) (19 + (far)) 0
      have q779 : resTE (FU d18) (v622.sg) (v622.sg) (v622.sp) (v622.ph) (19 + (far)) 0 = 2 := (FU_first (by omega)).trans (resE_arg (sta_chk k20 (by omega) : chkS (staS d18 63) = 0) (by omega))
      have e780 : resTE (FU d18) (v622.sg) (v622.sg) (v622.sp) (v622.ph) (19 + (far)) 0 = 2 := q779
      rw [e780] at s774
      have e781 : (resTM (FU d18) (v622.sg) (v622.sg) (v622.sp) (v622.ph) (19 + (far)) 0) = (FU d18) := res_no q779 (by decide)
      rw [e781] at p776 k778
      have z782 : h.size ≤ h756.size := x766.size
      have x783 : Ext h _ := (Chg.then (O := fun _ => False) (Chg.ext x766) x775 (fun b hb => .inr (o772 b hb))).toExt'
      have f784 := x775.same _ _ f767 (fun hb => n770 _ hb rfl)
      have p785 := p768.keep fun b r hb q => x775.same b r q ((fun b hb hb2 => n771 b hb2 hb) b hb)
      have z786 : h.size ≤ h756.size := x766.size
      have n787 : ∀ zz, O7617 zz → ¬ zz = b633 := fun zz hz ez => by rcases o777 zz hz with g | g; (exact n770 _ g ez); have := row_lt f767; omega
      have n788 : ∀ zz, O7617 zz → ¬ (blk (Value.slice w604 (FN.length) (c605))) zz := fun zz hz ez => by rcases o777 zz hz with g | g; (exact n771 _ g ez); have := p768.blk_lt ez; omega
      have o789 : ∀ zz, O7617 zz → h.size ≤ zz := fun zz hz => by rcases o777 zz hz with g | g; (exact o772 zz g); omega
      obtain ⟨_, h790, s791, rfl, x792, O7652, p793, o794⟩ := tresult_ok h773 p776 k778 (v622.sg) (v622.sg) (v622.sp) (v622.ph) ((-1) - (far)) 0 (x783 _ _ hg0) (x783 _ _ hg1)
      have k795 := WfT.res k778 (v622.sg) (v622.sg) (v622.sp) (v622.ph) ((-1) - (far)) 0
      have q796 : resTE (FU d18) (v622.sg) (v622.sg) (v622.sp) (v622.ph) ((-1) - (far)) 0 = 2 := (FU_first (by omega)).trans (resE_arg (sta_chk k20 (by omega) : chkS (staS d18 63) = 0) (by omega))
      have e797 : resTE (FU d18) (v622.sg) (v622.sg) (v622.sp) (v622.ph) ((-1) - (far)) 0 = 2 := q796
      rw [e797] at s791
      have e798 : (resTM (FU d18) (v622.sg) (v622.sg) (v622.sp) (v622.ph) ((-1) - (far)) 0) = (FU d18) := res_no q796 (by decide)
      rw [e798] at p793 k795
      have z799 : h.size ≤ h773.size := x783.size
      have x800 : Ext h _ := (Chg.then (O := fun _ => False) (Chg.ext x783) x792 (fun b hb => .inr (o789 b hb))).toExt'
      have f801 := x792.same _ _ f784 (fun hb => n787 _ hb rfl)
      have p802 := p785.keep fun b r hb q => x792.same b r q ((fun b hb hb2 => n788 b hb2 hb) b hb)
      have z803 : h.size ≤ h773.size := x783.size
      have n804 : ∀ zz, O7652 zz → ¬ zz = b633 := fun zz hz ez => by rcases o794 zz hz with g | g; (exact n787 _ g ez); have := row_lt f784; omega
      have n805 : ∀ zz, O7652 zz → ¬ (blk (Value.slice w604 (FN.length) (c605))) zz := fun zz hz ez => by rcases o794 zz hz with g | g; (exact n788 _ g ez); have := p785.blk_lt ez; omega
      have o806 : ∀ zz, O7652 zz → h.size ≤ zz := fun zz hz => by rcases o794 zz hz with g | g; (exact o789 zz g); omega
      obtain ⟨_, h807, s808, rfl, x809, O7687, p810, o811⟩ := tresult_ok h790 p793 k795 (v622.sg) (v622.sg) (v622.sp) (v622.ph) 0 ((-1) - (far)) (x800 _ _ hg0) (x800 _ _ hg1)
      have k812 := WfT.res k795 (v622.sg) (v622.sg) (v622.sp) (v622.ph) 0 ((-1) - (far))
      have q813 : resTE (FU d18) (v622.sg) (v622.sg) (v622.sp) (v622.ph) 0 ((-1) - (far)) = 2 := (FU_first (by omega)).trans (resE_arg (sta_chk k20 (by omega) : chkS (staS d18 63) = 0) (by omega))
      have e814 : resTE (FU d18) (v622.sg) (v622.sg) (v622.sp) (v622.ph) 0 ((-1) - (far)) = 2 := q813
      rw [e814] at s808
      have e815 : (resTM (FU d18) (v622.sg) (v622.sg) (v622.sp) (v622.ph) 0 ((-1) - (far))) = (FU d18) := res_no q813 (by decide)
      rw [e815] at p810 k812
      have z816 : h.size ≤ h790.size := x800.size
      have x817 : Ext h _ := (Chg.then (O := fun _ => False) (Chg.ext x800) x809 (fun b hb => .inr (o806 b hb))).toExt'
      have f818 := x809.same _ _ f801 (fun hb => n804 _ hb rfl)
      have p819 := p802.keep fun b r hb q => x809.same b r q ((fun b hb hb2 => n805 b hb2 hb) b hb)
      have z820 : h.size ≤ h790.size := x800.size
      have n821 : ∀ zz, O7687 zz → ¬ zz = b633 := fun zz hz ez => by rcases o811 zz hz with g | g; (exact n804 _ g ez); have := row_lt f801; omega
      have n822 : ∀ zz, O7687 zz → ¬ (blk (Value.slice w604 (FN.length) (c605))) zz := fun zz hz ez => by rcases o811 zz hz with g | g; (exact n805 _ g ez); have := p802.blk_lt ez; omega
      have o823 : ∀ zz, O7687 zz → h.size ≤ zz := fun zz hz => by rcases o811 zz hz with g | g; (exact o806 zz g); omega
      obtain ⟨i824, v825, e826, l827, g828⟩ := list_at FN (e := 1) (by omega) (by first | omega | (simp only [List.length_set, List.length_append, List.length_singleton]; omega))
      obtain ⟨b829, o830, q831, a832, k833, u834⟩ := p819.store effc_size g828
      have z835 := FN_at g828
      obtain ⟨_, h836, s837, rfl, x838, O7734, p839, o840⟩ := tresult_ok h807 p810 k812 (v622.sg) (v825.sg) (v825.sp) (v825.ph) 0 0 (x817 _ _ hg0) (x817 _ _ hg1)
      have k841 := WfT.res k812 (v622.sg) (v825.sg) (v825.sp) (v825.ph) 0 0
      have q842 : resTE (FU d18) (v622.sg) (v825.sg) (v825.sp) (v825.ph) 0 0 = 8 := (FU_first (by omega)).trans (resE_order (sta_chk k20 (by omega) : chkS (staS d18 63) = 0) (by omega) (show (1 : Int) < 4 by decide) (fun w => by have w1 := w.1; have w2 : (v825.sp) = (0 : Int) := w.2.1; rw [effD_of (a := (v825.sg)) (b := (v622.sg)) (by omega)] at w1; omega))
      have e843 : resTE (FU d18) (v622.sg) (v825.sg) (v825.sp) (v825.ph) 0 0 = 8 := q842
      rw [e843] at s837
      have e844 : (resTM (FU d18) (v622.sg) (v825.sg) (v825.sp) (v825.ph) 0 0) = (FU d18) := res_no q842 (by decide)
      rw [e844] at p839 k841
      have z845 : h.size ≤ h807.size := x817.size
      have x846 : Ext h _ := (Chg.then (O := fun _ => False) (Chg.ext x817) x838 (fun b hb => .inr (o823 b hb))).toExt'
      have f847 := x838.same _ _ f818 (fun hb => n821 _ hb rfl)
      have p848 := p819.keep fun b r hb q => x838.same b r q ((fun b hb hb2 => n822 b hb2 hb) b hb)
      have z849 : h.size ≤ h807.size := x817.size
      have n850 : ∀ zz, O7734 zz → ¬ (blk (Value.slice w604 (FN.length) (c605))) zz := fun zz hz ez => by rcases o840 zz hz with g | g; (exact n822 _ g ez); have := p819.blk_lt ez; omega
      have o851 : ∀ zz, O7734 zz → h.size ≤ zz := fun zz hz => by rcases o840 zz hz with g | g; (exact o823 zz g); omega
      obtain ⟨_, h852, s853, rfl, x854, O7769, p855, o856⟩ := tresult_ok h836 p839 k841 (v622.sg) (v622.sg) 1 1 0 0 (x846 _ _ hg0) (x846 _ _ hg1)
      have k857 := WfT.res k841 (v622.sg) (v622.sg) 1 1 0 0
      have q858 : resTE (FU d18) (v622.sg) (v622.sg) 1 1 0 0 = 8 := (FU_first (by omega)).trans (resE_order (sta_chk k20 (by omega) : chkS (staS d18 63) = 0) (by omega) (show (1 : Int) < 4 by decide) (fun w => by have w1 := w.1; have w2 : 1 = (0 : Int) := w.2.1; rw [effD_of (a := (v622.sg)) (b := (v622.sg)) (by omega)] at w1; omega))
      have e859 : resTE (FU d18) (v622.sg) (v622.sg) 1 1 0 0 = 8 := q858
      rw [e859] at s853
      have e860 : (resTM (FU d18) (v622.sg) (v622.sg) 1 1 0 0) = (FU d18) := res_no q858 (by decide)
      rw [e860] at p855 k857
      have z861 : h.size ≤ h836.size := x846.size
      have x862 : Ext h _ := (Chg.then (O := fun _ => False) (Chg.ext x846) x854 (fun b hb => .inr (o851 b hb))).toExt'
      have p863 := p848.keep fun b r hb q => x854.same b r q ((fun b hb hb2 => n850 b hb2 hb) b hb)
      have z864 : h.size ≤ h836.size := x846.size
      have o865 : ∀ zz, O7769 zz → h.size ≤ zz := fun zz hz => by rcases o856 zz hz with g | g; (exact o851 zz g); omega
      obtain ⟨_, h866, s867, rfl, x868⟩ := len_ok h852 p855 k857
      have p869 := p855.keep fun b r _ q => x868 b r q
      have p870 := p863.keep fun b r _ q => x868 b r q
      have x871 := x862.trans x868
      have e872 : (((FU d18).length : Nat) : Int) = 64 := by rw [FU_len]; rfl
      rw [e872] at s867
      obtain ⟨_, h873, s874, w875, c876, rfl, o877, x878, n879⟩ := tnext_ok h866 p869 k857 (x871 _ _ hg0) (x871 _ _ hg1)
      have := FN_len
      have e880 : (nxtL (FU d18)) = FN := FU_nxt _
      rw [e880] at s874 o877 n879
      have p881 := p870.keep fun b r _ q => x878 b r q
      have x882 := x871.trans x878
      have z883 : h.size ≤ h866.size := x871.size
      have o884 : ∀ zz, blk (Value.slice w875 (FN.length) (c876)) zz → h.size ≤ zz := fun zz hz => by have := n879 zz hz; omega
      obtain ⟨_, _, s885, rfl, rfl⟩ := eqE_ok h873 FN FN _ _ _ _ (o877.slice effc_size) (p881.slice effc_size) (by rw [FN_len]; decide)
      obtain ⟨_, hh886, sn887, rfl, x888⟩ := works_ok h873 (x882 _ _ hg0) (x882 _ _ hg1)
      have x889 := x882.trans x888
      refine wc_ev [evF 24 1 s603, neF 25 2 3 c620, evV 27 1 (vP b626 o627) (show indexAddrA Tryz.prog 42 (vL w604 FN.length c605) (vI 0) = some (vP b626 o627) from a629 und42 size33 e623), evV 27 2 (vA #[(vI v622.sg), (vI v622.sp), (vI v622.ph)]) (show loadT Tryz.prog h602 33 (vP b626 o627) = some (vA #[(vI v622.sg), (vI v622.sp), (vI v622.ph)]) from k630.agg (j := 0) agg33 size33 (show 0 + 3 ≤ 3 by decide) (by kernel_rfl)), evA 27 3 eb634 e636, evUw 27 4 size33 f637 e656, evLw 28 1 agg31 size31 f659, evF 28 2 s667, evLw 28 6 agg31 size31 f678, evV 28 8 (vI ((-1) - (far))) (show binA Tryz.prog .sub 3 (vI (-1)) (vI far) = some (vI ((-1) - (far))) from sub_i64 (by omega) (by omega)), evF 28 9 s693, evLw 28 14 agg31 size31 f703, evV 28 16 (vI (2147483649 + (far))) (show binA Tryz.prog .add 3 (vI 2147483649) (vI far) = some (vI (2147483649 + (far))) from add_i64 (by omega) (by omega)), evF 28 17 s718, evLw 28 22 agg38 size38 f729, evF 28 23 s739, evLw 28 28 agg31 size31 f749, evF 28 30 s757, evC 30 2 0 agg3 f767, evLw 30 3 agg33 size33 f767, evV 30 5 (vI (19 + (far))) (show binA Tryz.prog .add 3 (vI 19) (vI far) = some (vI (19 + (far))) from add_i64 (by omega) (by omega)), evF 30 6 s774, evC 30 11 0 agg3 f784, evLw 30 12 agg33 size33 f784, evV 30 14 (vI ((-1) - (far))) (show binA Tryz.prog .sub 3 (vI (-1)) (vI far) = some (vI ((-1) - (far))) from sub_i64 (by omega) (by omega)), evF 30 15 s791, evC 30 21 0 agg3 f801, evLw 30 22 agg33 size33 f801, evV 30 24 (vI ((-1) - (far))) (show binA Tryz.prog .sub 3 (vI (-1)) (vI far) = some (vI ((-1) - (far))) from sub_i64 (by omega) (by omega)), evF 30 25 s808, evC 30 31 0 agg3 f818, evV 30 33 (vP b829 o830) (show indexAddrA Tryz.prog 42 (vL w604 FN.length c605) (vI 1) = some (vP b829 o830) from a832 und42 size33 e826), evV 30 34 (vA #[(vI v825.sg), (vI v825.sp), (vI v825.ph)]) (show loadT Tryz.prog h807 33 (vP b829 o830) = some (vA #[(vI v825.sg), (vI v825.sp), (vI v825.ph)]) from k833.agg (j := 0) agg33 size33 (show 0 + 3 ≤ 3 by decide) (by kernel_rfl)), evF 30 35 s837, evC 30 41 0 agg3 f847, evC 30 43 0 agg3 f847, evF 30 45 s853, evF 32 1 s867, evF 32 5 s874, evFt 32 7 (Eq.refl _) s885, evF 32 10 sn887] .ret hh886 [(133, (vP b4 0)), (134, (vL w604 FN.length c605)), (17, (vL w604 FN.length c605)), (135, (vL w604 FN.length c605)), (136, (vI ((FN.length : Nat)))), (137, (vB false)), (138, (vL w604 FN.length c605)), (139, (vP b626 o627)), (140, (vA #[(vI v622.sg), (vI v622.sp), (vI v622.ph)])), (18, (vP b633 0)), (141, (vP b4 0)), (142, (vA #[(vS d18.name), (vI d18.rt), (vI d18.dl), (vL none 0 0)])), (143, (vI 15)), (144, (vB false)), (145, (vB false)), (146, (vP b4 0)), (147, (vA #[(vS d18.name), (vI d18.rt), (vI d18.dl), (vL none 0 0)])), (148, (vI far)), (149, (vI ((-1) - (far)))), (150, (vI 2)), (151, (vB false)), (152, (vB false)), (153, (vB false)), (154, (vP b4 0)), (155, (vA #[(vS d18.name), (vI d18.rt), (vI d18.dl), (vL w13 d18.xs.length c14)])), (156, (vI far)), (157, (vI (2147483649 + (far)))), (158, (vI 2)), (159, (vB false)), (160, (vB false)), (161, (vB false)), (162, (vP b4 0)), (163, (vA #[(vS s1.d.name), (vI s1.d.rt), (vI s1.d.dl), (vL w83 s1.d.xs.length c84), (vI s1.st), (vI (((d18.xs.length : Nat)) + (far))), (vB s1.cn), (vI s1.tr), (vI s1.bg), (vI s1.er)])), (164, (vI 2)), (165, (vB false)), (166, (vB false)), (167, (vB false)), (168, (vP b4 0)), (169, (vA #[(vS d18.name), (vI d18.rt), (vI d18.dl), (vL none 0 0)])), (170, (vA #[(vS d18.name), (vI d18.rt), (vI d18.dl), (vL none 0 0), (vI 0), (vI 0), (vB false), (vI 0), (vI 0), (vI 0)])), (171, (vI 15)), (172, (vB false)), (173, (vB false)), (174, (vP b4 0)), (175, (vP b633 0)), (176, (vI v622.sg)), (177, (vA #[(vI v622.sg), (vI v622.sp), (vI v622.ph)])), (178, (vI far)), (179, (vI (19 + (far)))), (180, (vI 2)), (181, (vB false)), (182, (vB false)), (183, (vP b4 0)), (184, (vP b633 0)), (185, (vI v622.sg)), (186, (vA #[(vI v622.sg), (vI v622.sp), (vI v622.ph)])), (187, (vI far)), (188, (vI ((-1) - (far)))), (189, (vI 2)), (190, (vB false)), (191, (vB false)), (192, (vB false)), (193, (vP b4 0)), (194, (vP b633 0)), (195, (vI v622.sg)), (196, (vA #[(vI v622.sg), (vI v622.sp), (vI v622.ph)])), (197, (vI far)), (198, (vI ((-1) - (far)))), (199, (vI 2)), (200, (vB false)), (201, (vB false)), (202, (vB false)), (203, (vP b4 0)), (204, (vP b633 0)), (205, (vI v622.sg)), (206, (vL w604 FN.length c605)), (207, (vP b829 o830)), (208, (vA #[(vI v825.sg), (vI v825.sp), (vI v825.ph)])), (209, (vI 8)), (210, (vB false)), (211, (vB false)), (212, (vB false)), (213, (vP b4 0)), (214, (vP b633 0)), (215, (vI v622.sg)), (216, (vP b633 0)), (217, (vI v622.sg)), (218, (vA #[(vI v622.sg), (vI 1), (vI 1)])), (219, (vI 8)), (220, (vB false)), (221, (vB false)), (222, (vP b4 0)), (223, (vI 64)), (224, (vB true)), (225, (vB true)), (226, (vP b4 0)), (227, (vL w875 FN.length c876)), (228, (vL w604 FN.length c605)), (229, (vB true)), (230, (vB true)), (231, (vB true)), (232, (vB true)), (233, (vB true)), (4, (vB true))] ?_
      exact end_ev [] (vB true) (hK _ _ (⟨rfl, x889⟩))
    · refine wc_ev [evF 24 1 s603, neT 25 2 3 c620] .ret h602 [(133, (vP b4 0)), (134, (vL w604 FN.length c605)), (17, (vL w604 FN.length c605)), (135, (vL w604 FN.length c605)), (136, (vI ((FN.length : Nat)))), (137, (vB true)), (4, (vB false))] ?_
      exfalso
      omega
end C29
