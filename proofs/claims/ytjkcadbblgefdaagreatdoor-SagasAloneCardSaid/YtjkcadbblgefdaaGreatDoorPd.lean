/- The run of SagasAlone. -/
import Derived.Test.YtjkcadbblgefdaaGreatDoorTj
import Derived.KernelRfl
open Go Go.AM Go.Proofs
namespace C29
theorem agg81 : isAggA Tryz.prog 81 = some true := by kernel_rfl
theorem size81 : (Tryz.prog.info? 81).map (·.size) = some 4 := by kernel_rfl
theorem und77 : Tryz.prog.underlying 77 = some (.slice 81) := by kernel_rfl
/-! ### arrays that hold a list -/
abbrev ArrAt {α : Type} (h : Heap) (f : α → Array Value) (e : TypeId) (xs : List α) (b : Nat) : Prop := h[b]? = some (.cells (flat f xs) e (0, 0))
section
variable {α : Type} {h h1 : Heap} {f : α → Array Value} {z : Nat} {e : TypeId} {xs : List α} {b : Nat}
theorem ArrAt.keep (k : ArrAt h f e xs b) (w : ∀ q r, q = b → h[q]? = some r → h1[q]? = some r) : ArrAt h1 f e xs b := w _ _ rfl k
theorem ArrAt.blk_lt (k : ArrAt h f e xs b) {q : Nat} (hq : q = b) : q < h.size := hq ▸ row_lt k
theorem ArrAt.at {P : Program} (hf : ∀ x, (f x).size = z) (k : ArrAt h f e xs b) {t et : TypeId} {n : Nat} (ht : P.underlying t = some (.array n et)) (hi : (P.info? et).map (·.size) = some z) (hn : xs.length = n) {i : Nat} {x : α} (hx : xs[i]? = some x) :
    ∃ o, CellsAt h b o (f x) ∧ (∀ {ix : Int}, ix = (i : Int) → indexAddrA P t (.pointer (some ⟨b, 0, none⟩)) (.int .i64 ix) = some (.pointer (some ⟨b, o, none⟩))) ∧
      ∀ {t2 : TypeId} {n2 j : Nat} {y : α} {u : Value}, (P.info? t2).map (·.size) = some n2 → u.cells.size = n2 → u.cells.toList.all (·.oneCell') = true → j + n2 ≤ z → splice (f x) j u.cells.toList = f y →
        ∃ h1, storeT P h t2 (.pointer (some ⟨b, o + j, none⟩)) u = some h1 ∧ ArrAt h1 f e (xs.set i y) b ∧ Chg (fun k => k = b) h h1 ∧ h1.size = h.size := by
  have hlt : i < xs.length := (List.getElem?_eq_some_iff.1 hx).1
  have hsz := flat_size hf xs
  have hle : i * z + z ≤ xs.length * z := by
    have := Nat.mul_le_mul_right z (show i + 1 ≤ xs.length from hlt)
    rw [Nat.succ_mul] at this; exact this
  refine ⟨i * z, ⟨flat f xs, e, (0, 0), k, by rw [hf]; omega, fun j hj => by rw [hf] at hj; exact flat_get hf xs i j x hx hj⟩, fun {ix} hix => ?_, fun {t2 n2 j y u} h1 h2 h4 h3 h5 => ?_⟩
  · obtain ⟨inf, hi', rfl⟩ := info_of hi
    subst hix
    simp only [indexAddrA, ht, hi']
    rw [if_pos (by omega), addr_add _ rfl]
    simp
  · have hul : u.cells.toList.length = n2 := by simpa using h2
    exact ⟨_, store_cells (c := flat f xs) h1 h2 k (by decide) (by omega) h4 (flat_splice hf hx (by omega) h5), set_same rfl k, Chg.set rfl, by simp⟩
end
def boolc (b : Bool) : Array Value := #[.bool b]
theorem boolc_size (b : Bool) : (boolc b).size = 1 := rfl
/-- The sagas that are alone. -/
def sagc (x : SagA) : Array Value := #[(.string x.1.d.name), (.int .i64 x.1.d.rt), (.int .i64 x.1.d.dl), (.slice x.2.1 x.1.d.xs.length x.2.2), (.int .i64 x.1.st), (.int .i64 x.1.ix), (.bool x.1.cn), (.int .i64 x.1.tr), (.int .i64 x.1.bg), (.int .i64 x.1.er)]
theorem sagc_size (x : SagA) : (sagc x).size = 10 := rfl
def LsAt (h : Heap) (ss : List SagA) : Prop := ∀ x ∈ ss, OwnAt h 67 stepc x.1.d.xs (sagL x)
def lsF (ss : List SagA) (b : Nat) : Prop := ∃ x ∈ ss, blk (sagL x) b
section
variable {h h1 : Heap} {ss : List SagA}
theorem LsAt.keep (k : LsAt h ss) (w : ∀ b r, lsF ss b → h[b]? = some r → h1[b]? = some r) : LsAt h1 ss := fun p hp => (k p hp).keep fun b r hb q => w b r ⟨p, hp, hb⟩ q
theorem LsAt.blk_lt (k : LsAt h ss) {b : Nat} (hb : lsF ss b) : b < h.size := by obtain ⟨p, hp, hb⟩ := hb; exact (k p hp).blk_lt hb
theorem LsAt.celled (k : LsAt h ss) : Celled h (lsF ss) := fun b ⟨p, hp, hb⟩ => (k p hp).celled b hb
theorem LsAt.at (k : LsAt h ss) {j : Nat} {x : SagA} (hx : ss[j]? = some x) : LAt h stepc 2 x.1.d.xs (sagL x) := OwnAt.lat (k _ (List.mem_of_getElem? hx)) stepc_size (tsz_of size67)
theorem lsF_at {j : Nat} {x : SagA} (hx : ss[j]? = some x) {b : Nat} (hb : blk (sagL x) b) : lsF ss b := ⟨_, List.mem_of_getElem? hx, hb⟩
theorem LsAt.ne (k : LsAt h ss) {b : Nat} {c : Array Value} {e : TypeId} {fr : Nat × Nat} (hb : h[b]? = some (.cells c e fr)) (he : 67 ≠ e) : ∀ z, lsF ss z → ¬ z = b := by
  rintro z ⟨p, hp, hz⟩ rfl
  exact (k p hp).ne hb he hz rfl
theorem LsAt.off (k : LsAt h ss) {α : Type} {f : α → Array Value} {e : TypeId} {xs : List α} {v : Value} (k2 : OwnAt h e f xs v) (he : 67 ≠ e) : ∀ z, lsF ss z → ¬ blk v z := by
  rintro z ⟨p, hp, hz⟩ hb
  exact (k p hp).apart k2 he hz hb
theorem LsAt.set (k : LsAt h ss) {y : SagA} (ky : OwnAt h 67 stepc y.1.d.xs (sagL y)) (j : Nat) : LsAt h (ss.set j y) ∧ ∀ z, lsF (ss.set j y) z → lsF ss z ∨ blk (sagL y) z := by
  refine ⟨fun x hx => ?_, fun z hz => ?_⟩
  · rcases List.mem_or_eq_of_mem_set hx with hx | rfl
    · exact k x hx
    · exact ky
  · obtain ⟨x, hx, hz⟩ := hz
    rcases List.mem_or_eq_of_mem_set hx with hx | rfl
    · exact .inl ⟨x, hx, hz⟩
    · exact .inr hz
end
theorem OwnAt.offArr {α β : Type} {h : Heap} {f : α → Array Value} {g : β → Array Value} {e e2 : TypeId} {xs : List α} {ys : List β} {v : Value} {b : Nat} (k2 : OwnAt h e2 g ys v) (k : ArrAt h f e xs b) (he : e2 ≠ e) : ∀ z, blk v z → ¬ z = b := fun _ hz => k2.ne k he hz
/-! ### each saga as one that is alone -/
structure AloI (m : Tab) (ss : List SagA) (bs : List Bool) : Prop where
  ls : ss.length = 9
  lb : bs.length = 9
  small : ∀ x ∈ ss, x.1.d.xs.length ≤ 8
  all : ∀ (j : Nat) (x : SagA) (b : Bool), ss[j]? = some x → bs[j]? = some b → findK m (j : Int) = if b = true then some x.1 else none
  keys : ∀ p ∈ m, p.1 ≤ 8
def zA : SagA := (zeroS, none, 0)
theorem AloI.init : AloI [] (List.replicate 9 zA) (List.replicate 9 false) := by
  refine ⟨rfl, rfl, fun x hx => ?_, fun j x b _ hb => ?_, fun p hp => absurd hp (by simp)⟩
  · rw [List.eq_of_mem_replicate hx]; decide
  · rw [List.eq_of_mem_replicate (List.mem_of_getElem? hb)]; rfl
theorem get_set {α : Type} {l : List α} {j i : Nat} {y a : α} (h : (l.set j y)[i]? = some a) : (i = j ∧ a = y) ∨ (i ≠ j ∧ l[i]? = some a) := by
  by_cases e : i = j
  · subst e
    have := (List.getElem?_eq_some_iff.1 h).1
    rw [List.length_set] at this
    rw [List.getElem?_set_self this] at h
    cases h; exact .inl ⟨rfl, rfl⟩
  · rw [List.getElem?_set_ne (Ne.symm e)] at h; exact .inr ⟨e, h⟩
theorem small_set {ss : List SagA} {j : Nat} {y : SagA} (h : ∀ x ∈ ss, x.1.d.xs.length ≤ 8) (hy : y.1.d.xs.length ≤ 8) : ∀ x ∈ ss.set j y, x.1.d.xs.length ≤ 8 := fun x hx => by
  rcases List.mem_or_eq_of_mem_set hx with hx | rfl
  · exact h x hx
  · exact hy
theorem AloI.start {m : Tab} {ss : List SagA} {bs : List Bool} (A : AloI m ss bs) {j : Nat} {k : Int} {x y : SagA} (hk : k = (j : Int)) (h8 : k ≤ 8) (hx : ss[j]? = some x) (hb : bs[j]? = some false) (hy : y.1.d.xs.length ≤ 8) : AloI (insT k y.1 m) (ss.set j y) (bs.set j true) := by
  subst hk
  have hn : findK m (j : Int) = none := by rw [A.all j x false hx hb]; rfl
  refine ⟨by rw [List.length_set]; exact A.ls, by rw [List.length_set]; exact A.lb, small_set A.small hy, fun i a b ha hb' => ?_, fun p hp => ?_⟩
  · rw [findK_ins hn]
    rcases get_set ha with ⟨rfl, rfl⟩ | ⟨h1, ha⟩
    · rw [if_pos rfl]
      rcases get_set hb' with ⟨_, rfl⟩ | ⟨h2, _⟩
      · rfl
      · exact absurd rfl h2
    · rw [if_neg (by omega)]
      rcases get_set hb' with ⟨h2, _⟩ | ⟨_, hb'⟩
      · exact absurd h2 h1
      · exact A.all i a b ha hb'
  · rcases insT_mem.1 hp with rfl | hp
    · exact h8
    · exact A.keys p hp
theorem AloI.put {m : Tab} {ss : List SagA} {bs : List Bool} (A : AloI m ss bs) {j : Nat} {k : Int} {x y : SagA} (hk : k = (j : Int)) (hx : ss[j]? = some x) (hb : bs[j]? = some true) (hy : y.1.d.xs.length ≤ 8) : AloI (setK m k y.1) (ss.set j y) bs := by
  subst hk
  have hs : findK m (j : Int) = some x.1 := by rw [A.all j x true hx hb]; rfl
  refine ⟨by rw [List.length_set]; exact A.ls, A.lb, small_set A.small hy, fun i a b ha hb' => ?_, fun p hp => ?_⟩
  · rw [findK_set (by rw [hs]; rfl)]
    rcases get_set ha with ⟨rfl, rfl⟩ | ⟨h1, ha⟩
    · rw [if_pos rfl]
      rw [hb] at hb'; cases hb'; rfl
    · rw [if_neg (by omega)]; exact A.all i a b ha hb'
  · rcases setK_in hp with e | hp
    · have q := A.keys ((j : Int), x.1) (findK_mem hs)
      rw [e]; exact q
    · exact A.keys p hp
theorem ord_len : ∀ {m : Tab} {lo : Int}, OrdT m → (∀ p ∈ m, lo < p.1 ∧ p.1 ≤ 8) → (m.length : Int) ≤ 8 - lo ∨ m = []
  | [], _, _, _ => .inr rfl
  | p :: m, lo, ho, hk => by
    have ho' := ho
    unfold OrdT at ho'
    rw [List.map_cons, List.pairwise_cons] at ho'
    have h1 := hk p (by simp)
    rcases ord_len (m := m) (lo := p.1) ho'.2 (fun q hq => ⟨ho'.1 _ (List.mem_map_of_mem hq), (hk q (by simp [hq])).2⟩) with h | h
    · left; rw [List.length_cons]; omega
    · left; subst h; simp only [List.length_cons, List.length_nil]; omega
theorem AloI.len {m : Tab} {ss : List SagA} {bs : List Bool} (A : AloI m ss bs) (w : WfT m) : m.length ≤ 8 := by
  rcases ord_len (lo := 0) w.ord (fun p hp => ⟨by have := w.ids p hp; omega, A.keys p hp⟩) with h | h
  · omega
  · subst h; simp
theorem start_is {m : Tab} {k n : Int} {d : DefM} (h : (1 ≤ k ∧ k ≤ 9999) ∧ 0 ≤ n ∧ n ≤ 2147483648) (hd : defB d = true) (hn : findK m k = none) (hl : m.length < 64) : startE m k d n = 0 ∧ startM m k d n = insT k (staS d n) m := by
  have e : startE m k d n = 0 := by unfold startE; rw [if_pos h, if_pos hd, addE_none hn, if_neg (by omega)]
  exact ⟨e, by unfold startM; rw [if_pos e]⟩
theorem can_at {m : Tab} {k : Int} {s : SagaM} (h : findK m k = some s) : canTE m k = canE s ∧ (canE s = 0 → canTM m k = setK m k (canS s)) ∧ (¬ canE s = 0 → canTM m k = m) := by
  have e : canTE m k = canE s := by unfold canTE; rw [if_pos (getE_some h).1, (getE_some h).2]
  refine ⟨e, fun w => ?_, fun w => ?_⟩
  · unfold canTM; rw [e, if_pos w, (getE_some h).2]
  · unfold canTM; rw [e, if_neg w]
theorem res_at {m : Tab} {k e2 e3 r w E : Int} {s : SagaM} (h : findK m k = some s) (hE : resE s 0 e2 e3 r w = E) : resTE m k k e2 e3 r w = E ∧ (E = 0 → resTM m k k e2 e3 r w = setK m k (nxtS s r w)) ∧ (¬ E = 0 → resTM m k k e2 e3 r w = m) := by
  subst hE
  have h0 : effD k k = 0 := by unfold effD; rw [Int.sub_self]; rfl
  have e : resTE m k k e2 e3 r w = resE s 0 e2 e3 r w := by unfold resTE; rw [if_pos (getE_some h).1, (getE_some h).2, h0]
  refine ⟨e, fun q => ?_, fun q => ?_⟩
  · unfold resTM; rw [e, if_pos q, (getE_some h).2]
  · unfold resTM; rw [e, if_neg q]
theorem resD_rng {x : DeedM} (h : DOk x) : 0 ≤ resD x ∧ resD x ≤ 18 := by
  have h1 := Int.tmod_nonneg (a := x.rs) 18 h.2.2.1.1
  have h2 := Int.tmod_lt_of_pos x.rs (b := 18) (by omega)
  unfold resD
  split
  · exact ⟨Int.le_refl _, by decide⟩
  · constructor <;> omega
theorem resE_nin {s : SagaM} {r w : Int} (h : chkS s = 0) (hr : 0 ≤ r ∧ r ≤ 18) (hw : 0 ≤ w ∧ w ≤ 2147483648) (h4 : ¬ s.st < 4) {e2 e3 : Int} : resE s 0 e2 e3 r w = 9 := by
  unfold resE; rw [if_pos h, if_pos ⟨hr, hw⟩, if_neg h4]
theorem resE_fine {s : SagaM} {r w : Int} (h : chkS s = 0) (hr : 0 ≤ r ∧ r ≤ 18) (hw : 0 ≤ w ∧ w ≤ 2147483648) (h4 : s.st < 4) : resE s 0 s.ix (phS s.st) r w = 0 := by
  unfold resE; rw [if_pos h, if_pos ⟨hr, hw⟩, if_pos h4, if_pos ⟨rfl, rfl, rfl⟩]
/-! ### the sagas up to a number -/
def upto (m : Tab) (k : Int) : Tab := m.filter fun p => decide (p.1 < k)
theorem upto_none {m : Tab} {k : Int} (h : ∀ p ∈ m, k ≤ p.1) : upto m k = [] := List.filter_eq_nil_iff.2 fun p hp => by have := h p hp; simpa using this
theorem upto_all {m : Tab} {k : Int} (h : ∀ p ∈ m, p.1 < k) : upto m k = m := List.filter_eq_self.2 fun p hp => by simpa using h p hp
theorem upto_next : ∀ {m : Tab} {k : Int}, OrdT m → upto m (k + 1) = upto m k ++ (match findK m k with | some s => [(k, s)] | none => [])
  | [], _, _ => rfl
  | p :: m, k, ho => by
    have ho' := ho
    unfold OrdT at ho'
    rw [List.map_cons, List.pairwise_cons] at ho'
    have ih := upto_next (m := m) (k := k) ho'.2
    rw [findK_cons]
    unfold upto at ih ⊢
    by_cases h1 : p.1 < k
    · rw [List.filter_cons_of_pos (by simp; omega), List.filter_cons_of_pos (by simpa using h1), if_neg (by omega), ih]; rfl
    · have hr : ∀ q ∈ m, k < q.1 := fun q hq => by have := ho'.1 _ (List.mem_map_of_mem hq); omega
      have e1 : m.filter (fun p => decide (p.1 < k)) = [] := List.filter_eq_nil_iff.2 fun q hq => by have := hr q hq; simp; omega
      have e2 : m.filter (fun p => decide (p.1 < k + 1)) = [] := List.filter_eq_nil_iff.2 fun q hq => by have := hr q hq; simp; omega
      rw [List.filter_cons_of_neg (p := fun q : Int × SagaM => decide (q.1 < k)) (by simpa using h1), e1]
      by_cases h2 : p.1 = k
      · rw [if_pos h2, List.filter_cons_of_pos (by simp; omega), e2, ← h2]; rfl
      · rw [if_neg h2, List.filter_cons_of_neg (by simp; omega), e2]
        have hn : findK m k = none := findK_none.2 fun hm => by
          obtain ⟨q, hq, e⟩ := List.mem_map.1 hm
          have := hr q hq; omega
        rw [hn]; rfl
theorem opnL_app (a b : Tab) : opnL (a ++ b) = opnL a ++ opnL b := by unfold opnL opnT; rw [List.filter_append, List.map_append]
theorem nxtL_app (a b : Tab) : nxtL (a ++ b) = nxtL a ++ nxtL b := by unfold nxtL opnT; rw [List.filter_append, List.map_append]
theorem out_yes {m : Tab} {k : Int} {s : SagaM} (w : WfT m) (h : findK m k = some s) (h4 : s.st < 4) : opnL (upto m (k + 1)) = opnL (upto m k) ++ [k] ∧ nxtL (upto m (k + 1)) = nxtL (upto m k) ++ [⟨k, s.ix, phS s.st⟩] := by
  rw [upto_next w.ord, h, opnL_app, nxtL_app]
  have e : opnT [(k, s)] = [(k, s)] := List.filter_eq_self.2 fun p hp => by rw [List.mem_singleton.1 hp]; simpa using h4
  exact ⟨by unfold opnL; simp only [e]; rfl, by unfold nxtL; simp only [e]; rfl⟩
theorem out_done {m : Tab} {k : Int} {s : SagaM} (w : WfT m) (h : findK m k = some s) (h4 : ¬ s.st < 4) : opnL (upto m (k + 1)) = opnL (upto m k) ∧ nxtL (upto m (k + 1)) = nxtL (upto m k) := by
  rw [upto_next w.ord, h, opnL_app, nxtL_app]
  have e : opnT [(k, s)] = [] := List.filter_eq_nil_iff.2 fun p hp => by rw [List.mem_singleton.1 hp]; simpa using h4
  exact ⟨by unfold opnL; simp only [e]; simp, by unfold nxtL; simp only [e]; simp⟩
theorem out_none {m : Tab} {k : Int} (w : WfT m) (h : findK m k = none) : opnL (upto m (k + 1)) = opnL (upto m k) ∧ nxtL (upto m (k + 1)) = nxtL (upto m k) := by
  rw [upto_next w.ord, h]
  simp
theorem undarr78 : Tryz.prog.underlying 78 = some (.array 9 38) := by kernel_rfl
theorem undarr79 : Tryz.prog.underlying 79 = some (.array 9 4) := by kernel_rfl
theorem ArrAt.ne {α : Type} {h : Heap} {f : α → Array Value} {e e2 : TypeId} {xs : List α} {b b2 : Nat} {c : Array Value} {fr : Nat × Nat} (k : ArrAt h f e xs b) (hb : h[b2]? = some (.cells c e2 fr)) (he : e ≠ e2) {q : Nat} (hq : q = b) : q ≠ b2 := by
  rintro rfl; subst hq; rw [k] at hb; cases hb; exact he rfl
theorem lsF_zero {b : Nat} : ¬ lsF (List.replicate 9 zA) b := by
  rintro ⟨x, hx, hz⟩
  rw [List.eq_of_mem_replicate hx] at hz; exact hz.elim
theorem upto_len (m : Tab) (k : Int) : (upto m k).length ≤ m.length := List.length_filter_le _ _
set_option maxRecDepth 10000 in
set_option maxHeartbeats 4000000 in
theorem law_alone (h : Heap) (l : List DeedM) (sa : Option Addr) (cp : Nat) (hl : LAt h deedc 4 l (.slice sa l.length cp)) (hlen : l.length ≤ 9223372036854775807) (hq : ∀ x ∈ l, DOk x) (hg0 : h[0]? = some (.cells #[(vI 0), (vI 1), (vI 3), (vI 2)] 128 (0, 0))) (hg1 : h[1]? = some (.cells #[Value.nilFunc, (Value.func (.func 178) #[] #[]), (Value.func (.func 179) #[] #[]), (Value.func (.func 180) #[] #[])] 130 (0, 0))) : WCall Tryz.prog 6 #[(Value.slice sa (l.length) (cp))] h (fun v h1 => v = .bool true ∧ Ext h h1) := by
  suffices H : ∀ K : Value → Heap → Prop, (∀ v h1, (fun v h1 => v = .bool true ∧ Ext h h1) v h1 → K v h1) → WCall Tryz.prog 6 #[(Value.slice sa (l.length) (cp))] h K from H _ fun _ _ q => q
  intro K hK
  refine wcall_at { tmps := #[(vL sa l.length cp), vZ, vZ, vZ, vZ, vZ, vZ, vZ, vZ, vZ, vZ, vZ, vZ, vZ, vZ, vZ, vZ, vZ, vZ, vZ, vZ, vZ, vZ, vZ, vZ, vZ, vZ, vZ, vZ, vZ, vZ, vZ, vZ, vZ, vZ, vZ, vZ, vZ, vZ, vZ, vZ, vZ, vZ, vZ, vZ, vZ, vZ, vZ, vZ, vZ, vZ, vZ, vZ, vZ, vZ, vZ, vZ, vZ, vZ, vZ, vZ, vZ, vZ, vZ, vZ, vZ, vZ, vZ, vZ, vZ, vZ, vZ, vZ, vZ, vZ, vZ, vZ, vZ, vZ, vZ, vZ, vZ, vZ, vZ, vZ, vZ, vZ, vZ, vZ, vZ, vZ, vZ, vZ, vZ, vZ, vZ, vZ, vZ, vZ, vZ, vZ, vZ, vZ, vZ, vZ, vZ, vZ, vZ, vZ, vZ, vZ, vZ, vZ, vZ, vZ, vZ, vZ, vZ, vZ, vZ, vZ, vZ, vZ, vZ, vZ, vZ, vZ, vZ, vZ, vZ, vZ, vZ, vZ, vZ, vZ, vZ, vZ, vZ, vZ, vZ, vZ, vZ, vZ, vZ, vZ, vZ, vZ, vZ, vZ, vZ, vZ, vZ, vZ, vZ, vZ, vZ, vZ, vZ, vZ, vZ, vZ, vZ, vZ, vZ, vZ, vZ, vZ, vZ, vZ, vZ, vZ, vZ, vZ, vZ, vZ, vZ, vZ, vZ, vZ, vZ, vZ, vZ, vZ, vZ, vZ, vZ, vZ, vZ, vZ, vZ, vZ, vZ, vZ, vZ, vZ, vZ, vZ, vZ, vZ, vZ, vZ, vZ, vZ, vZ, vZ, vZ, vZ, vZ, vZ, vZ, vZ, vZ, vZ, vZ, vZ, vZ, vZ, vZ, vZ, vZ, vZ, vZ, vZ, vZ, vZ, vZ, vZ, vZ, vZ, vZ, vZ, vZ, vZ, vZ, vZ, vZ, vZ, vZ, vZ, vZ, vZ, vZ, vZ], defers := [] } (by kernel_rfl) ?_
  refine wc_seq' (subc (bodyOf Tryz.prog 6) [0]) (subc (bodyOf Tryz.prog 6) [1]) (by kernel_rfl) ?_
  refine wc_ev [] .normal h [(2, (vB false))] ?_
  refine wc_seq' (subc (bodyOf Tryz.prog 6) [1, 0]) (subc (bodyOf Tryz.prog 6) [1, 1]) (by kernel_rfl) ?_
  obtain ⟨_, h2, s3, b4, O8733, rfl, p5, x6, w7⟩ := tnew_ok h
  have x8 := (Ext.refl h).trans x6
  have z9 : h.size ≤ h.size := (Ext.refl h).size
  have o10 : ∀ zz, O8733 zz → h.size ≤ zz := fun zz hz => by have := w7 zz hz; omega
  refine wc_ev [evF 1 0 s3] .normal h2 [(27, (vP b4 0)), (3, (vP b4 0))] ?_
  refine wc_seq' (subc (bodyOf Tryz.prog 6) [1, 1, 0]) (subc (bodyOf Tryz.prog 6) [1, 1, 1]) (by kernel_rfl) ?_
  obtain ⟨b11, eb12⟩ : ∃ zq, zq = h2.size := ⟨_, rfl⟩
  obtain ⟨h13, e14⟩ : ∃ zq, zq = h2.push (.cells #[(vS .empty), (vI 0), (vI 0), (Value.slice none 0 0), (vI 0), (vI 0), (vB false), (vI 0), (vI 0), (vI 0), (vS .empty), (vI 0), (vI 0), (Value.slice none 0 0), (vI 0), (vI 0), (vB false), (vI 0), (vI 0), (vI 0), (vS .empty), (vI 0), (vI 0), (Value.slice none 0 0), (vI 0), (vI 0), (vB false), (vI 0), (vI 0), (vI 0), (vS .empty), (vI 0), (vI 0), (Value.slice none 0 0), (vI 0), (vI 0), (vB false), (vI 0), (vI 0), (vI 0), (vS .empty), (vI 0), (vI 0), (Value.slice none 0 0), (vI 0), (vI 0), (vB false), (vI 0), (vI 0), (vI 0), (vS .empty), (vI 0), (vI 0), (Value.slice none 0 0), (vI 0), (vI 0), (vB false), (vI 0), (vI 0), (vI 0), (vS .empty), (vI 0), (vI 0), (Value.slice none 0 0), (vI 0), (vI 0), (vB false), (vI 0), (vI 0), (vI 0), (vS .empty), (vI 0), (vI 0), (Value.slice none 0 0), (vI 0), (vI 0), (vB false), (vI 0), (vI 0), (vI 0), (vS .empty), (vI 0), (vI 0), (Value.slice none 0 0), (vI 0), (vI 0), (vB false), (vI 0), (vI 0), (vI 0)] 78 (0, 0)) := ⟨_, rfl⟩
  have f15 := push_new e14
  rw [← eb12] at f15
  have n16 : ∀ zz, O8733 zz → ¬ zz = b11 := fun zz hz ez => by have := p5.blk_lt hz; omega
  have x17 : Ext h2 h13 := by rw [e14]; exact Ext.push _ _
  have o18 : h.size ≤ b11 := by have := x8.size; omega
  have p19 := p5.keep fun b r _ q => x17 b r q
  have x20 := x8.trans x17
  refine wc_ev [evA 2 0 eb12 e14] .normal h13 [(4, (vP b11 0))] ?_
  refine wc_seq' (subc (bodyOf Tryz.prog 6) [1, 1, 1, 0]) (subc (bodyOf Tryz.prog 6) [1, 1, 1, 1]) (by kernel_rfl) ?_
  obtain ⟨b21, eb22⟩ : ∃ zq, zq = h13.size := ⟨_, rfl⟩
  obtain ⟨h23, e24⟩ : ∃ zq, zq = h13.push (.cells #[(vB false), (vB false), (vB false), (vB false), (vB false), (vB false), (vB false), (vB false), (vB false)] 79 (0, 0)) := ⟨_, rfl⟩
  have f25 := push_new e24
  rw [← eb22] at f25
  have n26 : ∀ zz, O8733 zz → ¬ zz = b21 := fun zz hz ez => by have := p19.blk_lt hz; omega
  have x27 : Ext h13 h23 := by rw [e24]; exact Ext.push _ _
  have o28 : h.size ≤ b21 := by have := x20.size; omega
  have f29 := x27 _ _ f15
  have p30 := p19.keep fun b r _ q => x27 b r q
  have x31 := x20.trans x27
  refine wc_ev [evA 3 0 eb22 e24] .normal h23 [(5, (vP b21 0))] ?_
  refine wc_seq' (subc (bodyOf Tryz.prog 6) [1, 1, 1, 1, 0]) (subc (bodyOf Tryz.prog 6) [1, 1, 1, 1, 1]) (by kernel_rfl) ?_
  refine wc_seq' (subc (bodyOf Tryz.prog 6) [1, 1, 1, 1, 0, 0]) (subc (bodyOf Tryz.prog 6) [1, 1, 1, 1, 0, 1]) (by kernel_rfl) ?_
  obtain ⟨mn32, e33⟩ : ∃ q : Int, q = if (100 : Int) < ((l.length : Nat)) then (100 : Int) else ((l.length : Nat)) := ⟨_, rfl⟩
  have u34 : mn32 ≤ 100 ∧ mn32 ≤ ((l.length : Nat)) ∧ 0 ≤ mn32 ∧ (((l.length : Nat)) ≤ 100 → mn32 = ((l.length : Nat))) ∧ (100 ≤ ((l.length : Nat)) → mn32 = 100) := by rw [e33]; split <;> omega
  obtain ⟨sb35, cq36, e37, p38, b39⟩ := slice_prefix deedc_size und77 size81 (by decide) (hl.slice deedc_size) (hl.pl) (kd := .i64) (n := ((mn32) : Int)) (by omega) (by omega)
  obtain ⟨zs40, e41⟩ : ∃ zq, zq = l.take (((mn32) : Int)).toNat := ⟨_, rfl⟩
  rw [← e41] at e37 p38 b39
  have lzs42 : (zs40.length : Int) = ((mn32) : Int) := by rw [e41, List.length_take]; omega
  have szs43 : ∀ x ∈ zs40, DOk x := fun x hx => hq x (List.mem_of_mem_take (by rw [← e41]; exact hx))
  refine wc_ev [evV 4 3 (vI mn32) (show (vI mn32) = (vI (if (100 : Int) < ((l.length : Nat)) then (100 : Int) else ((l.length : Nat)))) from by rw [e33]), evV 4 4 (vL sb35 zs40.length cq36) (show sliceA Tryz.prog h23 77 (vL sa l.length cp) none (some (vI mn32)) none = some (vL sb35 zs40.length cq36) from sliceA_mono (x := _) x31 e37)] .normal h23 [(28, (vL sa l.length cp)), (29, (vL sa l.length cp)), (30, (vI ((l.length : Nat)))), (31, (vI mn32)), (32, (vL sb35 zs40.length cq36)), (33, (vI ((zs40.length : Nat)))), (34, (vI 0))] ?_
  refine wc_block' 0 (subc (bodyOf Tryz.prog 6) [1, 1, 1, 1, 0, 1, 0]) (by kernel_rfl) ?_
  have p44 : ArrAt h23 sagc 78 (List.replicate 9 zA) b11 := by have q9 : (#[(vS .empty), (vI 0), (vI 0), (Value.slice none 0 0), (vI 0), (vI 0), (vB false), (vI 0), (vI 0), (vI 0), (vS .empty), (vI 0), (vI 0), (Value.slice none 0 0), (vI 0), (vI 0), (vB false), (vI 0), (vI 0), (vI 0), (vS .empty), (vI 0), (vI 0), (Value.slice none 0 0), (vI 0), (vI 0), (vB false), (vI 0), (vI 0), (vI 0), (vS .empty), (vI 0), (vI 0), (Value.slice none 0 0), (vI 0), (vI 0), (vB false), (vI 0), (vI 0), (vI 0), (vS .empty), (vI 0), (vI 0), (Value.slice none 0 0), (vI 0), (vI 0), (vB false), (vI 0), (vI 0), (vI 0), (vS .empty), (vI 0), (vI 0), (Value.slice none 0 0), (vI 0), (vI 0), (vB false), (vI 0), (vI 0), (vI 0), (vS .empty), (vI 0), (vI 0), (Value.slice none 0 0), (vI 0), (vI 0), (vB false), (vI 0), (vI 0), (vI 0), (vS .empty), (vI 0), (vI 0), (Value.slice none 0 0), (vI 0), (vI 0), (vB false), (vI 0), (vI 0), (vI 0), (vS .empty), (vI 0), (vI 0), (Value.slice none 0 0), (vI 0), (vI 0), (vB false), (vI 0), (vI 0), (vI 0)] : Array Value) = flat sagc (List.replicate 9 zA) := (by kernel_rfl); have q8 := f29; rw [q9] at q8; exact q8
  have p45 : ArrAt h23 boolc 79 (List.replicate 9 false) b21 := by have q9 : (#[(vB false), (vB false), (vB false), (vB false), (vB false), (vB false), (vB false), (vB false), (vB false)] : Array Value) = flat boolc (List.replicate 9 false) := (by kernel_rfl); have q8 := f25; rw [q9] at q8; exact q8
  have p46 : LsAt h23 (List.replicate 9 zA) := fun x hx => by rw [List.eq_of_mem_replicate hx]; exact .inl ⟨rfl, rfl⟩
  refine wc_loop' (subc (bodyOf Tryz.prog 6) [1, 1, 1, 1, 0, 1, 0, 0]) (by kernel_rfl) (fun n' a' h' => ∃ (ka : Int) (mm : Tab) (ss : List SagA) (bs : List Bool) (Ot : Nat → Prop) (g0 : Nat → Value), a' = { tmps := #[(vL sa l.length cp), vZ, (g0 2), (vP b4 0), (vP b11 0), (vP b21 0), vZ, (g0 7), (g0 8), (g0 9), (g0 10), (g0 11), (g0 12), (g0 13), (g0 14), (g0 15), (g0 16), (g0 17), (g0 18), vZ, vZ, vZ, vZ, vZ, vZ, vZ, vZ, (vP b4 0), (vL sa l.length cp), (vL sa l.length cp), (vI ((l.length : Nat))), (vI mn32), (vL sb35 zs40.length cq36), (vI ((zs40.length : Nat))), (vI ka), (g0 35), (g0 36), (g0 37), (g0 38), (g0 39), (g0 40), (g0 41), (g0 42), (g0 43), (g0 44), (g0 45), (g0 46), (g0 47), (g0 48), (g0 49), (g0 50), (g0 51), (g0 52), (g0 53), (g0 54), (g0 55), (g0 56), (g0 57), (g0 58), (g0 59), (g0 60), (g0 61), (g0 62), (g0 63), (g0 64), (g0 65), (g0 66), (g0 67), (g0 68), (g0 69), (g0 70), (g0 71), (g0 72), (g0 73), (g0 74), (g0 75), (g0 76), (g0 77), (g0 78), (g0 79), (g0 80), (g0 81), (g0 82), (g0 83), (g0 84), (g0 85), (g0 86), (g0 87), (g0 88), (g0 89), (g0 90), (g0 91), (g0 92), (g0 93), (g0 94), (g0 95), (g0 96), (g0 97), (g0 98), (g0 99), (g0 100), (g0 101), (g0 102), (g0 103), (g0 104), (g0 105), (g0 106), (g0 107), (g0 108), (g0 109), (g0 110), (g0 111), (g0 112), (g0 113), (g0 114), (g0 115), (g0 116), (g0 117), (g0 118), (g0 119), (g0 120), (g0 121), (g0 122), (g0 123), (g0 124), (g0 125), (g0 126), (g0 127), (g0 128), (g0 129), (g0 130), (g0 131), (g0 132), (g0 133), (g0 134), (g0 135), (g0 136), (g0 137), (g0 138), (g0 139), (g0 140), (g0 141), (g0 142), (g0 143), (g0 144), (g0 145), (g0 146), (g0 147), (g0 148), (g0 149), (g0 150), (g0 151), (g0 152), (g0 153), (g0 154), vZ, vZ, vZ, vZ, vZ, vZ, vZ, vZ, vZ, vZ, vZ, vZ, vZ, vZ, vZ, vZ, vZ, vZ, vZ, vZ, vZ, vZ, vZ, vZ, vZ, vZ, vZ, vZ, vZ, vZ, vZ, vZ, vZ, vZ, vZ, vZ, vZ, vZ, vZ, vZ, vZ, vZ, vZ, vZ, vZ, vZ, vZ, vZ, vZ, vZ, vZ, vZ, vZ, vZ, vZ, vZ, vZ, vZ, vZ, vZ, vZ, vZ, vZ, vZ, vZ, vZ, vZ, vZ, vZ, vZ, vZ, vZ, vZ, vZ, vZ, vZ, vZ, vZ, vZ, vZ, vZ, vZ, vZ, vZ, vZ, vZ, vZ, vZ], defers := [] } ∧ Ext h h' ∧ n' = zs40.length - ka.toNat ∧ (0 ≤ ka ∧ ka ≤ (zs40.length : Nat)) ∧ AloI mm ss bs ∧ (∀ zz, Ot zz → h.size ≤ zz) ∧ WfT mm ∧ (∀ zz, Ot zz → ¬ (fun q => q = b11) zz) ∧ (∀ zz, Ot zz → ¬ (fun q => q = b21) zz) ∧ (∀ zz, Ot zz → ¬ (lsF ss) zz) ∧ (∀ zz, (fun q => q = b11) zz → h.size ≤ zz) ∧ (∀ zz, (fun q => q = b21) zz → h.size ≤ zz) ∧ (∀ zz, (lsF ss) zz → h.size ≤ zz) ∧ TbAt 57 h' Ot b4 mm ∧ ArrAt h' sagc 78 ss b11 ∧ ArrAt h' boolc 79 bs b21 ∧ LsAt h' ss) ?_ (zs40.length - (0 : Int).toNat) ⟨0, [], (List.replicate 9 zA), (List.replicate 9 false), O8733, (fun i => ([vU, vU, (vB false), vU, vU, vU, vU, vZ, vZ, vZ, vZ, vZ, vZ, vZ, vZ, vZ, vZ, vZ, vZ, vU, vU, vU, vU, vU, vU, vU, vU, vU, vU, vU, vU, vU, vU, vU, vU, vZ, vZ, vZ, vZ, vZ, vZ, vZ, vZ, vZ, vZ, vZ, vZ, vZ, vZ, vZ, vZ, vZ, vZ, vZ, vZ, vZ, vZ, vZ, vZ, vZ, vZ, vZ, vZ, vZ, vZ, vZ, vZ, vZ, vZ, vZ, vZ, vZ, vZ, vZ, vZ, vZ, vZ, vZ, vZ, vZ, vZ, vZ, vZ, vZ, vZ, vZ, vZ, vZ, vZ, vZ, vZ, vZ, vZ, vZ, vZ, vZ, vZ, vZ, vZ, vZ, vZ, vZ, vZ, vZ, vZ, vZ, vZ, vZ, vZ, vZ, vZ, vZ, vZ, vZ, vZ, vZ, vZ, vZ, vZ, vZ, vZ, vZ, vZ, vZ, vZ, vZ, vZ, vZ, vZ, vZ, vZ, vZ, vZ, vZ, vZ, vZ, vZ, vZ, vZ, vZ, vZ, vZ, vZ, vZ, vZ, vZ, vZ, vZ, vZ, vZ, vZ, vZ, vZ, vZ, vZ] : List Value).getD i undef), by as_aux_lemma => kernel_rfl, x31, rfl, by omega, AloI.init, o10, WfT.nil, n16, n26, (fun zz hz hz2 => (fun zz hz _ => lsF_zero hz) zz hz2 hz), (fun zz (hz : zz = b11) => by have := o18; omega), (fun zz (hz : zz = b21) => by have := o28; omega), (fun zz hz => absurd hz lsF_zero), p30, p44, p45, p46⟩
  rintro n' _ h47 ⟨ka, mm, ss, bs, Ot, g0, rfl, x48, m49, i50, i51, i52, i53, i54, i55, i56, i57, i58, i59, p60, p61, p62, p63⟩
  by_cases c64 : ((ka) : Int) < ((zs40.length : Nat))
  · obtain ⟨i65, v66, e67, l68, g69⟩ := list_at zs40 (e := (ka)) (by omega) (by first | omega | (simp only [List.length_set, List.length_append, List.length_singleton]; omega))
    obtain ⟨b70, o71, k72, q73, a74⟩ := p38.at deedc_size g69
    have t75 := szs43 _ (List.mem_of_getElem? g69)
    have t75' := t75
    unfold DOk at t75'
    have rd76 := resD_rng t75
    obtain ⟨b77, eb78⟩ : ∃ zq, zq = h47.size := ⟨_, rfl⟩
    obtain ⟨h79, e80⟩ : ∃ zq, zq = h47.push (.cells #[(Value.int .u8 0), (Value.int .u8 0), (Value.int .u8 0), (Value.int .u8 0)] 81 (0, 0)) := ⟨_, rfl⟩
    have f81 := push_new e80
    rw [← eb78] at f81
    have n82 : ∀ zz, Ot zz → ¬ zz = b77 := fun zz hz ez => by have := p60.blk_lt hz; omega
    have n83 : ∀ zz, (fun q => q = b11) zz → ¬ zz = b77 := fun zz hz ez => by have := p61.blk_lt hz; omega
    have n84 : ∀ zz, (fun q => q = b21) zz → ¬ zz = b77 := fun zz hz ez => by have := p62.blk_lt hz; omega
    have n85 : ∀ zz, (lsF ss) zz → ¬ zz = b77 := fun zz hz ez => by have := p63.blk_lt hz; omega
    have x86 : Ext h47 h79 := by rw [e80]; exact Ext.push _ _
    have o87 : h.size ≤ b77 := by have := x48.size; omega
    have p88 := p60.keep fun b r _ q => x86 b r q
    have p89 := p61.keep fun b r _ q => x86 b r q
    have p90 := p62.keep fun b r _ q => x86 b r q
    have p91 := p63.keep fun b r _ q => x86 b r q
    have x92 := x48.trans x86
    obtain ⟨h93, e94⟩ : ∃ zq, zq = h79.setIfInBounds b77 (.cells #[(Value.int .u8 (v66.kd)), (Value.int .u8 (v66.id)), (Value.int .u8 (v66.rs)), (Value.int .u8 (v66.nw))] 81 (0, 0)) := ⟨_, rfl⟩
    have f95 := set_same e94 f81
    have p96 := p88.keep fun b r hb q => (Chg.set e94).same b r q (n82 b hb)
    have p97 := p89.keep fun b r hb q => (Chg.set e94).same b r q (n83 b hb)
    have p98 := p90.keep fun b r hb q => (Chg.set e94).same b r q (n84 b hb)
    have p99 := p91.keep fun b r hb q => (Chg.set e94).same b r q (n85 b hb)
    have x100 := Ext.setNew x92 e94 o87
    have t101 : 0 ≤ Int.tmod (v66.id) 8 ∧ Int.tmod (v66.id) 8 < 8 := ⟨Int.tmod_nonneg _ (by omega), Int.tmod_lt_of_pos _ (by omega)⟩
    have l102' : ss.length = 9 := i51.ls
    have l103' : bs.length = 9 := i51.lb
    obtain ⟨i104, v105, e106, l102, g107⟩ := list_at ss (e := (1 + (Int.tmod (v66.id) 8))) (by omega) (by omega)
    obtain ⟨v108, g109⟩ : ∃ b, bs[i104]? = some b := ⟨_, List.getElem?_eq_getElem (by omega)⟩
    obtain ⟨o110, k111, a112, u113⟩ := ArrAt.at (P := Tryz.prog) boolc_size p98 undarr79 size4 i51.lb g109
    rcases Bool.eq_false_or_eq_true (v108) with c114 | c114
    · have t115 : 0 ≤ Int.tmod (v66.kd) 8 ∧ Int.tmod (v66.kd) 8 < 8 := ⟨Int.tmod_nonneg _ (by omega), Int.tmod_lt_of_pos _ (by omega)⟩
      by_cases c116 : ((Int.tmod (v66.kd) 8) : Int) = 0
      · obtain ⟨o117, k118, a119, u120⟩ := ArrAt.at (P := Tryz.prog) sagc_size p97 undarr78 size38 i51.ls g107
        have f121 : findK mm (1 + (Int.tmod (v66.id) 8)) = some v105.1 := by rw [e106]; exact i51.all i104 v105 true g107 (by rw [g109, c114])
        have c122 := ((i53).at f121).1
        have t123 := i51.small v105 (List.mem_of_getElem? g107)
        obtain ⟨v124, h125, s126, p127, p128, x129⟩ := cancel_ok h93 v105.1 _ _ (p99.at g107) (by omega)
        have p130 := p96.keep fun b r _ q => x129 b r q
        have p131 := p97.keep fun b r _ q => x129 b r q
        have p132 := p98.keep fun b r _ q => x129 b r q
        have p133 := p99.keep fun b r _ q => x129 b r q
        have x134 := x100.trans x129
        by_cases c135 : ((canE v105.1) : Int) = 0
        · obtain ⟨w136, c137, p138, o139, n140⟩ := p128 c135
          obtain ⟨s141, e142⟩ : ∃ q, q = canS v105.1 := ⟨_, rfl⟩
          have e143 : s141.d = v105.1.d := by rw [e142]; rfl
          have e144 : s141.d.xs.length = (v105.1.d).xs.length := by rw [e143]
          rw [← e142, ← e143] at p138
          rw [← e143] at o139 n140
          have c145 : chkS s141 = 0 := by rw [e142]; exact can_ok c135
          have z146 : h.size ≤ h93.size := x100.size
          have n147 : ∀ zz, blk (Value.slice w136 (s141.d.xs.length) (c137)) zz → ¬ Ot zz := fun zz hz ez => by have := n140 zz hz; have := p96.blk_lt ez; omega
          have n148 : ∀ zz, blk (Value.slice w136 (s141.d.xs.length) (c137)) zz → ¬ (fun q => q = b11) zz := fun zz hz ez => by have := n140 zz hz; have := p97.blk_lt ez; omega
          have o149 : ∀ zz, blk (Value.slice w136 (s141.d.xs.length) (c137)) zz → h.size ≤ zz := fun zz hz => by have := n140 zz hz; omega
          obtain ⟨b150, eb151⟩ : ∃ zq, zq = h125.size := ⟨_, rfl⟩
          obtain ⟨h152, e153⟩ : ∃ zq, zq = h125.push (.cells #[(vS .empty), (vI 0), (vI 0), (Value.slice none 0 0), (vI 0), (vI 0), (vB false), (vI 0), (vI 0), (vI 0)] 38 (0, 0)) := ⟨_, rfl⟩
          have f154 := push_new e153
          rw [← eb151] at f154
          have n155 : ∀ zz, Ot zz → ¬ zz = b150 := fun zz hz ez => by have := p130.blk_lt hz; omega
          have n156 : ∀ zz, (fun q => q = b11) zz → ¬ zz = b150 := fun zz hz ez => by have := p131.blk_lt hz; omega
          have n157 : ∀ zz, (fun q => q = b21) zz → ¬ zz = b150 := fun zz hz ez => by have := p132.blk_lt hz; omega
          have n158 : ∀ zz, (lsF ss) zz → ¬ zz = b150 := fun zz hz ez => by have := p133.blk_lt hz; omega
          have n159 : ∀ zz, (blk (Value.slice w136 (s141.d.xs.length) (c137))) zz → ¬ zz = b150 := fun zz hz ez => by have := o139.blk_lt hz; omega
          have x160 : Ext h125 h152 := by rw [e153]; exact Ext.push _ _
          have o161 : h.size ≤ b150 := by have := x134.size; omega
          have p162 := p130.keep fun b r _ q => x160 b r q
          have p163 := p131.keep fun b r _ q => x160 b r q
          have p164 := p132.keep fun b r _ q => x160 b r q
          have p165 := p133.keep fun b r _ q => x160 b r q
          have p166 := o139.keep fun b r _ q => x160 b r q
          have x167 := x134.trans x160
          obtain ⟨h168, e169⟩ : ∃ zq, zq = h152.setIfInBounds b150 (.cells #[(vS s141.d.name), (vI (s141.d.rt)), (vI (s141.d.dl)), (Value.slice w136 (s141.d.xs.length) (c137)), (vI (s141.st)), (vI (s141.ix)), (vB s141.cn), (vI (s141.tr)), (vI (s141.bg)), (vI (s141.er))] 38 (0, 0)) := ⟨_, rfl⟩
          have f170 := set_same e169 f154
          have p171 := p162.keep fun b r hb q => (Chg.set e169).same b r q (n155 b hb)
          have p172 := p163.keep fun b r hb q => (Chg.set e169).same b r q (n156 b hb)
          have p173 := p164.keep fun b r hb q => (Chg.set e169).same b r q (n157 b hb)
          have p174 := p165.keep fun b r hb q => (Chg.set e169).same b r q (n158 b hb)
          have p175 := p166.keep fun b r hb q => (Chg.set e169).same b r q (n159 b hb)
          have x176 := Ext.setNew x167 e169 o161
          obtain ⟨_, h177, s178, rfl, x179, O8955, p180, o181⟩ := tcancel_ok h168 p171 i53 (1 + (Int.tmod (v66.id) 8))
          have k182 := WfT.can i53 (1 + (Int.tmod (v66.id) 8))
          have q183 := can_at f121
          have e184 : canTE mm (1 + (Int.tmod (v66.id) 8)) = 0 := by rw [q183.1]; exact c135
          rw [e184] at s178
          have e185 : (canTM mm (1 + (Int.tmod (v66.id) 8))) = (setK mm (1 + (Int.tmod (v66.id) 8)) s141) := by rw [q183.2.1 c135, ← e142]
          rw [e185] at p180 k182
          have z186 : h.size ≤ h168.size := x176.size
          have x187 : Ext h _ := (Chg.then (O := fun _ => False) (Chg.ext x176) x179 (fun b hb => .inr (i52 b hb))).toExt'
          have f188 := x179.same _ _ f170 (fun hb => n155 _ hb rfl)
          have p189 := p172.keep fun b r hb q => x179.same b r q ((fun b hb hb2 => i54 b hb2 hb) b hb)
          have p190 := p173.keep fun b r hb q => x179.same b r q ((fun b hb hb2 => i55 b hb2 hb) b hb)
          have p191 := p174.keep fun b r hb q => x179.same b r q ((fun b hb hb2 => i56 b hb2 hb) b hb)
          have p192 := p175.keep fun b r hb q => x179.same b r q (n147 b hb)
          have z193 : h.size ≤ h168.size := x176.size
          have n194 : ∀ zz, O8955 zz → ¬ (fun q => q = b11) zz := fun zz hz ez => by rcases o181 zz hz with g | g; (exact i54 _ g ez); have := p172.blk_lt ez; omega
          have n195 : ∀ zz, O8955 zz → ¬ (fun q => q = b21) zz := fun zz hz ez => by rcases o181 zz hz with g | g; (exact i55 _ g ez); have := p173.blk_lt ez; omega
          have n196 : ∀ zz, O8955 zz → ¬ (lsF ss) zz := fun zz hz ez => by rcases o181 zz hz with g | g; (exact i56 _ g ez); have := p174.blk_lt ez; omega
          have n197 : ∀ zz, O8955 zz → ¬ (blk (Value.slice w136 (s141.d.xs.length) (c137))) zz := fun zz hz ez => by rcases o181 zz hz with g | g; (exact n147 _ ez g); have := p175.blk_lt ez; omega
          have o198 : ∀ zz, O8955 zz → h.size ≤ zz := fun zz hz => by rcases o181 zz hz with g | g; (exact i52 zz g); omega
          obtain ⟨o199, k200, a201, u202⟩ := ArrAt.at (P := Tryz.prog) sagc_size p189 undarr78 size38 i51.ls g107
          obtain ⟨h203, e204, p205, c206, z207⟩ := u202 (j := 0) (y := (s141, w136, c137)) (u := (Value.agg #[(vS s141.d.name), (vI (s141.d.rt)), (vI (s141.d.dl)), (Value.slice w136 (s141.d.xs.length) (c137)), (vI (s141.st)), (vI (s141.ix)), (vB s141.cn), (vI (s141.tr)), (vI (s141.bg)), (vI (s141.er))])) size38 rfl rfl (by decide) (by kernel_rfl)
          have c208 : Chg (fun q => q = b11) h177 h203 := c206.weak fun q hq => by subst hq; exact rfl
          have z209 : h.size ≤ h177.size := x187.size
          have x210 : Ext h _ := (Chg.then (O := fun _ => False) (Chg.ext x187) c208 (fun b hb => .inr (i57 b hb))).toExt'
          have p211 := p180.keep fun b r hb q => c208.same b r q (n194 b hb)
          have p212 := p190.keep fun b r hb q => c208.same b r q ((fun z (hz : z = b21) (hw : z = b11) => row_ne p190 p189 (by decide) (hz.symm.trans hw)) b hb)
          have p213 := p191.keep fun b r hb q => c208.same b r q ((p191.ne p189 (by decide)) b hb)
          have p214 := p192.keep fun b r hb q => c208.same b r q (n148 b hb)
          obtain ⟨p215, f216⟩ := LsAt.set p213 (y := (s141, w136, c137)) p214 i104
          have n217 : ∀ zz, lsF (ss.set i104 (s141, w136, c137)) zz → h.size ≤ zz := fun zz hz => (f216 zz hz).elim (i59 zz) (o149 zz)
          have n218 : ∀ zz, lsF (ss.set i104 (s141, w136, c137)) zz → ¬ O8955 zz := fun zz hz => (f216 zz hz).elim ((fun zz hz hz2 => n196 zz hz2 hz) zz) ((fun zz hz hz2 => n197 zz hz2 hz) zz)
          refine wc_ev [ltT 5 0 3 c64, evV 6 0 (vP b70 o71) (show indexAddrA Tryz.prog 77 (vL sb35 zs40.length cq36) (vI ka) = some (vP b70 o71) from a74 und77 size81 e67), evV 6 1 (vA #[(Value.int .u8 (v66.kd)), (Value.int .u8 (v66.id)), (Value.int .u8 (v66.rs)), (Value.int .u8 (v66.nw))]) (show loadT Tryz.prog h47 81 (vP b70 o71) = some (vA #[(Value.int .u8 (v66.kd)), (Value.int .u8 (v66.id)), (Value.int .u8 (v66.rs)), (Value.int .u8 (v66.nw))]) from (k72.keep fun b r _ q => x48 b r q).agg (j := 0) agg81 size81 (show 0 + 4 ≤ 4 by decide) (by kernel_rfl)), evA 6 2 eb78 e80, evUw 6 3 size81 f81 e94, evC 7 1 1 agg5 f95, evV 7 2 (Value.int .u8 (Int.tmod (v66.id) 8)) (show binA Tryz.prog .rem 5 (Value.int .u8 (v66.id)) (Value.int .u8 8) = some (Value.int .u8 (Int.tmod (v66.id) 8)) from rem_int (by omega)), evV 7 3 (vI (Int.tmod (v66.id) 8)) (show (vI (Int.tmod (v66.id) 8)) = (vI (IntKind.i64.wrap (Int.tmod (v66.id) 8))) from by congr 1; rw [IntKind.wrap_i64]; omega), evV 7 4 (vI (1 + (Int.tmod (v66.id) 8))) (show binA Tryz.prog .add 3 (vI 1) (vI (Int.tmod (v66.id) 8)) = some (vI (1 + (Int.tmod (v66.id) 8))) from add_i64 (by omega) (by omega)), evV 20 1 (vP b21 o110) (show indexAddrA Tryz.prog 79 (vP b21 0) (vI (1 + (Int.tmod (v66.id) 8))) = some (vP b21 o110) from a112 e106), evV 20 2 (vB true) (show loadT Tryz.prog h93 4 (vP b21 o110) = some (vB true) from (by rw [← c114]; exact k111.cell (j := 0) agg4 rfl)), evC 25 1 0 agg5 f95, evV 25 2 (Value.int .u8 (Int.tmod (v66.kd) 8)) (show binA Tryz.prog .rem 5 (Value.int .u8 (v66.kd)) (Value.int .u8 8) = some (Value.int .u8 (Int.tmod (v66.kd) 8)) from rem_int (by omega)), evV 25 3 (vB true) (show binA Tryz.prog .eql 5 (Value.int .u8 (Int.tmod (v66.kd) 8)) (Value.int .u8 0) = some (vB true) from cmp_eql (decide_eq_true c116)), evV 26 1 (vP b11 o117) (show indexAddrA Tryz.prog 78 (vP b11 0) (vI (1 + (Int.tmod (v66.id) 8))) = some (vP b11 o117) from a119 e106), evV 26 2 (vA #[(vS v105.1.d.name), (vI v105.1.d.rt), (vI v105.1.d.dl), (vL v105.2.1 v105.1.d.xs.length v105.2.2), (vI v105.1.st), (vI v105.1.ix), (vB v105.1.cn), (vI v105.1.tr), (vI v105.1.bg), (vI v105.1.er)]) (show loadT Tryz.prog h93 38 (vP b11 o117) = some (vA #[(vS v105.1.d.name), (vI v105.1.d.rt), (vI v105.1.d.dl), (vL v105.2.1 v105.1.d.xs.length v105.2.2), (vI v105.1.st), (vI v105.1.ix), (vB v105.1.cn), (vI v105.1.tr), (vI v105.1.bg), (vI v105.1.er)]) from k118.agg (j := 0) agg38 size38 (show 0 + 10 ≤ 10 by decide) (by kernel_rfl)), evFe 26 3 p138 s126, evA 26 7 eb151 e153, evUw 26 8 size38 f154 e169, evF 27 2 s178, evLw 30 1 agg38 size38 f188, evV 30 2 (vP b11 o199) (show indexAddrA Tryz.prog 78 (vP b11 0) (vI (1 + (Int.tmod (v66.id) 8))) = some (vP b11 o199) from a201 e106), evH 30 3 undef h203 (show (storeT Tryz.prog h177 38 (vP b11 o199) (vA #[(vS s141.d.name), (vI s141.d.rt), (vI s141.d.dl), (vL w136 s141.d.xs.length c137), (vI s141.st), (vI s141.ix), (vB s141.cn), (vI s141.tr), (vI s141.bg), (vI s141.er)]) = some h203 ∧ (undef : Value) = undef) from ⟨e204, rfl⟩), evV 31 0 (vI ((ka) + 1)) (show binA Tryz.prog .add 3 (vI ka) (vI 1) = some (vI ((ka) + 1)) from add_i64 (by omega) (by omega))] .normal h203 [(35, (vB true)), (36, (vP b70 o71)), (37, (vA #[(Value.int .u8 (v66.kd)), (Value.int .u8 (v66.id)), (Value.int .u8 (v66.rs)), (Value.int .u8 (v66.nw))])), (7, (vP b77 0)), (38, (vP b77 1)), (39, (Value.int .u8 (v66.id))), (40, (Value.int .u8 (Int.tmod (v66.id) 8))), (41, (vI (Int.tmod (v66.id) 8))), (42, (vI (1 + (Int.tmod (v66.id) 8)))), (8, (vI (1 + (Int.tmod (v66.id) 8)))), (99, (vI (1 + (Int.tmod (v66.id) 8)))), (100, (vP b21 o110)), (101, (vB true)), (102, (vB false)), (98, (vB false)), (133, (vP b77 0)), (134, (Value.int .u8 (v66.kd))), (135, (Value.int .u8 (Int.tmod (v66.kd) 8))), (136, (vB true)), (132, (vB true)), (138, (vI (1 + (Int.tmod (v66.id) 8)))), (139, (vP b11 o117)), (140, (vA #[(vS v105.1.d.name), (vI v105.1.d.rt), (vI v105.1.d.dl), (vL v105.2.1 v105.1.d.xs.length v105.2.2), (vI v105.1.st), (vI v105.1.ix), (vB v105.1.cn), (vI v105.1.tr), (vI v105.1.bg), (vI v105.1.er)])), (141, (vT #[(vA #[(vS s141.d.name), (vI s141.d.rt), (vI s141.d.dl), (vL w136 s141.d.xs.length c137), (vI s141.st), (vI s141.ix), (vB s141.cn), (vI s141.tr), (vI s141.bg), (vI s141.er)]), (vI 0)])), (137, (vT #[(vA #[(vS s141.d.name), (vI s141.d.rt), (vI s141.d.dl), (vL w136 s141.d.xs.length c137), (vI s141.st), (vI s141.ix), (vB s141.cn), (vI s141.tr), (vI s141.bg), (vI s141.er)]), (vI 0)])), (142, (vA #[(vS s141.d.name), (vI s141.d.rt), (vI s141.d.dl), (vL w136 s141.d.xs.length c137), (vI s141.st), (vI s141.ix), (vB s141.cn), (vI s141.tr), (vI s141.bg), (vI s141.er)])), (143, (vI 0)), (11, (vP b150 0)), (12, (vI 0)), (144, (vP b4 0)), (145, (vI (1 + (Int.tmod (v66.id) 8)))), (146, (vI 0)), (147, (vI 0)), (148, (vB false)), (149, (vI 0)), (150, (vB true)), (151, (vI (1 + (Int.tmod (v66.id) 8)))), (152, (vA #[(vS s141.d.name), (vI s141.d.rt), (vI s141.d.dl), (vL w136 s141.d.xs.length c137), (vI s141.st), (vI s141.ix), (vB s141.cn), (vI s141.tr), (vI s141.bg), (vI s141.er)])), (153, (vP b11 o199)), (154, (vI ((ka) + 1))), (34, (vI ((ka) + 1)))] ?_
          exact ⟨zs40.length - (ka + 1).toNat, by omega, ⟨ka + 1, (setK mm (1 + (Int.tmod (v66.id) 8)) s141), (ss.set i104 (s141, w136, c137)), bs, O8955, (fun i => ([vU, vU, (g0 2), vU, vU, vU, vU, (vP b77 0), (vI (1 + (Int.tmod (v66.id) 8))), (g0 9), (g0 10), (vP b150 0), (vI 0), (g0 13), (g0 14), (g0 15), (g0 16), (g0 17), (g0 18), vU, vU, vU, vU, vU, vU, vU, vU, vU, vU, vU, vU, vU, vU, vU, vU, (vB true), (vP b70 o71), (vA #[(Value.int .u8 (v66.kd)), (Value.int .u8 (v66.id)), (Value.int .u8 (v66.rs)), (Value.int .u8 (v66.nw))]), (vP b77 1), (Value.int .u8 (v66.id)), (Value.int .u8 (Int.tmod (v66.id) 8)), (vI (Int.tmod (v66.id) 8)), (vI (1 + (Int.tmod (v66.id) 8))), (g0 43), (g0 44), (g0 45), (g0 46), (g0 47), (g0 48), (g0 49), (g0 50), (g0 51), (g0 52), (g0 53), (g0 54), (g0 55), (g0 56), (g0 57), (g0 58), (g0 59), (g0 60), (g0 61), (g0 62), (g0 63), (g0 64), (g0 65), (g0 66), (g0 67), (g0 68), (g0 69), (g0 70), (g0 71), (g0 72), (g0 73), (g0 74), (g0 75), (g0 76), (g0 77), (g0 78), (g0 79), (g0 80), (g0 81), (g0 82), (g0 83), (g0 84), (g0 85), (g0 86), (g0 87), (g0 88), (g0 89), (g0 90), (g0 91), (g0 92), (g0 93), (g0 94), (g0 95), (g0 96), (g0 97), (vB false), (vI (1 + (Int.tmod (v66.id) 8))), (vP b21 o110), (vB true), (vB false), (g0 103), (g0 104), (g0 105), (g0 106), (g0 107), (g0 108), (g0 109), (g0 110), (g0 111), (g0 112), (g0 113), (g0 114), (g0 115), (g0 116), (g0 117), (g0 118), (g0 119), (g0 120), (g0 121), (g0 122), (g0 123), (g0 124), (g0 125), (g0 126), (g0 127), (g0 128), (g0 129), (g0 130), (g0 131), (vB true), (vP b77 0), (Value.int .u8 (v66.kd)), (Value.int .u8 (Int.tmod (v66.kd) 8)), (vB true), (vT #[(vA #[(vS s141.d.name), (vI s141.d.rt), (vI s141.d.dl), (vL w136 s141.d.xs.length c137), (vI s141.st), (vI s141.ix), (vB s141.cn), (vI s141.tr), (vI s141.bg), (vI s141.er)]), (vI 0)]), (vI (1 + (Int.tmod (v66.id) 8))), (vP b11 o117), (vA #[(vS v105.1.d.name), (vI v105.1.d.rt), (vI v105.1.d.dl), (vL v105.2.1 v105.1.d.xs.length v105.2.2), (vI v105.1.st), (vI v105.1.ix), (vB v105.1.cn), (vI v105.1.tr), (vI v105.1.bg), (vI v105.1.er)]), (vT #[(vA #[(vS s141.d.name), (vI s141.d.rt), (vI s141.d.dl), (vL w136 s141.d.xs.length c137), (vI s141.st), (vI s141.ix), (vB s141.cn), (vI s141.tr), (vI s141.bg), (vI s141.er)]), (vI 0)]), (vA #[(vS s141.d.name), (vI s141.d.rt), (vI s141.d.dl), (vL w136 s141.d.xs.length c137), (vI s141.st), (vI s141.ix), (vB s141.cn), (vI s141.tr), (vI s141.bg), (vI s141.er)]), (vI 0), (vP b4 0), (vI (1 + (Int.tmod (v66.id) 8))), (vI 0), (vI 0), (vB false), (vI 0), (vB true), (vI (1 + (Int.tmod (v66.id) 8))), (vA #[(vS s141.d.name), (vI s141.d.rt), (vI s141.d.dl), (vL w136 s141.d.xs.length c137), (vI s141.st), (vI s141.ix), (vB s141.cn), (vI s141.tr), (vI s141.bg), (vI s141.er)]), (vP b11 o199), (vI ((ka) + 1))] : List Value).getD i undef), by as_aux_lemma => kernel_rfl, x210, rfl, by omega, (AloI.put i51 (y := (s141, w136, c137)) e106 g107 (by rw [g109, c114]) (show s141.d.xs.length ≤ 8 by have := (defB_of (chkS_zero c145).1); omega)), o198, k182, n194, n195, (fun zz hz hz2 => n218 zz hz2 hz), i57, i58, n217, p211, p205, p212, p215⟩⟩
        · obtain ⟨b219, eb220⟩ : ∃ zq, zq = h125.size := ⟨_, rfl⟩
          obtain ⟨h221, e222⟩ : ∃ zq, zq = h125.push (.cells #[(vS .empty), (vI 0), (vI 0), (Value.slice none 0 0), (vI 0), (vI 0), (vB false), (vI 0), (vI 0), (vI 0)] 38 (0, 0)) := ⟨_, rfl⟩
          have f223 := push_new e222
          rw [← eb220] at f223
          have n224 : ∀ zz, Ot zz → ¬ zz = b219 := fun zz hz ez => by have := p130.blk_lt hz; omega
          have n225 : ∀ zz, (fun q => q = b11) zz → ¬ zz = b219 := fun zz hz ez => by have := p131.blk_lt hz; omega
          have n226 : ∀ zz, (fun q => q = b21) zz → ¬ zz = b219 := fun zz hz ez => by have := p132.blk_lt hz; omega
          have n227 : ∀ zz, (lsF ss) zz → ¬ zz = b219 := fun zz hz ez => by have := p133.blk_lt hz; omega
          have x228 : Ext h125 h221 := by rw [e222]; exact Ext.push _ _
          have o229 : h.size ≤ b219 := by have := x134.size; omega
          have p230 := p130.keep fun b r _ q => x228 b r q
          have p231 := p131.keep fun b r _ q => x228 b r q
          have p232 := p132.keep fun b r _ q => x228 b r q
          have p233 := p133.keep fun b r _ q => x228 b r q
          have x234 := x134.trans x228
          obtain ⟨h235, e236⟩ : ∃ zq, zq = h221.setIfInBounds b219 (.cells #[(vS .empty), (vI 0), (vI 0), (Value.slice none 0 0), (vI 0), (vI 0), (vB false), (vI 0), (vI 0), (vI 0)] 38 (0, 0)) := ⟨_, rfl⟩
          have p237 := p230.keep fun b r hb q => (Chg.set e236).same b r q (n224 b hb)
          have p238 := p231.keep fun b r hb q => (Chg.set e236).same b r q (n225 b hb)
          have p239 := p232.keep fun b r hb q => (Chg.set e236).same b r q (n226 b hb)
          have p240 := p233.keep fun b r hb q => (Chg.set e236).same b r q (n227 b hb)
          have x241 := Ext.setNew x234 e236 o229
          obtain ⟨_, h242, s243, rfl, x244, O9044, p245, o246⟩ := tcancel_ok h235 p237 i53 (1 + (Int.tmod (v66.id) 8))
          have k247 := WfT.can i53 (1 + (Int.tmod (v66.id) 8))
          have q248 := can_at f121
          have e249 : canTE mm (1 + (Int.tmod (v66.id) 8)) = (canE v105.1) := q248.1
          rw [e249] at s243
          have e250 : (canTM mm (1 + (Int.tmod (v66.id) 8))) = mm := q248.2.2 c135
          rw [e250] at p245 k247
          have z251 : h.size ≤ h235.size := x241.size
          have x252 : Ext h _ := (Chg.then (O := fun _ => False) (Chg.ext x241) x244 (fun b hb => .inr (i52 b hb))).toExt'
          have p253 := p238.keep fun b r hb q => x244.same b r q ((fun b hb hb2 => i54 b hb2 hb) b hb)
          have p254 := p239.keep fun b r hb q => x244.same b r q ((fun b hb hb2 => i55 b hb2 hb) b hb)
          have p255 := p240.keep fun b r hb q => x244.same b r q ((fun b hb hb2 => i56 b hb2 hb) b hb)
          have z256 : h.size ≤ h235.size := x241.size
          have n257 : ∀ zz, O9044 zz → ¬ (fun q => q = b11) zz := fun zz hz ez => by rcases o246 zz hz with g | g; (exact i54 _ g ez); have := p238.blk_lt ez; omega
          have n258 : ∀ zz, O9044 zz → ¬ (fun q => q = b21) zz := fun zz hz ez => by rcases o246 zz hz with g | g; (exact i55 _ g ez); have := p239.blk_lt ez; omega
          have n259 : ∀ zz, O9044 zz → ¬ (lsF ss) zz := fun zz hz ez => by rcases o246 zz hz with g | g; (exact i56 _ g ez); have := p240.blk_lt ez; omega
          have o260 : ∀ zz, O9044 zz → h.size ≤ zz := fun zz hz => by rcases o246 zz hz with g | g; (exact i52 zz g); omega
          refine wc_ev [ltT 5 0 3 c64, evV 6 0 (vP b70 o71) (show indexAddrA Tryz.prog 77 (vL sb35 zs40.length cq36) (vI ka) = some (vP b70 o71) from a74 und77 size81 e67), evV 6 1 (vA #[(Value.int .u8 (v66.kd)), (Value.int .u8 (v66.id)), (Value.int .u8 (v66.rs)), (Value.int .u8 (v66.nw))]) (show loadT Tryz.prog h47 81 (vP b70 o71) = some (vA #[(Value.int .u8 (v66.kd)), (Value.int .u8 (v66.id)), (Value.int .u8 (v66.rs)), (Value.int .u8 (v66.nw))]) from (k72.keep fun b r _ q => x48 b r q).agg (j := 0) agg81 size81 (show 0 + 4 ≤ 4 by decide) (by kernel_rfl)), evA 6 2 eb78 e80, evUw 6 3 size81 f81 e94, evC 7 1 1 agg5 f95, evV 7 2 (Value.int .u8 (Int.tmod (v66.id) 8)) (show binA Tryz.prog .rem 5 (Value.int .u8 (v66.id)) (Value.int .u8 8) = some (Value.int .u8 (Int.tmod (v66.id) 8)) from rem_int (by omega)), evV 7 3 (vI (Int.tmod (v66.id) 8)) (show (vI (Int.tmod (v66.id) 8)) = (vI (IntKind.i64.wrap (Int.tmod (v66.id) 8))) from by congr 1; rw [IntKind.wrap_i64]; omega), evV 7 4 (vI (1 + (Int.tmod (v66.id) 8))) (show binA Tryz.prog .add 3 (vI 1) (vI (Int.tmod (v66.id) 8)) = some (vI (1 + (Int.tmod (v66.id) 8))) from add_i64 (by omega) (by omega)), evV 20 1 (vP b21 o110) (show indexAddrA Tryz.prog 79 (vP b21 0) (vI (1 + (Int.tmod (v66.id) 8))) = some (vP b21 o110) from a112 e106), evV 20 2 (vB true) (show loadT Tryz.prog h93 4 (vP b21 o110) = some (vB true) from (by rw [← c114]; exact k111.cell (j := 0) agg4 rfl)), evC 25 1 0 agg5 f95, evV 25 2 (Value.int .u8 (Int.tmod (v66.kd) 8)) (show binA Tryz.prog .rem 5 (Value.int .u8 (v66.kd)) (Value.int .u8 8) = some (Value.int .u8 (Int.tmod (v66.kd) 8)) from rem_int (by omega)), evV 25 3 (vB true) (show binA Tryz.prog .eql 5 (Value.int .u8 (Int.tmod (v66.kd) 8)) (Value.int .u8 0) = some (vB true) from cmp_eql (decide_eq_true c116)), evV 26 1 (vP b11 o117) (show indexAddrA Tryz.prog 78 (vP b11 0) (vI (1 + (Int.tmod (v66.id) 8))) = some (vP b11 o117) from a119 e106), evV 26 2 (vA #[(vS v105.1.d.name), (vI v105.1.d.rt), (vI v105.1.d.dl), (vL v105.2.1 v105.1.d.xs.length v105.2.2), (vI v105.1.st), (vI v105.1.ix), (vB v105.1.cn), (vI v105.1.tr), (vI v105.1.bg), (vI v105.1.er)]) (show loadT Tryz.prog h93 38 (vP b11 o117) = some (vA #[(vS v105.1.d.name), (vI v105.1.d.rt), (vI v105.1.d.dl), (vL v105.2.1 v105.1.d.xs.length v105.2.2), (vI v105.1.st), (vI v105.1.ix), (vB v105.1.cn), (vI v105.1.tr), (vI v105.1.bg), (vI v105.1.er)]) from k118.agg (j := 0) agg38 size38 (show 0 + 10 ≤ 10 by decide) (by kernel_rfl)), evFe 26 3 (p127 c135) s126, evA 26 7 eb220 e222, evUw 26 8 size38 f223 e236, evF 27 2 s243, neF 27 4 34 (Eq.refl ((canE v105.1) : Int)), eqF 29 1 34 c135, evV 31 0 (vI ((ka) + 1)) (show binA Tryz.prog .add 3 (vI ka) (vI 1) = some (vI ((ka) + 1)) from add_i64 (by omega) (by omega))] .normal h242 [(35, (vB true)), (36, (vP b70 o71)), (37, (vA #[(Value.int .u8 (v66.kd)), (Value.int .u8 (v66.id)), (Value.int .u8 (v66.rs)), (Value.int .u8 (v66.nw))])), (7, (vP b77 0)), (38, (vP b77 1)), (39, (Value.int .u8 (v66.id))), (40, (Value.int .u8 (Int.tmod (v66.id) 8))), (41, (vI (Int.tmod (v66.id) 8))), (42, (vI (1 + (Int.tmod (v66.id) 8)))), (8, (vI (1 + (Int.tmod (v66.id) 8)))), (99, (vI (1 + (Int.tmod (v66.id) 8)))), (100, (vP b21 o110)), (101, (vB true)), (102, (vB false)), (98, (vB false)), (133, (vP b77 0)), (134, (Value.int .u8 (v66.kd))), (135, (Value.int .u8 (Int.tmod (v66.kd) 8))), (136, (vB true)), (132, (vB true)), (138, (vI (1 + (Int.tmod (v66.id) 8)))), (139, (vP b11 o117)), (140, (vA #[(vS v105.1.d.name), (vI v105.1.d.rt), (vI v105.1.d.dl), (vL v105.2.1 v105.1.d.xs.length v105.2.2), (vI v105.1.st), (vI v105.1.ix), (vB v105.1.cn), (vI v105.1.tr), (vI v105.1.bg), (vI v105.1.er)])), (141, (vT #[(vA #[(vS .empty), (vI 0), (vI 0), (vL none 0 0), (vI 0), (vI 0), (vB false), (vI 0), (vI 0), (vI 0)]), (vI (canE v105.1))])), (137, (vT #[(vA #[(vS .empty), (vI 0), (vI 0), (vL none 0 0), (vI 0), (vI 0), (vB false), (vI 0), (vI 0), (vI 0)]), (vI (canE v105.1))])), (142, (vA #[(vS .empty), (vI 0), (vI 0), (vL none 0 0), (vI 0), (vI 0), (vB false), (vI 0), (vI 0), (vI 0)])), (143, (vI (canE v105.1))), (11, (vP b219 0)), (12, (vI (canE v105.1))), (144, (vP b4 0)), (145, (vI (1 + (Int.tmod (v66.id) 8)))), (146, (vI (canE v105.1))), (147, (vI (canE v105.1))), (148, (vB false)), (149, (vI (canE v105.1))), (150, (vB false)), (154, (vI ((ka) + 1))), (34, (vI ((ka) + 1)))] ?_
          exact ⟨zs40.length - (ka + 1).toNat, by omega, ⟨ka + 1, mm, ss, bs, O9044, (fun i => ([vU, vU, (g0 2), vU, vU, vU, vU, (vP b77 0), (vI (1 + (Int.tmod (v66.id) 8))), (g0 9), (g0 10), (vP b219 0), (vI (canE v105.1)), (g0 13), (g0 14), (g0 15), (g0 16), (g0 17), (g0 18), vU, vU, vU, vU, vU, vU, vU, vU, vU, vU, vU, vU, vU, vU, vU, vU, (vB true), (vP b70 o71), (vA #[(Value.int .u8 (v66.kd)), (Value.int .u8 (v66.id)), (Value.int .u8 (v66.rs)), (Value.int .u8 (v66.nw))]), (vP b77 1), (Value.int .u8 (v66.id)), (Value.int .u8 (Int.tmod (v66.id) 8)), (vI (Int.tmod (v66.id) 8)), (vI (1 + (Int.tmod (v66.id) 8))), (g0 43), (g0 44), (g0 45), (g0 46), (g0 47), (g0 48), (g0 49), (g0 50), (g0 51), (g0 52), (g0 53), (g0 54), (g0 55), (g0 56), (g0 57), (g0 58), (g0 59), (g0 60), (g0 61), (g0 62), (g0 63), (g0 64), (g0 65), (g0 66), (g0 67), (g0 68), (g0 69), (g0 70), (g0 71), (g0 72), (g0 73), (g0 74), (g0 75), (g0 76), (g0 77), (g0 78), (g0 79), (g0 80), (g0 81), (g0 82), (g0 83), (g0 84), (g0 85), (g0 86), (g0 87), (g0 88), (g0 89), (g0 90), (g0 91), (g0 92), (g0 93), (g0 94), (g0 95), (g0 96), (g0 97), (vB false), (vI (1 + (Int.tmod (v66.id) 8))), (vP b21 o110), (vB true), (vB false), (g0 103), (g0 104), (g0 105), (g0 106), (g0 107), (g0 108), (g0 109), (g0 110), (g0 111), (g0 112), (g0 113), (g0 114), (g0 115), (g0 116), (g0 117), (g0 118), (g0 119), (g0 120), (g0 121), (g0 122), (g0 123), (g0 124), (g0 125), (g0 126), (g0 127), (g0 128), (g0 129), (g0 130), (g0 131), (vB true), (vP b77 0), (Value.int .u8 (v66.kd)), (Value.int .u8 (Int.tmod (v66.kd) 8)), (vB true), (vT #[(vA #[(vS .empty), (vI 0), (vI 0), (vL none 0 0), (vI 0), (vI 0), (vB false), (vI 0), (vI 0), (vI 0)]), (vI (canE v105.1))]), (vI (1 + (Int.tmod (v66.id) 8))), (vP b11 o117), (vA #[(vS v105.1.d.name), (vI v105.1.d.rt), (vI v105.1.d.dl), (vL v105.2.1 v105.1.d.xs.length v105.2.2), (vI v105.1.st), (vI v105.1.ix), (vB v105.1.cn), (vI v105.1.tr), (vI v105.1.bg), (vI v105.1.er)]), (vT #[(vA #[(vS .empty), (vI 0), (vI 0), (vL none 0 0), (vI 0), (vI 0), (vB false), (vI 0), (vI 0), (vI 0)]), (vI (canE v105.1))]), (vA #[(vS .empty), (vI 0), (vI 0), (vL none 0 0), (vI 0), (vI 0), (vB false), (vI 0), (vI 0), (vI 0)]), (vI (canE v105.1)), (vP b4 0), (vI (1 + (Int.tmod (v66.id) 8))), (vI (canE v105.1)), (vI (canE v105.1)), (vB false), (vI (canE v105.1)), (vB false), (g0 151), (g0 152), (g0 153), (vI ((ka) + 1))] : List Value).getD i undef), by as_aux_lemma => kernel_rfl, x252, rfl, by omega, i51, o260, k247, n257, n258, n259, i57, i58, i59, p245, p253, p254, p255⟩⟩
      · obtain ⟨o261, k262, a263, u264⟩ := ArrAt.at (P := Tryz.prog) sagc_size p97 undarr78 size38 i51.ls g107
        have f265 : findK mm (1 + (Int.tmod (v66.id) 8)) = some v105.1 := by rw [e106]; exact i51.all i104 v105 true g107 (by rw [g109, c114])
        have c266 := ((i53).at f265).1
        have t267 := i51.small v105 (List.mem_of_getElem? g107)
        obtain ⟨_, h268, s269, rfl, x270⟩ := nextV_ok h93 v105.1 _ _ (p99.at g107) (by omega) (x100 _ _ hg0) (x100 _ _ hg1)
        have f271 := x270 _ _ f95
        have p272 := p96.keep fun b r _ q => x270 b r q
        have p273 := p97.keep fun b r _ q => x270 b r q
        have p274 := p98.keep fun b r _ q => x270 b r q
        have p275 := p99.keep fun b r _ q => x270 b r q
        have x276 := x100.trans x270
        obtain ⟨z9084d, z9084b, z9084o⟩ := chkS_zero c266
        have := defB_of z9084d
        have := budB_of z9084b
        have z9084i := okI_of z9084o
        have := z9084i.1
        by_cases c277 : ((v105.1.st) : Int) < 4
        · obtain ⟨b278, eb279⟩ : ∃ zq, zq = h268.size := ⟨_, rfl⟩
          obtain ⟨h280, e281⟩ : ∃ zq, zq = h268.push (.cells #[(vI 0), (vI 0), (vI 0)] 33 (0, 0)) := ⟨_, rfl⟩
          have f282 := push_new e281
          rw [← eb279] at f282
          have n283 : b278 ≠ b77 := by have := row_lt f271; omega
          have n284 : ∀ zz, Ot zz → ¬ zz = b278 := fun zz hz ez => by have := p272.blk_lt hz; omega
          have n285 : ∀ zz, (fun q => q = b11) zz → ¬ zz = b278 := fun zz hz ez => by have := p273.blk_lt hz; omega
          have n286 : ∀ zz, (fun q => q = b21) zz → ¬ zz = b278 := fun zz hz ez => by have := p274.blk_lt hz; omega
          have n287 : ∀ zz, (lsF ss) zz → ¬ zz = b278 := fun zz hz ez => by have := p275.blk_lt hz; omega
          have x288 : Ext h268 h280 := by rw [e281]; exact Ext.push _ _
          have o289 : h.size ≤ b278 := by have := x276.size; omega
          have f290 := x288 _ _ f271
          have p291 := p272.keep fun b r _ q => x288 b r q
          have p292 := p273.keep fun b r _ q => x288 b r q
          have p293 := p274.keep fun b r _ q => x288 b r q
          have p294 := p275.keep fun b r _ q => x288 b r q
          have x295 := x276.trans x288
          obtain ⟨h296, e297⟩ : ∃ zq, zq = h280.setIfInBounds b278 (.cells #[(vI 0), (vI (v105.1.ix)), (vI (phS (v105.1.st)))] 33 (0, 0)) := ⟨_, rfl⟩
          have f298 := set_same e297 f282
          have f299 := set_other e297 f290 n283
          have p300 := p291.keep fun b r hb q => (Chg.set e297).same b r q (n284 b hb)
          have p301 := p292.keep fun b r hb q => (Chg.set e297).same b r q (n285 b hb)
          have p302 := p293.keep fun b r hb q => (Chg.set e297).same b r q (n286 b hb)
          have p303 := p294.keep fun b r hb q => (Chg.set e297).same b r q (n287 b hb)
          have x304 := Ext.setNew x295 e297 o289
          obtain ⟨b305, eb306⟩ : ∃ zq, zq = h296.size := ⟨_, rfl⟩
          obtain ⟨h307, e308⟩ : ∃ zq, zq = h296.push (.cells #[(vI 0), (vI 0), (vI 0)] 33 (0, 0)) := ⟨_, rfl⟩
          have f309 := push_new e308
          rw [← eb306] at f309
          have n310 : b305 ≠ b77 := by have := row_lt f299; omega
          have n311 : b305 ≠ b278 := by have := row_lt f298; omega
          have n312 : ∀ zz, Ot zz → ¬ zz = b305 := fun zz hz ez => by have := p300.blk_lt hz; omega
          have n313 : ∀ zz, (fun q => q = b11) zz → ¬ zz = b305 := fun zz hz ez => by have := p301.blk_lt hz; omega
          have n314 : ∀ zz, (fun q => q = b21) zz → ¬ zz = b305 := fun zz hz ez => by have := p302.blk_lt hz; omega
          have n315 : ∀ zz, (lsF ss) zz → ¬ zz = b305 := fun zz hz ez => by have := p303.blk_lt hz; omega
          have x316 : Ext h296 h307 := by rw [e308]; exact Ext.push _ _
          have o317 : h.size ≤ b305 := by have := x304.size; omega
          have f318 := x316 _ _ f299
          have f319 := x316 _ _ f298
          have p320 := p300.keep fun b r _ q => x316 b r q
          have p321 := p301.keep fun b r _ q => x316 b r q
          have p322 := p302.keep fun b r _ q => x316 b r q
          have p323 := p303.keep fun b r _ q => x316 b r q
          have x324 := x304.trans x316
          obtain ⟨h325, e326⟩ : ∃ zq, zq = h307.setIfInBounds b305 (.cells #[(vI 0), (vI (v105.1.ix)), (vI (phS (v105.1.st)))] 33 (0, 0)) := ⟨_, rfl⟩
          have f327 := set_same e326 f309
          have f328 := set_other e326 f318 n310
          have f329 := set_other e326 f319 n311
          have p330 := p320.keep fun b r hb q => (Chg.set e326).same b r q (n312 b hb)
          have p331 := p321.keep fun b r hb q => (Chg.set e326).same b r q (n313 b hb)
          have p332 := p322.keep fun b r hb q => (Chg.set e326).same b r q (n314 b hb)
          have p333 := p323.keep fun b r hb q => (Chg.set e326).same b r q (n315 b hb)
          have x334 := Ext.setNew x324 e326 o317
          obtain ⟨h335, e336⟩ : ∃ zq, zq = h325.setIfInBounds b305 (.cells #[(vI (1 + (Int.tmod (v66.id) 8))), (vI (v105.1.ix)), (vI (phS (v105.1.st)))] 33 (0, 0)) := ⟨_, rfl⟩
          have f337 := set_same e336 f327
          have f338 := set_other e336 f328 n310
          have f339 := set_other e336 f329 n311
          have p340 := p330.keep fun b r hb q => (Chg.set e336).same b r q (n312 b hb)
          have p341 := p331.keep fun b r hb q => (Chg.set e336).same b r q (n313 b hb)
          have p342 := p332.keep fun b r hb q => (Chg.set e336).same b r q (n314 b hb)
          have p343 := p333.keep fun b r hb q => (Chg.set e336).same b r q (n315 b hb)
          have x344 := Ext.setNew x334 e336 o317
          obtain ⟨o345, k346, a347, u348⟩ := ArrAt.at (P := Tryz.prog) sagc_size p341 undarr78 size38 i51.ls g107
          obtain ⟨b349, eb350⟩ : ∃ zq, zq = h335.size := ⟨_, rfl⟩
          obtain ⟨h351, e352⟩ : ∃ zq, zq = h335.push (.cells #[(vS .empty), (vI 0), (vI 0), (Value.slice none 0 0), (vI 0), (vI 0), (vB false), (vI 0), (vI 0), (vI 0)] 38 (0, 0)) := ⟨_, rfl⟩
          have f353 := push_new e352
          rw [← eb350] at f353
          have n354 : b349 ≠ b77 := by have := row_lt f338; omega
          have n355 : b349 ≠ b305 := by have := row_lt f337; omega
          have n356 : ∀ zz, Ot zz → ¬ zz = b349 := fun zz hz ez => by have := p340.blk_lt hz; omega
          have n357 : ∀ zz, (fun q => q = b11) zz → ¬ zz = b349 := fun zz hz ez => by have := p341.blk_lt hz; omega
          have n358 : ∀ zz, (fun q => q = b21) zz → ¬ zz = b349 := fun zz hz ez => by have := p342.blk_lt hz; omega
          have n359 : ∀ zz, (lsF ss) zz → ¬ zz = b349 := fun zz hz ez => by have := p343.blk_lt hz; omega
          have x360 : Ext h335 h351 := by rw [e352]; exact Ext.push _ _
          have o361 : h.size ≤ b349 := by have := x344.size; omega
          have f362 := x360 _ _ f338
          have f363 := x360 _ _ f339
          have f364 := x360 _ _ f337
          have p365 := p340.keep fun b r _ q => x360 b r q
          have p366 := p341.keep fun b r _ q => x360 b r q
          have p367 := p342.keep fun b r _ q => x360 b r q
          have p368 := p343.keep fun b r _ q => x360 b r q
          have p369 := (p343.at g107).keep fun b r _ q => x360 b r q
          have p370 := k346.keep fun b r _ q => x360 b r q
          have x371 := x344.trans x360
          obtain ⟨_, hh372, sn373, rfl, x374⟩ := resD_ok h351 v66 t75 
          have f375 := x374 _ _ f362
          have f376 := x374 _ _ f363
          have f377 := x374 _ _ f364
          have f378 := x374 _ _ f353
          have p379 := p365.keep fun b r _ q => x374 b r q
          have p380 := p366.keep fun b r _ q => x374 b r q
          have p381 := p367.keep fun b r _ q => x374 b r q
          have p382 := p368.keep fun b r _ q => x374 b r q
          have p383 := p369.keep fun b r _ q => x374 b r q
          have p384 := p370.keep fun b r _ q => x374 b r q
          have x385 := x371.trans x374
          obtain ⟨v386, h387, s388, p389, p390, x391⟩ := result_ok hh372 v105.1 _ _ p383 (by omega) 0 (v105.1.ix) (phS (v105.1.st)) ((resD v66)) (v66.nw) (x385 _ _ hg0) (x385 _ _ hg1)
          have t392 := resE_cases (e1 := 0) (e2 := (v105.1.ix)) (e3 := (phS (v105.1.st))) (res := ((resD v66))) (now := (v66.nw)) c266
          have f393 := x391 _ _ f375
          have f394 := x391 _ _ f377
          have f395 := x391 _ _ f378
          have p396 := p379.keep fun b r _ q => x391 b r q
          have p397 := p380.keep fun b r _ q => x391 b r q
          have p398 := p381.keep fun b r _ q => x391 b r q
          have p399 := p382.keep fun b r _ q => x391 b r q
          have x400 := x385.trans x391
          by_cases c401 : ((resE v105.1 0 (v105.1.ix) (phS (v105.1.st)) ((resD v66)) (v66.nw)) : Int) = 0
          · obtain ⟨w402, c403, p404, o405, n406⟩ := p390 c401
            obtain ⟨s407, e408⟩ : ∃ q, q = nxtS v105.1 ((resD v66)) (v66.nw) := ⟨_, rfl⟩
            have e409 : s407.d = v105.1.d := by rw [e408]; exact nxtS_d _ _ _
            have e410 : s407.d.xs.length = (v105.1.d).xs.length := by rw [e409]
            rw [← e408, ← e409] at p404
            rw [← e409] at o405 n406
            have c411 : chkS s407 = 0 := by rw [e408]; exact nxt_ok (resE_zero c401).1 (resE_zero c401).2.1 (resE_zero c401).2.2.2.1
            have z412 : h.size ≤ hh372.size := x385.size
            have n413 : ∀ zz, blk (Value.slice w402 (s407.d.xs.length) (c403)) zz → ¬ zz = b349 := fun zz hz ez => by have := n406 zz hz; have := row_lt f378; omega
            have n414 : ∀ zz, blk (Value.slice w402 (s407.d.xs.length) (c403)) zz → ¬ Ot zz := fun zz hz ez => by have := n406 zz hz; have := p379.blk_lt ez; omega
            have n415 : ∀ zz, blk (Value.slice w402 (s407.d.xs.length) (c403)) zz → ¬ (fun q => q = b11) zz := fun zz hz ez => by have := n406 zz hz; have := p380.blk_lt ez; omega
            have o416 : ∀ zz, blk (Value.slice w402 (s407.d.xs.length) (c403)) zz → h.size ≤ zz := fun zz hz => by have := n406 zz hz; omega
            obtain ⟨h417, e418⟩ : ∃ zq, zq = h387.setIfInBounds b349 (.cells #[(vS s407.d.name), (vI (s407.d.rt)), (vI (s407.d.dl)), (Value.slice w402 (s407.d.xs.length) (c403)), (vI (s407.st)), (vI (s407.ix)), (vB s407.cn), (vI (s407.tr)), (vI (s407.bg)), (vI (s407.er))] 38 (0, 0)) := ⟨_, rfl⟩
            have f419 := set_same e418 f395
            have f420 := set_other e418 f393 n354
            have f421 := set_other e418 f394 n355
            have p422 := p396.keep fun b r hb q => (Chg.set e418).same b r q (n356 b hb)
            have p423 := p397.keep fun b r hb q => (Chg.set e418).same b r q (n357 b hb)
            have p424 := p398.keep fun b r hb q => (Chg.set e418).same b r q (n358 b hb)
            have p425 := p399.keep fun b r hb q => (Chg.set e418).same b r q (n359 b hb)
            have p426 := o405.keep fun b r hb q => (Chg.set e418).same b r q (n413 b hb)
            have x427 := Ext.setNew x400 e418 o361
            obtain ⟨_, hh428, sn429, rfl, x430⟩ := resD_ok h417 v66 t75 
            have f431 := x430 _ _ f420
            have f432 := x430 _ _ f421
            have f433 := x430 _ _ f419
            have p434 := p422.keep fun b r _ q => x430 b r q
            have p435 := p423.keep fun b r _ q => x430 b r q
            have p436 := p424.keep fun b r _ q => x430 b r q
            have p437 := p425.keep fun b r _ q => x430 b r q
            have p438 := p426.keep fun b r _ q => x430 b r q
            have x439 := x427.trans x430
            obtain ⟨_, h440, s441, rfl, x442, O9298, p443, o444⟩ := tresult_ok hh428 p434 i53 (1 + (Int.tmod (v66.id) 8)) (1 + (Int.tmod (v66.id) 8)) (v105.1.ix) (phS (v105.1.st)) ((resD v66)) (v66.nw) (x439 _ _ hg0) (x439 _ _ hg1)
            have k445 := WfT.res i53 (1 + (Int.tmod (v66.id) 8)) (1 + (Int.tmod (v66.id) 8)) (v105.1.ix) (phS (v105.1.st)) ((resD v66)) (v66.nw)
            have q446 := res_at (k := (1 + (Int.tmod (v66.id) 8))) f265 (resE_fine c266 (resD_rng t75) (w := (v66.nw)) (by omega) c277)
            have e447 : resTE mm (1 + (Int.tmod (v66.id) 8)) (1 + (Int.tmod (v66.id) 8)) (v105.1.ix) (phS (v105.1.st)) ((resD v66)) (v66.nw) = 0 := q446.1
            rw [e447] at s441
            have e448 : (resTM mm (1 + (Int.tmod (v66.id) 8)) (1 + (Int.tmod (v66.id) 8)) (v105.1.ix) (phS (v105.1.st)) ((resD v66)) (v66.nw)) = (setK mm (1 + (Int.tmod (v66.id) 8)) s407) := by rw [q446.2.1 rfl, ← e408]
            rw [e448] at p443 k445
            have z449 : h.size ≤ hh428.size := x439.size
            have x450 : Ext h _ := (Chg.then (O := fun _ => False) (Chg.ext x439) x442 (fun b hb => .inr (i52 b hb))).toExt'
            have f451 := x442.same _ _ f433 (fun hb => n356 _ hb rfl)
            have p452 := p435.keep fun b r hb q => x442.same b r q ((fun b hb hb2 => i54 b hb2 hb) b hb)
            have p453 := p436.keep fun b r hb q => x442.same b r q ((fun b hb hb2 => i55 b hb2 hb) b hb)
            have p454 := p437.keep fun b r hb q => x442.same b r q ((fun b hb hb2 => i56 b hb2 hb) b hb)
            have p455 := p438.keep fun b r hb q => x442.same b r q (n414 b hb)
            have z456 : h.size ≤ hh428.size := x439.size
            have n457 : ∀ zz, O9298 zz → ¬ (fun q => q = b11) zz := fun zz hz ez => by rcases o444 zz hz with g | g; (exact i54 _ g ez); have := p435.blk_lt ez; omega
            have n458 : ∀ zz, O9298 zz → ¬ (fun q => q = b21) zz := fun zz hz ez => by rcases o444 zz hz with g | g; (exact i55 _ g ez); have := p436.blk_lt ez; omega
            have n459 : ∀ zz, O9298 zz → ¬ (lsF ss) zz := fun zz hz ez => by rcases o444 zz hz with g | g; (exact i56 _ g ez); have := p437.blk_lt ez; omega
            have n460 : ∀ zz, O9298 zz → ¬ (blk (Value.slice w402 (s407.d.xs.length) (c403))) zz := fun zz hz ez => by rcases o444 zz hz with g | g; (exact n414 _ ez g); have := p438.blk_lt ez; omega
            have o461 : ∀ zz, O9298 zz → h.size ≤ zz := fun zz hz => by rcases o444 zz hz with g | g; (exact i52 zz g); omega
            obtain ⟨o462, k463, a464, u465⟩ := ArrAt.at (P := Tryz.prog) sagc_size p452 undarr78 size38 i51.ls g107
            obtain ⟨h466, e467, p468, c469, z470⟩ := u465 (j := 0) (y := (s407, w402, c403)) (u := (Value.agg #[(vS s407.d.name), (vI (s407.d.rt)), (vI (s407.d.dl)), (Value.slice w402 (s407.d.xs.length) (c403)), (vI (s407.st)), (vI (s407.ix)), (vB s407.cn), (vI (s407.tr)), (vI (s407.bg)), (vI (s407.er))])) size38 rfl rfl (by decide) (by kernel_rfl)
            have c471 : Chg (fun q => q = b11) h440 h466 := c469.weak fun q hq => by subst hq; exact rfl
            have z472 : h.size ≤ h440.size := x450.size
            have x473 : Ext h _ := (Chg.then (O := fun _ => False) (Chg.ext x450) c471 (fun b hb => .inr (i57 b hb))).toExt'
            have p474 := p443.keep fun b r hb q => c471.same b r q (n457 b hb)
            have p475 := p453.keep fun b r hb q => c471.same b r q ((fun z (hz : z = b21) (hw : z = b11) => row_ne p453 p452 (by decide) (hz.symm.trans hw)) b hb)
            have p476 := p454.keep fun b r hb q => c471.same b r q ((p454.ne p452 (by decide)) b hb)
            have p477 := p455.keep fun b r hb q => c471.same b r q (n415 b hb)
            obtain ⟨p478, f479⟩ := LsAt.set p476 (y := (s407, w402, c403)) p477 i104
            have n480 : ∀ zz, lsF (ss.set i104 (s407, w402, c403)) zz → h.size ≤ zz := fun zz hz => (f479 zz hz).elim (i59 zz) (o416 zz)
            have n481 : ∀ zz, lsF (ss.set i104 (s407, w402, c403)) zz → ¬ O9298 zz := fun zz hz => (f479 zz hz).elim ((fun zz hz hz2 => n459 zz hz2 hz) zz) ((fun zz hz hz2 => n460 zz hz2 hz) zz)
            refine wc_ev [ltT 5 0 3 c64, evV 6 0 (vP b70 o71) (show indexAddrA Tryz.prog 77 (vL sb35 zs40.length cq36) (vI ka) = some (vP b70 o71) from a74 und77 size81 e67), evV 6 1 (vA #[(Value.int .u8 (v66.kd)), (Value.int .u8 (v66.id)), (Value.int .u8 (v66.rs)), (Value.int .u8 (v66.nw))]) (show loadT Tryz.prog h47 81 (vP b70 o71) = some (vA #[(Value.int .u8 (v66.kd)), (Value.int .u8 (v66.id)), (Value.int .u8 (v66.rs)), (Value.int .u8 (v66.nw))]) from (k72.keep fun b r _ q => x48 b r q).agg (j := 0) agg81 size81 (show 0 + 4 ≤ 4 by decide) (by kernel_rfl)), evA 6 2 eb78 e80, evUw 6 3 size81 f81 e94, evC 7 1 1 agg5 f95, evV 7 2 (Value.int .u8 (Int.tmod (v66.id) 8)) (show binA Tryz.prog .rem 5 (Value.int .u8 (v66.id)) (Value.int .u8 8) = some (Value.int .u8 (Int.tmod (v66.id) 8)) from rem_int (by omega)), evV 7 3 (vI (Int.tmod (v66.id) 8)) (show (vI (Int.tmod (v66.id) 8)) = (vI (IntKind.i64.wrap (Int.tmod (v66.id) 8))) from by congr 1; rw [IntKind.wrap_i64]; omega), evV 7 4 (vI (1 + (Int.tmod (v66.id) 8))) (show binA Tryz.prog .add 3 (vI 1) (vI (Int.tmod (v66.id) 8)) = some (vI (1 + (Int.tmod (v66.id) 8))) from add_i64 (by omega) (by omega)), evV 20 1 (vP b21 o110) (show indexAddrA Tryz.prog 79 (vP b21 0) (vI (1 + (Int.tmod (v66.id) 8))) = some (vP b21 o110) from a112 e106), evV 20 2 (vB true) (show loadT Tryz.prog h93 4 (vP b21 o110) = some (vB true) from (by rw [← c114]; exact k111.cell (j := 0) agg4 rfl)), evC 25 1 0 agg5 f95, evV 25 2 (Value.int .u8 (Int.tmod (v66.kd) 8)) (show binA Tryz.prog .rem 5 (Value.int .u8 (v66.kd)) (Value.int .u8 8) = some (Value.int .u8 (Int.tmod (v66.kd) 8)) from rem_int (by omega)), evV 25 3 (vB false) (show binA Tryz.prog .eql 5 (Value.int .u8 (Int.tmod (v66.kd) 8)) (Value.int .u8 0) = some (vB false) from cmp_eql (decide_eq_false c116)), evV 8 1 (vP b11 o261) (show indexAddrA Tryz.prog 78 (vP b11 0) (vI (1 + (Int.tmod (v66.id) 8))) = some (vP b11 o261) from a263 e106), evV 8 2 (vA #[(vS v105.1.d.name), (vI v105.1.d.rt), (vI v105.1.d.dl), (vL v105.2.1 v105.1.d.xs.length v105.2.2), (vI v105.1.st), (vI v105.1.ix), (vB v105.1.cn), (vI v105.1.tr), (vI v105.1.bg), (vI v105.1.er)]) (show loadT Tryz.prog h93 38 (vP b11 o261) = some (vA #[(vS v105.1.d.name), (vI v105.1.d.rt), (vI v105.1.d.dl), (vL v105.2.1 v105.1.d.xs.length v105.2.2), (vI v105.1.st), (vI v105.1.ix), (vB v105.1.cn), (vI v105.1.tr), (vI v105.1.bg), (vI v105.1.er)]) from k262.agg (j := 0) agg38 size38 (show 0 + 10 ≤ 10 by decide) (by kernel_rfl)), evF 8 3 (by rw [nextV_open c266 c277] at s269; exact s269), evA 8 8 eb279 e281, evUw 8 9 size33 f282 e297, evLw 11 0 agg33 size33 f298, evA 11 1 eb306 e308, evUw 11 2 size33 f309 e326, evT 12 2 0 size3 f327 e336, evV 16 1 (vP b11 o345) (show indexAddrA Tryz.prog 78 (vP b11 0) (vI (1 + (Int.tmod (v66.id) 8))) = some (vP b11 o345) from a347 e106), evV 16 2 (vA #[(vS v105.1.d.name), (vI v105.1.d.rt), (vI v105.1.d.dl), (vL v105.2.1 v105.1.d.xs.length v105.2.2), (vI v105.1.st), (vI v105.1.ix), (vB v105.1.cn), (vI v105.1.tr), (vI v105.1.bg), (vI v105.1.er)]) (show loadT Tryz.prog h335 38 (vP b11 o345) = some (vA #[(vS v105.1.d.name), (vI v105.1.d.rt), (vI v105.1.d.dl), (vL v105.2.1 v105.1.d.xs.length v105.2.2), (vI v105.1.st), (vI v105.1.ix), (vB v105.1.cn), (vI v105.1.tr), (vI v105.1.bg), (vI v105.1.er)]) from k346.agg (j := 0) agg38 size38 (show 0 + 10 ≤ 10 by decide) (by kernel_rfl)), evLw 16 3 agg33 size33 f339, evLw 16 4 agg81 size81 f338, evC 16 7 3 agg5 f338, evV 16 8 (vI v66.nw) (show (vI v66.nw) = (vI (IntKind.i64.wrap (v66.nw))) from by congr 1; rw [IntKind.wrap_i64]; omega), evA 16 13 eb350 e352, evF 16 5 sn373, evC 99 0 3 agg5 f375, evLw 99 0 agg33 size33 f376, evV 99 0 undef (show loadT Tryz.prog hh372 38 (vP b11 o345) = some (vA #[(vS v105.1.d.name), (vI v105.1.d.rt), (vI v105.1.d.dl), (vL v105.2.1 v105.1.d.xs.length v105.2.2), (vI v105.1.st), (vI v105.1.ix), (vB v105.1.cn), (vI v105.1.tr), (vI v105.1.bg), (vI v105.1.er)]) from p384.agg (j := 0) agg38 size38 (show 0 + 10 ≤ 10 by decide) (by kernel_rfl)), evFe 16 9 p404 s388, evUw 16 14 size38 f395 e418, evLw 17 5 agg33 size33 f421, evLw 17 6 agg81 size81 f420, evC 17 9 3 agg5 f420, evV 17 10 (vI v66.nw) (show (vI v66.nw) = (vI (IntKind.i64.wrap (v66.nw))) from by congr 1; rw [IntKind.wrap_i64]; omega), evF 17 7 sn429, evC 99 0 3 agg5 f431, evLw 99 0 agg33 size33 f432, evF 17 11 s441, evLw 19 1 agg38 size38 f451, evV 19 2 (vP b11 o462) (show indexAddrA Tryz.prog 78 (vP b11 0) (vI (1 + (Int.tmod (v66.id) 8))) = some (vP b11 o462) from a464 e106), evH 19 3 undef h466 (show (storeT Tryz.prog h440 38 (vP b11 o462) (vA #[(vS s407.d.name), (vI s407.d.rt), (vI s407.d.dl), (vL w402 s407.d.xs.length c403), (vI s407.st), (vI s407.ix), (vB s407.cn), (vI s407.tr), (vI s407.bg), (vI s407.er)]) = some h466 ∧ (undef : Value) = undef) from ⟨e467, rfl⟩), evV 31 0 (vI ((ka) + 1)) (show binA Tryz.prog .add 3 (vI ka) (vI 1) = some (vI ((ka) + 1)) from add_i64 (by omega) (by omega))] .normal h466 [(35, (vB true)), (36, (vP b70 o71)), (37, (vA #[(Value.int .u8 (v66.kd)), (Value.int .u8 (v66.id)), (Value.int .u8 (v66.rs)), (Value.int .u8 (v66.nw))])), (7, (vP b77 0)), (38, (vP b77 1)), (39, (Value.int .u8 (v66.id))), (40, (Value.int .u8 (Int.tmod (v66.id) 8))), (41, (vI (Int.tmod (v66.id) 8))), (42, (vI (1 + (Int.tmod (v66.id) 8)))), (8, (vI (1 + (Int.tmod (v66.id) 8)))), (99, (vI (1 + (Int.tmod (v66.id) 8)))), (100, (vP b21 o110)), (101, (vB true)), (102, (vB false)), (98, (vB false)), (133, (vP b77 0)), (134, (Value.int .u8 (v66.kd))), (135, (Value.int .u8 (Int.tmod (v66.kd) 8))), (136, (vB false)), (132, (vB false)), (44, (vI (1 + (Int.tmod (v66.id) 8)))), (45, (vP b11 o261)), (46, (vA #[(vS v105.1.d.name), (vI v105.1.d.rt), (vI v105.1.d.dl), (vL v105.2.1 v105.1.d.xs.length v105.2.2), (vI v105.1.st), (vI v105.1.ix), (vB v105.1.cn), (vI v105.1.tr), (vI v105.1.bg), (vI v105.1.er)])), (47, (vT #[(vA #[(vI 0), (vI v105.1.ix), (vI (phS (v105.1.st)))]), (vB true), (vI 0)])), (43, (vT #[(vA #[(vI 0), (vI v105.1.ix), (vI (phS (v105.1.st)))]), (vB true), (vI 0)])), (48, (vA #[(vI 0), (vI v105.1.ix), (vI (phS (v105.1.st)))])), (49, (vB true)), (50, (vI 0)), (13, (vP b278 0)), (14, (vB true)), (15, (vI 0)), (51, (vI 0)), (52, (vB false)), (53, (vA #[(vI 0), (vI v105.1.ix), (vI (phS (v105.1.st)))])), (16, (vP b305 0)), (54, (vI (1 + (Int.tmod (v66.id) 8)))), (55, (vP b305 0)), (56, (vB true)), (57, (vB false)), (69, (vI (1 + (Int.tmod (v66.id) 8)))), (70, (vP b11 o345)), (71, (vA #[(vS v105.1.d.name), (vI v105.1.d.rt), (vI v105.1.d.dl), (vL v105.2.1 v105.1.d.xs.length v105.2.2), (vI v105.1.st), (vI v105.1.ix), (vB v105.1.cn), (vI v105.1.tr), (vI v105.1.bg), (vI v105.1.er)])), (72, (vA #[(vI 0), (vI v105.1.ix), (vI (phS (v105.1.st)))])), (73, (vA #[(Value.int .u8 (v66.kd)), (Value.int .u8 (v66.id)), (Value.int .u8 (v66.rs)), (Value.int .u8 (v66.nw))])), (75, (vP b77 3)), (76, (Value.int .u8 (v66.nw))), (77, (vI v66.nw)), (17, (vP b349 0)), (74, (vI ((resD v66)))), (78, (vT #[(vA #[(vS s407.d.name), (vI s407.d.rt), (vI s407.d.dl), (vL w402 s407.d.xs.length c403), (vI s407.st), (vI s407.ix), (vB s407.cn), (vI s407.tr), (vI s407.bg), (vI s407.er)]), (vI 0)])), (68, (vT #[(vA #[(vS s407.d.name), (vI s407.d.rt), (vI s407.d.dl), (vL w402 s407.d.xs.length c403), (vI s407.st), (vI s407.ix), (vB s407.cn), (vI s407.tr), (vI s407.bg), (vI s407.er)]), (vI 0)])), (79, (vA #[(vS s407.d.name), (vI s407.d.rt), (vI s407.d.dl), (vL w402 s407.d.xs.length c403), (vI s407.st), (vI s407.ix), (vB s407.cn), (vI s407.tr), (vI s407.bg), (vI s407.er)])), (80, (vI 0)), (18, (vI 0)), (81, (vI 0)), (82, (vB false)), (83, (vB false)), (84, (vP b4 0)), (85, (vI (1 + (Int.tmod (v66.id) 8)))), (86, (vA #[(vI (1 + (Int.tmod (v66.id) 8))), (vI v105.1.ix), (vI (phS (v105.1.st)))])), (87, (vA #[(Value.int .u8 (v66.kd)), (Value.int .u8 (v66.id)), (Value.int .u8 (v66.rs)), (Value.int .u8 (v66.nw))])), (89, (vP b77 3)), (90, (Value.int .u8 (v66.nw))), (91, (vI v66.nw)), (88, (vI ((resD v66)))), (92, (vI 0)), (93, (vB false)), (94, (vB false)), (95, (vI (1 + (Int.tmod (v66.id) 8)))), (96, (vA #[(vS s407.d.name), (vI s407.d.rt), (vI s407.d.dl), (vL w402 s407.d.xs.length c403), (vI s407.st), (vI s407.ix), (vB s407.cn), (vI s407.tr), (vI s407.bg), (vI s407.er)])), (97, (vP b11 o462)), (154, (vI ((ka) + 1))), (34, (vI ((ka) + 1)))] ?_
            exact ⟨zs40.length - (ka + 1).toNat, by omega, ⟨ka + 1, (setK mm (1 + (Int.tmod (v66.id) 8)) s407), (ss.set i104 (s407, w402, c403)), bs, O9298, (fun i => ([vU, vU, (g0 2), vU, vU, vU, vU, (vP b77 0), (vI (1 + (Int.tmod (v66.id) 8))), (g0 9), (g0 10), (g0 11), (g0 12), (vP b278 0), (vB true), (vI 0), (vP b305 0), (vP b349 0), (vI 0), vU, vU, vU, vU, vU, vU, vU, vU, vU, vU, vU, vU, vU, vU, vU, vU, (vB true), (vP b70 o71), (vA #[(Value.int .u8 (v66.kd)), (Value.int .u8 (v66.id)), (Value.int .u8 (v66.rs)), (Value.int .u8 (v66.nw))]), (vP b77 1), (Value.int .u8 (v66.id)), (Value.int .u8 (Int.tmod (v66.id) 8)), (vI (Int.tmod (v66.id) 8)), (vI (1 + (Int.tmod (v66.id) 8))), (vT #[(vA #[(vI 0), (vI v105.1.ix), (vI (phS (v105.1.st)))]), (vB true), (vI 0)]), (vI (1 + (Int.tmod (v66.id) 8))), (vP b11 o261), (vA #[(vS v105.1.d.name), (vI v105.1.d.rt), (vI v105.1.d.dl), (vL v105.2.1 v105.1.d.xs.length v105.2.2), (vI v105.1.st), (vI v105.1.ix), (vB v105.1.cn), (vI v105.1.tr), (vI v105.1.bg), (vI v105.1.er)]), (vT #[(vA #[(vI 0), (vI v105.1.ix), (vI (phS (v105.1.st)))]), (vB true), (vI 0)]), (vA #[(vI 0), (vI v105.1.ix), (vI (phS (v105.1.st)))]), (vB true), (vI 0), (vI 0), (vB false), (vA #[(vI 0), (vI v105.1.ix), (vI (phS (v105.1.st)))]), (vI (1 + (Int.tmod (v66.id) 8))), (vP b305 0), (vB true), (vB false), (g0 58), (g0 59), (g0 60), (g0 61), (g0 62), (g0 63), (g0 64), (g0 65), (g0 66), (g0 67), (vT #[(vA #[(vS s407.d.name), (vI s407.d.rt), (vI s407.d.dl), (vL w402 s407.d.xs.length c403), (vI s407.st), (vI s407.ix), (vB s407.cn), (vI s407.tr), (vI s407.bg), (vI s407.er)]), (vI 0)]), (vI (1 + (Int.tmod (v66.id) 8))), (vP b11 o345), (vA #[(vS v105.1.d.name), (vI v105.1.d.rt), (vI v105.1.d.dl), (vL v105.2.1 v105.1.d.xs.length v105.2.2), (vI v105.1.st), (vI v105.1.ix), (vB v105.1.cn), (vI v105.1.tr), (vI v105.1.bg), (vI v105.1.er)]), (vA #[(vI 0), (vI v105.1.ix), (vI (phS (v105.1.st)))]), (vA #[(Value.int .u8 (v66.kd)), (Value.int .u8 (v66.id)), (Value.int .u8 (v66.rs)), (Value.int .u8 (v66.nw))]), (vI ((resD v66))), (vP b77 3), (Value.int .u8 (v66.nw)), (vI v66.nw), (vT #[(vA #[(vS s407.d.name), (vI s407.d.rt), (vI s407.d.dl), (vL w402 s407.d.xs.length c403), (vI s407.st), (vI s407.ix), (vB s407.cn), (vI s407.tr), (vI s407.bg), (vI s407.er)]), (vI 0)]), (vA #[(vS s407.d.name), (vI s407.d.rt), (vI s407.d.dl), (vL w402 s407.d.xs.length c403), (vI s407.st), (vI s407.ix), (vB s407.cn), (vI s407.tr), (vI s407.bg), (vI s407.er)]), (vI 0), (vI 0), (vB false), (vB false), (vP b4 0), (vI (1 + (Int.tmod (v66.id) 8))), (vA #[(vI (1 + (Int.tmod (v66.id) 8))), (vI v105.1.ix), (vI (phS (v105.1.st)))]), (vA #[(Value.int .u8 (v66.kd)), (Value.int .u8 (v66.id)), (Value.int .u8 (v66.rs)), (Value.int .u8 (v66.nw))]), (vI ((resD v66))), (vP b77 3), (Value.int .u8 (v66.nw)), (vI v66.nw), (vI 0), (vB false), (vB false), (vI (1 + (Int.tmod (v66.id) 8))), (vA #[(vS s407.d.name), (vI s407.d.rt), (vI s407.d.dl), (vL w402 s407.d.xs.length c403), (vI s407.st), (vI s407.ix), (vB s407.cn), (vI s407.tr), (vI s407.bg), (vI s407.er)]), (vP b11 o462), (vB false), (vI (1 + (Int.tmod (v66.id) 8))), (vP b21 o110), (vB true), (vB false), (g0 103), (g0 104), (g0 105), (g0 106), (g0 107), (g0 108), (g0 109), (g0 110), (g0 111), (g0 112), (g0 113), (g0 114), (g0 115), (g0 116), (g0 117), (g0 118), (g0 119), (g0 120), (g0 121), (g0 122), (g0 123), (g0 124), (g0 125), (g0 126), (g0 127), (g0 128), (g0 129), (g0 130), (g0 131), (vB false), (vP b77 0), (Value.int .u8 (v66.kd)), (Value.int .u8 (Int.tmod (v66.kd) 8)), (vB false), (g0 137), (g0 138), (g0 139), (g0 140), (g0 141), (g0 142), (g0 143), (g0 144), (g0 145), (g0 146), (g0 147), (g0 148), (g0 149), (g0 150), (g0 151), (g0 152), (g0 153), (vI ((ka) + 1))] : List Value).getD i undef), by as_aux_lemma => kernel_rfl, x473, rfl, by omega, (AloI.put i51 (y := (s407, w402, c403)) e106 g107 (by rw [g109, c114]) (show s407.d.xs.length ≤ 8 by have := (defB_of (chkS_zero c411).1); omega)), o461, k445, n457, n458, (fun zz hz hz2 => n481 zz hz2 hz), i57, i58, n480, p474, p468, p475, p478⟩⟩
          · exact absurd (resE_fine c266 (resD_rng t75) (by omega) c277) c401
        · obtain ⟨b482, eb483⟩ : ∃ zq, zq = h268.size := ⟨_, rfl⟩
          obtain ⟨h484, e485⟩ : ∃ zq, zq = h268.push (.cells #[(vI 0), (vI 0), (vI 0)] 33 (0, 0)) := ⟨_, rfl⟩
          have f486 := push_new e485
          rw [← eb483] at f486
          have n487 : b482 ≠ b77 := by have := row_lt f271; omega
          have n488 : ∀ zz, Ot zz → ¬ zz = b482 := fun zz hz ez => by have := p272.blk_lt hz; omega
          have n489 : ∀ zz, (fun q => q = b11) zz → ¬ zz = b482 := fun zz hz ez => by have := p273.blk_lt hz; omega
          have n490 : ∀ zz, (fun q => q = b21) zz → ¬ zz = b482 := fun zz hz ez => by have := p274.blk_lt hz; omega
          have n491 : ∀ zz, (lsF ss) zz → ¬ zz = b482 := fun zz hz ez => by have := p275.blk_lt hz; omega
          have x492 : Ext h268 h484 := by rw [e485]; exact Ext.push _ _
          have o493 : h.size ≤ b482 := by have := x276.size; omega
          have f494 := x492 _ _ f271
          have p495 := p272.keep fun b r _ q => x492 b r q
          have p496 := p273.keep fun b r _ q => x492 b r q
          have p497 := p274.keep fun b r _ q => x492 b r q
          have p498 := p275.keep fun b r _ q => x492 b r q
          have x499 := x276.trans x492
          obtain ⟨h500, e501⟩ : ∃ zq, zq = h484.setIfInBounds b482 (.cells #[(vI 0), (vI 0), (vI 0)] 33 (0, 0)) := ⟨_, rfl⟩
          have f502 := set_same e501 f486
          have f503 := set_other e501 f494 n487
          have p504 := p495.keep fun b r hb q => (Chg.set e501).same b r q (n488 b hb)
          have p505 := p496.keep fun b r hb q => (Chg.set e501).same b r q (n489 b hb)
          have p506 := p497.keep fun b r hb q => (Chg.set e501).same b r q (n490 b hb)
          have p507 := p498.keep fun b r hb q => (Chg.set e501).same b r q (n491 b hb)
          have x508 := Ext.setNew x499 e501 o493
          obtain ⟨b509, eb510⟩ : ∃ zq, zq = h500.size := ⟨_, rfl⟩
          obtain ⟨h511, e512⟩ : ∃ zq, zq = h500.push (.cells #[(vI 0), (vI 0), (vI 0)] 33 (0, 0)) := ⟨_, rfl⟩
          have f513 := push_new e512
          rw [← eb510] at f513
          have n514 : b509 ≠ b77 := by have := row_lt f503; omega
          have n515 : ∀ zz, Ot zz → ¬ zz = b509 := fun zz hz ez => by have := p504.blk_lt hz; omega
          have n516 : ∀ zz, (fun q => q = b11) zz → ¬ zz = b509 := fun zz hz ez => by have := p505.blk_lt hz; omega
          have n517 : ∀ zz, (fun q => q = b21) zz → ¬ zz = b509 := fun zz hz ez => by have := p506.blk_lt hz; omega
          have n518 : ∀ zz, (lsF ss) zz → ¬ zz = b509 := fun zz hz ez => by have := p507.blk_lt hz; omega
          have x519 : Ext h500 h511 := by rw [e512]; exact Ext.push _ _
          have o520 : h.size ≤ b509 := by have := x508.size; omega
          have f521 := x519 _ _ f503
          have p522 := p504.keep fun b r _ q => x519 b r q
          have p523 := p505.keep fun b r _ q => x519 b r q
          have p524 := p506.keep fun b r _ q => x519 b r q
          have p525 := p507.keep fun b r _ q => x519 b r q
          have x526 := x508.trans x519
          obtain ⟨h527, e528⟩ : ∃ zq, zq = h511.setIfInBounds b509 (.cells #[(vI 0), (vI 0), (vI 0)] 33 (0, 0)) := ⟨_, rfl⟩
          have f529 := set_same e528 f513
          have f530 := set_other e528 f521 n514
          have p531 := p522.keep fun b r hb q => (Chg.set e528).same b r q (n515 b hb)
          have p532 := p523.keep fun b r hb q => (Chg.set e528).same b r q (n516 b hb)
          have p533 := p524.keep fun b r hb q => (Chg.set e528).same b r q (n517 b hb)
          have p534 := p525.keep fun b r hb q => (Chg.set e528).same b r q (n518 b hb)
          have x535 := Ext.setNew x526 e528 o520
          obtain ⟨h536, e537⟩ : ∃ zq, zq = h527.setIfInBounds b509 (.cells #[(vI (1 + (Int.tmod (v66.id) 8))), (vI 0), (vI 0)] 33 (0, 0)) := ⟨_, rfl⟩
          have f538 := set_same e537 f529
          have f539 := set_other e537 f530 n514
          have p540 := p531.keep fun b r hb q => (Chg.set e537).same b r q (n515 b hb)
          have p541 := p532.keep fun b r hb q => (Chg.set e537).same b r q (n516 b hb)
          have p542 := p533.keep fun b r hb q => (Chg.set e537).same b r q (n517 b hb)
          have p543 := p534.keep fun b r hb q => (Chg.set e537).same b r q (n518 b hb)
          have x544 := Ext.setNew x535 e537 o520
          obtain ⟨_, hh545, sn546, rfl, x547⟩ := resD_ok h536 v66 t75 
          have f548 := x547 _ _ f539
          have f549 := x547 _ _ f538
          have p550 := p540.keep fun b r _ q => x547 b r q
          have p551 := p541.keep fun b r _ q => x547 b r q
          have p552 := p542.keep fun b r _ q => x547 b r q
          have p553 := p543.keep fun b r _ q => x547 b r q
          have x554 := x544.trans x547
          obtain ⟨_, h555, s556, rfl, x557, O9450, p558, o559⟩ := tresult_ok hh545 p550 i53 (1 + (Int.tmod (v66.id) 8)) (1 + (Int.tmod (v66.id) 8)) 0 0 ((resD v66)) (v66.nw) (x554 _ _ hg0) (x554 _ _ hg1)
          have k560 := WfT.res i53 (1 + (Int.tmod (v66.id) 8)) (1 + (Int.tmod (v66.id) 8)) 0 0 ((resD v66)) (v66.nw)
          have q561 := res_at (k := (1 + (Int.tmod (v66.id) 8))) (e2 := 0) (e3 := 0) f265 (resE_nin c266 (resD_rng t75) (w := (v66.nw)) (by omega) c277)
          have e562 : resTE mm (1 + (Int.tmod (v66.id) 8)) (1 + (Int.tmod (v66.id) 8)) 0 0 ((resD v66)) (v66.nw) = 9 := q561.1
          rw [e562] at s556
          have e563 : (resTM mm (1 + (Int.tmod (v66.id) 8)) (1 + (Int.tmod (v66.id) 8)) 0 0 ((resD v66)) (v66.nw)) = mm := q561.2.2 (by decide)
          rw [e563] at p558 k560
          have z564 : h.size ≤ hh545.size := x554.size
          have x565 : Ext h _ := (Chg.then (O := fun _ => False) (Chg.ext x554) x557 (fun b hb => .inr (i52 b hb))).toExt'
          have p566 := p551.keep fun b r hb q => x557.same b r q ((fun b hb hb2 => i54 b hb2 hb) b hb)
          have p567 := p552.keep fun b r hb q => x557.same b r q ((fun b hb hb2 => i55 b hb2 hb) b hb)
          have p568 := p553.keep fun b r hb q => x557.same b r q ((fun b hb hb2 => i56 b hb2 hb) b hb)
          have z569 : h.size ≤ hh545.size := x554.size
          have n570 : ∀ zz, O9450 zz → ¬ (fun q => q = b11) zz := fun zz hz ez => by rcases o559 zz hz with g | g; (exact i54 _ g ez); have := p551.blk_lt ez; omega
          have n571 : ∀ zz, O9450 zz → ¬ (fun q => q = b21) zz := fun zz hz ez => by rcases o559 zz hz with g | g; (exact i55 _ g ez); have := p552.blk_lt ez; omega
          have n572 : ∀ zz, O9450 zz → ¬ (lsF ss) zz := fun zz hz ez => by rcases o559 zz hz with g | g; (exact i56 _ g ez); have := p553.blk_lt ez; omega
          have o573 : ∀ zz, O9450 zz → h.size ≤ zz := fun zz hz => by rcases o559 zz hz with g | g; (exact i52 zz g); omega
          refine wc_ev [ltT 5 0 3 c64, evV 6 0 (vP b70 o71) (show indexAddrA Tryz.prog 77 (vL sb35 zs40.length cq36) (vI ka) = some (vP b70 o71) from a74 und77 size81 e67), evV 6 1 (vA #[(Value.int .u8 (v66.kd)), (Value.int .u8 (v66.id)), (Value.int .u8 (v66.rs)), (Value.int .u8 (v66.nw))]) (show loadT Tryz.prog h47 81 (vP b70 o71) = some (vA #[(Value.int .u8 (v66.kd)), (Value.int .u8 (v66.id)), (Value.int .u8 (v66.rs)), (Value.int .u8 (v66.nw))]) from (k72.keep fun b r _ q => x48 b r q).agg (j := 0) agg81 size81 (show 0 + 4 ≤ 4 by decide) (by kernel_rfl)), evA 6 2 eb78 e80, evUw 6 3 size81 f81 e94, evC 7 1 1 agg5 f95, evV 7 2 (Value.int .u8 (Int.tmod (v66.id) 8)) (show binA Tryz.prog .rem 5 (Value.int .u8 (v66.id)) (Value.int .u8 8) = some (Value.int .u8 (Int.tmod (v66.id) 8)) from rem_int (by omega)), evV 7 3 (vI (Int.tmod (v66.id) 8)) (show (vI (Int.tmod (v66.id) 8)) = (vI (IntKind.i64.wrap (Int.tmod (v66.id) 8))) from by congr 1; rw [IntKind.wrap_i64]; omega), evV 7 4 (vI (1 + (Int.tmod (v66.id) 8))) (show binA Tryz.prog .add 3 (vI 1) (vI (Int.tmod (v66.id) 8)) = some (vI (1 + (Int.tmod (v66.id) 8))) from add_i64 (by omega) (by omega)), evV 20 1 (vP b21 o110) (show indexAddrA Tryz.prog 79 (vP b21 0) (vI (1 + (Int.tmod (v66.id) 8))) = some (vP b21 o110) from a112 e106), evV 20 2 (vB true) (show loadT Tryz.prog h93 4 (vP b21 o110) = some (vB true) from (by rw [← c114]; exact k111.cell (j := 0) agg4 rfl)), evC 25 1 0 agg5 f95, evV 25 2 (Value.int .u8 (Int.tmod (v66.kd) 8)) (show binA Tryz.prog .rem 5 (Value.int .u8 (v66.kd)) (Value.int .u8 8) = some (Value.int .u8 (Int.tmod (v66.kd) 8)) from rem_int (by omega)), evV 25 3 (vB false) (show binA Tryz.prog .eql 5 (Value.int .u8 (Int.tmod (v66.kd) 8)) (Value.int .u8 0) = some (vB false) from cmp_eql (decide_eq_false c116)), evV 8 1 (vP b11 o261) (show indexAddrA Tryz.prog 78 (vP b11 0) (vI (1 + (Int.tmod (v66.id) 8))) = some (vP b11 o261) from a263 e106), evV 8 2 (vA #[(vS v105.1.d.name), (vI v105.1.d.rt), (vI v105.1.d.dl), (vL v105.2.1 v105.1.d.xs.length v105.2.2), (vI v105.1.st), (vI v105.1.ix), (vB v105.1.cn), (vI v105.1.tr), (vI v105.1.bg), (vI v105.1.er)]) (show loadT Tryz.prog h93 38 (vP b11 o261) = some (vA #[(vS v105.1.d.name), (vI v105.1.d.rt), (vI v105.1.d.dl), (vL v105.2.1 v105.1.d.xs.length v105.2.2), (vI v105.1.st), (vI v105.1.ix), (vB v105.1.cn), (vI v105.1.tr), (vI v105.1.bg), (vI v105.1.er)]) from k262.agg (j := 0) agg38 size38 (show 0 + 10 ≤ 10 by decide) (by kernel_rfl)), evF 8 3 (by rw [nextV_done c266 c277] at s269; exact s269), evA 8 8 eb483 e485, evUw 8 9 size33 f486 e501, evLw 11 0 agg33 size33 f502, evA 11 1 eb510 e512, evUw 11 2 size33 f513 e528, evT 12 2 0 size3 f529 e537, evLw 14 2 agg33 size33 f538, evLw 14 3 agg81 size81 f539, evC 14 6 3 agg5 f539, evV 14 7 (vI v66.nw) (show (vI v66.nw) = (vI (IntKind.i64.wrap (v66.nw))) from by congr 1; rw [IntKind.wrap_i64]; omega), evF 14 4 sn546, evC 99 0 3 agg5 f548, evLw 99 0 agg33 size33 f549, evF 14 8 s556, evV 31 0 (vI ((ka) + 1)) (show binA Tryz.prog .add 3 (vI ka) (vI 1) = some (vI ((ka) + 1)) from add_i64 (by omega) (by omega))] .normal h555 [(35, (vB true)), (36, (vP b70 o71)), (37, (vA #[(Value.int .u8 (v66.kd)), (Value.int .u8 (v66.id)), (Value.int .u8 (v66.rs)), (Value.int .u8 (v66.nw))])), (7, (vP b77 0)), (38, (vP b77 1)), (39, (Value.int .u8 (v66.id))), (40, (Value.int .u8 (Int.tmod (v66.id) 8))), (41, (vI (Int.tmod (v66.id) 8))), (42, (vI (1 + (Int.tmod (v66.id) 8)))), (8, (vI (1 + (Int.tmod (v66.id) 8)))), (99, (vI (1 + (Int.tmod (v66.id) 8)))), (100, (vP b21 o110)), (101, (vB true)), (102, (vB false)), (98, (vB false)), (133, (vP b77 0)), (134, (Value.int .u8 (v66.kd))), (135, (Value.int .u8 (Int.tmod (v66.kd) 8))), (136, (vB false)), (132, (vB false)), (44, (vI (1 + (Int.tmod (v66.id) 8)))), (45, (vP b11 o261)), (46, (vA #[(vS v105.1.d.name), (vI v105.1.d.rt), (vI v105.1.d.dl), (vL v105.2.1 v105.1.d.xs.length v105.2.2), (vI v105.1.st), (vI v105.1.ix), (vB v105.1.cn), (vI v105.1.tr), (vI v105.1.bg), (vI v105.1.er)])), (47, (vT #[(vA #[(vI 0), (vI 0), (vI 0)]), (vB false), (vI 0)])), (43, (vT #[(vA #[(vI 0), (vI 0), (vI 0)]), (vB false), (vI 0)])), (48, (vA #[(vI 0), (vI 0), (vI 0)])), (49, (vB false)), (50, (vI 0)), (13, (vP b482 0)), (14, (vB false)), (15, (vI 0)), (51, (vI 0)), (52, (vB false)), (53, (vA #[(vI 0), (vI 0), (vI 0)])), (16, (vP b509 0)), (54, (vI (1 + (Int.tmod (v66.id) 8)))), (55, (vP b509 0)), (56, (vB false)), (57, (vB true)), (58, (vP b4 0)), (59, (vI (1 + (Int.tmod (v66.id) 8)))), (60, (vA #[(vI (1 + (Int.tmod (v66.id) 8))), (vI 0), (vI 0)])), (61, (vA #[(Value.int .u8 (v66.kd)), (Value.int .u8 (v66.id)), (Value.int .u8 (v66.rs)), (Value.int .u8 (v66.nw))])), (63, (vP b77 3)), (64, (Value.int .u8 (v66.nw))), (65, (vI v66.nw)), (62, (vI ((resD v66)))), (66, (vI 9)), (67, (vB false)), (154, (vI ((ka) + 1))), (34, (vI ((ka) + 1)))] ?_
          exact ⟨zs40.length - (ka + 1).toNat, by omega, ⟨ka + 1, mm, ss, bs, O9450, (fun i => ([vU, vU, (g0 2), vU, vU, vU, vU, (vP b77 0), (vI (1 + (Int.tmod (v66.id) 8))), (g0 9), (g0 10), (g0 11), (g0 12), (vP b482 0), (vB false), (vI 0), (vP b509 0), (g0 17), (g0 18), vU, vU, vU, vU, vU, vU, vU, vU, vU, vU, vU, vU, vU, vU, vU, vU, (vB true), (vP b70 o71), (vA #[(Value.int .u8 (v66.kd)), (Value.int .u8 (v66.id)), (Value.int .u8 (v66.rs)), (Value.int .u8 (v66.nw))]), (vP b77 1), (Value.int .u8 (v66.id)), (Value.int .u8 (Int.tmod (v66.id) 8)), (vI (Int.tmod (v66.id) 8)), (vI (1 + (Int.tmod (v66.id) 8))), (vT #[(vA #[(vI 0), (vI 0), (vI 0)]), (vB false), (vI 0)]), (vI (1 + (Int.tmod (v66.id) 8))), (vP b11 o261), (vA #[(vS v105.1.d.name), (vI v105.1.d.rt), (vI v105.1.d.dl), (vL v105.2.1 v105.1.d.xs.length v105.2.2), (vI v105.1.st), (vI v105.1.ix), (vB v105.1.cn), (vI v105.1.tr), (vI v105.1.bg), (vI v105.1.er)]), (vT #[(vA #[(vI 0), (vI 0), (vI 0)]), (vB false), (vI 0)]), (vA #[(vI 0), (vI 0), (vI 0)]), (vB false), (vI 0), (vI 0), (vB false), (vA #[(vI 0), (vI 0), (vI 0)]), (vI (1 + (Int.tmod (v66.id) 8))), (vP b509 0), (vB false), (vB true), (vP b4 0), (vI (1 + (Int.tmod (v66.id) 8))), (vA #[(vI (1 + (Int.tmod (v66.id) 8))), (vI 0), (vI 0)]), (vA #[(Value.int .u8 (v66.kd)), (Value.int .u8 (v66.id)), (Value.int .u8 (v66.rs)), (Value.int .u8 (v66.nw))]), (vI ((resD v66))), (vP b77 3), (Value.int .u8 (v66.nw)), (vI v66.nw), (vI 9), (vB false), (g0 68), (g0 69), (g0 70), (g0 71), (g0 72), (g0 73), (g0 74), (g0 75), (g0 76), (g0 77), (g0 78), (g0 79), (g0 80), (g0 81), (g0 82), (g0 83), (g0 84), (g0 85), (g0 86), (g0 87), (g0 88), (g0 89), (g0 90), (g0 91), (g0 92), (g0 93), (g0 94), (g0 95), (g0 96), (g0 97), (vB false), (vI (1 + (Int.tmod (v66.id) 8))), (vP b21 o110), (vB true), (vB false), (g0 103), (g0 104), (g0 105), (g0 106), (g0 107), (g0 108), (g0 109), (g0 110), (g0 111), (g0 112), (g0 113), (g0 114), (g0 115), (g0 116), (g0 117), (g0 118), (g0 119), (g0 120), (g0 121), (g0 122), (g0 123), (g0 124), (g0 125), (g0 126), (g0 127), (g0 128), (g0 129), (g0 130), (g0 131), (vB false), (vP b77 0), (Value.int .u8 (v66.kd)), (Value.int .u8 (Int.tmod (v66.kd) 8)), (vB false), (g0 137), (g0 138), (g0 139), (g0 140), (g0 141), (g0 142), (g0 143), (g0 144), (g0 145), (g0 146), (g0 147), (g0 148), (g0 149), (g0 150), (g0 151), (g0 152), (g0 153), (vI ((ka) + 1))] : List Value).getD i undef), by as_aux_lemma => kernel_rfl, x565, rfl, by omega, i51, o573, k560, n570, n571, n572, i57, i58, i59, p558, p566, p567, p568⟩⟩
    · obtain ⟨b574, eb575⟩ : ∃ zq, zq = h93.size := ⟨_, rfl⟩
      obtain ⟨h576, e577⟩ : ∃ zq, zq = h93.push (.cells #[(vS .empty), (vI 0), (vI 0), (Value.slice none 0 0), (vI 0), (vI 0), (vB false), (vI 0), (vI 0), (vI 0)] 38 (0, 0)) := ⟨_, rfl⟩
      have f578 := push_new e577
      rw [← eb575] at f578
      have n579 : b574 ≠ b77 := by have := row_lt f95; omega
      have n580 : ∀ zz, Ot zz → ¬ zz = b574 := fun zz hz ez => by have := p96.blk_lt hz; omega
      have n581 : ∀ zz, (fun q => q = b11) zz → ¬ zz = b574 := fun zz hz ez => by have := p97.blk_lt hz; omega
      have n582 : ∀ zz, (fun q => q = b21) zz → ¬ zz = b574 := fun zz hz ez => by have := p98.blk_lt hz; omega
      have n583 : ∀ zz, (lsF ss) zz → ¬ zz = b574 := fun zz hz ez => by have := p99.blk_lt hz; omega
      have x584 : Ext h93 h576 := by rw [e577]; exact Ext.push _ _
      have o585 : h.size ≤ b574 := by have := x100.size; omega
      have f586 := x584 _ _ f95
      have p587 := p96.keep fun b r _ q => x584 b r q
      have p588 := p97.keep fun b r _ q => x584 b r q
      have p589 := p98.keep fun b r _ q => x584 b r q
      have p590 := p99.keep fun b r _ q => x584 b r q
      have x591 := x100.trans x584
      obtain ⟨_, h592, s593, w594, c595, rfl, o596, x597, n598⟩ := def_ok h576 (v66.rs) (by omega)
      obtain ⟨d599, e600⟩ : ∃ q, q = defN (v66.rs) := ⟨_, rfl⟩
      rw [← e600] at s593 o596 n598
      have k601 : defB d599 = true := by rw [e600]; exact defN_ok (by omega)
      have q602 := defB_of k601
      have f603 := x597 _ _ f586
      have f604 := x597 _ _ f578
      have p605 := p587.keep fun b r _ q => x597 b r q
      have p606 := p588.keep fun b r _ q => x597 b r q
      have p607 := p589.keep fun b r _ q => x597 b r q
      have p608 := p590.keep fun b r _ q => x597 b r q
      have x609 := x591.trans x597
      have z610 : h.size ≤ h576.size := x591.size
      have o611 : ∀ zz, blk (Value.slice w594 (d599.xs.length) (c595)) zz → h.size ≤ zz := fun zz hz => by have := n598 zz hz; omega
      obtain ⟨v612, h613, s614, p615, p616, x617⟩ := sstart_ok h592 d599 _ _ (OwnAt.lat o596 stepc_size (tsz_of size67)) (by omega) (v66.nw)
      have f618 := x617 _ _ f603
      have f619 := x617 _ _ f604
      have p620 := p605.keep fun b r _ q => x617 b r q
      have p621 := p606.keep fun b r _ q => x617 b r q
      have p622 := p607.keep fun b r _ q => x617 b r q
      have p623 := p608.keep fun b r _ q => x617 b r q
      have x624 := x609.trans x617
      by_cases c625 : ((staE d599 (v66.nw)) : Int) = 0
      · obtain ⟨w626, c627, p628, o629, n630⟩ := p616 c625
        obtain ⟨s631, e632⟩ : ∃ q, q = staS d599 (v66.nw) := ⟨_, rfl⟩
        have e633 : s631.d = d599 := by rw [e632]; rfl
        have e634 : s631.d.xs.length = (d599).xs.length := by rw [e633]
        rw [← e632, ← e633] at p628
        rw [← e633] at o629 n630
        have c635 : chkS s631 = 0 := by rw [e632]; exact sta_ok c625
        have z636 : h.size ≤ h592.size := x609.size
        have n637 : ∀ zz, blk (Value.slice w626 (s631.d.xs.length) (c627)) zz → ¬ zz = b574 := fun zz hz ez => by have := n630 zz hz; have := row_lt f604; omega
        have n638 : ∀ zz, blk (Value.slice w626 (s631.d.xs.length) (c627)) zz → ¬ Ot zz := fun zz hz ez => by have := n630 zz hz; have := p605.blk_lt ez; omega
        have n639 : ∀ zz, blk (Value.slice w626 (s631.d.xs.length) (c627)) zz → ¬ (fun q => q = b11) zz := fun zz hz ez => by have := n630 zz hz; have := p606.blk_lt ez; omega
        have o640 : ∀ zz, blk (Value.slice w626 (s631.d.xs.length) (c627)) zz → h.size ≤ zz := fun zz hz => by have := n630 zz hz; omega
        obtain ⟨h641, e642⟩ : ∃ zq, zq = h613.setIfInBounds b574 (.cells #[(vS s631.d.name), (vI (s631.d.rt)), (vI (s631.d.dl)), (Value.slice w626 (s631.d.xs.length) (c627)), (vI (s631.st)), (vI (s631.ix)), (vB s631.cn), (vI (s631.tr)), (vI (s631.bg)), (vI (s631.er))] 38 (0, 0)) := ⟨_, rfl⟩
        have f643 := set_same e642 f619
        have f644 := set_other e642 f618 n579
        have p645 := p620.keep fun b r hb q => (Chg.set e642).same b r q (n580 b hb)
        have p646 := p621.keep fun b r hb q => (Chg.set e642).same b r q (n581 b hb)
        have p647 := p622.keep fun b r hb q => (Chg.set e642).same b r q (n582 b hb)
        have p648 := p623.keep fun b r hb q => (Chg.set e642).same b r q (n583 b hb)
        have p649 := o629.keep fun b r hb q => (Chg.set e642).same b r q (n637 b hb)
        have x650 := Ext.setNew x624 e642 o585
        obtain ⟨_, h651, s652, w653, c654, rfl, o655, x656, n657⟩ := def_ok h641 (v66.rs) (by omega)
        rw [← e600] at s652 o655 n657
        have f658 := x656 _ _ f644
        have f659 := x656 _ _ f643
        have p660 := p645.keep fun b r _ q => x656 b r q
        have p661 := p646.keep fun b r _ q => x656 b r q
        have p662 := p647.keep fun b r _ q => x656 b r q
        have p663 := p648.keep fun b r _ q => x656 b r q
        have p664 := p649.keep fun b r _ q => x656 b r q
        have x665 := x650.trans x656
        have z666 : h.size ≤ h641.size := x650.size
        have o667 : ∀ zz, blk (Value.slice w653 (d599.xs.length) (c654)) zz → h.size ≤ zz := fun zz hz => by have := n657 zz hz; omega
        obtain ⟨_, h668, s669, rfl, x670, O9625, p671, o672⟩ := tstart_ok h651 p660 i53 (1 + (Int.tmod (v66.id) 8)) d599 _ _ (OwnAt.lat o655 stepc_size (tsz_of size67)) (by omega) (v66.nw)
        have k673 := WfT.start i53 (1 + (Int.tmod (v66.id) 8)) d599 (v66.nw)
        have f674 : findK mm (1 + (Int.tmod (v66.id) 8)) = none := by rw [e106]; exact i51.all i104 v105 false g107 (by rw [g109, c114])
        have q675 := start_is (k := (1 + (Int.tmod (v66.id) 8))) (n := (v66.nw)) (by omega) k601 f674 (by have := i51.len i53; omega)
        have e676 : startE mm (1 + (Int.tmod (v66.id) 8)) d599 (v66.nw) = 0 := q675.1
        rw [e676] at s669
        have e677 : (startM mm (1 + (Int.tmod (v66.id) 8)) d599 (v66.nw)) = (insT (1 + (Int.tmod (v66.id) 8)) (staS d599 (v66.nw)) mm) := q675.2
        rw [e677] at p671 k673
        have z678 : h.size ≤ h651.size := x665.size
        have x679 : Ext h _ := (Chg.then (O := fun _ => False) (Chg.ext x665) x670 (fun b hb => .inr (i52 b hb))).toExt'
        have f680 := x670.same _ _ f659 (fun hb => n580 _ hb rfl)
        have p681 := p661.keep fun b r hb q => x670.same b r q ((fun b hb hb2 => i54 b hb2 hb) b hb)
        have p682 := p662.keep fun b r hb q => x670.same b r q ((fun b hb hb2 => i55 b hb2 hb) b hb)
        have p683 := p663.keep fun b r hb q => x670.same b r q ((fun b hb hb2 => i56 b hb2 hb) b hb)
        have p684 := p664.keep fun b r hb q => x670.same b r q (n638 b hb)
        have z685 : h.size ≤ h651.size := x665.size
        have n686 : ∀ zz, O9625 zz → ¬ (fun q => q = b11) zz := fun zz hz ez => by rcases o672 zz hz with g | g; (exact i54 _ g ez); have := p661.blk_lt ez; omega
        have n687 : ∀ zz, O9625 zz → ¬ (fun q => q = b21) zz := fun zz hz ez => by rcases o672 zz hz with g | g; (exact i55 _ g ez); have := p662.blk_lt ez; omega
        have n688 : ∀ zz, O9625 zz → ¬ (lsF ss) zz := fun zz hz ez => by rcases o672 zz hz with g | g; (exact i56 _ g ez); have := p663.blk_lt ez; omega
        have n689 : ∀ zz, O9625 zz → ¬ (blk (Value.slice w626 (s631.d.xs.length) (c627))) zz := fun zz hz ez => by rcases o672 zz hz with g | g; (exact n638 _ ez g); have := p664.blk_lt ez; omega
        have o690 : ∀ zz, O9625 zz → h.size ≤ zz := fun zz hz => by rcases o672 zz hz with g | g; (exact i52 zz g); omega
        obtain ⟨o691, k692, a693, u694⟩ := ArrAt.at (P := Tryz.prog) sagc_size p681 undarr78 size38 i51.ls g107
        have t695 := i51.small v105 (List.mem_of_getElem? g107)
        obtain ⟨h696, e697, p698, c699, z700⟩ := u694 (j := 0) (y := (s631, w626, c627)) (u := (Value.agg #[(vS s631.d.name), (vI (s631.d.rt)), (vI (s631.d.dl)), (Value.slice w626 (s631.d.xs.length) (c627)), (vI (s631.st)), (vI (s631.ix)), (vB s631.cn), (vI (s631.tr)), (vI (s631.bg)), (vI (s631.er))])) size38 rfl rfl (by decide) (by kernel_rfl)
        have c701 : Chg (fun q => q = b11) h668 h696 := c699.weak fun q hq => by subst hq; exact rfl
        have z702 : h.size ≤ h668.size := x679.size
        have x703 : Ext h _ := (Chg.then (O := fun _ => False) (Chg.ext x679) c701 (fun b hb => .inr (i57 b hb))).toExt'
        have p704 := p671.keep fun b r hb q => c701.same b r q (n686 b hb)
        have p705 := p682.keep fun b r hb q => c701.same b r q ((fun z (hz : z = b21) (hw : z = b11) => row_ne p682 p681 (by decide) (hz.symm.trans hw)) b hb)
        have p706 := p683.keep fun b r hb q => c701.same b r q ((p683.ne p681 (by decide)) b hb)
        have p707 := p684.keep fun b r hb q => c701.same b r q (n639 b hb)
        obtain ⟨p708, f709⟩ := LsAt.set p706 (y := (s631, w626, c627)) p707 i104
        have n710 : ∀ zz, lsF (ss.set i104 (s631, w626, c627)) zz → h.size ≤ zz := fun zz hz => (f709 zz hz).elim (i59 zz) (o640 zz)
        have n711 : ∀ zz, lsF (ss.set i104 (s631, w626, c627)) zz → ¬ O9625 zz := fun zz hz => (f709 zz hz).elim ((fun zz hz hz2 => n688 zz hz2 hz) zz) ((fun zz hz hz2 => n689 zz hz2 hz) zz)
        obtain ⟨o712, k713, a714, u715⟩ := ArrAt.at (P := Tryz.prog) boolc_size p705 undarr79 size4 i51.lb g109
        obtain ⟨h716, e717, p718, c719, z720⟩ := u715 (j := 0) (y := true) (u := (vB true)) size4 rfl rfl (by decide) (by kernel_rfl)
        have c721 : Chg (fun q => q = b21) h696 h716 := c719.weak fun q hq => by subst hq; exact rfl
        have z722 : h.size ≤ h696.size := x703.size
        have x723 : Ext h _ := (Chg.then (O := fun _ => False) (Chg.ext x703) c721 (fun b hb => .inr (i58 b hb))).toExt'
        have p724 := p704.keep fun b r hb q => c721.same b r q (n687 b hb)
        have p725 := p698.keep fun b r hb q => c721.same b r q ((fun z (hz : z = b11) (hw : z = b21) => row_ne p698 p705 (by decide) (hz.symm.trans hw)) b hb)
        have p726 := p708.keep fun b r hb q => c721.same b r q ((p708.ne p705 (by decide)) b hb)
        refine wc_ev [ltT 5 0 3 c64, evV 6 0 (vP b70 o71) (show indexAddrA Tryz.prog 77 (vL sb35 zs40.length cq36) (vI ka) = some (vP b70 o71) from a74 und77 size81 e67), evV 6 1 (vA #[(Value.int .u8 (v66.kd)), (Value.int .u8 (v66.id)), (Value.int .u8 (v66.rs)), (Value.int .u8 (v66.nw))]) (show loadT Tryz.prog h47 81 (vP b70 o71) = some (vA #[(Value.int .u8 (v66.kd)), (Value.int .u8 (v66.id)), (Value.int .u8 (v66.rs)), (Value.int .u8 (v66.nw))]) from (k72.keep fun b r _ q => x48 b r q).agg (j := 0) agg81 size81 (show 0 + 4 ≤ 4 by decide) (by kernel_rfl)), evA 6 2 eb78 e80, evUw 6 3 size81 f81 e94, evC 7 1 1 agg5 f95, evV 7 2 (Value.int .u8 (Int.tmod (v66.id) 8)) (show binA Tryz.prog .rem 5 (Value.int .u8 (v66.id)) (Value.int .u8 8) = some (Value.int .u8 (Int.tmod (v66.id) 8)) from rem_int (by omega)), evV 7 3 (vI (Int.tmod (v66.id) 8)) (show (vI (Int.tmod (v66.id) 8)) = (vI (IntKind.i64.wrap (Int.tmod (v66.id) 8))) from by congr 1; rw [IntKind.wrap_i64]; omega), evV 7 4 (vI (1 + (Int.tmod (v66.id) 8))) (show binA Tryz.prog .add 3 (vI 1) (vI (Int.tmod (v66.id) 8)) = some (vI (1 + (Int.tmod (v66.id) 8))) from add_i64 (by omega) (by omega)), evV 20 1 (vP b21 o110) (show indexAddrA Tryz.prog 79 (vP b21 0) (vI (1 + (Int.tmod (v66.id) 8))) = some (vP b21 o110) from a112 e106), evV 20 2 (vB false) (show loadT Tryz.prog h93 4 (vP b21 o110) = some (vB false) from (by rw [← c114]; exact k111.cell (j := 0) agg4 rfl)), evC 21 1 2 agg5 f95, evC 21 4 3 agg5 f95, evV 21 5 (vI v66.nw) (show (vI v66.nw) = (vI (IntKind.i64.wrap (v66.nw))) from by congr 1; rw [IntKind.wrap_i64]; omega), evA 21 10 eb575 e577, evF 21 2 s593, evC 99 0 3 agg5 f603, evFe 21 6 p628 s614, evUw 21 11 size38 f619 e642, evC 22 6 2 agg5 f644, evC 22 9 3 agg5 f644, evV 22 10 (vI v66.nw) (show (vI v66.nw) = (vI (IntKind.i64.wrap (v66.nw))) from by congr 1; rw [IntKind.wrap_i64]; omega), evF 22 7 s652, evC 99 0 3 agg5 f658, evF 22 11 s669, evLw 24 2 agg38 size38 f680, evV 24 3 (vP b11 o691) (show indexAddrA Tryz.prog 78 (vP b11 0) (vI (1 + (Int.tmod (v66.id) 8))) = some (vP b11 o691) from a693 e106), evH 24 4 undef h696 (show (storeT Tryz.prog h668 38 (vP b11 o691) (vA #[(vS s631.d.name), (vI s631.d.rt), (vI s631.d.dl), (vL w626 s631.d.xs.length c627), (vI s631.st), (vI s631.ix), (vB s631.cn), (vI s631.tr), (vI s631.bg), (vI s631.er)]) = some h696 ∧ (undef : Value) = undef) from ⟨e697, rfl⟩), evV 24 5 (vP b21 o712) (show indexAddrA Tryz.prog 79 (vP b21 0) (vI (1 + (Int.tmod (v66.id) 8))) = some (vP b21 o712) from a714 e106), evH 24 6 undef h716 (show (storeT Tryz.prog h696 4 (vP b21 o712) (vB true) = some h716 ∧ (undef : Value) = undef) from ⟨e717, rfl⟩), evV 31 0 (vI ((ka) + 1)) (show binA Tryz.prog .add 3 (vI ka) (vI 1) = some (vI ((ka) + 1)) from add_i64 (by omega) (by omega))] .normal h716 [(35, (vB true)), (36, (vP b70 o71)), (37, (vA #[(Value.int .u8 (v66.kd)), (Value.int .u8 (v66.id)), (Value.int .u8 (v66.rs)), (Value.int .u8 (v66.nw))])), (7, (vP b77 0)), (38, (vP b77 1)), (39, (Value.int .u8 (v66.id))), (40, (Value.int .u8 (Int.tmod (v66.id) 8))), (41, (vI (Int.tmod (v66.id) 8))), (42, (vI (1 + (Int.tmod (v66.id) 8)))), (8, (vI (1 + (Int.tmod (v66.id) 8)))), (99, (vI (1 + (Int.tmod (v66.id) 8)))), (100, (vP b21 o110)), (101, (vB false)), (102, (vB true)), (98, (vB true)), (104, (vP b77 2)), (105, (Value.int .u8 (v66.rs))), (107, (vP b77 3)), (108, (Value.int .u8 (v66.nw))), (109, (vI v66.nw)), (9, (vP b574 0)), (106, (vA #[(vS d599.name), (vI d599.rt), (vI d599.dl), (vL w594 d599.xs.length c595)])), (110, (vT #[(vA #[(vS s631.d.name), (vI s631.d.rt), (vI s631.d.dl), (vL w626 s631.d.xs.length c627), (vI s631.st), (vI s631.ix), (vB s631.cn), (vI s631.tr), (vI s631.bg), (vI s631.er)]), (vI 0)])), (103, (vT #[(vA #[(vS s631.d.name), (vI s631.d.rt), (vI s631.d.dl), (vL w626 s631.d.xs.length c627), (vI s631.st), (vI s631.ix), (vB s631.cn), (vI s631.tr), (vI s631.bg), (vI s631.er)]), (vI 0)])), (111, (vA #[(vS s631.d.name), (vI s631.d.rt), (vI s631.d.dl), (vL w626 s631.d.xs.length c627), (vI s631.st), (vI s631.ix), (vB s631.cn), (vI s631.tr), (vI s631.bg), (vI s631.er)])), (112, (vI 0)), (10, (vI 0)), (113, (vI 0)), (114, (vB false)), (115, (vB false)), (116, (vP b4 0)), (117, (vI (1 + (Int.tmod (v66.id) 8)))), (118, (vP b77 2)), (119, (Value.int .u8 (v66.rs))), (121, (vP b77 3)), (122, (Value.int .u8 (v66.nw))), (123, (vI v66.nw)), (120, (vA #[(vS d599.name), (vI d599.rt), (vI d599.dl), (vL w653 d599.xs.length c654)])), (124, (vI 0)), (125, (vB false)), (126, (vB false)), (127, (vI (1 + (Int.tmod (v66.id) 8)))), (128, (vI (1 + (Int.tmod (v66.id) 8)))), (129, (vA #[(vS s631.d.name), (vI s631.d.rt), (vI s631.d.dl), (vL w626 s631.d.xs.length c627), (vI s631.st), (vI s631.ix), (vB s631.cn), (vI s631.tr), (vI s631.bg), (vI s631.er)])), (130, (vP b11 o691)), (131, (vP b21 o712)), (154, (vI ((ka) + 1))), (34, (vI ((ka) + 1)))] ?_
        exact ⟨zs40.length - (ka + 1).toNat, by omega, ⟨ka + 1, (insT (1 + (Int.tmod (v66.id) 8)) (staS d599 (v66.nw)) mm), (ss.set i104 (s631, w626, c627)), (bs.set i104 true), O9625, (fun i => ([vU, vU, (g0 2), vU, vU, vU, vU, (vP b77 0), (vI (1 + (Int.tmod (v66.id) 8))), (vP b574 0), (vI 0), (g0 11), (g0 12), (g0 13), (g0 14), (g0 15), (g0 16), (g0 17), (g0 18), vU, vU, vU, vU, vU, vU, vU, vU, vU, vU, vU, vU, vU, vU, vU, vU, (vB true), (vP b70 o71), (vA #[(Value.int .u8 (v66.kd)), (Value.int .u8 (v66.id)), (Value.int .u8 (v66.rs)), (Value.int .u8 (v66.nw))]), (vP b77 1), (Value.int .u8 (v66.id)), (Value.int .u8 (Int.tmod (v66.id) 8)), (vI (Int.tmod (v66.id) 8)), (vI (1 + (Int.tmod (v66.id) 8))), (g0 43), (g0 44), (g0 45), (g0 46), (g0 47), (g0 48), (g0 49), (g0 50), (g0 51), (g0 52), (g0 53), (g0 54), (g0 55), (g0 56), (g0 57), (g0 58), (g0 59), (g0 60), (g0 61), (g0 62), (g0 63), (g0 64), (g0 65), (g0 66), (g0 67), (g0 68), (g0 69), (g0 70), (g0 71), (g0 72), (g0 73), (g0 74), (g0 75), (g0 76), (g0 77), (g0 78), (g0 79), (g0 80), (g0 81), (g0 82), (g0 83), (g0 84), (g0 85), (g0 86), (g0 87), (g0 88), (g0 89), (g0 90), (g0 91), (g0 92), (g0 93), (g0 94), (g0 95), (g0 96), (g0 97), (vB true), (vI (1 + (Int.tmod (v66.id) 8))), (vP b21 o110), (vB false), (vB true), (vT #[(vA #[(vS s631.d.name), (vI s631.d.rt), (vI s631.d.dl), (vL w626 s631.d.xs.length c627), (vI s631.st), (vI s631.ix), (vB s631.cn), (vI s631.tr), (vI s631.bg), (vI s631.er)]), (vI 0)]), (vP b77 2), (Value.int .u8 (v66.rs)), (vA #[(vS d599.name), (vI d599.rt), (vI d599.dl), (vL w594 d599.xs.length c595)]), (vP b77 3), (Value.int .u8 (v66.nw)), (vI v66.nw), (vT #[(vA #[(vS s631.d.name), (vI s631.d.rt), (vI s631.d.dl), (vL w626 s631.d.xs.length c627), (vI s631.st), (vI s631.ix), (vB s631.cn), (vI s631.tr), (vI s631.bg), (vI s631.er)]), (vI 0)]), (vA #[(vS s631.d.name), (vI s631.d.rt), (vI s631.d.dl), (vL w626 s631.d.xs.length c627), (vI s631.st), (vI s631.ix), (vB s631.cn), (vI s631.tr), (vI s631.bg), (vI s631.er)]), (vI 0), (vI 0), (vB false), (vB false), (vP b4 0), (vI (1 + (Int.tmod (v66.id) 8))), (vP b77 2), (Value.int .u8 (v66.rs)), (vA #[(vS d599.name), (vI d599.rt), (vI d599.dl), (vL w653 d599.xs.length c654)]), (vP b77 3), (Value.int .u8 (v66.nw)), (vI v66.nw), (vI 0), (vB false), (vB false), (vI (1 + (Int.tmod (v66.id) 8))), (vI (1 + (Int.tmod (v66.id) 8))), (vA #[(vS s631.d.name), (vI s631.d.rt), (vI s631.d.dl), (vL w626 s631.d.xs.length c627), (vI s631.st), (vI s631.ix), (vB s631.cn), (vI s631.tr), (vI s631.bg), (vI s631.er)]), (vP b11 o691), (vP b21 o712), (g0 132), (g0 133), (g0 134), (g0 135), (g0 136), (g0 137), (g0 138), (g0 139), (g0 140), (g0 141), (g0 142), (g0 143), (g0 144), (g0 145), (g0 146), (g0 147), (g0 148), (g0 149), (g0 150), (g0 151), (g0 152), (g0 153), (vI ((ka) + 1))] : List Value).getD i undef), by as_aux_lemma => kernel_rfl, x723, rfl, by omega, (by have q9 := AloI.start i51 (y := (s631, w626, c627)) e106 (by omega) g107 (by rw [g109, c114]) (show s631.d.xs.length ≤ 8 by have := (defB_of (chkS_zero c635).1); omega); rw [show ((s631, w626, c627) : SagA).1 = staS d599 _ from e632] at q9; exact q9), o690, k673, n686, n687, (fun zz hz hz2 => n711 zz hz2 hz), i57, i58, n710, p724, p725, p718, p726⟩⟩
      · exact absurd (show staE d599 _ = 0 by unfold staE; rw [if_pos k601, if_pos (by omega)]) c625
  · refine wc_ev [ltF 5 0 3 c64] (.exit 0) h47 [(35, (vB false))] ?_
    refine wc_seq' (subc (bodyOf Tryz.prog 6) [1, 1, 1, 1, 1, 0]) (subc (bodyOf Tryz.prog 6) [1, 1, 1, 1, 1, 1]) (by kernel_rfl) ?_
    refine wc_ev [] .normal h47 [(19, (vL none 0 0))] ?_
    refine wc_seq' (subc (bodyOf Tryz.prog 6) [1, 1, 1, 1, 1, 1, 0]) (subc (bodyOf Tryz.prog 6) [1, 1, 1, 1, 1, 1, 1]) (by kernel_rfl) ?_
    refine wc_ev [] .normal h47 [(20, (vL none 0 0))] ?_
    refine wc_seq' (subc (bodyOf Tryz.prog 6) [1, 1, 1, 1, 1, 1, 1, 0]) (subc (bodyOf Tryz.prog 6) [1, 1, 1, 1, 1, 1, 1, 1]) (by kernel_rfl) ?_
    refine wc_seq' (subc (bodyOf Tryz.prog 6) [1, 1, 1, 1, 1, 1, 1, 0, 0]) (subc (bodyOf Tryz.prog 6) [1, 1, 1, 1, 1, 1, 1, 0, 1]) (by kernel_rfl) ?_
    refine wc_ev [] .normal h47 [(21, (vI 1))] ?_
    refine wc_block' 3 (subc (bodyOf Tryz.prog 6) [1, 1, 1, 1, 1, 1, 1, 0, 1, 0]) (by kernel_rfl) ?_
    refine wc_loop' (subc (bodyOf Tryz.prog 6) [1, 1, 1, 1, 1, 1, 1, 0, 1, 0, 0]) (by kernel_rfl) (fun n' a' h' => ∃ (kb : Int) (out : List Int) (oa : Option Addr) (oc : Nat) (nxs : List EffM) (pa : Option Addr) (pc : Nat) (g1 : Nat → Value), a' = { tmps := #[(vL sa l.length cp), vZ, (g1 2), (vP b4 0), (vP b11 0), (vP b21 0), vZ, (g0 7), (g0 8), (g0 9), (g0 10), (g0 11), (g0 12), (g0 13), (g0 14), (g0 15), (g0 16), (g0 17), (g0 18), (vL oa out.length oc), (vL pa nxs.length pc), (vI kb), (g1 22), (g1 23), (g1 24), (g1 25), (g1 26), (vP b4 0), (vL sa l.length cp), (vL sa l.length cp), (vI ((l.length : Nat))), (vI mn32), (vL sb35 zs40.length cq36), (vI ((zs40.length : Nat))), (vI ka), (vB false), (g0 36), (g0 37), (g0 38), (g0 39), (g0 40), (g0 41), (g0 42), (g0 43), (g0 44), (g0 45), (g0 46), (g0 47), (g0 48), (g0 49), (g0 50), (g0 51), (g0 52), (g0 53), (g0 54), (g0 55), (g0 56), (g0 57), (g0 58), (g0 59), (g0 60), (g0 61), (g0 62), (g0 63), (g0 64), (g0 65), (g0 66), (g0 67), (g0 68), (g0 69), (g0 70), (g0 71), (g0 72), (g0 73), (g0 74), (g0 75), (g0 76), (g0 77), (g0 78), (g0 79), (g0 80), (g0 81), (g0 82), (g0 83), (g0 84), (g0 85), (g0 86), (g0 87), (g0 88), (g0 89), (g0 90), (g0 91), (g0 92), (g0 93), (g0 94), (g0 95), (g0 96), (g0 97), (g0 98), (g0 99), (g0 100), (g0 101), (g0 102), (g0 103), (g0 104), (g0 105), (g0 106), (g0 107), (g0 108), (g0 109), (g0 110), (g0 111), (g0 112), (g0 113), (g0 114), (g0 115), (g0 116), (g0 117), (g0 118), (g0 119), (g0 120), (g0 121), (g0 122), (g0 123), (g0 124), (g0 125), (g0 126), (g0 127), (g0 128), (g0 129), (g0 130), (g0 131), (g0 132), (g0 133), (g0 134), (g0 135), (g0 136), (g0 137), (g0 138), (g0 139), (g0 140), (g0 141), (g0 142), (g0 143), (g0 144), (g0 145), (g0 146), (g0 147), (g0 148), (g0 149), (g0 150), (g0 151), (g0 152), (g0 153), (g0 154), (g1 155), (g1 156), (g1 157), (g1 158), (g1 159), (g1 160), (g1 161), (g1 162), (g1 163), (g1 164), (g1 165), (g1 166), (g1 167), (g1 168), (g1 169), (g1 170), (g1 171), (g1 172), (g1 173), (g1 174), (g1 175), (g1 176), (g1 177), (g1 178), (g1 179), (g1 180), (g1 181), (g1 182), (g1 183), (g1 184), (g1 185), (g1 186), (g1 187), (g1 188), (g1 189), (g1 190), (g1 191), (g1 192), (g1 193), (g1 194), (g1 195), (g1 196), (g1 197), (g1 198), (g1 199), (g1 200), (g1 201), (g1 202), (g1 203), (g1 204), (g1 205), (g1 206), (g1 207), (g1 208), (g1 209), (g1 210), (g1 211), (g1 212), (g1 213), (g1 214), (g1 215), (g1 216), (g1 217), (g1 218), (g1 219), (g1 220), (g1 221), vZ, vZ, vZ, vZ, vZ, vZ, vZ, vZ, vZ, vZ, vZ, vZ, vZ, vZ, vZ, vZ, vZ, vZ, vZ, vZ, vZ], defers := [] } ∧ Ext h h' ∧ n' = 9 - kb.toNat ∧ (1 ≤ kb ∧ kb ≤ 9) ∧ out = opnL (upto mm kb) ∧ nxs = nxtL (upto mm kb) ∧ (∀ zz, (blk (vL oa out.length oc)) zz → ¬ Ot zz) ∧ (∀ zz, (blk (vL oa out.length oc)) zz → ¬ (lsF ss) zz) ∧ (∀ zz, (blk (vL oa out.length oc)) zz → h.size ≤ zz) ∧ (∀ zz, (blk (vL pa nxs.length pc)) zz → ¬ Ot zz) ∧ (∀ zz, (blk (vL pa nxs.length pc)) zz → ¬ (lsF ss) zz) ∧ (∀ zz, (blk (vL pa nxs.length pc)) zz → h.size ≤ zz) ∧ OwnAt h' 3 zc out (vL oa out.length oc) ∧ OwnAt h' 33 effc nxs (vL pa nxs.length pc) ∧ TbAt 57 h' Ot b4 mm ∧ ArrAt h' sagc 78 ss b11 ∧ ArrAt h' boolc 79 bs b21 ∧ LsAt h' ss) ?_ (9 - (1 : Int).toNat) ⟨1, [], none, 0, [], none, 0, (fun i => ([vU, vU, (g0 2), vU, vU, vU, vU, vU, vU, vU, vU, vU, vU, vU, vU, vU, vU, vU, vU, vU, vU, vU, vZ, vZ, vZ, vZ, vZ, vU, vU, vU, vU, vU, vU, vU, vU, vU, vU, vU, vU, vU, vU, vU, vU, vU, vU, vU, vU, vU, vU, vU, vU, vU, vU, vU, vU, vU, vU, vU, vU, vU, vU, vU, vU, vU, vU, vU, vU, vU, vU, vU, vU, vU, vU, vU, vU, vU, vU, vU, vU, vU, vU, vU, vU, vU, vU, vU, vU, vU, vU, vU, vU, vU, vU, vU, vU, vU, vU, vU, vU, vU, vU, vU, vU, vU, vU, vU, vU, vU, vU, vU, vU, vU, vU, vU, vU, vU, vU, vU, vU, vU, vU, vU, vU, vU, vU, vU, vU, vU, vU, vU, vU, vU, vU, vU, vU, vU, vU, vU, vU, vU, vU, vU, vU, vU, vU, vU, vU, vU, vU, vU, vU, vU, vU, vU, vU, vZ, vZ, vZ, vZ, vZ, vZ, vZ, vZ, vZ, vZ, vZ, vZ, vZ, vZ, vZ, vZ, vZ, vZ, vZ, vZ, vZ, vZ, vZ, vZ, vZ, vZ, vZ, vZ, vZ, vZ, vZ, vZ, vZ, vZ, vZ, vZ, vZ, vZ, vZ, vZ, vZ, vZ, vZ, vZ, vZ, vZ, vZ, vZ, vZ, vZ, vZ, vZ, vZ, vZ, vZ, vZ, vZ, vZ, vZ, vZ, vZ, vZ, vZ, vZ, vZ, vZ, vZ] : List Value).getD i undef), by as_aux_lemma => kernel_rfl, x48, rfl, by omega, by rw [(upto_none (m := mm) (k := 1) fun p hp => by have := i53.ids p hp; omega)]; rfl, by rw [(upto_none (m := mm) (k := 1) fun p hp => by have := i53.ids p hp; omega)]; rfl, (fun _ hb _ => hb.elim), (fun _ hb _ => hb.elim), (fun _ hb => hb.elim), (fun _ hb _ => hb.elim), (fun _ hb _ => hb.elim), (fun _ hb => hb.elim), (.inl ⟨rfl, rfl⟩ : OwnAt h47 3 zc ([] : List Int) (.slice none 0 0)), (.inl ⟨rfl, rfl⟩ : OwnAt h47 33 effc ([] : List EffM) (.slice none 0 0)), p60, p61, p62, p63⟩
    rintro n' _ h727 ⟨kb, out, oa, oc, nxs, pa, pc, g1, rfl, x728, m729, i730, i731, i732, i733, i734, i735, i736, i737, i738, p739, p740, p741, p742, p743, p744⟩
    have lo1 : out.length ≤ 8 := by rw [i731]; exact Nat.le_trans (opnL_len _) (Nat.le_trans (upto_len _ _) (i51.len i53))
    have lo2 : nxs.length ≤ 8 := by rw [i732]; exact Nat.le_trans (nxtL_len _) (Nat.le_trans (upto_len _ _) (i51.len i53))
    by_cases c745 : ((kb) : Int) ≤ 8
    · have l746' : ss.length = 9 := i51.ls
      have l747' : bs.length = 9 := i51.lb
      obtain ⟨i748, v749, e750, l746, g751⟩ := list_at ss (e := (kb)) (by omega) (by omega)
      obtain ⟨v752, g753⟩ : ∃ b, bs[i748]? = some b := ⟨_, List.getElem?_eq_getElem (by omega)⟩
      rcases Bool.eq_false_or_eq_true (v752) with c754 | c754
      · have f755 : findK mm (kb) = some v749.1 := by rw [e750]; exact i51.all i748 v749 true g751 (by rw [g753, c754])
        have c756 := ((i53).at f755).1
        obtain ⟨v757, h758, s759, p760, p761, x762⟩ := tget_ok h727 p741 i53 (kb)
        have p763 := p739.keep fun b r _ q => x762 b r q
        have p764 := p740.keep fun b r _ q => x762 b r q
        have p765 := p741.keep fun b r _ q => x762 b r q
        have p766 := p742.keep fun b r _ q => x762 b r q
        have p767 := p743.keep fun b r _ q => x762 b r q
        have p768 := p744.keep fun b r _ q => x762 b r q
        have x769 := x728.trans x762
        have c770 : getE mm (kb) = 0 := (getE_some f755).1
        obtain ⟨w771, c772, p773, o774, n775⟩ := p761 c770
        have f776 := getE_zero c770
        have c777 := ((i53).at f776).1
        have e778 : (getS mm (kb)) = v749.1 := (getE_some f755).2
        rw [e778] at p773 o774 n775 c777 f776
        have z779 : h.size ≤ h727.size := x728.size
        have o780 : ∀ zz, blk (Value.slice w771 (v749.1.d.xs.length) (c772)) zz → h.size ≤ zz := fun zz hz => by have := n775 zz hz; omega
        obtain ⟨b781, eb782⟩ : ∃ zq, zq = h758.size := ⟨_, rfl⟩
        obtain ⟨h783, e784⟩ : ∃ zq, zq = h758.push (.cells #[(vS .empty), (vI 0), (vI 0), (Value.slice none 0 0), (vI 0), (vI 0), (vB false), (vI 0), (vI 0), (vI 0)] 38 (0, 0)) := ⟨_, rfl⟩
        have f785 := push_new e784
        rw [← eb782] at f785
        have n786 : ∀ zz, (blk (Value.slice oa (out.length) (oc))) zz → ¬ zz = b781 := fun zz hz ez => by have := p763.blk_lt hz; omega
        have n787 : ∀ zz, (blk (Value.slice pa (nxs.length) (pc))) zz → ¬ zz = b781 := fun zz hz ez => by have := p764.blk_lt hz; omega
        have n788 : ∀ zz, Ot zz → ¬ zz = b781 := fun zz hz ez => by have := p765.blk_lt hz; omega
        have n789 : ∀ zz, (fun q => q = b11) zz → ¬ zz = b781 := fun zz hz ez => by have := p766.blk_lt hz; omega
        have n790 : ∀ zz, (fun q => q = b21) zz → ¬ zz = b781 := fun zz hz ez => by have := p767.blk_lt hz; omega
        have n791 : ∀ zz, (lsF ss) zz → ¬ zz = b781 := fun zz hz ez => by have := p768.blk_lt hz; omega
        have n792 : ∀ zz, (blk (Value.slice w771 (v749.1.d.xs.length) (c772))) zz → ¬ zz = b781 := fun zz hz ez => by have := o774.blk_lt hz; omega
        have x793 : Ext h758 h783 := by rw [e784]; exact Ext.push _ _
        have o794 : h.size ≤ b781 := by have := x769.size; omega
        have p795 := p763.keep fun b r _ q => x793 b r q
        have p796 := p764.keep fun b r _ q => x793 b r q
        have p797 := p765.keep fun b r _ q => x793 b r q
        have p798 := p766.keep fun b r _ q => x793 b r q
        have p799 := p767.keep fun b r _ q => x793 b r q
        have p800 := p768.keep fun b r _ q => x793 b r q
        have p801 := o774.keep fun b r _ q => x793 b r q
        have x802 := x769.trans x793
        obtain ⟨h803, e804⟩ : ∃ zq, zq = h783.setIfInBounds b781 (.cells #[(vS v749.1.d.name), (vI (v749.1.d.rt)), (vI (v749.1.d.dl)), (Value.slice w771 (v749.1.d.xs.length) (c772)), (vI (v749.1.st)), (vI (v749.1.ix)), (vB v749.1.cn), (vI (v749.1.tr)), (vI (v749.1.bg)), (vI (v749.1.er))] 38 (0, 0)) := ⟨_, rfl⟩
        have f805 := set_same e804 f785
        have p806 := p795.keep fun b r hb q => (Chg.set e804).same b r q (n786 b hb)
        have p807 := p796.keep fun b r hb q => (Chg.set e804).same b r q (n787 b hb)
        have p808 := p797.keep fun b r hb q => (Chg.set e804).same b r q (n788 b hb)
        have p809 := p798.keep fun b r hb q => (Chg.set e804).same b r q (n789 b hb)
        have p810 := p799.keep fun b r hb q => (Chg.set e804).same b r q (n790 b hb)
        have p811 := p800.keep fun b r hb q => (Chg.set e804).same b r q (n791 b hb)
        have p812 := p801.keep fun b r hb q => (Chg.set e804).same b r q (n792 b hb)
        have x813 := Ext.setNew x802 e804 o794
        obtain ⟨o814, k815, a816, u817⟩ := ArrAt.at (P := Tryz.prog) boolc_size p810 undarr79 size4 i51.lb g753
        obtain ⟨o818, k819, a820, u821⟩ := ArrAt.at (P := Tryz.prog) boolc_size p810 undarr79 size4 i51.lb g753
        obtain ⟨o822, k823, a824, u825⟩ := ArrAt.at (P := Tryz.prog) sagc_size p809 undarr78 size38 i51.ls g751
        have t826 := i51.small v749 (List.mem_of_getElem? g751)
        obtain ⟨_, hh827, sn828, rfl, x829⟩ := lsame_ok h803 v749.1 _ _ (OwnAt.lat p812 stepc_size (tsz_of size67)) (by omega) _ _ (p811.at g751)
        have p830 := p806.keep fun b r _ q => x829 b r q
        have p831 := p807.keep fun b r _ q => x829 b r q
        have p832 := p808.keep fun b r _ q => x829 b r q
        have p833 := p809.keep fun b r _ q => x829 b r q
        have p834 := p810.keep fun b r _ q => x829 b r q
        have p835 := p811.keep fun b r _ q => x829 b r q
        have p836 := (p811.at g751).keep fun b r _ q => x829 b r q
        have x837 := x813.trans x829
        obtain ⟨o838, k839, a840, u841⟩ := ArrAt.at (P := Tryz.prog) boolc_size p834 undarr79 size4 i51.lb g753
        obtain ⟨o842, k843, a844, u845⟩ := ArrAt.at (P := Tryz.prog) sagc_size p833 undarr78 size38 i51.ls g751
        obtain ⟨_, h846, s847, rfl, x848⟩ := nextV_ok hh827 v749.1 _ _ p836 (by omega) (x837 _ _ hg0) (x837 _ _ hg1)
        have p849 := p830.keep fun b r _ q => x848 b r q
        have p850 := p831.keep fun b r _ q => x848 b r q
        have p851 := p832.keep fun b r _ q => x848 b r q
        have p852 := p833.keep fun b r _ q => x848 b r q
        have p853 := p834.keep fun b r _ q => x848 b r q
        have p854 := p835.keep fun b r _ q => x848 b r q
        have x855 := x837.trans x848
        obtain ⟨z9862d, z9862b, z9862o⟩ := chkS_zero c777
        have := defB_of z9862d
        have := budB_of z9862b
        have z9862i := okI_of z9862o
        have := z9862i.1
        by_cases c856 : ((v749.1.st) : Int) < 4
        · obtain ⟨b857, eb858⟩ : ∃ zq, zq = h846.size := ⟨_, rfl⟩
          obtain ⟨h859, e860⟩ : ∃ zq, zq = h846.push (.cells #[(vI 0), (vI 0), (vI 0)] 33 (0, 0)) := ⟨_, rfl⟩
          have f861 := push_new e860
          rw [← eb858] at f861
          have n862 : ∀ zz, (blk (Value.slice oa (out.length) (oc))) zz → ¬ zz = b857 := fun zz hz ez => by have := p849.blk_lt hz; omega
          have n863 : ∀ zz, (blk (Value.slice pa (nxs.length) (pc))) zz → ¬ zz = b857 := fun zz hz ez => by have := p850.blk_lt hz; omega
          have n864 : ∀ zz, Ot zz → ¬ zz = b857 := fun zz hz ez => by have := p851.blk_lt hz; omega
          have n865 : ∀ zz, (fun q => q = b11) zz → ¬ zz = b857 := fun zz hz ez => by have := p852.blk_lt hz; omega
          have n866 : ∀ zz, (fun q => q = b21) zz → ¬ zz = b857 := fun zz hz ez => by have := p853.blk_lt hz; omega
          have n867 : ∀ zz, (lsF ss) zz → ¬ zz = b857 := fun zz hz ez => by have := p854.blk_lt hz; omega
          have x868 : Ext h846 h859 := by rw [e860]; exact Ext.push _ _
          have o869 : h.size ≤ b857 := by have := x855.size; omega
          have p870 := p849.keep fun b r _ q => x868 b r q
          have p871 := p850.keep fun b r _ q => x868 b r q
          have p872 := p851.keep fun b r _ q => x868 b r q
          have p873 := p852.keep fun b r _ q => x868 b r q
          have p874 := p853.keep fun b r _ q => x868 b r q
          have p875 := p854.keep fun b r _ q => x868 b r q
          have x876 := x855.trans x868
          obtain ⟨h877, e878⟩ : ∃ zq, zq = h859.setIfInBounds b857 (.cells #[(vI 0), (vI (v749.1.ix)), (vI (phS (v749.1.st)))] 33 (0, 0)) := ⟨_, rfl⟩
          have f879 := set_same e878 f861
          have p880 := p870.keep fun b r hb q => (Chg.set e878).same b r q (n862 b hb)
          have p881 := p871.keep fun b r hb q => (Chg.set e878).same b r q (n863 b hb)
          have p882 := p872.keep fun b r hb q => (Chg.set e878).same b r q (n864 b hb)
          have p883 := p873.keep fun b r hb q => (Chg.set e878).same b r q (n865 b hb)
          have p884 := p874.keep fun b r hb q => (Chg.set e878).same b r q (n866 b hb)
          have p885 := p875.keep fun b r hb q => (Chg.set e878).same b r q (n867 b hb)
          have x886 := Ext.setNew x876 e878 o869
          obtain ⟨o887, k888, a889, u890⟩ := ArrAt.at (P := Tryz.prog) boolc_size p884 undarr79 size4 i51.lb g753
          obtain ⟨h891, e892⟩ : ∃ zq, zq = h877.setIfInBounds b857 (.cells #[(vI (kb)), (vI (v749.1.ix)), (vI (phS (v749.1.st)))] 33 (0, 0)) := ⟨_, rfl⟩
          have f893 := set_same e892 f879
          have p894 := p880.keep fun b r hb q => (Chg.set e892).same b r q (n862 b hb)
          have p895 := p881.keep fun b r hb q => (Chg.set e892).same b r q (n863 b hb)
          have p896 := p882.keep fun b r hb q => (Chg.set e892).same b r q (n864 b hb)
          have p897 := p883.keep fun b r hb q => (Chg.set e892).same b r q (n865 b hb)
          have p898 := p884.keep fun b r hb q => (Chg.set e892).same b r q (n866 b hb)
          have p899 := p885.keep fun b r hb q => (Chg.set e892).same b r q (n867 b hb)
          have x900 := Ext.setNew x886 e892 o869
          obtain ⟨b901, eb902⟩ : ∃ zq, zq = h891.size := ⟨_, rfl⟩
          obtain ⟨h903, e904⟩ : ∃ zq, zq = h891.push (.cells #[(vI (kb))] 3 (0, 0)) := ⟨_, rfl⟩
          have f905 := push_new e904
          rw [← eb902] at f905
          have x906 : Ext h891 h903 := by rw [e904]; exact Ext.push _ _
          have o907 : h.size ≤ b901 := by have := x900.size; omega
          have f908 := x906 _ _ f893
          have p909 := p894.keep fun b r _ q => x906 b r q
          have p910 := p895.keep fun b r _ q => x906 b r q
          have p911 := p896.keep fun b r _ q => x906 b r q
          have p912 := p897.keep fun b r _ q => x906 b r q
          have p913 := p898.keep fun b r _ q => x906 b r q
          have p914 := p899.keep fun b r _ q => x906 b r q
          have x915 := x900.trans x906
          obtain ⟨b916, eb917⟩ : ∃ zq, zq = h903.size := ⟨_, rfl⟩
          obtain ⟨h918, e919⟩ : ∃ zq, zq = h903.push (.cells #[(vI (kb)), (vI (v749.1.ix)), (vI (phS (v749.1.st)))] 33 (0, 0)) := ⟨_, rfl⟩
          have f920 := push_new e919
          rw [← eb917] at f920
          have n921 : ∀ zz, (blk (Value.slice oa (out.length) (oc))) zz → ¬ zz = b916 := fun zz hz ez => by have := p909.blk_lt hz; omega
          have x922 : Ext h903 h918 := by rw [e919]; exact Ext.push _ _
          have o923 : h.size ≤ b916 := by have := x915.size; omega
          have f924 := x922 _ _ f908
          have f925 := x922 _ _ f905
          have p926 := p909.keep fun b r _ q => x922 b r q
          have p927 := p910.keep fun b r _ q => x922 b r q
          have p928 := p911.keep fun b r _ q => x922 b r q
          have p929 := p912.keep fun b r _ q => x922 b r q
          have p930 := p913.keep fun b r _ q => x922 b r q
          have p931 := p914.keep fun b r _ q => x922 b r q
          have x932 := x915.trans x922
          obtain ⟨w933, h934, e935, p936, c937, n938, z939⟩ := own_append und63 sizeb3 zero3 rfl (by decide) zc_size (x := kb) p926 f925 rfl (by omega) (by unfold maxLen; omega)
          obtain ⟨a940, c941, rfl⟩ := (p936.slice zc_size).len
          have z942 : h.size ≤ h918.size := x932.size
          have x943 : Ext h _ := (Chg.then (O := fun _ => False) (Chg.ext x932) c937 (fun b hb => .inr (i735 b hb))).toExt'
          have f944 := c937.same _ _ f924 (fun hb => n862 _ hb rfl)
          have f945 := c937.same _ _ f920 (fun hb => n921 _ hb rfl)
          have p946 := p927.keep fun b r hb q => c937.same b r q ((fun b hb hb2 => p927.apart p926 (by decide) hb hb2) b hb)
          have p947 := p928.keep fun b r hb q => c937.same b r q ((fun b hb hb2 => i733 b hb2 hb) b hb)
          have p948 := p929.keep fun b r hb q => c937.same b r q ((fun z hz hw => (OwnAt.offArr p926 p929 (by decide)) z hw hz) b hb)
          have p949 := p930.keep fun b r hb q => c937.same b r q ((fun z hz hw => (OwnAt.offArr p926 p930 (by decide)) z hw hz) b hb)
          have p950 := p931.keep fun b r hb q => c937.same b r q ((fun b hb hb2 => i734 b hb2 hb) b hb)
          have n951 : ∀ zz, blk (Value.slice a940 ((out ++ [kb]).length) (c941)) zz → ¬ (blk (Value.slice pa (nxs.length) (pc))) zz := fun zz hz ez => by have := n938 zz hz; have := p927.blk_lt ez; omega
          have n952 : ∀ zz, blk (Value.slice a940 ((out ++ [kb]).length) (c941)) zz → ¬ Ot zz := fun zz hz ez => by have := n938 zz hz; have := p928.blk_lt ez; omega
          have n953 : ∀ zz, blk (Value.slice a940 ((out ++ [kb]).length) (c941)) zz → ¬ (lsF ss) zz := fun zz hz ez => by have := n938 zz hz; have := p931.blk_lt ez; omega
          have o954 : ∀ zz, blk (Value.slice a940 ((out ++ [kb]).length) (c941)) zz → h.size ≤ zz := fun zz hz => by have := n938 zz hz; have := z942; omega
          obtain ⟨w955, h956, e957, p958, c959, n960, z961⟩ := own_append und42 sizeb33 zero33 rfl (by decide) effc_size (x := (EffM.mk (kb) (v749.1.ix) (phS (v749.1.st)))) p946 f945 rfl (by omega) (by unfold maxLen; omega)
          obtain ⟨a962, c963, rfl⟩ := (p958.slice effc_size).len
          have z964 : h.size ≤ h934.size := x943.size
          have x965 : Ext h _ := (Chg.then (O := fun _ => False) (Chg.ext x943) c959 (fun b hb => .inr (i738 b hb))).toExt'
          have p966 := p947.keep fun b r hb q => c959.same b r q ((fun b hb hb2 => i736 b hb2 hb) b hb)
          have p967 := p948.keep fun b r hb q => c959.same b r q ((fun z hz hw => (OwnAt.offArr p946 p948 (by decide)) z hw hz) b hb)
          have p968 := p949.keep fun b r hb q => c959.same b r q ((fun z hz hw => (OwnAt.offArr p946 p949 (by decide)) z hw hz) b hb)
          have p969 := p950.keep fun b r hb q => c959.same b r q ((fun b hb hb2 => i737 b hb2 hb) b hb)
          have p970 := p936.keep fun b r hb q => c959.same b r q (n951 b hb)
          have n971 : ∀ zz, blk (Value.slice a962 ((nxs ++ [(EffM.mk (kb) (v749.1.ix) (phS (v749.1.st)))]).length) (c963)) zz → ¬ Ot zz := fun zz hz ez => by have := n960 zz hz; have := p947.blk_lt ez; omega
          have n972 : ∀ zz, blk (Value.slice a962 ((nxs ++ [(EffM.mk (kb) (v749.1.ix) (phS (v749.1.st)))]).length) (c963)) zz → ¬ (lsF ss) zz := fun zz hz ez => by have := n960 zz hz; have := p950.blk_lt ez; omega
          have o973 : ∀ zz, blk (Value.slice a962 ((nxs ++ [(EffM.mk (kb) (v749.1.ix) (phS (v749.1.st)))]).length) (c963)) zz → h.size ≤ zz := fun zz hz => by have := n960 zz hz; have := z964; omega
          refine wc_ev [leT 35 1 3 c745, evFe 37 2 p773 s759, evA 37 6 eb782 e784, evUw 37 7 size38 f785 e804, evV 38 3 (vP b21 o814) (show indexAddrA Tryz.prog 79 (vP b21 0) (vI kb) = some (vP b21 o814) from a816 e750), evV 38 4 (vB v752) (show loadT Tryz.prog h803 4 (vP b21 o814) = some (vB v752) from k815.cell (j := 0) agg4 rfl), evV 38 5 (vB false) (show binA Tryz.prog .neq 4 (vB true) (vB v752) = some (vB false) from by rw [c754]; kernel_rfl), evV 38 8 (vP b21 o818) (show indexAddrA Tryz.prog 79 (vP b21 0) (vI kb) = some (vP b21 o818) from a820 e750), evV 38 9 (vB v752) (show loadT Tryz.prog h803 4 (vP b21 o818) = some (vB v752) from k819.cell (j := 0) agg4 rfl), evM 38 10 c754, evLw 38 11 agg38 size38 f805, evV 38 13 (vP b11 o822) (show indexAddrA Tryz.prog 78 (vP b11 0) (vI kb) = some (vP b11 o822) from a824 e750), evV 38 14 (vA #[(vS v749.1.d.name), (vI v749.1.d.rt), (vI v749.1.d.dl), (vL v749.2.1 v749.1.d.xs.length v749.2.2), (vI v749.1.st), (vI v749.1.ix), (vB v749.1.cn), (vI v749.1.tr), (vI v749.1.bg), (vI v749.1.er)]) (show loadT Tryz.prog h803 38 (vP b11 o822) = some (vA #[(vS v749.1.d.name), (vI v749.1.d.rt), (vI v749.1.d.dl), (vL v749.2.1 v749.1.d.xs.length v749.2.2), (vI v749.1.st), (vI v749.1.ix), (vB v749.1.cn), (vI v749.1.tr), (vI v749.1.bg), (vI v749.1.er)]) from k823.agg (j := 0) agg38 size38 (show 0 + 10 ≤ 10 by decide) (by kernel_rfl)), evF 38 15 sn828, evV 38 21 (vP b21 o838) (show indexAddrA Tryz.prog 79 (vP b21 0) (vI kb) = some (vP b21 o838) from a840 e750), evV 38 22 (vB true) (show loadT Tryz.prog hh827 4 (vP b21 o838) = some (vB true) from (by rw [← c754]; exact k839.cell (j := 0) agg4 rfl)), evV 40 1 (vP b11 o842) (show indexAddrA Tryz.prog 78 (vP b11 0) (vI kb) = some (vP b11 o842) from a844 e750), evV 40 2 (vA #[(vS v749.1.d.name), (vI v749.1.d.rt), (vI v749.1.d.dl), (vL v749.2.1 v749.1.d.xs.length v749.2.2), (vI v749.1.st), (vI v749.1.ix), (vB v749.1.cn), (vI v749.1.tr), (vI v749.1.bg), (vI v749.1.er)]) (show loadT Tryz.prog hh827 38 (vP b11 o842) = some (vA #[(vS v749.1.d.name), (vI v749.1.d.rt), (vI v749.1.d.dl), (vL v749.2.1 v749.1.d.xs.length v749.2.2), (vI v749.1.st), (vI v749.1.ix), (vB v749.1.cn), (vI v749.1.tr), (vI v749.1.bg), (vI v749.1.er)]) from k843.agg (j := 0) agg38 size38 (show 0 + 10 ≤ 10 by decide) (by kernel_rfl)), evF 40 3 (by rw [nextV_open c777 c856] at s847; exact s847), evA 40 8 eb858 e860, evUw 40 9 size33 f861 e878, evV 41 1 (vP b21 o887) (show indexAddrA Tryz.prog 79 (vP b21 0) (vI kb) = some (vP b21 o887) from a889 e750), evV 41 2 (vB v752) (show loadT Tryz.prog h877 4 (vP b21 o887) = some (vB v752) from k888.cell (j := 0) agg4 rfl), evM 41 3 c754, evT 42 2 0 size3 f879 e892, evS 43 2 1 eb902 e904, evLw 43 5 agg33 size33 f908, evS 43 6 1 eb917 e919, evP 43 3 e935, evLw 99 0 agg33 size33 f944, evP 43 7 e957, evV 36 1 (vI ((kb) + 1)) (show binA Tryz.prog .add 3 (vI kb) (vI 1) = some (vI ((kb) + 1)) from add_i64 (by omega) (by omega))] .normal h956 [(155, (vI kb)), (156, (vB true)), (160, (vP b4 0)), (161, (vI kb)), (162, (vT #[(vA #[(vS v749.1.d.name), (vI v749.1.d.rt), (vI v749.1.d.dl), (vL w771 v749.1.d.xs.length c772), (vI v749.1.st), (vI v749.1.ix), (vB v749.1.cn), (vI v749.1.tr), (vI v749.1.bg), (vI v749.1.er)]), (vI 0)])), (159, (vT #[(vA #[(vS v749.1.d.name), (vI v749.1.d.rt), (vI v749.1.d.dl), (vL w771 v749.1.d.xs.length c772), (vI v749.1.st), (vI v749.1.ix), (vB v749.1.cn), (vI v749.1.tr), (vI v749.1.bg), (vI v749.1.er)]), (vI 0)])), (163, (vA #[(vS v749.1.d.name), (vI v749.1.d.rt), (vI v749.1.d.dl), (vL w771 v749.1.d.xs.length c772), (vI v749.1.st), (vI v749.1.ix), (vB v749.1.cn), (vI v749.1.tr), (vI v749.1.bg), (vI v749.1.er)])), (164, (vI 0)), (22, (vP b781 0)), (23, (vI 0)), (165, (vI 0)), (166, (vB true)), (167, (vI kb)), (168, (vP b21 o814)), (169, (vB v752)), (170, (vB false)), (171, (vB false)), (172, (vI kb)), (173, (vP b21 o818)), (174, (vB v752)), (175, (vB true)), (176, (vA #[(vS v749.1.d.name), (vI v749.1.d.rt), (vI v749.1.d.dl), (vL w771 v749.1.d.xs.length c772), (vI v749.1.st), (vI v749.1.ix), (vB v749.1.cn), (vI v749.1.tr), (vI v749.1.bg), (vI v749.1.er)])), (177, (vI kb)), (178, (vP b11 o822)), (179, (vA #[(vS v749.1.d.name), (vI v749.1.d.rt), (vI v749.1.d.dl), (vL v749.2.1 v749.1.d.xs.length v749.2.2), (vI v749.1.st), (vI v749.1.ix), (vB v749.1.cn), (vI v749.1.tr), (vI v749.1.bg), (vI v749.1.er)])), (180, (vB true)), (181, (vB false)), (182, (vB false)), (183, (vB false)), (184, (vB false)), (185, (vI kb)), (186, (vP b21 o838)), (187, (vB true)), (188, (vB false)), (189, (vB false)), (190, vZ), (191, vZ), (192, (vB false)), (193, (vB false)), (195, (vI kb)), (196, (vP b11 o842)), (197, (vA #[(vS v749.1.d.name), (vI v749.1.d.rt), (vI v749.1.d.dl), (vL v749.2.1 v749.1.d.xs.length v749.2.2), (vI v749.1.st), (vI v749.1.ix), (vB v749.1.cn), (vI v749.1.tr), (vI v749.1.bg), (vI v749.1.er)])), (198, (vT #[(vA #[(vI 0), (vI v749.1.ix), (vI (phS (v749.1.st)))]), (vB true), (vI 0)])), (194, (vT #[(vA #[(vI 0), (vI v749.1.ix), (vI (phS (v749.1.st)))]), (vB true), (vI 0)])), (199, (vA #[(vI 0), (vI v749.1.ix), (vI (phS (v749.1.st)))])), (200, (vB true)), (201, (vI 0)), (24, (vP b857 0)), (25, (vB true)), (26, (vI 0)), (202, (vI kb)), (203, (vP b21 o887)), (204, (vB v752)), (205, (vB true)), (206, (vB true)), (207, (vB true)), (208, (vB true)), (209, (vI 0)), (210, (vB true)), (211, (vB true)), (212, (vI kb)), (213, (vP b857 0)), (214, (vL oa out.length oc)), (215, (vI kb)), (216, (vL (some ⟨b901, 0, none⟩) 1 1)), (218, (vL pa nxs.length pc)), (219, (vA #[(vI kb), (vI v749.1.ix), (vI (phS (v749.1.st)))])), (220, (vL (some ⟨b916, 0, none⟩) 1 1)), (217, (vL a940 ((out ++ [kb]).length) c941)), (221, (Value.slice a962 ((nxs ++ [(EffM.mk (kb) (v749.1.ix) (phS (v749.1.st)))]).length) (c963))), (19, (vL a940 ((out ++ [kb]).length) c941)), (20, (Value.slice a962 ((nxs ++ [(EffM.mk (kb) (v749.1.ix) (phS (v749.1.st)))]).length) (c963))), (157, (vI kb)), (158, (vI ((kb) + 1))), (21, (vI ((kb) + 1)))] ?_
          exact ⟨9 - (kb + 1).toNat, by omega, ⟨kb + 1, (out ++ [kb]), a940, c941, (nxs ++ [(EffM.mk (kb) (v749.1.ix) (phS (v749.1.st)))]), a962, c963, (fun i => ([vU, vU, (g1 2), vU, vU, vU, vU, vU, vU, vU, vU, vU, vU, vU, vU, vU, vU, vU, vU, vU, vU, vU, (vP b781 0), (vI 0), (vP b857 0), (vB true), (vI 0), vU, vU, vU, vU, vU, vU, vU, vU, vU, vU, vU, vU, vU, vU, vU, vU, vU, vU, vU, vU, vU, vU, vU, vU, vU, vU, vU, vU, vU, vU, vU, vU, vU, vU, vU, vU, vU, vU, vU, vU, vU, vU, vU, vU, vU, vU, vU, vU, vU, vU, vU, vU, vU, vU, vU, vU, vU, vU, vU, vU, vU, vU, vU, vU, vU, vU, vU, vU, vU, vU, vU, vU, vU, vU, vU, vU, vU, vU, vU, vU, vU, vU, vU, vU, vU, vU, vU, vU, vU, vU, vU, vU, vU, vU, vU, vU, vU, vU, vU, vU, vU, vU, vU, vU, vU, vU, vU, vU, vU, vU, vU, vU, vU, vU, vU, vU, vU, vU, vU, vU, vU, vU, vU, vU, vU, vU, vU, vU, (vI kb), (vB true), (vI kb), (vI ((kb) + 1)), (vT #[(vA #[(vS v749.1.d.name), (vI v749.1.d.rt), (vI v749.1.d.dl), (vL w771 v749.1.d.xs.length c772), (vI v749.1.st), (vI v749.1.ix), (vB v749.1.cn), (vI v749.1.tr), (vI v749.1.bg), (vI v749.1.er)]), (vI 0)]), (vP b4 0), (vI kb), (vT #[(vA #[(vS v749.1.d.name), (vI v749.1.d.rt), (vI v749.1.d.dl), (vL w771 v749.1.d.xs.length c772), (vI v749.1.st), (vI v749.1.ix), (vB v749.1.cn), (vI v749.1.tr), (vI v749.1.bg), (vI v749.1.er)]), (vI 0)]), (vA #[(vS v749.1.d.name), (vI v749.1.d.rt), (vI v749.1.d.dl), (vL w771 v749.1.d.xs.length c772), (vI v749.1.st), (vI v749.1.ix), (vB v749.1.cn), (vI v749.1.tr), (vI v749.1.bg), (vI v749.1.er)]), (vI 0), (vI 0), (vB true), (vI kb), (vP b21 o814), (vB v752), (vB false), (vB false), (vI kb), (vP b21 o818), (vB v752), (vB true), (vA #[(vS v749.1.d.name), (vI v749.1.d.rt), (vI v749.1.d.dl), (vL w771 v749.1.d.xs.length c772), (vI v749.1.st), (vI v749.1.ix), (vB v749.1.cn), (vI v749.1.tr), (vI v749.1.bg), (vI v749.1.er)]), (vI kb), (vP b11 o822), (vA #[(vS v749.1.d.name), (vI v749.1.d.rt), (vI v749.1.d.dl), (vL v749.2.1 v749.1.d.xs.length v749.2.2), (vI v749.1.st), (vI v749.1.ix), (vB v749.1.cn), (vI v749.1.tr), (vI v749.1.bg), (vI v749.1.er)]), (vB true), (vB false), (vB false), (vB false), (vB false), (vI kb), (vP b21 o838), (vB true), (vB false), (vB false), vZ, vZ, (vB false), (vB false), (vT #[(vA #[(vI 0), (vI v749.1.ix), (vI (phS (v749.1.st)))]), (vB true), (vI 0)]), (vI kb), (vP b11 o842), (vA #[(vS v749.1.d.name), (vI v749.1.d.rt), (vI v749.1.d.dl), (vL v749.2.1 v749.1.d.xs.length v749.2.2), (vI v749.1.st), (vI v749.1.ix), (vB v749.1.cn), (vI v749.1.tr), (vI v749.1.bg), (vI v749.1.er)]), (vT #[(vA #[(vI 0), (vI v749.1.ix), (vI (phS (v749.1.st)))]), (vB true), (vI 0)]), (vA #[(vI 0), (vI v749.1.ix), (vI (phS (v749.1.st)))]), (vB true), (vI 0), (vI kb), (vP b21 o887), (vB v752), (vB true), (vB true), (vB true), (vB true), (vI 0), (vB true), (vB true), (vI kb), (vP b857 0), (vL oa out.length oc), (vI kb), (vL (some ⟨b901, 0, none⟩) 1 1), (vL a940 ((out ++ [kb]).length) c941), (vL pa nxs.length pc), (vA #[(vI kb), (vI v749.1.ix), (vI (phS (v749.1.st)))]), (vL (some ⟨b916, 0, none⟩) 1 1), (Value.slice a962 ((nxs ++ [(EffM.mk (kb) (v749.1.ix) (phS (v749.1.st)))]).length) (c963))] : List Value).getD i undef), by as_aux_lemma => kernel_rfl, x965, rfl, by omega, by rw [(out_yes i53 f755 c856).1, ← i731], by rw [(out_yes i53 f755 c856).2, ← i732], n952, n953, o954, n971, n972, o973, p970, p958, p966, p967, p968, p969⟩⟩
        · obtain ⟨b974, eb975⟩ : ∃ zq, zq = h846.size := ⟨_, rfl⟩
          obtain ⟨h976, e977⟩ : ∃ zq, zq = h846.push (.cells #[(vI 0), (vI 0), (vI 0)] 33 (0, 0)) := ⟨_, rfl⟩
          have f978 := push_new e977
          rw [← eb975] at f978
          have n979 : ∀ zz, (blk (Value.slice oa (out.length) (oc))) zz → ¬ zz = b974 := fun zz hz ez => by have := p849.blk_lt hz; omega
          have n980 : ∀ zz, (blk (Value.slice pa (nxs.length) (pc))) zz → ¬ zz = b974 := fun zz hz ez => by have := p850.blk_lt hz; omega
          have n981 : ∀ zz, Ot zz → ¬ zz = b974 := fun zz hz ez => by have := p851.blk_lt hz; omega
          have n982 : ∀ zz, (fun q => q = b11) zz → ¬ zz = b974 := fun zz hz ez => by have := p852.blk_lt hz; omega
          have n983 : ∀ zz, (fun q => q = b21) zz → ¬ zz = b974 := fun zz hz ez => by have := p853.blk_lt hz; omega
          have n984 : ∀ zz, (lsF ss) zz → ¬ zz = b974 := fun zz hz ez => by have := p854.blk_lt hz; omega
          have x985 : Ext h846 h976 := by rw [e977]; exact Ext.push _ _
          have o986 : h.size ≤ b974 := by have := x855.size; omega
          have p987 := p849.keep fun b r _ q => x985 b r q
          have p988 := p850.keep fun b r _ q => x985 b r q
          have p989 := p851.keep fun b r _ q => x985 b r q
          have p990 := p852.keep fun b r _ q => x985 b r q
          have p991 := p853.keep fun b r _ q => x985 b r q
          have p992 := p854.keep fun b r _ q => x985 b r q
          have x993 := x855.trans x985
          obtain ⟨h994, e995⟩ : ∃ zq, zq = h976.setIfInBounds b974 (.cells #[(vI 0), (vI 0), (vI 0)] 33 (0, 0)) := ⟨_, rfl⟩
          have p996 := p987.keep fun b r hb q => (Chg.set e995).same b r q (n979 b hb)
          have p997 := p988.keep fun b r hb q => (Chg.set e995).same b r q (n980 b hb)
          have p998 := p989.keep fun b r hb q => (Chg.set e995).same b r q (n981 b hb)
          have p999 := p990.keep fun b r hb q => (Chg.set e995).same b r q (n982 b hb)
          have p1000 := p991.keep fun b r hb q => (Chg.set e995).same b r q (n983 b hb)
          have p1001 := p992.keep fun b r hb q => (Chg.set e995).same b r q (n984 b hb)
          have x1002 := Ext.setNew x993 e995 o986
          obtain ⟨o1003, k1004, a1005, u1006⟩ := ArrAt.at (P := Tryz.prog) boolc_size p1000 undarr79 size4 i51.lb g753
          refine wc_ev [leT 35 1 3 c745, evFe 37 2 p773 s759, evA 37 6 eb782 e784, evUw 37 7 size38 f785 e804, evV 38 3 (vP b21 o814) (show indexAddrA Tryz.prog 79 (vP b21 0) (vI kb) = some (vP b21 o814) from a816 e750), evV 38 4 (vB v752) (show loadT Tryz.prog h803 4 (vP b21 o814) = some (vB v752) from k815.cell (j := 0) agg4 rfl), evV 38 5 (vB false) (show binA Tryz.prog .neq 4 (vB true) (vB v752) = some (vB false) from by rw [c754]; kernel_rfl), evV 38 8 (vP b21 o818) (show indexAddrA Tryz.prog 79 (vP b21 0) (vI kb) = some (vP b21 o818) from a820 e750), evV 38 9 (vB v752) (show loadT Tryz.prog h803 4 (vP b21 o818) = some (vB v752) from k819.cell (j := 0) agg4 rfl), evM 38 10 c754, evLw 38 11 agg38 size38 f805, evV 38 13 (vP b11 o822) (show indexAddrA Tryz.prog 78 (vP b11 0) (vI kb) = some (vP b11 o822) from a824 e750), evV 38 14 (vA #[(vS v749.1.d.name), (vI v749.1.d.rt), (vI v749.1.d.dl), (vL v749.2.1 v749.1.d.xs.length v749.2.2), (vI v749.1.st), (vI v749.1.ix), (vB v749.1.cn), (vI v749.1.tr), (vI v749.1.bg), (vI v749.1.er)]) (show loadT Tryz.prog h803 38 (vP b11 o822) = some (vA #[(vS v749.1.d.name), (vI v749.1.d.rt), (vI v749.1.d.dl), (vL v749.2.1 v749.1.d.xs.length v749.2.2), (vI v749.1.st), (vI v749.1.ix), (vB v749.1.cn), (vI v749.1.tr), (vI v749.1.bg), (vI v749.1.er)]) from k823.agg (j := 0) agg38 size38 (show 0 + 10 ≤ 10 by decide) (by kernel_rfl)), evF 38 15 sn828, evV 38 21 (vP b21 o838) (show indexAddrA Tryz.prog 79 (vP b21 0) (vI kb) = some (vP b21 o838) from a840 e750), evV 38 22 (vB true) (show loadT Tryz.prog hh827 4 (vP b21 o838) = some (vB true) from (by rw [← c754]; exact k839.cell (j := 0) agg4 rfl)), evV 40 1 (vP b11 o842) (show indexAddrA Tryz.prog 78 (vP b11 0) (vI kb) = some (vP b11 o842) from a844 e750), evV 40 2 (vA #[(vS v749.1.d.name), (vI v749.1.d.rt), (vI v749.1.d.dl), (vL v749.2.1 v749.1.d.xs.length v749.2.2), (vI v749.1.st), (vI v749.1.ix), (vB v749.1.cn), (vI v749.1.tr), (vI v749.1.bg), (vI v749.1.er)]) (show loadT Tryz.prog hh827 38 (vP b11 o842) = some (vA #[(vS v749.1.d.name), (vI v749.1.d.rt), (vI v749.1.d.dl), (vL v749.2.1 v749.1.d.xs.length v749.2.2), (vI v749.1.st), (vI v749.1.ix), (vB v749.1.cn), (vI v749.1.tr), (vI v749.1.bg), (vI v749.1.er)]) from k843.agg (j := 0) agg38 size38 (show 0 + 10 ≤ 10 by decide) (by kernel_rfl)), evF 40 3 (by rw [nextV_done c777 c856] at s847; exact s847), evA 40 8 eb975 e977, evUw 40 9 size33 f978 e995, evV 41 1 (vP b21 o1003) (show indexAddrA Tryz.prog 79 (vP b21 0) (vI kb) = some (vP b21 o1003) from a1005 e750), evV 41 2 (vB v752) (show loadT Tryz.prog h994 4 (vP b21 o1003) = some (vB v752) from k1004.cell (j := 0) agg4 rfl), evM 41 3 c754, evV 36 1 (vI ((kb) + 1)) (show binA Tryz.prog .add 3 (vI kb) (vI 1) = some (vI ((kb) + 1)) from add_i64 (by omega) (by omega))] .normal h994 [(155, (vI kb)), (156, (vB true)), (160, (vP b4 0)), (161, (vI kb)), (162, (vT #[(vA #[(vS v749.1.d.name), (vI v749.1.d.rt), (vI v749.1.d.dl), (vL w771 v749.1.d.xs.length c772), (vI v749.1.st), (vI v749.1.ix), (vB v749.1.cn), (vI v749.1.tr), (vI v749.1.bg), (vI v749.1.er)]), (vI 0)])), (159, (vT #[(vA #[(vS v749.1.d.name), (vI v749.1.d.rt), (vI v749.1.d.dl), (vL w771 v749.1.d.xs.length c772), (vI v749.1.st), (vI v749.1.ix), (vB v749.1.cn), (vI v749.1.tr), (vI v749.1.bg), (vI v749.1.er)]), (vI 0)])), (163, (vA #[(vS v749.1.d.name), (vI v749.1.d.rt), (vI v749.1.d.dl), (vL w771 v749.1.d.xs.length c772), (vI v749.1.st), (vI v749.1.ix), (vB v749.1.cn), (vI v749.1.tr), (vI v749.1.bg), (vI v749.1.er)])), (164, (vI 0)), (22, (vP b781 0)), (23, (vI 0)), (165, (vI 0)), (166, (vB true)), (167, (vI kb)), (168, (vP b21 o814)), (169, (vB v752)), (170, (vB false)), (171, (vB false)), (172, (vI kb)), (173, (vP b21 o818)), (174, (vB v752)), (175, (vB true)), (176, (vA #[(vS v749.1.d.name), (vI v749.1.d.rt), (vI v749.1.d.dl), (vL w771 v749.1.d.xs.length c772), (vI v749.1.st), (vI v749.1.ix), (vB v749.1.cn), (vI v749.1.tr), (vI v749.1.bg), (vI v749.1.er)])), (177, (vI kb)), (178, (vP b11 o822)), (179, (vA #[(vS v749.1.d.name), (vI v749.1.d.rt), (vI v749.1.d.dl), (vL v749.2.1 v749.1.d.xs.length v749.2.2), (vI v749.1.st), (vI v749.1.ix), (vB v749.1.cn), (vI v749.1.tr), (vI v749.1.bg), (vI v749.1.er)])), (180, (vB true)), (181, (vB false)), (182, (vB false)), (183, (vB false)), (184, (vB false)), (185, (vI kb)), (186, (vP b21 o838)), (187, (vB true)), (188, (vB false)), (189, (vB false)), (190, vZ), (191, vZ), (192, (vB false)), (193, (vB false)), (195, (vI kb)), (196, (vP b11 o842)), (197, (vA #[(vS v749.1.d.name), (vI v749.1.d.rt), (vI v749.1.d.dl), (vL v749.2.1 v749.1.d.xs.length v749.2.2), (vI v749.1.st), (vI v749.1.ix), (vB v749.1.cn), (vI v749.1.tr), (vI v749.1.bg), (vI v749.1.er)])), (198, (vT #[(vA #[(vI 0), (vI 0), (vI 0)]), (vB false), (vI 0)])), (194, (vT #[(vA #[(vI 0), (vI 0), (vI 0)]), (vB false), (vI 0)])), (199, (vA #[(vI 0), (vI 0), (vI 0)])), (200, (vB false)), (201, (vI 0)), (24, (vP b974 0)), (25, (vB false)), (26, (vI 0)), (202, (vI kb)), (203, (vP b21 o1003)), (204, (vB v752)), (205, (vB true)), (206, (vB false)), (207, (vB false)), (208, (vB false)), (209, vZ), (210, vZ), (211, (vB false)), (157, (vI kb)), (158, (vI ((kb) + 1))), (21, (vI ((kb) + 1)))] ?_
          exact ⟨9 - (kb + 1).toNat, by omega, ⟨kb + 1, out, oa, oc, nxs, pa, pc, (fun i => ([vU, vU, (g1 2), vU, vU, vU, vU, vU, vU, vU, vU, vU, vU, vU, vU, vU, vU, vU, vU, vU, vU, vU, (vP b781 0), (vI 0), (vP b974 0), (vB false), (vI 0), vU, vU, vU, vU, vU, vU, vU, vU, vU, vU, vU, vU, vU, vU, vU, vU, vU, vU, vU, vU, vU, vU, vU, vU, vU, vU, vU, vU, vU, vU, vU, vU, vU, vU, vU, vU, vU, vU, vU, vU, vU, vU, vU, vU, vU, vU, vU, vU, vU, vU, vU, vU, vU, vU, vU, vU, vU, vU, vU, vU, vU, vU, vU, vU, vU, vU, vU, vU, vU, vU, vU, vU, vU, vU, vU, vU, vU, vU, vU, vU, vU, vU, vU, vU, vU, vU, vU, vU, vU, vU, vU, vU, vU, vU, vU, vU, vU, vU, vU, vU, vU, vU, vU, vU, vU, vU, vU, vU, vU, vU, vU, vU, vU, vU, vU, vU, vU, vU, vU, vU, vU, vU, vU, vU, vU, vU, vU, vU, (vI kb), (vB true), (vI kb), (vI ((kb) + 1)), (vT #[(vA #[(vS v749.1.d.name), (vI v749.1.d.rt), (vI v749.1.d.dl), (vL w771 v749.1.d.xs.length c772), (vI v749.1.st), (vI v749.1.ix), (vB v749.1.cn), (vI v749.1.tr), (vI v749.1.bg), (vI v749.1.er)]), (vI 0)]), (vP b4 0), (vI kb), (vT #[(vA #[(vS v749.1.d.name), (vI v749.1.d.rt), (vI v749.1.d.dl), (vL w771 v749.1.d.xs.length c772), (vI v749.1.st), (vI v749.1.ix), (vB v749.1.cn), (vI v749.1.tr), (vI v749.1.bg), (vI v749.1.er)]), (vI 0)]), (vA #[(vS v749.1.d.name), (vI v749.1.d.rt), (vI v749.1.d.dl), (vL w771 v749.1.d.xs.length c772), (vI v749.1.st), (vI v749.1.ix), (vB v749.1.cn), (vI v749.1.tr), (vI v749.1.bg), (vI v749.1.er)]), (vI 0), (vI 0), (vB true), (vI kb), (vP b21 o814), (vB v752), (vB false), (vB false), (vI kb), (vP b21 o818), (vB v752), (vB true), (vA #[(vS v749.1.d.name), (vI v749.1.d.rt), (vI v749.1.d.dl), (vL w771 v749.1.d.xs.length c772), (vI v749.1.st), (vI v749.1.ix), (vB v749.1.cn), (vI v749.1.tr), (vI v749.1.bg), (vI v749.1.er)]), (vI kb), (vP b11 o822), (vA #[(vS v749.1.d.name), (vI v749.1.d.rt), (vI v749.1.d.dl), (vL v749.2.1 v749.1.d.xs.length v749.2.2), (vI v749.1.st), (vI v749.1.ix), (vB v749.1.cn), (vI v749.1.tr), (vI v749.1.bg), (vI v749.1.er)]), (vB true), (vB false), (vB false), (vB false), (vB false), (vI kb), (vP b21 o838), (vB true), (vB false), (vB false), vZ, vZ, (vB false), (vB false), (vT #[(vA #[(vI 0), (vI 0), (vI 0)]), (vB false), (vI 0)]), (vI kb), (vP b11 o842), (vA #[(vS v749.1.d.name), (vI v749.1.d.rt), (vI v749.1.d.dl), (vL v749.2.1 v749.1.d.xs.length v749.2.2), (vI v749.1.st), (vI v749.1.ix), (vB v749.1.cn), (vI v749.1.tr), (vI v749.1.bg), (vI v749.1.er)]), (vT #[(vA #[(vI 0), (vI 0), (vI 0)]), (vB false), (vI 0)]), (vA #[(vI 0), (vI 0), (vI 0)]), (vB false), (vI 0), (vI kb), (vP b21 o1003), (vB v752), (vB true), (vB false), (vB false), (vB false), vZ, vZ, (vB false), (g1 212), (g1 213), (g1 214), (g1 215), (g1 216), (g1 217), (g1 218), (g1 219), (g1 220), (g1 221)] : List Value).getD i undef), by as_aux_lemma => kernel_rfl, x1002, rfl, by omega, by rw [(out_done i53 f755 c856).1]; exact i731, by rw [(out_done i53 f755 c856).2]; exact i732, i733, i734, i735, i736, i737, i738, p996, p997, p998, p999, p1000, p1001⟩⟩
      · have f1007 : findK mm (kb) = none := by rw [e750]; exact i51.all i748 v749 false g751 (by rw [g753, c754])
        obtain ⟨v1008, h1009, s1010, p1011, p1012, x1013⟩ := tget_ok h727 p741 i53 (kb)
        have p1014 := p739.keep fun b r _ q => x1013 b r q
        have p1015 := p740.keep fun b r _ q => x1013 b r q
        have p1016 := p741.keep fun b r _ q => x1013 b r q
        have p1017 := p742.keep fun b r _ q => x1013 b r q
        have p1018 := p743.keep fun b r _ q => x1013 b r q
        have p1019 := p744.keep fun b r _ q => x1013 b r q
        have x1020 := x728.trans x1013
        have c1021 : ¬ getE mm (kb) = 0 := by rw [(getE_none f1007).1]; decide
        have p1022 := p1011 c1021
        rw [(getE_ne c1021).2.1] at p1022
        obtain ⟨b1023, eb1024⟩ : ∃ zq, zq = h1009.size := ⟨_, rfl⟩
        obtain ⟨h1025, e1026⟩ : ∃ zq, zq = h1009.push (.cells #[(vS .empty), (vI 0), (vI 0), (Value.slice none 0 0), (vI 0), (vI 0), (vB false), (vI 0), (vI 0), (vI 0)] 38 (0, 0)) := ⟨_, rfl⟩
        have f1027 := push_new e1026
        rw [← eb1024] at f1027
        have n1028 : ∀ zz, (blk (Value.slice oa (out.length) (oc))) zz → ¬ zz = b1023 := fun zz hz ez => by have := p1014.blk_lt hz; omega
        have n1029 : ∀ zz, (blk (Value.slice pa (nxs.length) (pc))) zz → ¬ zz = b1023 := fun zz hz ez => by have := p1015.blk_lt hz; omega
        have n1030 : ∀ zz, Ot zz → ¬ zz = b1023 := fun zz hz ez => by have := p1016.blk_lt hz; omega
        have n1031 : ∀ zz, (fun q => q = b11) zz → ¬ zz = b1023 := fun zz hz ez => by have := p1017.blk_lt hz; omega
        have n1032 : ∀ zz, (fun q => q = b21) zz → ¬ zz = b1023 := fun zz hz ez => by have := p1018.blk_lt hz; omega
        have n1033 : ∀ zz, (lsF ss) zz → ¬ zz = b1023 := fun zz hz ez => by have := p1019.blk_lt hz; omega
        have x1034 : Ext h1009 h1025 := by rw [e1026]; exact Ext.push _ _
        have o1035 : h.size ≤ b1023 := by have := x1020.size; omega
        have p1036 := p1014.keep fun b r _ q => x1034 b r q
        have p1037 := p1015.keep fun b r _ q => x1034 b r q
        have p1038 := p1016.keep fun b r _ q => x1034 b r q
        have p1039 := p1017.keep fun b r _ q => x1034 b r q
        have p1040 := p1018.keep fun b r _ q => x1034 b r q
        have p1041 := p1019.keep fun b r _ q => x1034 b r q
        have x1042 := x1020.trans x1034
        obtain ⟨h1043, e1044⟩ : ∃ zq, zq = h1025.setIfInBounds b1023 (.cells #[(vS .empty), (vI 0), (vI 0), (Value.slice none 0 0), (vI 0), (vI 0), (vB false), (vI 0), (vI 0), (vI 0)] 38 (0, 0)) := ⟨_, rfl⟩
        have p1045 := p1036.keep fun b r hb q => (Chg.set e1044).same b r q (n1028 b hb)
        have p1046 := p1037.keep fun b r hb q => (Chg.set e1044).same b r q (n1029 b hb)
        have p1047 := p1038.keep fun b r hb q => (Chg.set e1044).same b r q (n1030 b hb)
        have p1048 := p1039.keep fun b r hb q => (Chg.set e1044).same b r q (n1031 b hb)
        have p1049 := p1040.keep fun b r hb q => (Chg.set e1044).same b r q (n1032 b hb)
        have p1050 := p1041.keep fun b r hb q => (Chg.set e1044).same b r q (n1033 b hb)
        have x1051 := Ext.setNew x1042 e1044 o1035
        obtain ⟨o1052, k1053, a1054, u1055⟩ := ArrAt.at (P := Tryz.prog) boolc_size p1049 undarr79 size4 i51.lb g753
        obtain ⟨o1056, k1057, a1058, u1059⟩ := ArrAt.at (P := Tryz.prog) boolc_size p1049 undarr79 size4 i51.lb g753
        obtain ⟨o1060, k1061, a1062, u1063⟩ := ArrAt.at (P := Tryz.prog) boolc_size p1049 undarr79 size4 i51.lb g753
        obtain ⟨o1064, k1065, a1066, u1067⟩ := ArrAt.at (P := Tryz.prog) sagc_size p1048 undarr78 size38 i51.ls g751
        have t1068 := i51.small v749 (List.mem_of_getElem? g751)
        obtain ⟨_, h1069, s1070, rfl, x1071⟩ := nextV_ok h1043 v749.1 _ _ (p1050.at g751) (by omega) (x1051 _ _ hg0) (x1051 _ _ hg1)
        have p1072 := p1045.keep fun b r _ q => x1071 b r q
        have p1073 := p1046.keep fun b r _ q => x1071 b r q
        have p1074 := p1047.keep fun b r _ q => x1071 b r q
        have p1075 := p1048.keep fun b r _ q => x1071 b r q
        have p1076 := p1049.keep fun b r _ q => x1071 b r q
        have p1077 := p1050.keep fun b r _ q => x1071 b r q
        have x1078 := x1051.trans x1071
        by_cases c1079 : ((chkS v749.1) : Int) = 0
        · obtain ⟨z10214d, z10214b, z10214o⟩ := chkS_zero c1079
          have := defB_of z10214d
          have := budB_of z10214b
          have z10214i := okI_of z10214o
          have := z10214i.1
          by_cases c1080 : ((v749.1.st) : Int) < 4
          · obtain ⟨b1081, eb1082⟩ : ∃ zq, zq = h1069.size := ⟨_, rfl⟩
            obtain ⟨h1083, e1084⟩ : ∃ zq, zq = h1069.push (.cells #[(vI 0), (vI 0), (vI 0)] 33 (0, 0)) := ⟨_, rfl⟩
            have f1085 := push_new e1084
            rw [← eb1082] at f1085
            have n1086 : ∀ zz, (blk (Value.slice oa (out.length) (oc))) zz → ¬ zz = b1081 := fun zz hz ez => by have := p1072.blk_lt hz; omega
            have n1087 : ∀ zz, (blk (Value.slice pa (nxs.length) (pc))) zz → ¬ zz = b1081 := fun zz hz ez => by have := p1073.blk_lt hz; omega
            have n1088 : ∀ zz, Ot zz → ¬ zz = b1081 := fun zz hz ez => by have := p1074.blk_lt hz; omega
            have n1089 : ∀ zz, (fun q => q = b11) zz → ¬ zz = b1081 := fun zz hz ez => by have := p1075.blk_lt hz; omega
            have n1090 : ∀ zz, (fun q => q = b21) zz → ¬ zz = b1081 := fun zz hz ez => by have := p1076.blk_lt hz; omega
            have n1091 : ∀ zz, (lsF ss) zz → ¬ zz = b1081 := fun zz hz ez => by have := p1077.blk_lt hz; omega
            have x1092 : Ext h1069 h1083 := by rw [e1084]; exact Ext.push _ _
            have o1093 : h.size ≤ b1081 := by have := x1078.size; omega
            have p1094 := p1072.keep fun b r _ q => x1092 b r q
            have p1095 := p1073.keep fun b r _ q => x1092 b r q
            have p1096 := p1074.keep fun b r _ q => x1092 b r q
            have p1097 := p1075.keep fun b r _ q => x1092 b r q
            have p1098 := p1076.keep fun b r _ q => x1092 b r q
            have p1099 := p1077.keep fun b r _ q => x1092 b r q
            have x1100 := x1078.trans x1092
            obtain ⟨h1101, e1102⟩ : ∃ zq, zq = h1083.setIfInBounds b1081 (.cells #[(vI 0), (vI (v749.1.ix)), (vI (phS (v749.1.st)))] 33 (0, 0)) := ⟨_, rfl⟩
            have p1103 := p1094.keep fun b r hb q => (Chg.set e1102).same b r q (n1086 b hb)
            have p1104 := p1095.keep fun b r hb q => (Chg.set e1102).same b r q (n1087 b hb)
            have p1105 := p1096.keep fun b r hb q => (Chg.set e1102).same b r q (n1088 b hb)
            have p1106 := p1097.keep fun b r hb q => (Chg.set e1102).same b r q (n1089 b hb)
            have p1107 := p1098.keep fun b r hb q => (Chg.set e1102).same b r q (n1090 b hb)
            have p1108 := p1099.keep fun b r hb q => (Chg.set e1102).same b r q (n1091 b hb)
            have x1109 := Ext.setNew x1100 e1102 o1093
            obtain ⟨o1110, k1111, a1112, u1113⟩ := ArrAt.at (P := Tryz.prog) boolc_size p1107 undarr79 size4 i51.lb g753
            refine wc_ev [leT 35 1 3 c745, evFe 37 2 p1022 s1010, evA 37 6 eb1024 e1026, evUw 37 7 size38 f1027 e1044, evV 38 3 (vP b21 o1052) (show indexAddrA Tryz.prog 79 (vP b21 0) (vI kb) = some (vP b21 o1052) from a1054 e750), evV 38 4 (vB v752) (show loadT Tryz.prog h1043 4 (vP b21 o1052) = some (vB v752) from k1053.cell (j := 0) agg4 rfl), evV 38 5 (vB false) (show binA Tryz.prog .neq 4 (vB false) (vB v752) = some (vB false) from by rw [c754]; kernel_rfl), evV 38 8 (vP b21 o1056) (show indexAddrA Tryz.prog 79 (vP b21 0) (vI kb) = some (vP b21 o1056) from a1058 e750), evV 38 9 (vB v752) (show loadT Tryz.prog h1043 4 (vP b21 o1056) = some (vB v752) from k1057.cell (j := 0) agg4 rfl), evM 38 10 c754, evV 38 21 (vP b21 o1060) (show indexAddrA Tryz.prog 79 (vP b21 0) (vI kb) = some (vP b21 o1060) from a1062 e750), evV 38 22 (vB false) (show loadT Tryz.prog h1043 4 (vP b21 o1060) = some (vB false) from (by rw [← c754]; exact k1061.cell (j := 0) agg4 rfl)), evV 40 1 (vP b11 o1064) (show indexAddrA Tryz.prog 78 (vP b11 0) (vI kb) = some (vP b11 o1064) from a1066 e750), evV 40 2 (vA #[(vS v749.1.d.name), (vI v749.1.d.rt), (vI v749.1.d.dl), (vL v749.2.1 v749.1.d.xs.length v749.2.2), (vI v749.1.st), (vI v749.1.ix), (vB v749.1.cn), (vI v749.1.tr), (vI v749.1.bg), (vI v749.1.er)]) (show loadT Tryz.prog h1043 38 (vP b11 o1064) = some (vA #[(vS v749.1.d.name), (vI v749.1.d.rt), (vI v749.1.d.dl), (vL v749.2.1 v749.1.d.xs.length v749.2.2), (vI v749.1.st), (vI v749.1.ix), (vB v749.1.cn), (vI v749.1.tr), (vI v749.1.bg), (vI v749.1.er)]) from k1065.agg (j := 0) agg38 size38 (show 0 + 10 ≤ 10 by decide) (by kernel_rfl)), evF 40 3 (by rw [nextV_open c1079 c1080] at s1070; exact s1070), evA 40 8 eb1082 e1084, evUw 40 9 size33 f1085 e1102, evV 41 1 (vP b21 o1110) (show indexAddrA Tryz.prog 79 (vP b21 0) (vI kb) = some (vP b21 o1110) from a1112 e750), evV 41 2 (vB v752) (show loadT Tryz.prog h1101 4 (vP b21 o1110) = some (vB v752) from k1111.cell (j := 0) agg4 rfl), evM 41 3 c754, evV 36 1 (vI ((kb) + 1)) (show binA Tryz.prog .add 3 (vI kb) (vI 1) = some (vI ((kb) + 1)) from add_i64 (by omega) (by omega))] .normal h1101 [(155, (vI kb)), (156, (vB true)), (160, (vP b4 0)), (161, (vI kb)), (162, (vT #[(vA #[(vS .empty), (vI 0), (vI 0), (vL none 0 0), (vI 0), (vI 0), (vB false), (vI 0), (vI 0), (vI 0)]), (vI 5)])), (159, (vT #[(vA #[(vS .empty), (vI 0), (vI 0), (vL none 0 0), (vI 0), (vI 0), (vB false), (vI 0), (vI 0), (vI 0)]), (vI 5)])), (163, (vA #[(vS .empty), (vI 0), (vI 0), (vL none 0 0), (vI 0), (vI 0), (vB false), (vI 0), (vI 0), (vI 0)])), (164, (vI 5)), (22, (vP b1023 0)), (23, (vI 5)), (165, (vI 5)), (166, (vB false)), (167, (vI kb)), (168, (vP b21 o1052)), (169, (vB v752)), (170, (vB false)), (171, (vB false)), (172, (vI kb)), (173, (vP b21 o1056)), (174, (vB v752)), (175, (vB false)), (176, vZ), (177, vZ), (178, vZ), (179, vZ), (180, vZ), (181, vZ), (182, (vB false)), (183, (vB false)), (184, (vB false)), (185, (vI kb)), (186, (vP b21 o1060)), (187, (vB false)), (188, (vB true)), (189, (vB true)), (190, (vI 5)), (191, (vB false)), (192, (vB false)), (193, (vB false)), (195, (vI kb)), (196, (vP b11 o1064)), (197, (vA #[(vS v749.1.d.name), (vI v749.1.d.rt), (vI v749.1.d.dl), (vL v749.2.1 v749.1.d.xs.length v749.2.2), (vI v749.1.st), (vI v749.1.ix), (vB v749.1.cn), (vI v749.1.tr), (vI v749.1.bg), (vI v749.1.er)])), (198, (vT #[(vA #[(vI 0), (vI v749.1.ix), (vI (phS (v749.1.st)))]), (vB true), (vI 0)])), (194, (vT #[(vA #[(vI 0), (vI v749.1.ix), (vI (phS (v749.1.st)))]), (vB true), (vI 0)])), (199, (vA #[(vI 0), (vI v749.1.ix), (vI (phS (v749.1.st)))])), (200, (vB true)), (201, (vI 0)), (24, (vP b1081 0)), (25, (vB true)), (26, (vI 0)), (202, (vI kb)), (203, (vP b21 o1110)), (204, (vB v752)), (205, (vB false)), (206, vZ), (207, (vB false)), (208, (vB false)), (209, vZ), (210, vZ), (211, (vB false)), (157, (vI kb)), (158, (vI ((kb) + 1))), (21, (vI ((kb) + 1)))] ?_
            exact ⟨9 - (kb + 1).toNat, by omega, ⟨kb + 1, out, oa, oc, nxs, pa, pc, (fun i => ([vU, vU, (g1 2), vU, vU, vU, vU, vU, vU, vU, vU, vU, vU, vU, vU, vU, vU, vU, vU, vU, vU, vU, (vP b1023 0), (vI 5), (vP b1081 0), (vB true), (vI 0), vU, vU, vU, vU, vU, vU, vU, vU, vU, vU, vU, vU, vU, vU, vU, vU, vU, vU, vU, vU, vU, vU, vU, vU, vU, vU, vU, vU, vU, vU, vU, vU, vU, vU, vU, vU, vU, vU, vU, vU, vU, vU, vU, vU, vU, vU, vU, vU, vU, vU, vU, vU, vU, vU, vU, vU, vU, vU, vU, vU, vU, vU, vU, vU, vU, vU, vU, vU, vU, vU, vU, vU, vU, vU, vU, vU, vU, vU, vU, vU, vU, vU, vU, vU, vU, vU, vU, vU, vU, vU, vU, vU, vU, vU, vU, vU, vU, vU, vU, vU, vU, vU, vU, vU, vU, vU, vU, vU, vU, vU, vU, vU, vU, vU, vU, vU, vU, vU, vU, vU, vU, vU, vU, vU, vU, vU, vU, vU, (vI kb), (vB true), (vI kb), (vI ((kb) + 1)), (vT #[(vA #[(vS .empty), (vI 0), (vI 0), (vL none 0 0), (vI 0), (vI 0), (vB false), (vI 0), (vI 0), (vI 0)]), (vI 5)]), (vP b4 0), (vI kb), (vT #[(vA #[(vS .empty), (vI 0), (vI 0), (vL none 0 0), (vI 0), (vI 0), (vB false), (vI 0), (vI 0), (vI 0)]), (vI 5)]), (vA #[(vS .empty), (vI 0), (vI 0), (vL none 0 0), (vI 0), (vI 0), (vB false), (vI 0), (vI 0), (vI 0)]), (vI 5), (vI 5), (vB false), (vI kb), (vP b21 o1052), (vB v752), (vB false), (vB false), (vI kb), (vP b21 o1056), (vB v752), (vB false), vZ, vZ, vZ, vZ, vZ, vZ, (vB false), (vB false), (vB false), (vI kb), (vP b21 o1060), (vB false), (vB true), (vB true), (vI 5), (vB false), (vB false), (vB false), (vT #[(vA #[(vI 0), (vI v749.1.ix), (vI (phS (v749.1.st)))]), (vB true), (vI 0)]), (vI kb), (vP b11 o1064), (vA #[(vS v749.1.d.name), (vI v749.1.d.rt), (vI v749.1.d.dl), (vL v749.2.1 v749.1.d.xs.length v749.2.2), (vI v749.1.st), (vI v749.1.ix), (vB v749.1.cn), (vI v749.1.tr), (vI v749.1.bg), (vI v749.1.er)]), (vT #[(vA #[(vI 0), (vI v749.1.ix), (vI (phS (v749.1.st)))]), (vB true), (vI 0)]), (vA #[(vI 0), (vI v749.1.ix), (vI (phS (v749.1.st)))]), (vB true), (vI 0), (vI kb), (vP b21 o1110), (vB v752), (vB false), vZ, (vB false), (vB false), vZ, vZ, (vB false), (g1 212), (g1 213), (g1 214), (g1 215), (g1 216), (g1 217), (g1 218), (g1 219), (g1 220), (g1 221)] : List Value).getD i undef), by as_aux_lemma => kernel_rfl, x1109, rfl, by omega, by rw [(out_none i53 f1007).1]; exact i731, by rw [(out_none i53 f1007).2]; exact i732, i733, i734, i735, i736, i737, i738, p1103, p1104, p1105, p1106, p1107, p1108⟩⟩
          · obtain ⟨b1114, eb1115⟩ : ∃ zq, zq = h1069.size := ⟨_, rfl⟩
            obtain ⟨h1116, e1117⟩ : ∃ zq, zq = h1069.push (.cells #[(vI 0), (vI 0), (vI 0)] 33 (0, 0)) := ⟨_, rfl⟩
            have f1118 := push_new e1117
            rw [← eb1115] at f1118
            have n1119 : ∀ zz, (blk (Value.slice oa (out.length) (oc))) zz → ¬ zz = b1114 := fun zz hz ez => by have := p1072.blk_lt hz; omega
            have n1120 : ∀ zz, (blk (Value.slice pa (nxs.length) (pc))) zz → ¬ zz = b1114 := fun zz hz ez => by have := p1073.blk_lt hz; omega
            have n1121 : ∀ zz, Ot zz → ¬ zz = b1114 := fun zz hz ez => by have := p1074.blk_lt hz; omega
            have n1122 : ∀ zz, (fun q => q = b11) zz → ¬ zz = b1114 := fun zz hz ez => by have := p1075.blk_lt hz; omega
            have n1123 : ∀ zz, (fun q => q = b21) zz → ¬ zz = b1114 := fun zz hz ez => by have := p1076.blk_lt hz; omega
            have n1124 : ∀ zz, (lsF ss) zz → ¬ zz = b1114 := fun zz hz ez => by have := p1077.blk_lt hz; omega
            have x1125 : Ext h1069 h1116 := by rw [e1117]; exact Ext.push _ _
            have o1126 : h.size ≤ b1114 := by have := x1078.size; omega
            have p1127 := p1072.keep fun b r _ q => x1125 b r q
            have p1128 := p1073.keep fun b r _ q => x1125 b r q
            have p1129 := p1074.keep fun b r _ q => x1125 b r q
            have p1130 := p1075.keep fun b r _ q => x1125 b r q
            have p1131 := p1076.keep fun b r _ q => x1125 b r q
            have p1132 := p1077.keep fun b r _ q => x1125 b r q
            have x1133 := x1078.trans x1125
            obtain ⟨h1134, e1135⟩ : ∃ zq, zq = h1116.setIfInBounds b1114 (.cells #[(vI 0), (vI 0), (vI 0)] 33 (0, 0)) := ⟨_, rfl⟩
            have p1136 := p1127.keep fun b r hb q => (Chg.set e1135).same b r q (n1119 b hb)
            have p1137 := p1128.keep fun b r hb q => (Chg.set e1135).same b r q (n1120 b hb)
            have p1138 := p1129.keep fun b r hb q => (Chg.set e1135).same b r q (n1121 b hb)
            have p1139 := p1130.keep fun b r hb q => (Chg.set e1135).same b r q (n1122 b hb)
            have p1140 := p1131.keep fun b r hb q => (Chg.set e1135).same b r q (n1123 b hb)
            have p1141 := p1132.keep fun b r hb q => (Chg.set e1135).same b r q (n1124 b hb)
            have x1142 := Ext.setNew x1133 e1135 o1126
            obtain ⟨o1143, k1144, a1145, u1146⟩ := ArrAt.at (P := Tryz.prog) boolc_size p1140 undarr79 size4 i51.lb g753
            refine wc_ev [leT 35 1 3 c745, evFe 37 2 p1022 s1010, evA 37 6 eb1024 e1026, evUw 37 7 size38 f1027 e1044, evV 38 3 (vP b21 o1052) (show indexAddrA Tryz.prog 79 (vP b21 0) (vI kb) = some (vP b21 o1052) from a1054 e750), evV 38 4 (vB v752) (show loadT Tryz.prog h1043 4 (vP b21 o1052) = some (vB v752) from k1053.cell (j := 0) agg4 rfl), evV 38 5 (vB false) (show binA Tryz.prog .neq 4 (vB false) (vB v752) = some (vB false) from by rw [c754]; kernel_rfl), evV 38 8 (vP b21 o1056) (show indexAddrA Tryz.prog 79 (vP b21 0) (vI kb) = some (vP b21 o1056) from a1058 e750), evV 38 9 (vB v752) (show loadT Tryz.prog h1043 4 (vP b21 o1056) = some (vB v752) from k1057.cell (j := 0) agg4 rfl), evM 38 10 c754, evV 38 21 (vP b21 o1060) (show indexAddrA Tryz.prog 79 (vP b21 0) (vI kb) = some (vP b21 o1060) from a1062 e750), evV 38 22 (vB false) (show loadT Tryz.prog h1043 4 (vP b21 o1060) = some (vB false) from (by rw [← c754]; exact k1061.cell (j := 0) agg4 rfl)), evV 40 1 (vP b11 o1064) (show indexAddrA Tryz.prog 78 (vP b11 0) (vI kb) = some (vP b11 o1064) from a1066 e750), evV 40 2 (vA #[(vS v749.1.d.name), (vI v749.1.d.rt), (vI v749.1.d.dl), (vL v749.2.1 v749.1.d.xs.length v749.2.2), (vI v749.1.st), (vI v749.1.ix), (vB v749.1.cn), (vI v749.1.tr), (vI v749.1.bg), (vI v749.1.er)]) (show loadT Tryz.prog h1043 38 (vP b11 o1064) = some (vA #[(vS v749.1.d.name), (vI v749.1.d.rt), (vI v749.1.d.dl), (vL v749.2.1 v749.1.d.xs.length v749.2.2), (vI v749.1.st), (vI v749.1.ix), (vB v749.1.cn), (vI v749.1.tr), (vI v749.1.bg), (vI v749.1.er)]) from k1065.agg (j := 0) agg38 size38 (show 0 + 10 ≤ 10 by decide) (by kernel_rfl)), evF 40 3 (by rw [nextV_done c1079 c1080] at s1070; exact s1070), evA 40 8 eb1115 e1117, evUw 40 9 size33 f1118 e1135, evV 41 1 (vP b21 o1143) (show indexAddrA Tryz.prog 79 (vP b21 0) (vI kb) = some (vP b21 o1143) from a1145 e750), evV 41 2 (vB v752) (show loadT Tryz.prog h1134 4 (vP b21 o1143) = some (vB v752) from k1144.cell (j := 0) agg4 rfl), evM 41 3 c754, evV 36 1 (vI ((kb) + 1)) (show binA Tryz.prog .add 3 (vI kb) (vI 1) = some (vI ((kb) + 1)) from add_i64 (by omega) (by omega))] .normal h1134 [(155, (vI kb)), (156, (vB true)), (160, (vP b4 0)), (161, (vI kb)), (162, (vT #[(vA #[(vS .empty), (vI 0), (vI 0), (vL none 0 0), (vI 0), (vI 0), (vB false), (vI 0), (vI 0), (vI 0)]), (vI 5)])), (159, (vT #[(vA #[(vS .empty), (vI 0), (vI 0), (vL none 0 0), (vI 0), (vI 0), (vB false), (vI 0), (vI 0), (vI 0)]), (vI 5)])), (163, (vA #[(vS .empty), (vI 0), (vI 0), (vL none 0 0), (vI 0), (vI 0), (vB false), (vI 0), (vI 0), (vI 0)])), (164, (vI 5)), (22, (vP b1023 0)), (23, (vI 5)), (165, (vI 5)), (166, (vB false)), (167, (vI kb)), (168, (vP b21 o1052)), (169, (vB v752)), (170, (vB false)), (171, (vB false)), (172, (vI kb)), (173, (vP b21 o1056)), (174, (vB v752)), (175, (vB false)), (176, vZ), (177, vZ), (178, vZ), (179, vZ), (180, vZ), (181, vZ), (182, (vB false)), (183, (vB false)), (184, (vB false)), (185, (vI kb)), (186, (vP b21 o1060)), (187, (vB false)), (188, (vB true)), (189, (vB true)), (190, (vI 5)), (191, (vB false)), (192, (vB false)), (193, (vB false)), (195, (vI kb)), (196, (vP b11 o1064)), (197, (vA #[(vS v749.1.d.name), (vI v749.1.d.rt), (vI v749.1.d.dl), (vL v749.2.1 v749.1.d.xs.length v749.2.2), (vI v749.1.st), (vI v749.1.ix), (vB v749.1.cn), (vI v749.1.tr), (vI v749.1.bg), (vI v749.1.er)])), (198, (vT #[(vA #[(vI 0), (vI 0), (vI 0)]), (vB false), (vI 0)])), (194, (vT #[(vA #[(vI 0), (vI 0), (vI 0)]), (vB false), (vI 0)])), (199, (vA #[(vI 0), (vI 0), (vI 0)])), (200, (vB false)), (201, (vI 0)), (24, (vP b1114 0)), (25, (vB false)), (26, (vI 0)), (202, (vI kb)), (203, (vP b21 o1143)), (204, (vB v752)), (205, (vB false)), (206, vZ), (207, (vB false)), (208, (vB false)), (209, vZ), (210, vZ), (211, (vB false)), (157, (vI kb)), (158, (vI ((kb) + 1))), (21, (vI ((kb) + 1)))] ?_
            exact ⟨9 - (kb + 1).toNat, by omega, ⟨kb + 1, out, oa, oc, nxs, pa, pc, (fun i => ([vU, vU, (g1 2), vU, vU, vU, vU, vU, vU, vU, vU, vU, vU, vU, vU, vU, vU, vU, vU, vU, vU, vU, (vP b1023 0), (vI 5), (vP b1114 0), (vB false), (vI 0), vU, vU, vU, vU, vU, vU, vU, vU, vU, vU, vU, vU, vU, vU, vU, vU, vU, vU, vU, vU, vU, vU, vU, vU, vU, vU, vU, vU, vU, vU, vU, vU, vU, vU, vU, vU, vU, vU, vU, vU, vU, vU, vU, vU, vU, vU, vU, vU, vU, vU, vU, vU, vU, vU, vU, vU, vU, vU, vU, vU, vU, vU, vU, vU, vU, vU, vU, vU, vU, vU, vU, vU, vU, vU, vU, vU, vU, vU, vU, vU, vU, vU, vU, vU, vU, vU, vU, vU, vU, vU, vU, vU, vU, vU, vU, vU, vU, vU, vU, vU, vU, vU, vU, vU, vU, vU, vU, vU, vU, vU, vU, vU, vU, vU, vU, vU, vU, vU, vU, vU, vU, vU, vU, vU, vU, vU, vU, vU, (vI kb), (vB true), (vI kb), (vI ((kb) + 1)), (vT #[(vA #[(vS .empty), (vI 0), (vI 0), (vL none 0 0), (vI 0), (vI 0), (vB false), (vI 0), (vI 0), (vI 0)]), (vI 5)]), (vP b4 0), (vI kb), (vT #[(vA #[(vS .empty), (vI 0), (vI 0), (vL none 0 0), (vI 0), (vI 0), (vB false), (vI 0), (vI 0), (vI 0)]), (vI 5)]), (vA #[(vS .empty), (vI 0), (vI 0), (vL none 0 0), (vI 0), (vI 0), (vB false), (vI 0), (vI 0), (vI 0)]), (vI 5), (vI 5), (vB false), (vI kb), (vP b21 o1052), (vB v752), (vB false), (vB false), (vI kb), (vP b21 o1056), (vB v752), (vB false), vZ, vZ, vZ, vZ, vZ, vZ, (vB false), (vB false), (vB false), (vI kb), (vP b21 o1060), (vB false), (vB true), (vB true), (vI 5), (vB false), (vB false), (vB false), (vT #[(vA #[(vI 0), (vI 0), (vI 0)]), (vB false), (vI 0)]), (vI kb), (vP b11 o1064), (vA #[(vS v749.1.d.name), (vI v749.1.d.rt), (vI v749.1.d.dl), (vL v749.2.1 v749.1.d.xs.length v749.2.2), (vI v749.1.st), (vI v749.1.ix), (vB v749.1.cn), (vI v749.1.tr), (vI v749.1.bg), (vI v749.1.er)]), (vT #[(vA #[(vI 0), (vI 0), (vI 0)]), (vB false), (vI 0)]), (vA #[(vI 0), (vI 0), (vI 0)]), (vB false), (vI 0), (vI kb), (vP b21 o1143), (vB v752), (vB false), vZ, (vB false), (vB false), vZ, vZ, (vB false), (g1 212), (g1 213), (g1 214), (g1 215), (g1 216), (g1 217), (g1 218), (g1 219), (g1 220), (g1 221)] : List Value).getD i undef), by as_aux_lemma => kernel_rfl, x1142, rfl, by omega, by rw [(out_none i53 f1007).1]; exact i731, by rw [(out_none i53 f1007).2]; exact i732, i733, i734, i735, i736, i737, i738, p1136, p1137, p1138, p1139, p1140, p1141⟩⟩
        · obtain ⟨b1147, eb1148⟩ : ∃ zq, zq = h1069.size := ⟨_, rfl⟩
          obtain ⟨h1149, e1150⟩ : ∃ zq, zq = h1069.push (.cells #[(vI 0), (vI 0), (vI 0)] 33 (0, 0)) := ⟨_, rfl⟩
          have f1151 := push_new e1150
          rw [← eb1148] at f1151
          have n1152 : ∀ zz, (blk (Value.slice oa (out.length) (oc))) zz → ¬ zz = b1147 := fun zz hz ez => by have := p1072.blk_lt hz; omega
          have n1153 : ∀ zz, (blk (Value.slice pa (nxs.length) (pc))) zz → ¬ zz = b1147 := fun zz hz ez => by have := p1073.blk_lt hz; omega
          have n1154 : ∀ zz, Ot zz → ¬ zz = b1147 := fun zz hz ez => by have := p1074.blk_lt hz; omega
          have n1155 : ∀ zz, (fun q => q = b11) zz → ¬ zz = b1147 := fun zz hz ez => by have := p1075.blk_lt hz; omega
          have n1156 : ∀ zz, (fun q => q = b21) zz → ¬ zz = b1147 := fun zz hz ez => by have := p1076.blk_lt hz; omega
          have n1157 : ∀ zz, (lsF ss) zz → ¬ zz = b1147 := fun zz hz ez => by have := p1077.blk_lt hz; omega
          have x1158 : Ext h1069 h1149 := by rw [e1150]; exact Ext.push _ _
          have o1159 : h.size ≤ b1147 := by have := x1078.size; omega
          have p1160 := p1072.keep fun b r _ q => x1158 b r q
          have p1161 := p1073.keep fun b r _ q => x1158 b r q
          have p1162 := p1074.keep fun b r _ q => x1158 b r q
          have p1163 := p1075.keep fun b r _ q => x1158 b r q
          have p1164 := p1076.keep fun b r _ q => x1158 b r q
          have p1165 := p1077.keep fun b r _ q => x1158 b r q
          have x1166 := x1078.trans x1158
          obtain ⟨h1167, e1168⟩ : ∃ zq, zq = h1149.setIfInBounds b1147 (.cells #[(vI 0), (vI 0), (vI 0)] 33 (0, 0)) := ⟨_, rfl⟩
          have p1169 := p1160.keep fun b r hb q => (Chg.set e1168).same b r q (n1152 b hb)
          have p1170 := p1161.keep fun b r hb q => (Chg.set e1168).same b r q (n1153 b hb)
          have p1171 := p1162.keep fun b r hb q => (Chg.set e1168).same b r q (n1154 b hb)
          have p1172 := p1163.keep fun b r hb q => (Chg.set e1168).same b r q (n1155 b hb)
          have p1173 := p1164.keep fun b r hb q => (Chg.set e1168).same b r q (n1156 b hb)
          have p1174 := p1165.keep fun b r hb q => (Chg.set e1168).same b r q (n1157 b hb)
          have x1175 := Ext.setNew x1166 e1168 o1159
          obtain ⟨o1176, k1177, a1178, u1179⟩ := ArrAt.at (P := Tryz.prog) boolc_size p1173 undarr79 size4 i51.lb g753
          refine wc_ev [leT 35 1 3 c745, evFe 37 2 p1022 s1010, evA 37 6 eb1024 e1026, evUw 37 7 size38 f1027 e1044, evV 38 3 (vP b21 o1052) (show indexAddrA Tryz.prog 79 (vP b21 0) (vI kb) = some (vP b21 o1052) from a1054 e750), evV 38 4 (vB v752) (show loadT Tryz.prog h1043 4 (vP b21 o1052) = some (vB v752) from k1053.cell (j := 0) agg4 rfl), evV 38 5 (vB false) (show binA Tryz.prog .neq 4 (vB false) (vB v752) = some (vB false) from by rw [c754]; kernel_rfl), evV 38 8 (vP b21 o1056) (show indexAddrA Tryz.prog 79 (vP b21 0) (vI kb) = some (vP b21 o1056) from a1058 e750), evV 38 9 (vB v752) (show loadT Tryz.prog h1043 4 (vP b21 o1056) = some (vB v752) from k1057.cell (j := 0) agg4 rfl), evM 38 10 c754, evV 38 21 (vP b21 o1060) (show indexAddrA Tryz.prog 79 (vP b21 0) (vI kb) = some (vP b21 o1060) from a1062 e750), evV 38 22 (vB false) (show loadT Tryz.prog h1043 4 (vP b21 o1060) = some (vB false) from (by rw [← c754]; exact k1061.cell (j := 0) agg4 rfl)), evV 40 1 (vP b11 o1064) (show indexAddrA Tryz.prog 78 (vP b11 0) (vI kb) = some (vP b11 o1064) from a1066 e750), evV 40 2 (vA #[(vS v749.1.d.name), (vI v749.1.d.rt), (vI v749.1.d.dl), (vL v749.2.1 v749.1.d.xs.length v749.2.2), (vI v749.1.st), (vI v749.1.ix), (vB v749.1.cn), (vI v749.1.tr), (vI v749.1.bg), (vI v749.1.er)]) (show loadT Tryz.prog h1043 38 (vP b11 o1064) = some (vA #[(vS v749.1.d.name), (vI v749.1.d.rt), (vI v749.1.d.dl), (vL v749.2.1 v749.1.d.xs.length v749.2.2), (vI v749.1.st), (vI v749.1.ix), (vB v749.1.cn), (vI v749.1.tr), (vI v749.1.bg), (vI v749.1.er)]) from k1065.agg (j := 0) agg38 size38 (show 0 + 10 ≤ 10 by decide) (by kernel_rfl)), evF 40 3 (by rw [nextV_bad c1079] at s1070; exact s1070), evA 40 8 eb1148 e1150, evUw 40 9 size33 f1151 e1168, evV 41 1 (vP b21 o1176) (show indexAddrA Tryz.prog 79 (vP b21 0) (vI kb) = some (vP b21 o1176) from a1178 e750), evV 41 2 (vB v752) (show loadT Tryz.prog h1167 4 (vP b21 o1176) = some (vB v752) from k1177.cell (j := 0) agg4 rfl), evM 41 3 c754, evV 36 1 (vI ((kb) + 1)) (show binA Tryz.prog .add 3 (vI kb) (vI 1) = some (vI ((kb) + 1)) from add_i64 (by omega) (by omega))] .normal h1167 [(155, (vI kb)), (156, (vB true)), (160, (vP b4 0)), (161, (vI kb)), (162, (vT #[(vA #[(vS .empty), (vI 0), (vI 0), (vL none 0 0), (vI 0), (vI 0), (vB false), (vI 0), (vI 0), (vI 0)]), (vI 5)])), (159, (vT #[(vA #[(vS .empty), (vI 0), (vI 0), (vL none 0 0), (vI 0), (vI 0), (vB false), (vI 0), (vI 0), (vI 0)]), (vI 5)])), (163, (vA #[(vS .empty), (vI 0), (vI 0), (vL none 0 0), (vI 0), (vI 0), (vB false), (vI 0), (vI 0), (vI 0)])), (164, (vI 5)), (22, (vP b1023 0)), (23, (vI 5)), (165, (vI 5)), (166, (vB false)), (167, (vI kb)), (168, (vP b21 o1052)), (169, (vB v752)), (170, (vB false)), (171, (vB false)), (172, (vI kb)), (173, (vP b21 o1056)), (174, (vB v752)), (175, (vB false)), (176, vZ), (177, vZ), (178, vZ), (179, vZ), (180, vZ), (181, vZ), (182, (vB false)), (183, (vB false)), (184, (vB false)), (185, (vI kb)), (186, (vP b21 o1060)), (187, (vB false)), (188, (vB true)), (189, (vB true)), (190, (vI 5)), (191, (vB false)), (192, (vB false)), (193, (vB false)), (195, (vI kb)), (196, (vP b11 o1064)), (197, (vA #[(vS v749.1.d.name), (vI v749.1.d.rt), (vI v749.1.d.dl), (vL v749.2.1 v749.1.d.xs.length v749.2.2), (vI v749.1.st), (vI v749.1.ix), (vB v749.1.cn), (vI v749.1.tr), (vI v749.1.bg), (vI v749.1.er)])), (198, (vT #[(vA #[(vI 0), (vI 0), (vI 0)]), (vB false), (vI (chkS v749.1))])), (194, (vT #[(vA #[(vI 0), (vI 0), (vI 0)]), (vB false), (vI (chkS v749.1))])), (199, (vA #[(vI 0), (vI 0), (vI 0)])), (200, (vB false)), (201, (vI (chkS v749.1))), (24, (vP b1147 0)), (25, (vB false)), (26, (vI (chkS v749.1))), (202, (vI kb)), (203, (vP b21 o1176)), (204, (vB v752)), (205, (vB false)), (206, vZ), (207, (vB false)), (208, (vB false)), (209, vZ), (210, vZ), (211, (vB false)), (157, (vI kb)), (158, (vI ((kb) + 1))), (21, (vI ((kb) + 1)))] ?_
          exact ⟨9 - (kb + 1).toNat, by omega, ⟨kb + 1, out, oa, oc, nxs, pa, pc, (fun i => ([vU, vU, (g1 2), vU, vU, vU, vU, vU, vU, vU, vU, vU, vU, vU, vU, vU, vU, vU, vU, vU, vU, vU, (vP b1023 0), (vI 5), (vP b1147 0), (vB false), (vI (chkS v749.1)), vU, vU, vU, vU, vU, vU, vU, vU, vU, vU, vU, vU, vU, vU, vU, vU, vU, vU, vU, vU, vU, vU, vU, vU, vU, vU, vU, vU, vU, vU, vU, vU, vU, vU, vU, vU, vU, vU, vU, vU, vU, vU, vU, vU, vU, vU, vU, vU, vU, vU, vU, vU, vU, vU, vU, vU, vU, vU, vU, vU, vU, vU, vU, vU, vU, vU, vU, vU, vU, vU, vU, vU, vU, vU, vU, vU, vU, vU, vU, vU, vU, vU, vU, vU, vU, vU, vU, vU, vU, vU, vU, vU, vU, vU, vU, vU, vU, vU, vU, vU, vU, vU, vU, vU, vU, vU, vU, vU, vU, vU, vU, vU, vU, vU, vU, vU, vU, vU, vU, vU, vU, vU, vU, vU, vU, vU, vU, vU, (vI kb), (vB true), (vI kb), (vI ((kb) + 1)), (vT #[(vA #[(vS .empty), (vI 0), (vI 0), (vL none 0 0), (vI 0), (vI 0), (vB false), (vI 0), (vI 0), (vI 0)]), (vI 5)]), (vP b4 0), (vI kb), (vT #[(vA #[(vS .empty), (vI 0), (vI 0), (vL none 0 0), (vI 0), (vI 0), (vB false), (vI 0), (vI 0), (vI 0)]), (vI 5)]), (vA #[(vS .empty), (vI 0), (vI 0), (vL none 0 0), (vI 0), (vI 0), (vB false), (vI 0), (vI 0), (vI 0)]), (vI 5), (vI 5), (vB false), (vI kb), (vP b21 o1052), (vB v752), (vB false), (vB false), (vI kb), (vP b21 o1056), (vB v752), (vB false), vZ, vZ, vZ, vZ, vZ, vZ, (vB false), (vB false), (vB false), (vI kb), (vP b21 o1060), (vB false), (vB true), (vB true), (vI 5), (vB false), (vB false), (vB false), (vT #[(vA #[(vI 0), (vI 0), (vI 0)]), (vB false), (vI (chkS v749.1))]), (vI kb), (vP b11 o1064), (vA #[(vS v749.1.d.name), (vI v749.1.d.rt), (vI v749.1.d.dl), (vL v749.2.1 v749.1.d.xs.length v749.2.2), (vI v749.1.st), (vI v749.1.ix), (vB v749.1.cn), (vI v749.1.tr), (vI v749.1.bg), (vI v749.1.er)]), (vT #[(vA #[(vI 0), (vI 0), (vI 0)]), (vB false), (vI (chkS v749.1))]), (vA #[(vI 0), (vI 0), (vI 0)]), (vB false), (vI (chkS v749.1)), (vI kb), (vP b21 o1176), (vB v752), (vB false), vZ, (vB false), (vB false), vZ, vZ, (vB false), (g1 212), (g1 213), (g1 214), (g1 215), (g1 216), (g1 217), (g1 218), (g1 219), (g1 220), (g1 221)] : List Value).getD i undef), by as_aux_lemma => kernel_rfl, x1175, rfl, by omega, by rw [(out_none i53 f1007).1]; exact i731, by rw [(out_none i53 f1007).2]; exact i732, i733, i734, i735, i736, i737, i738, p1169, p1170, p1171, p1172, p1173, p1174⟩⟩
    · refine wc_ev [leF 35 1 3 c745] (.exit 3) h727 [(155, (vI kb)), (156, (vB false))] ?_
      obtain ⟨_, h1180, s1181, w1182, c1183, rfl, o1184, x1185, n1186⟩ := open_ok h727 p741 i53 (x728 _ _ hg0) (x728 _ _ hg1)
      have z1187 : (opnL mm).length ≤ 64 := Nat.le_trans (opnL_len _) (i53).few
      have p1188 := p739.keep fun b r _ q => x1185 b r q
      have p1189 := p740.keep fun b r _ q => x1185 b r q
      have p1190 := p741.keep fun b r _ q => x1185 b r q
      have x1191 := x728.trans x1185
      have z1192 : h.size ≤ h727.size := x728.size
      have o1193 : ∀ zz, blk (Value.slice w1182 ((opnL mm).length) (c1183)) zz → h.size ≤ zz := fun zz hz => by have := n1186 zz hz; omega
      obtain ⟨_, _, s1194, rfl, rfl⟩ := eqI_ok h1180 (opnL mm) out _ _ _ _ (o1184.slice zc_size) (p1188.slice zc_size) (by omega)
      have q1195 : (opnL mm) = out := by rw [i731, show kb = 9 by omega, upto_all fun p hp => by have := i51.keys p hp; omega]
      have z1196 : (opnL mm).length = out.length := by rw [q1195]
      obtain ⟨_, h1197, s1198, w1199, c1200, rfl, o1201, x1202, n1203⟩ := tnext_ok h1180 p1190 i53 (x1191 _ _ hg0) (x1191 _ _ hg1)
      have z1204 : (nxtL mm).length ≤ 64 := Nat.le_trans (nxtL_len _) (i53).few
      have p1205 := p1189.keep fun b r _ q => x1202 b r q
      have p1206 := p1190.keep fun b r _ q => x1202 b r q
      have x1207 := x1191.trans x1202
      have z1208 : h.size ≤ h1180.size := x1191.size
      have o1209 : ∀ zz, blk (Value.slice w1199 ((nxtL mm).length) (c1200)) zz → h.size ≤ zz := fun zz hz => by have := n1203 zz hz; omega
      obtain ⟨_, _, s1210, rfl, rfl⟩ := eqE_ok h1197 (nxtL mm) nxs _ _ _ _ (o1201.slice effc_size) (p1205.slice effc_size) (by omega)
      have q1211 : (nxtL mm) = nxs := by rw [i732, show kb = 9 by omega, upto_all fun p hp => by have := i51.keys p hp; omega]
      obtain ⟨_, h1212, s1213, rfl, x1214⟩ := quiet_ok h1197 p1206 i53 (x1207 _ _ hg0) (x1207 _ _ hg1)
      have x1215 := x1207.trans x1214
      rcases Bool.eq_false_or_eq_true ((quietT mm)) with c1216 | c1216
      · have z1217 : (opnL mm).length = 0 := of_decide_eq_true c1216
        by_cases c1218 : (((out.length : Nat)) : Int) = 0
        · obtain ⟨_, hh1219, sn1220, rfl, x1221⟩ := works_ok h1212 (x1215 _ _ hg0) (x1215 _ _ hg1)
          have x1222 := x1215.trans x1221
          refine wc_ev [evF 44 1 s1181, evFt 44 3 q1195 s1194, evF 44 6 s1198, evFt 44 8 q1211 s1210, evFb 44 12 c1216 s1213, eqT 44 15 3 c1218, evF 44 19 sn1220] .ret hh1219 [(222, (vP b4 0)), (223, (vL w1182 ((opnL mm).length) c1183)), (224, (vL oa out.length oc)), (225, (vB true)), (226, (vB true)), (227, (vP b4 0)), (228, (vL w1199 ((nxtL mm).length) c1200)), (229, (vL pa nxs.length pc)), (230, (vB true)), (231, (vB true)), (232, (vB true)), (233, (vP b4 0)), (234, (vB true)), (235, (vL oa out.length oc)), (236, (vI ((out.length : Nat)))), (237, (vB true)), (238, (vB true)), (239, (vB true)), (240, (vB true)), (241, (vB true)), (242, (vB true)), (2, (vB true))] ?_
          exact end_ev [] (vB true) (hK _ _ (⟨rfl, x1222⟩))
        · refine wc_ev [evF 44 1 s1181, evFt 44 3 q1195 s1194, evF 44 6 s1198, evFt 44 8 q1211 s1210, evFb 44 12 c1216 s1213, eqF 44 15 3 c1218] .ret h1212 [(222, (vP b4 0)), (223, (vL w1182 ((opnL mm).length) c1183)), (224, (vL oa out.length oc)), (225, (vB true)), (226, (vB true)), (227, (vP b4 0)), (228, (vL w1199 ((nxtL mm).length) c1200)), (229, (vL pa nxs.length pc)), (230, (vB true)), (231, (vB true)), (232, (vB true)), (233, (vP b4 0)), (234, (vB true)), (235, (vL oa out.length oc)), (236, (vI ((out.length : Nat)))), (237, (vB false)), (238, (vB false)), (239, (vB false)), (240, (vB false)), (241, vZ), (242, (vB false)), (2, (vB false))] ?_
          exfalso
          omega
      · have z1223 : ¬ (opnL mm).length = 0 := of_decide_eq_false c1216
        by_cases c1224 : (((out.length : Nat)) : Int) = 0
        · refine wc_ev [evF 44 1 s1181, evFt 44 3 q1195 s1194, evF 44 6 s1198, evFt 44 8 q1211 s1210, evFb 44 12 c1216 s1213, eqT 44 15 3 c1224] .ret h1212 [(222, (vP b4 0)), (223, (vL w1182 ((opnL mm).length) c1183)), (224, (vL oa out.length oc)), (225, (vB true)), (226, (vB true)), (227, (vP b4 0)), (228, (vL w1199 ((nxtL mm).length) c1200)), (229, (vL pa nxs.length pc)), (230, (vB true)), (231, (vB true)), (232, (vB true)), (233, (vP b4 0)), (234, (vB false)), (235, (vL oa out.length oc)), (236, (vI ((out.length : Nat)))), (237, (vB true)), (238, (vB false)), (239, (vB false)), (240, (vB false)), (241, vZ), (242, (vB false)), (2, (vB false))] ?_
          exfalso
          omega
        · obtain ⟨_, hh1225, sn1226, rfl, x1227⟩ := works_ok h1212 (x1215 _ _ hg0) (x1215 _ _ hg1)
          have x1228 := x1215.trans x1227
          refine wc_ev [evF 44 1 s1181, evFt 44 3 q1195 s1194, evF 44 6 s1198, evFt 44 8 q1211 s1210, evFb 44 12 c1216 s1213, eqF 44 15 3 c1224, evF 44 19 sn1226] .ret hh1225 [(222, (vP b4 0)), (223, (vL w1182 ((opnL mm).length) c1183)), (224, (vL oa out.length oc)), (225, (vB true)), (226, (vB true)), (227, (vP b4 0)), (228, (vL w1199 ((nxtL mm).length) c1200)), (229, (vL pa nxs.length pc)), (230, (vB true)), (231, (vB true)), (232, (vB true)), (233, (vP b4 0)), (234, (vB false)), (235, (vL oa out.length oc)), (236, (vI ((out.length : Nat)))), (237, (vB false)), (238, (vB true)), (239, (vB true)), (240, (vB true)), (241, (vB true)), (242, (vB true)), (2, (vB true))] ?_
          exact end_ev [] (vB true) (hK _ _ (⟨rfl, x1228⟩))
end C29
