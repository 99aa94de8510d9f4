/- Stores, in plain terms. -/
import Derived.Test.YtciigibbgklcjaaDoorKg
import Derived.Test.YtciigibbgklcjaaDoorKx
import Derived.KernelRfl
open Go Go.AM Go.Proofs
namespace C08
abbrev Sto := List (ByteArray × CntM)
def zeroC : CntM := ⟨0, 0, 0, 0, 0⟩
/-- Keys in order. -/
def Ord (m : Sto) : Prop := (m.map (·.1)).Pairwise fun a b => sl a b = true
structure WfM (m : Sto) : Prop where
  ord : Ord m
  names : ∀ p ∈ m, nameB p.1 = true
  fine : ∀ p ∈ m, okC p.2 = true
  few : m.length ≤ 64
theorem WfM.nil : WfM [] := ⟨List.Pairwise.nil, fun p h => absurd h (by simp), fun p h => absurd h (by simp), by decide⟩
theorem Ord.apart {m : Sto} (h : Ord m) : (m.map (·.1)).Nodup := h.imp fun {a b} q e => by subst e; rw [sl_irrefl] at q; cases q
theorem name_size {s : ByteArray} (h : nameB s = true) : 1 ≤ s.size ∧ s.size ≤ 16 := by
  unfold nameB at h; rw [Bool.and_eq_true] at h; exact of_decide_eq_true h.1
def insK (k : ByteArray) (c : CntM) : Sto → Sto
  | [] => [(k, c)]
  | p :: m => if sl p.1 k = true then p :: insK k c m else (k, c) :: p :: m
theorem insK_perm (k : ByteArray) (c : CntM) : ∀ m : Sto, (insK k c m).Perm ((k, c) :: m)
  | [] => .refl _
  | p :: m => by
    unfold insK; split
    · exact ((insK_perm k c m).cons p).trans (.swap _ _ _)
    · exact .refl _
theorem insK_mem {k : ByteArray} {c : CntM} {m : Sto} {p : ByteArray × CntM} : p ∈ insK k c m ↔ p = (k, c) ∨ p ∈ m := by rw [(insK_perm k c m).mem_iff, List.mem_cons]
theorem insK_len (k : ByteArray) (c : CntM) (m : Sto) : (insK k c m).length = m.length + 1 := by rw [(insK_perm k c m).length_eq]; rfl
theorem insK_ord {k : ByteArray} {c : CntM} : ∀ {m : Sto}, Ord m → findK m k = none → Ord (insK k c m)
  | [], _, _ => by simp [insK, Ord]
  | p :: m, h, hn => by
    have h' := h
    unfold Ord at h'
    rw [List.map_cons, List.pairwise_cons] at h'
    rw [findK_cons] at hn
    split at hn
    · cases hn
    · rename_i e
      unfold insK; split
      · rename_i q
        unfold Ord
        rw [List.map_cons, List.pairwise_cons]
        refine ⟨fun x hx => ?_, insK_ord h'.2 hn⟩
        obtain ⟨y, hy, rfl⟩ := List.mem_map.1 hx
        rcases insK_mem.1 hy with rfl | hy
        · exact q
        · exact h'.1 _ (List.mem_map_of_mem hy)
      · rename_i q
        have q1 : sl k p.1 = true := by
          cases w : sl k p.1 with
          | true => rfl
          | false => exact absurd (sl_total (Bool.eq_false_iff.2 q) w) e
        unfold Ord
        rw [List.map_cons, List.pairwise_cons]
        refine ⟨fun x hx => ?_, h⟩
        rw [List.map_cons, List.mem_cons] at hx
        rcases hx with rfl | hx
        · exact q1
        · exact sl_trans q1 (h'.1 _ hx)
/-- What the calls of a store give, and the store behind them. -/
def getE (m : Sto) (k : ByteArray) : Int := if (findK m k).isSome = true then 0 else 5
def getC (m : Sto) (k : ByteArray) : CntM := (findK m k).getD zeroC
theorem getE_some {m : Sto} {k : ByteArray} {c : CntM} (h : findK m k = some c) : getE m k = 0 ∧ getC m k = c := by unfold getE getC; rw [h]; exact ⟨rfl, rfl⟩
theorem getE_none {m : Sto} {k : ByteArray} (h : findK m k = none) : getE m k = 5 ∧ getC m k = zeroC := by unfold getE getC; rw [h]; exact ⟨rfl, rfl⟩
theorem getE_zero {m : Sto} {k : ByteArray} (h : getE m k = 0) : findK m k = some (getC m k) := by
  cases q : findK m k with
  | none => rw [(getE_none q).1] at h; cases h
  | some c => rw [(getE_some q).2]
theorem getE_ne {m : Sto} {k : ByteArray} (h : ¬ getE m k = 0) : findK m k = none ∧ getE m k = 5 ∧ getC m k = zeroC := by
  cases q : findK m k with
  | none => exact ⟨rfl, getE_none q⟩
  | some c => exact absurd (getE_some q).1 h
def putE (m : Sto) (k : ByteArray) (c : CntM) : Int := if nameB k = true then (if okC c = true then (if getE m k = 0 then 6 else if 64 ≤ m.length then 4 else 0) else 2) else 14
def putM (m : Sto) (k : ByteArray) (c : CntM) : Sto := if putE m k c = 0 then insK k c m else m
def apSE (m : Sto) (k : ByteArray) (ph d : Int) : Int := if getE m k = 0 then appE (getC m k) ph d else 5
def apSV (m : Sto) (k : ByteArray) (ph d : Int) : Int := if apSE m k ph d = 0 then (appM (getC m k) ph d).v else 0
def apSM (m : Sto) (k : ByteArray) (ph d : Int) : Sto := if apSE m k ph d = 0 then setK m k (appM (getC m k) ph d) else m
def remM (m : Sto) (k : ByteArray) : Sto := delK m k
def ksL (m : Sto) : List ByteArray := m.map (·.1)
def inE (r0 r1 : ByteArray) : Int := if rchk r0 r1 = 0 then 0 else 2
def inL (m : Sto) (r0 r1 : ByteArray) : List ByteArray := if rchk r0 r1 = 0 then (ksL m).filter fun k => rhas r0 r1 k else []
def quietB (m : Sto) : Bool := m.all fun p => decide (p.2.up = 0) && decide (p.2.dn = 0)
def valsL (m : Sto) : List Int := m.map fun p => p.2.v
theorem putE_zero {m : Sto} {k : ByteArray} {c : CntM} (h : putE m k c = 0) : nameB k = true ∧ okC c = true ∧ findK m k = none ∧ m.length < 64 := by
  unfold putE at h
  split at h
  · rename_i h1
    split at h
    · rename_i h2
      split at h
      · cases h
      · rename_i h3
        split at h
        · cases h
        · exact ⟨h1, h2, (getE_ne h3).1, by omega⟩
    · cases h
  · cases h
theorem apSE_zero {m : Sto} {k : ByteArray} {ph d : Int} (h : apSE m k ph d = 0) : findK m k = some (getC m k) ∧ appE (getC m k) ph d = 0 := by
  unfold apSE at h
  split at h
  · rename_i q; exact ⟨getE_zero q, h⟩
  · cases h
theorem WfM.put {m : Sto} (w : WfM m) (k : ByteArray) (c : CntM) : WfM (putM m k c) := by
  unfold putM; split
  · rename_i h
    obtain ⟨h1, h2, h3, h4⟩ := putE_zero h
    refine ⟨insK_ord w.ord h3, fun p hp => ?_, fun p hp => ?_, by rw [insK_len]; omega⟩
    · rcases insK_mem.1 hp with rfl | hp
      · exact h1
      · exact w.names p hp
    · rcases insK_mem.1 hp with rfl | hp
      · exact h2
      · exact w.fine p hp
  · exact w
theorem setK_mem {m : Sto} {k : ByteArray} {c : CntM} {p : ByteArray × CntM} (h : p ∈ setK m k c) : p = (k, c) ∨ p ∈ m := by
  unfold setK at h
  obtain ⟨q, hq, e⟩ := List.mem_map.1 h
  split at e
  · exact .inl e.symm
  · exact .inr (e ▸ hq)
theorem WfM.app {m : Sto} (w : WfM m) (k : ByteArray) (ph d : Int) : WfM (apSM m k ph d) := by
  unfold apSM; split
  · rename_i h
    obtain ⟨h1, h2⟩ := apSE_zero h
    refine ⟨by unfold Ord; rw [setK_keys]; exact w.ord, fun p hp => ?_, fun p hp => ?_, by unfold setK; rw [List.length_map]; exact w.few⟩
    · rcases setK_mem hp with rfl | hp
      · exact w.names (k, getC m k) (findK_mem h1)
      · exact w.names p hp
    · rcases setK_mem hp with rfl | hp
      · exact (appE_zero h2).2.2.2
      · exact w.fine p hp
  · exact w
theorem WfM.rem {m : Sto} (w : WfM m) (k : ByteArray) : WfM (remM m k) := by
  unfold remM delK
  refine ⟨?_, fun p hp => w.names p (List.mem_filter.1 hp).1, fun p hp => w.fine p (List.mem_filter.1 hp).1, Nat.le_trans (List.length_filter_le _ _) w.few⟩
  have := w.ord
  unfold Ord at this ⊢
  rw [List.pairwise_map] at this ⊢
  exact this.filter _
theorem remM_none {m : Sto} {k : ByteArray} (h : findK m k = none) : remM m k = m := by
  unfold remM; exact filter_id_of fun p hp e => findK_none.1 h (e ▸ List.mem_map_of_mem hp)
theorem okC_num {c : CntM} (h : okC c = true) : (-1152921504606846976 ≤ c.v ∧ c.v ≤ 1152921504606846976) := (okc_of h).1
theorem WfM.vals {m : Sto} (w : WfM m) : ∀ x ∈ valsL m, (-1152921504606846976 ≤ x ∧ x ≤ 1152921504606846976) := fun x hx => by
  obtain ⟨p, hp, rfl⟩ := List.mem_map.1 hx; exact okC_num (w.fine p hp)
theorem WfM.at {m : Sto} (w : WfM m) {k : ByteArray} (h : getE m k = 0) : okC (getC m k) = true ∧ nameB k = true := ⟨w.fine _ (findK_mem (getE_zero h)), w.names _ (findK_mem (getE_zero h))⟩
/-- A store: its row, and the row of its map. -/
structure StRow (T : TypeId) (h : Heap) (O : Nat → Prop) (t : Nat) (m : Sto) (mb : Nat) : Prop where
  row : h[t]? = some (.cells #[.map (some mb)] T (0, 0))
  map : MapAt h Value.string cntV mb m
  foot : ∀ b, O b ↔ b = t ∨ b = mb
def StAt (T : TypeId) (h : Heap) (O : Nat → Prop) (t : Nat) (m : Sto) : Prop := ∃ mb, StRow T h O t m mb
section
variable {T : TypeId} {h h1 : Heap} {O : Nat → Prop} {t : Nat} {m : Sto}
theorem StAt.keep (k : StAt T h O t m) (w : ∀ b r, O b → h[b]? = some r → h1[b]? = some r) : StAt T h1 O t m := by
  obtain ⟨mb, k⟩ := k
  exact ⟨mb, w _ _ ((k.foot _).2 (.inl rfl)) k.row, k.map.keep fun b r hb q => w b r ((k.foot _).2 (.inr hb)) q, k.foot⟩
theorem StAt.data (k : StAt T h O t m) : Data h O := by
  obtain ⟨mb, k⟩ := k
  intro b hb
  rcases (k.foot b).1 hb with rfl | rfl
  · exact ⟨_, k.row, rfl⟩
  · exact k.map.data _ rfl
theorem StAt.blk_lt (k : StAt T h O t m) {b : Nat} (hb : O b) : b < h.size := k.data.blk_lt hb
theorem st_new {mb : Nat} (hr : h[t]? = some (.cells #[.map (some mb)] T (0, 0))) (hm : MapAt h Value.string cntV mb m) : StAt T h (fun b => b = t ∨ b = mb) t m := ⟨mb, hr, hm, fun _ => Iff.rfl⟩
theorem MapAt.off {b : Nat} {O : Nat → Prop} (k : MapAt h Value.string cntV b m) (c : Celled h O) : ∀ z, z = b → ¬ O z := by
  rintro z rfl hz
  obtain ⟨cs, e, fr, hr⟩ := c z hz
  exact k.ne hr rfl
end
end C08
