/- Proposers: the model, and their rows. -/
import Derived.Test.YtpagkfbpgppeiaaMa
import Derived.Test.YtpagkfbpgppeiaaBmj
import Derived.KernelRfl
open Go Go.AM Go.Proofs
namespace C14
theorem index_arr {P : Program} {t e n b o z : Nat} {k : IntKind} {j : Int} (ht : P.underlying t = some (.array n e)) (hi : (P.info? e).map (·.size) = some z) (h0 : 0 ≤ j) (hn : j < n) :
    indexAddrA P t (.pointer (some ⟨b, o, none⟩)) (.int k j) = some (.pointer (some ⟨b, o + j.toNat * z, none⟩)) := by
  obtain ⟨i, hi', rfl⟩ := info_of hi
  simp only [indexAddrA, ht, hi']
  rw [if_pos ⟨by omega, by omega⟩, addr_add _ rfl]
theorem max_raw {a b : Int} {k : IntKind} : maxA [.int k a, .int k b] = some (.int k (max a b)) := by
  simp [maxA, max2A, Int.max_def]
  split <;> split <;> omega
/-- An entry; a promise; a proposer. -/
structure EntM where
  slot : Int
  rd : Int
  nd : Int
  val : ByteArray
def entc (x : EntM) : Array Value := #[.int .i64 x.slot, .int .i64 x.rd, .int .i64 x.nd, .string x.val]
theorem entc_size (x : EntM) : (entc x).size = 4 := rfl
structure TolM where
  list : List EntM
  upto : Int
  made : Bool
def noTol : TolM := ⟨[], 0, false⟩
structure PropM where
  n : Int
  frm : Int
  rd : Int
  nd : Int
  ps : Nat → TolM
def PropM.told (m : PropM) (k : Nat) (l : List EntM) (u : Int) : PropM := { m with ps := fun i => if i = k then ⟨l, u, true⟩ else m.ps i }
/-- Whether a list of entries is one, from a slot on. -/
def allowB (n : Int) : Int → List EntM → Bool
  | _, [] => true
  | least, x :: r => decide (least ≤ x.slot ∧ x.slot < 4096 ∧ ¬ (x.rd = 0 ∧ x.nd = 0) ∧ chkB x.rd x.nd n = 0) && allowB n (x.slot + 1) r
def longB (l : List EntM) : Bool := l.any fun x => decide (65536 < ((x.val.size : Nat) : Int))
def addE (m : PropM) (k : Int) (l : List EntM) (u : Int) : Int := if k < 0 ∨ m.n ≤ k ∨ allowB m.n m.frm l = false ∨ u < 0 ∨ 4096 < u then 2 else if longB l = true then 11 else if (m.ps k.toNat).made = true then 6 else 0
def addM (m : PropM) (k : Int) (l : List EntM) (u : Int) : PropM := if addE m k l u = 0 then m.told k.toNat l u else m
def newE (n rd nd frm : Int) : Int := if chkB rd nd n ≠ 0 ∨ (rd = 0 ∧ nd = 0) ∨ frm < 0 ∨ 4096 < frm then 2 else 0
def newM (n rd nd frm : Int) : PropM := ⟨n, frm, rd, nd, fun _ => noTol⟩
structure PropM.ok (m : PropM) : Prop where
  n1 : 1 ≤ m.n
  n7 : m.n ≤ 7
  f0 : 0 ≤ m.frm
  f1 : m.frm ≤ 4096
  b0 : ¬ (m.rd = 0 ∧ m.nd = 0)
  b1 : chkB m.rd m.nd m.n = 0
  un : ∀ i, (m.ps i).made = false → m.ps i = noTol
  hi : ∀ i : Nat, m.n ≤ i → (m.ps i).made = false
  up : ∀ i, 0 ≤ (m.ps i).upto ∧ (m.ps i).upto ≤ 4096
  al : ∀ i, allowB m.n m.frm (m.ps i).list = true
theorem allow_len {n : Int} : ∀ (l : List EntM) (k : Int), allowB n k l = true → k ≤ 4096 → (l.length : Int) ≤ 4096 - k
  | [], k, _, hk => by simp only [List.length_nil]; omega
  | x :: r, k, h, hk => by
    simp only [allowB, Bool.and_eq_true, decide_eq_true_eq] at h
    have := allow_len r (x.slot + 1) h.2 (by omega)
    simp only [List.length_cons]; omega
theorem new_ok' {n rd nd frm : Int} (h : newE n rd nd frm = 0) : (newM n rd nd frm).ok := by
  unfold newE at h
  split at h
  · cases h
  · rename_i hc
    simp only [not_or, ne_eq, Decidable.not_not] at hc
    have hn : 1 ≤ n ∧ n ≤ 7 := by
      have := hc.1
      unfold chkB at this
      split at this
      · cases this
      · omega
    exact ⟨hn.1, hn.2, by simp only [newM]; omega, by simp only [newM]; omega, hc.2.1, hc.1, fun _ _ => rfl, fun _ _ => rfl, fun _ => by simp [newM, noTol], fun _ => rfl⟩
theorem addE_ok {m : PropM} {k u : Int} {l : List EntM} (h : addE m k l u = 0) : (0 ≤ k ∧ k < m.n) ∧ allowB m.n m.frm l = true ∧ (0 ≤ u ∧ u ≤ 4096) ∧ longB l = false ∧ (m.ps k.toNat).made = false := by
  unfold addE at h
  split at h
  · cases h
  · rename_i h1
    split at h
    · cases h
    · rename_i h2
      split at h
      · cases h
      · rename_i h3
        refine ⟨by omega, ?_, by omega, by simpa using h2, by simpa using h3⟩
        cases hq : allowB m.n m.frm l with
        | true => rfl
        | false => exact absurd (.inr (.inr (.inl hq))) h1
theorem told_ok {m : PropM} (hm : m.ok) {k : Nat} {u : Int} {l : List EntM} (h1 : (k : Int) < m.n) (h2 : allowB m.n m.frm l = true) (h3 : 0 ≤ u ∧ u ≤ 4096) : (m.told k l u).ok := by
  refine ⟨hm.n1, hm.n7, hm.f0, hm.f1, hm.b0, hm.b1, fun i hi => ?_, fun i hi => ?_, fun i => ?_, fun i => ?_⟩ <;> simp only [PropM.told] at * <;> split
  · rename_i e; rw [if_pos e] at hi; cases hi
  · rename_i e; rw [if_neg e] at hi; exact hm.un i hi
  · rename_i e; omega
  · exact hm.hi i hi
  · exact h3
  · exact hm.up i
  · exact h2
  · exact hm.al i
theorem addM_ok {m : PropM} (hm : m.ok) (k u : Int) (l : List EntM) : (addM m k l u).ok := by
  unfold addM
  split
  · rename_i h
    obtain ⟨h1, h2, h3, _⟩ := addE_ok h
    exact told_ok hm (by omega) h2 h3
  · exact hm
/-- The row of a proposer. -/
def prow (m : PropM) (ra : Nat → Option Addr × Nat) : Array Value := #[(vI (m.n)), (vI (m.frm)), (vI (m.rd)), (vI (m.nd)), (Value.slice (ra 0).1 ((m.ps 0).list.length) ((ra 0).2)), (vI ((m.ps 0).upto)), (vB (m.ps 0).made), (Value.slice (ra 1).1 ((m.ps 1).list.length) ((ra 1).2)), (vI ((m.ps 1).upto)), (vB (m.ps 1).made), (Value.slice (ra 2).1 ((m.ps 2).list.length) ((ra 2).2)), (vI ((m.ps 2).upto)), (vB (m.ps 2).made), (Value.slice (ra 3).1 ((m.ps 3).list.length) ((ra 3).2)), (vI ((m.ps 3).upto)), (vB (m.ps 3).made), (Value.slice (ra 4).1 ((m.ps 4).list.length) ((ra 4).2)), (vI ((m.ps 4).upto)), (vB (m.ps 4).made), (Value.slice (ra 5).1 ((m.ps 5).list.length) ((ra 5).2)), (vI ((m.ps 5).upto)), (vB (m.ps 5).made), (Value.slice (ra 6).1 ((m.ps 6).list.length) ((ra 6).2)), (vI ((m.ps 6).upto)), (vB (m.ps 6).made)]
def promc (x : TolM) (r : Option Addr × Nat) : Array Value := #[.slice r.1 x.list.length r.2, .int .i64 x.upto, .bool x.made]
def plist (m : PropM) (r : Nat → Option Addr × Nat) (i : Nat) : Value := .slice (r i).1 (m.ps i).list.length (r i).2
def lfoot (m : PropM) (r : Nat → Option Addr × Nat) (b : Nat) : Prop := ∃ i, i < 7 ∧ blk (plist m r i) b
structure PropRow (h : Heap) (F : Nat → Prop) (t : Nat) (m : PropM) (r : Nat → Option Addr × Nat) : Prop where
  row : h[t]? = some (.cells (prow m r) 69 (0, 0))
  lists : ∀ i, i < 7 → OwnAt h 38 entc (m.ps i).list (plist m r i)
  foot : ∀ b, F b ↔ b = t ∨ lfoot m r b
def PropAt (h : Heap) (F : Nat → Prop) (t : Nat) (m : PropM) : Prop := ∃ r, PropRow h F t m r
theorem PropAt.keep {h h1 : Heap} {F : Nat → Prop} {t : Nat} {m : PropM} (k : PropAt h F t m) (w : ∀ b r, F b → h[b]? = some r → h1[b]? = some r) : PropAt h1 F t m := by
  obtain ⟨r, k⟩ := k
  exact ⟨r, w _ _ ((k.foot _).2 (.inl rfl)) k.row, fun i hi => (k.lists i hi).keep fun b r hb q => w b r ((k.foot _).2 (.inr ⟨i, hi, hb⟩)) q, k.foot⟩
theorem PropAt.celled {h : Heap} {F : Nat → Prop} {t : Nat} {m : PropM} (k : PropAt h F t m) : Celled h F := by
  obtain ⟨r, k⟩ := k
  intro b hb
  rcases (k.foot b).1 hb with rfl | ⟨i, hi, hb⟩
  · exact ⟨_, _, _, k.row⟩
  · exact (k.lists i hi).celled b hb
theorem PropAt.blk_lt {h : Heap} {F : Nat → Prop} {t : Nat} {m : PropM} (k : PropAt h F t m) {b : Nat} (hb : F b) : b < h.size := by
  obtain ⟨cs, e, fr, hr⟩ := k.celled b hb; exact row_lt hr
/-- Rows of other types are not the proposer's. -/
theorem PropAt.ne {h : Heap} {F : Nat → Prop} {t : Nat} {m : PropM} (k : PropAt h F t m) {b b2 : Nat} {c : Array Value} {e2 : TypeId} {fr : Nat × Nat} (hb2 : h[b2]? = some (.cells c e2 fr)) (he : 69 ≠ e2 ∧ 38 ≠ e2) (hb : F b) : ¬ b = b2 := by
  rintro rfl
  obtain ⟨r, k⟩ := k
  rcases (k.foot b).1 hb with rfl | ⟨i, hi, hb⟩
  · have := k.row; rw [hb2] at this; cases this; exact he.1 rfl
  · exact (k.lists i hi).ne hb2 he.2 hb rfl
theorem cells_ps {h : Heap} {t : Nat} {m : PropM} {r : Nat → Option Addr × Nat} (hr : h[t]? = some (.cells (prow m r) 69 (0, 0))) {k : Int} (h0 : 0 ≤ k) (h1 : k < 7) : CellsAt h t (4 + k.toNat * 3) (promc (m.ps k.toNat) (r k.toNat)) := by
  refine ⟨_, _, _, hr, ?_, fun j hj => ?_⟩
  · show 4 + k.toNat * 3 + 3 ≤ 25; omega
  · have hj3 : j < 3 := hj
    obtain ⟨i, rfl⟩ : ∃ i : Nat, k = (i : Int) := ⟨k.toNat, by omega⟩
    simp only [Int.toNat_natCast]
    have hi : i = 0 ∨ i = 1 ∨ i = 2 ∨ i = 3 ∨ i = 4 ∨ i = 5 ∨ i = 6 := by omega
    have hjj : j = 0 ∨ j = 1 ∨ j = 2 := by omega
    rcases hi with rfl | rfl | rfl | rfl | rfl | rfl | rfl <;> rcases hjj with rfl | rfl | rfl <;> (show _ = _; kernel_rfl)
theorem idx_ps {m : PropM} {ra : Nat → Option Addr × Nat} {k : Int} (h0 : 0 ≤ k) (h1 : k < 7) : indexA Try.prog 67 (.agg #[(Value.slice (ra 0).1 ((m.ps 0).list.length) ((ra 0).2)), (vI ((m.ps 0).upto)), (vB (m.ps 0).made), (Value.slice (ra 1).1 ((m.ps 1).list.length) ((ra 1).2)), (vI ((m.ps 1).upto)), (vB (m.ps 1).made), (Value.slice (ra 2).1 ((m.ps 2).list.length) ((ra 2).2)), (vI ((m.ps 2).upto)), (vB (m.ps 2).made), (Value.slice (ra 3).1 ((m.ps 3).list.length) ((ra 3).2)), (vI ((m.ps 3).upto)), (vB (m.ps 3).made), (Value.slice (ra 4).1 ((m.ps 4).list.length) ((ra 4).2)), (vI ((m.ps 4).upto)), (vB (m.ps 4).made), (Value.slice (ra 5).1 ((m.ps 5).list.length) ((ra 5).2)), (vI ((m.ps 5).upto)), (vB (m.ps 5).made), (Value.slice (ra 6).1 ((m.ps 6).list.length) ((ra 6).2)), (vI ((m.ps 6).upto)), (vB (m.ps 6).made)]) (.int .i64 k) = some (.agg #[.slice (ra k.toNat).1 (m.ps k.toNat).list.length (ra k.toNat).2, .int .i64 (m.ps k.toNat).upto, .bool (m.ps k.toNat).made]) := by
  obtain ⟨i, rfl⟩ : ∃ i : Nat, k = (i : Int) := ⟨k.toNat, by omega⟩
  simp only [Int.toNat_natCast]
  have hi : i = 0 ∨ i = 1 ∨ i = 2 ∨ i = 3 ∨ i = 4 ∨ i = 5 ∨ i = 6 := by omega
  rcases hi with rfl | rfl | rfl | rfl | rfl | rfl | rfl <;> (show _ = _; kernel_rfl)
theorem size66' : (Try.prog.info? 66).map (·.size) = some 3 := by kernel_rfl
theorem store_ps {h : Heap} {t : Nat} {m : PropM} {r : Nat → Option Addr × Nat} (hr : h[t]? = some (.cells (prow m r) 69 (0, 0))) {k : Int} (h0 : 0 ≤ k) (h1 : k < 7) {l : List EntM} {a : Option Addr} {c : Nat} {u : Int} :
    storeT Try.prog h 66 (.pointer (some ⟨t, 4 + k.toNat * 3, none⟩)) (.agg #[.slice a l.length c, .int .i64 u, .bool true]) = some (h.setIfInBounds t (.cells (prow (m.told k.toNat l u) (fun i => if i = k.toNat then (a, c) else r i)) 69 (0, 0))) := by
  obtain ⟨i, rfl⟩ : ∃ i : Nat, k = (i : Int) := ⟨k.toNat, by omega⟩
  simp only [Int.toNat_natCast]
  refine store_cells size66' rfl hr (by decide) (by show 4 + i * 3 + 3 ≤ 25; omega) rfl ?_
  have hi : i = 0 ∨ i = 1 ∨ i = 2 ∨ i = 3 ∨ i = 4 ∨ i = 5 ∨ i = 6 := by omega
  rcases hi with rfl | rfl | rfl | rfl | rfl | rfl | rfl <;> (show _ = _; kernel_rfl)
end C14
