/- The reference, its proposers, and what the laws share. -/
import Derived.Test.YtpagkfbpgppeiaaMq
import Derived.KernelRfl
import Derived.Test.YtpagkfbpgppeiaaPj
open Go Go.AM Go.Proofs
namespace C14
theorem agg5 : isAggA Try.prog 5 = some false := by kernel_rfl
theorem agg49 : isAggA Try.prog 49 = some true := by kernel_rfl
theorem size5 : (Try.prog.info? 5).map (·.size) = some 1 := by kernel_rfl
theorem und43 : Try.prog.underlying 43 = some (.slice 5) := by kernel_rfl
theorem told_n (m : PropM) (k : Nat) (l : List EntM) (u : Int) : (m.told k l u).n = m.n := rfl
theorem addE_nil {m : PropM} {k u : Int} (h0 : 0 ≤ k) (h1 : k < m.n) (h2 : 0 ≤ u) (h3 : u ≤ 4096) : addE m k [] u = if (m.ps k.toNat).made = true then 6 else 0 := by
  unfold addE
  rw [if_neg (fun w => by rcases w with w | w | w | w | w; omega; omega; cases w; omega; omega), if_neg (by decide)]
theorem newE_zero {n rd nd frm : Int} (h1 : 1 ≤ n) (h7 : n ≤ 7) (hr : 1 ≤ rd) (hr2 : rd ≤ 1073741824) (hn : 0 ≤ nd) (hn2 : nd < n) (f0 : 0 ≤ frm) (f1 : frm ≤ 4096) : newE n rd nd frm = 0 := by
  unfold newE
  rw [if_neg]
  have : chkB rd nd n = 0 := by unfold chkB; rw [if_neg (by omega), if_neg (by omega), if_neg (by omega)]
  rintro (w | w | w | w)
  · exact w this
  · omega
  · omega
  · omega
theorem mul_i64 {t : TypeId} {a b : Int} (h0 : -9223372036854775808 ≤ a * b) (h1 : a * b ≤ 9223372036854775807) : binA Try.prog .mul t (.int .i64 a) (.int .i64 b) = some (.int .i64 (a * b)) := by
  have : IntKind.i64.wrap (a * b) = a * b := by rw [IntKind.wrap_i64]; omega
  simp [binA, intBinA, this]
theorem same_self (h : Heap) (xs : List EntM) (sa : Option Addr) (ca : Nat) (hl1 : SliceAt h entc 4 xs (.slice sa xs.length ca))  (sb : Option Addr) (cb : Nat) (hl2 : SliceAt h entc 4 xs (.slice sb xs.length cb)) (hlx : xs.length ≤ 9223372036854775807) : WCall Try.prog 18 #[.slice sa xs.length ca, .slice sb xs.length cb] h (fun v h1 => v = .bool true ∧ Ext h h1) :=
  (same_ok h xs sa ca hl1 xs sb cb hl2 hlx hlx).mono fun v h1 q => ⟨by rw [q.1, sameB_refl], q.2⟩
theorem addE_again {m : PropM} {k u : Int} {l : List EntM} (h : addE m k l u = 0) : addE (m.told k.toNat l u) k l u = 6 := by
  obtain ⟨h1, h2, h3, h4, h5⟩ := addE_ok h
  unfold addE
  rw [if_neg (fun w => by
    rcases w with w | w | w | w | w
    · omega
    · exact absurd w (by show ¬ m.n ≤ k; omega)
    · exact absurd (show allowB m.n m.frm l = false from w) (by rw [h2]; decide)
    · omega
    · omega), if_neg (by rw [h4]; decide), if_pos (by simp [PropM.told])]
theorem slice_told {h : Heap} {b : Nat} (x : ToldA) (hr : h[b]? = some (.cells #[.int .i64 x.1.node, .int .i64 x.1.upto, .slice x.2.1 x.1.l.length x.2.2] 49 (0, 0))) : SliceAt h toldc 3 [x] (.slice (some ⟨b, 0, none⟩) 1 1) :=
  .inr ⟨b, 0, 1, _, _, _, rfl, ⟨hr, by decide, by simp, by simp, by simp [flat, toldc]⟩⟩
theorem sub_told {h : Heap} {x : ToldA} (hs : SliceAt h entc 4 x.1.l (.slice x.2.1 x.1.l.length x.2.2)) : SubT h [x] := fun y hy => by rw [List.mem_singleton.1 hy]; exact hs
theorem vals_at {m : PropM} {k : Nat} {x : EntM} (h : (valuesM m)[k]? = some x) : x.slot = begM m + k ∧ x.rd = m.rd ∧ x.nd = m.nd := by
  have hl := (List.getElem?_eq_some_iff.1 h).1
  simp only [valuesM, List.length_map, List.length_range] at hl
  simp only [valuesM, List.getElem?_map, List.getElem?_range hl, Option.map_some, Option.some.injEq] at h
  subst h
  exact ⟨rfl, rfl, rfl⟩
theorem begM_range {m : PropM} (hm : m.ok) : 0 ≤ begM m ∧ begM m ≤ 4096 := by
  have := upM_range hm 7
  have := hm.f0
  have := hm.f1
  unfold begM; omega
theorem storeN_none {h : Heap} {b o : Nat} {c : Array Value} {e : TypeId} {fr : Nat × Nat} (hb : h[b]? = some (.cells c e fr)) (ho : o ≤ c.size) (hf : fr.2 ≤ fr.1) : storeN h (⟨b, o, none⟩ : Addr) (#[] : Array Value).toList = some h := by
  simp only [storeN, hb]
  rw [if_pos ⟨trivial, by simpa using ho, hf, rfl⟩]
  congr 1
  apply Array.ext_getElem?
  intro j
  rw [Array.getElem?_setIfInBounds]
  split
  · rename_i ej; subst ej
    rw [if_pos (row_lt hb)]; exact hb.symm
  · rfl
theorem flat_one_all {α : Type} {f : α → Array Value} (hone : ∀ x, (f x).toList.all (·.oneCell') = true) : ∀ xs : List α, (flat f xs).toList.all (·.oneCell') = true
  | [] => by simp [flat]
  | x :: r => by
    have e : flat f (x :: r) = f x ++ flat f r := by
      have := flat_append (f := f) [x] r
      rw [flat_one] at this; simpa using this
    rw [e, Array.toList_append, List.all_append, hone x, flat_one_all hone r]; rfl
/-- A list is added to a list of one's own. -/
theorem own_append_many {α : Type} {f : α → Array Value} {z : Nat} {P : Program} {h : Heap} {t e : TypeId} {bytes : Nat} {zv : Value} (ht : P.underlying t = some (.slice e)) (hi : (P.info? e).map (fun i => (i.size, i.bytes)) = some (z, bytes)) (hz : zeroA P e = some zv) (hzs : zv.cells.size = z) (hz0 : z ≠ 0) (hf : ∀ x, (f x).size = z) (hone : ∀ x, (f x).toList.all (·.oneCell') = true)
    {xs ys : List α} {v w : Value} (k : OwnAt h e f xs v) (ky : SliceAt h f z ys w) (hby : (xs.length + ys.length) * bytes ≤ 140737488355328) (hml : xs.length + ys.length ≤ maxLen) :
    ∃ v1 h1, appendA P h #[t, t] #[v, w] = some (v1, h1) ∧ OwnAt h1 e f (xs ++ ys) v1 ∧ Chg (blk v) h h1 ∧ (∀ b, blk v1 b → blk v b ∨ h.size ≤ b) := by
  by_cases h0 : ys = []
  · subst h0
    rw [List.append_nil]
    refine ⟨v, h, ?_, k, Chg.refl h, fun b hb => .inl hb⟩
    rcases ky with ⟨rfl, _⟩ | ⟨b2, off2, cp2, c2, e2, fr2, rfl, ky⟩
    · rcases k with ⟨rfl, rfl⟩ | ⟨b, rfl, rfl, k⟩ | ⟨b, rfl, hne, k⟩
      · obtain ⟨i, hi', rfl⟩ := info_of (info_size hi)
        simp only [appendA, ht, hi', hz, newsA, hzs]
        simp [hz0]
      · exact append_none ht (info_size hi) hz hzs hz0 rfl k (by decide) (Nat.le_refl _) (by simp) (by decide)
      · exact append_none ht (info_size hi) hz hzs hz0 rfl k (by decide) (Nat.le_refl _) (by rw [flat_size hf]; omega) (by decide)
    · have hc2 := ky.fits
      simp only [List.length_nil, Nat.zero_mul, Nat.add_zero] at hc2
      rcases k with ⟨rfl, rfl⟩ | ⟨b, rfl, rfl, k⟩ | ⟨b, rfl, hne, k⟩
      · obtain ⟨i, hi', rfl⟩ := info_of (info_size hi)
        have hl := load_all (a := ⟨b2, off2, none⟩) (n := 0 * i.size) ky.row rfl (by simpa using hc2)
        simp only [appendA, ht, hi', hz, newsA, hzs, List.length_nil, hl]
        simp [hz0]
      · exact append_empty ht (info_size hi) hz hzs hz0 k (by decide) (Nat.le_refl _) (by simp) (by decide) ky.row hc2
      · exact append_empty ht (info_size hi) hz hzs hz0 k (by decide) (Nat.le_refl _) (by rw [flat_size hf]; omega) (by decide) ky.row hc2
  · have hn : ys.length ≠ 0 := fun q => h0 (List.eq_nil_of_length_eq_zero q)
    rcases ky with ⟨_, e0⟩ | ⟨b2, off2, cp2, c2, e2, fr2, rfl, ky⟩
    · exact absurd e0 h0
    have hfit := ky.fits
    have hcl := ky.cells
    rcases k with ⟨rfl, rfl⟩ | ⟨b, rfl, rfl, k⟩ | ⟨b, rfl, hne, k⟩
    · refine ⟨_, _, append_nil ht hi hz hzs hz0 ky.row hfit hn (by simpa using hby) (by simpa using hml), .inr (.inr ⟨h.size, by simp, by simpa using h0, ?_⟩), Chg.ext (Ext.push _ _), fun b hb => .inr (have q : h.size = b := (by simpa [blk] using hb); by omega)⟩
      rw [hcl]; simp
    · refine ⟨_, _, append_full (a1 := ⟨b, 0, none⟩) ht hi hz hzs hz0 k rfl (by decide) (.inl (by decide)) (by simp) (by omega) ky.row hfit hn (by simpa using hby) (by simpa using hml), .inr (.inr ⟨h.size, by simp, by simpa using h0, ?_⟩), Chg.ext (Ext.push _ _), fun b hb => .inr (have q : h.size = b := (by simpa [blk] using hb); by omega)⟩
      rw [hcl]; simp
    · have hxn : xs.length ≠ 0 := fun q => hne (List.eq_nil_of_length_eq_zero q)
      refine ⟨_, _, append_grown ht hi hz hzs hz0 k hxn (tsz_of (info_size hi)) (by rw [flat_size hf]; omega) ky.row hfit hn (by rw [hcl]; exact flat_one_all hone ys) hby hml, .inr (.inr ⟨h.size, by simp, by simp [h0], ?_⟩), ?_, fun b hb => .inr (have q : h.size = b := (by simpa [blk] using hb); by omega)⟩
      · rw [hcl, flat_all hf]
        have := push_new (h := h.setIfInBounds b deadRow) (o := .cells (flat f xs ++ flat f ys) e (1, 1)) rfl
        rw [flat_append]
        simpa using this
      · refine ⟨by simp, fun q r hq hn => ?_⟩
        have hqb : b ≠ q := fun e => hn e
        exact push_old rfl (set_other rfl hq hqb)
theorem entc_one (x : EntM) : (entc x).toList.all (·.oneCell') = true := rfl
theorem sizeb49 : (Try.prog.info? 49).map (fun i => (i.size, i.bytes)) = some (3, 40) := by kernel_rfl
theorem zero49 : zeroA Try.prog 49 = some (Value.agg #[(Value.int .i64 0), (Value.int .i64 0), (Value.slice none 0 0)]) := by kernel_rfl
theorem cmpI_pos {x y : Int} : 0 < cmpI x y ↔ y < x := by unfold cmpI; split; omega; split <;> omega
theorem cmpI_zero {x y : Int} : cmpI x y = 0 ↔ x = y := by unfold cmpI; split; omega; split <;> omega
theorem ordB_pos {a b c d : Int} : 0 < ordB a b c d ↔ c < a ∨ a = c ∧ d < b := by
  unfold ordB
  split
  · rename_i h; rw [cmpI_pos]; have := cmpI_zero.1 h; omega
  · rename_i h; rw [cmpI_pos]; have : a ≠ c := fun w => h (cmpI_zero.2 w); omega
def gstep (s : Int) (g : Int × Int) (x : EntM) : Int × Int := if x.slot = s ∧ 0 < ordB x.rd x.nd g.1 g.2 then (x.rd, x.nd) else g
/-- The greatest ballot that was told for a slot. -/
def gB (E : List EntM) (s : Int) : Int × Int := E.foldl (gstep s) (0, 0)
theorem gB_best (E : List EntM) (s : Int) : gB E s = ((bestAt E s).rd, (bestAt E s).nd) := by
  unfold gB bestAt
  have key : ∀ (E : List EntM) (b : EntM) (g : Int × Int), g = (b.rd, b.nd) → E.foldl (gstep s) g = ((E.foldl (pick s) b).rd, (E.foldl (pick s) b).nd) := by
    intro E
    induction E with
    | nil => intro b g h; exact h
    | cons x r ih =>
      intro b g h
      simp only [List.foldl_cons]
      refine ih _ _ ?_
      subst h
      unfold gstep pick
      split <;> rfl
  exact key E zeroEnt (0, 0) rfl
theorem gB_next {A : List EntM} {i : Nat} {x : EntM} (hx : A[i]? = some x) (s : Int) : gB (A.take (i + 1)) s = gstep s (gB (A.take i) s) x := by
  rw [take_next hx]; simp [gB, List.foldl_append]
/-- It is no smaller than any, and it is one of them. -/
theorem gB_spec (s : Int) : ∀ (E : List EntM) (g : Int × Int), (∀ x ∈ E, x.slot = s → ¬ 0 < ordB x.rd x.nd (E.foldl (gstep s) g).1 (E.foldl (gstep s) g).2) ∧ ¬ 0 < ordB g.1 g.2 (E.foldl (gstep s) g).1 (E.foldl (gstep s) g).2 ∧ (E.foldl (gstep s) g = g ∨ ∃ x ∈ E, x.slot = s ∧ E.foldl (gstep s) g = (x.rd, x.nd))
  | [], g => ⟨fun _ hx => (by cases hx), by rw [ordB_pos]; simp only [List.foldl_nil]; omega, .inl rfl⟩
  | y :: r, g => by
    obtain ⟨h1, h2, h3⟩ := gB_spec s r (gstep s g y)
    simp only [List.foldl_cons]
    have hy : (gstep s g y = g ∧ (y.slot = s → ¬ 0 < ordB y.rd y.nd g.1 g.2)) ∨ (gstep s g y = (y.rd, y.nd) ∧ y.slot = s ∧ 0 < ordB y.rd y.nd g.1 g.2) := by
      unfold gstep
      by_cases c : y.slot = s ∧ 0 < ordB y.rd y.nd g.1 g.2
      · exact .inr ⟨if_pos c, c⟩
      · exact .inl ⟨if_neg c, fun e w => c ⟨e, w⟩⟩
    generalize hq : r.foldl (gstep s) (gstep s g y) = q at *
    rcases hy with ⟨e, c⟩ | ⟨e, c1, c2⟩
    · rw [e] at h2 h3
      refine ⟨fun x hx hs => ?_, h2, h3.imp id fun ⟨x, hx, w⟩ => ⟨x, List.mem_cons_of_mem _ hx, w⟩⟩
      rcases List.mem_cons.1 hx with rfl | hx
      · have := c hs
        rw [ordB_pos] at *; omega
      · exact h1 x hx hs
    · rw [e] at h2 h3
      simp only at h2
      refine ⟨fun x hx hs => ?_, ?_, ?_⟩
      · rcases List.mem_cons.1 hx with rfl | hx
        · exact h2
        · exact h1 x hx hs
      · rw [ordB_pos] at *; omega
      · rcases h3 with h3 | ⟨x, hx, w⟩
        · exact .inr ⟨y, List.mem_cons_self .., c1, h3⟩
        · exact .inr ⟨x, List.mem_cons_of_mem _ hx, w⟩
theorem gB_same {A E : List EntM} (h : ∀ x, x ∈ A ↔ x ∈ E) (hp : ∀ x ∈ E, 1 ≤ x.rd) (s : Int) : gB A s = gB E s := by
  have a := gB_spec s A (0, 0)
  have e := gB_spec s E (0, 0)
  change (∀ x ∈ A, x.slot = s → ¬ 0 < ordB x.rd x.nd (gB A s).1 (gB A s).2) ∧ _ ∧ (gB A s = (0, 0) ∨ ∃ x ∈ A, x.slot = s ∧ gB A s = (x.rd, x.nd)) at a
  change (∀ x ∈ E, x.slot = s → ¬ 0 < ordB x.rd x.nd (gB E s).1 (gB E s).2) ∧ _ ∧ (gB E s = (0, 0) ∨ ∃ x ∈ E, x.slot = s ∧ gB E s = (x.rd, x.nd)) at e
  obtain ⟨a1, _, a3⟩ := a
  obtain ⟨e1, _, e3⟩ := e
  rcases a3 with a3 | ⟨x, hx, hs, a3⟩ <;> rcases e3 with e3 | ⟨y, hy, ht, e3⟩
  · rw [a3, e3]
  · have q := a1 y ((h y).2 hy) ht
    rw [a3, ordB_pos] at q
    have := hp y hy
    simp only at q; omega
  · have q := e1 x ((h x).1 hx) hs
    rw [e3, ordB_pos] at q
    have := hp x ((h x).1 hx)
    simp only at q; omega
  · have q1 := a1 y ((h y).2 hy) ht
    have q2 := e1 x ((h x).1 hx) hs
    rw [a3, ordB_pos] at q1
    rw [e3, ordB_pos] at q2
    simp only at q1 q2
    rw [a3, e3]
    have w1 : x.rd = y.rd := by omega
    have w2 : x.nd = y.nd := by omega
    rw [w1, w2]
theorem best_mem (s : Int) (E : List EntM) : bestAt E s = zeroEnt ∨ (bestAt E s ∈ E ∧ (bestAt E s).slot = s) := by
  unfold bestAt
  have key : ∀ (E : List EntM) (b : EntM), E.foldl (pick s) b = b ∨ (E.foldl (pick s) b ∈ E ∧ (E.foldl (pick s) b).slot = s) := by
    intro E
    induction E with
    | nil => intro b; exact .inl rfl
    | cons x r ih =>
      intro b
      simp only [List.foldl_cons]
      rcases ih (pick s b x) with e | ⟨h1, h2⟩
      · rw [e]
        unfold pick
        split
        · rename_i c; exact .inr ⟨List.mem_cons_self .., c.1⟩
        · exact .inl rfl
      · exact .inr ⟨List.mem_cons_of_mem _ h1, h2⟩
  exact key E zeroEnt
def toldOf (m : PropM) (x : EntM) : Prop := ∃ i, i < 7 ∧ x ∈ (m.ps i).list
theorem entM_iff {m : PropM} {x : EntM} : x ∈ entM m 7 ↔ toldOf m x := by
  refine ⟨entM_mem 7 x, fun ⟨i, hi, hx⟩ => ?_⟩
  obtain ⟨j, hj⟩ := List.getElem?_of_mem hx
  exact List.mem_of_getElem? (entM_at hi hj)
theorem toldOf_told {m : PropM} (hm : m.ok) {k : Nat} (hk : k < 7) (hc : (m.ps k).made = false) (l : List EntM) (u : Int) (x : EntM) : toldOf (m.told k l u) x ↔ toldOf m x ∨ x ∈ l := by
  have e0 := (hm.un k hc)
  unfold toldOf PropM.told
  simp only
  constructor
  · rintro ⟨i, hi, hx⟩
    split at hx
    · exact .inr hx
    · exact .inl ⟨i, hi, hx⟩
  · rintro (⟨i, hi, hx⟩ | hx)
    · refine ⟨i, hi, ?_⟩
      rw [if_neg]
      · exact hx
      · rintro rfl
        rw [e0] at hx; cases hx
    · exact ⟨k, hk, by rw [if_pos rfl]; exact hx⟩
theorem told_pos {m : PropM} (hm : m.ok) {x : EntM} (h : toldOf m x) : 1 ≤ x.rd := by
  obtain ⟨i, _, hx⟩ := h
  have q := allow_mem _ _ (hm.al i) x hx
  have c := q.2.2.2
  have n1 := hm.n1
  have n7 := hm.n7
  unfold chkB at c
  rw [if_neg (by omega), if_neg q.2.2.1] at c
  split at c
  · cases c
  · omega
theorem vals_val {m : PropM} {k : Nat} {x : EntM} (h : (valuesM m)[k]? = some x) : x.val = (bestAt (entM m 7) x.slot).val := by
  have hl := (List.getElem?_eq_some_iff.1 h).1
  simp only [valuesM, List.length_map, List.length_range] at hl
  simp only [valuesM, List.getElem?_map, List.getElem?_range hl, Option.map_some, Option.some.injEq] at h
  subst h
  rfl
theorem vals_len' (m : PropM) : (valuesM m).length = lenOf (begM m) (entM m 7) := by simp [valuesM]
/-- What the law finds for a value. -/
theorem found {m : PropM} (hm : m.ok) {A : List EntM} (hA : ∀ x, x ∈ A ↔ toldOf m x) {k : Nat} {x : EntM} (hx : (valuesM m)[k]? = some x) : (gB A x.slot = (0, 0) ∧ x.val = .empty) ∨ ∃ y ∈ A, y.slot = x.slot ∧ (y.rd, y.nd) = gB A x.slot ∧ y.val = x.val := by
  have hs : gB A x.slot = gB (entM m 7) x.slot := gB_same (fun y => (hA y).trans entM_iff.symm) (fun y hy => told_pos hm (entM_iff.1 hy)) _
  rw [hs, gB_best, vals_val hx]
  rcases best_mem x.slot (entM m 7) with e | ⟨h1, h2⟩
  · rw [e]; exact .inl ⟨rfl, rfl⟩
  · exact .inr ⟨_, (hA _).2 (entM_iff.1 h1), h2, rfl, rfl⟩
theorem far {m : PropM} {A : List EntM} (hA : ∀ x, x ∈ A ↔ toldOf m x) {x : EntM} (hx : x ∈ A) : x.slot < begM m + (valuesM m).length := by
  rw [vals_len']
  have := lenOf_ge (bg := begM m) (entM_iff.2 ((hA x).1 hx))
  omega
def endOf (E : List EntM) : Int := E.foldl (fun e x => max e x.slot) (-1)
theorem endOf_add (E : List EntM) (y : EntM) : endOf (E ++ [y]) = max (endOf E) y.slot := by simp [endOf, List.foldl_append]
theorem endOf_len {bg : Int} (hb : 0 ≤ bg) (E : List EntM) : lenOf bg E = (endOf E - bg + 1).toNat := by
  have key : ∀ E : List EntM, lenOf bg E.reverse = (endOf E.reverse - bg + 1).toNat := by
    intro E
    induction E with
    | nil => show 0 = ((-1 : Int) - bg + 1).toNat; omega
    | cons x r ih => rw [List.reverse_cons, lenOf_add, endOf_add, ih]; omega
  have := key E.reverse
  rwa [List.reverse_reverse] at this
theorem endOf_range {m : PropM} (hm : m.ok) {E : List EntM} (h : ∀ x ∈ E, x.slot < 4096) : -1 ≤ endOf E ∧ endOf E ≤ 4095 := by
  have key : ∀ (E : List EntM) (e : Int), -1 ≤ e → e ≤ 4095 → (∀ x ∈ E, x.slot < 4096) → -1 ≤ E.foldl (fun e x => max e x.slot) e ∧ E.foldl (fun e x => max e x.slot) e ≤ 4095 := by
    intro E
    induction E with
    | nil => intro e h0 h1 _; exact ⟨h0, h1⟩
    | cons x r ih => intro e h0 h1 h2; simp only [List.foldl_cons]; exact ih _ (by omega) (by have := h2 x (List.mem_cons_self ..); omega) fun y hy => h2 y (List.mem_cons_of_mem _ hy)
  exact key E (-1) (by omega) (by omega) h
def upTo (m : PropM) (k j : Nat) : List EntM := entM m k ++ (m.ps k).list.take j
theorem upTo_zero (m : PropM) (k : Nat) : upTo m k 0 = entM m k := by simp [upTo]
theorem upTo_end {m : PropM} {k j : Nat} (h : (m.ps k).list.length ≤ j) : upTo m k j = entM m (k + 1) := by simp only [upTo, entM]; rw [List.take_of_length_le h]
theorem upTo_next {m : PropM} {k j : Nat} {x : EntM} (hx : (m.ps k).list[j]? = some x) : upTo m k (j + 1) = upTo m k j ++ [x] := by simp only [upTo]; rw [take_next hx, List.append_assoc]
theorem upTo_slot {m : PropM} (hm : m.ok) {k j : Nat} (hk : k < 7) : ∀ x ∈ upTo m k j, x.slot < 4096 := by
  intro x hx
  simp only [upTo, List.mem_append] at hx
  have q : ∃ i, i < 7 ∧ x ∈ (m.ps i).list := by
    rcases hx with hx | hx
    · obtain ⟨i, hi, h⟩ := entM_mem k x hx; exact ⟨i, by omega, h⟩
    · exact ⟨k, hk, List.mem_of_mem_take hx⟩
  obtain ⟨i, _, h⟩ := q
  exact (allow_mem _ _ (hm.al i) x h).2.1
theorem vals_get {m : PropM} {d : Nat} (h : d < lenOf (begM m) (entM m 7)) : (valuesM m)[d]? = some ⟨begM m + d, m.rd, m.nd, (bestAt (entM m 7) (begM m + d)).val⟩ := by
  simp only [valuesM, List.getElem?_map, List.getElem?_range h, Option.map_some]
theorem pick_eq {s : Int} {b x : EntM} : (if x.slot = s ∧ 0 < ordB x.rd x.nd b.rd b.nd then x else b) = pick s b x := rfl
theorem rv_step {m : PropM} {s : Int} {out : List EntM} {bst : EntM} (h0 : begM m ≤ s) (h1 : (s - begM m).toNat < lenOf (begM m) (entM m 7)) (ho : out = (valuesM m).take (s - begM m).toNat) (hb : bst = bestAt (entM m 7) s) : out ++ [EntM.mk s m.rd m.nd bst.val] = (valuesM m).take (s + 1 - begM m).toNat := by
  have g := vals_get h1
  rw [show (s + 1 - begM m).toNat = (s - begM m).toNat + 1 by omega, take_next g, ← ho, hb, show begM m + (((s - begM m).toNat : Nat) : Int) = s by omega]
set_option maxRecDepth 10000 in
set_option maxHeartbeats 4000000 in
theorem rvalues_ok (h : Heap) {F : Nat → Prop} {t : Nat} {m : PropM} (hT : RefAt h F t m) (hm : m.ok) : WCall Try.prog 23 #[(vP t 0)] h (fun v h1 => (readyB m = false → v = .tuple #[.slice none 0 0, .int .i64 9]) ∧ Ext h h1 ∧ (readyB m = true → ∃ oa oc, v = .tuple #[.slice oa (valuesM m).length oc, .int .i64 0] ∧ OwnAt h1 38 entc (valuesM m) (.slice oa (valuesM m).length oc) ∧ ∀ b, blk (.slice oa (valuesM m).length oc) b → h.size ≤ b)) := by
  have hT' := hT
  obtain ⟨ra, T⟩ := hT
  have hrow : h[t]? = some (.cells #[(vB true), (vI (m.n)), (vI (m.rd)), (vI (m.nd)), (vI (m.frm)), (vB (m.ps 0).made), (vB (m.ps 1).made), (vB (m.ps 2).made), (vB (m.ps 3).made), (vB (m.ps 4).made), (vB (m.ps 5).made), (vB (m.ps 6).made), (Value.slice (ra 0).1 ((m.ps 0).list.length) ((ra 0).2)), (Value.slice (ra 1).1 ((m.ps 1).list.length) ((ra 1).2)), (Value.slice (ra 2).1 ((m.ps 2).list.length) ((ra 2).2)), (Value.slice (ra 3).1 ((m.ps 3).list.length) ((ra 3).2)), (Value.slice (ra 4).1 ((m.ps 4).list.length) ((ra 4).2)), (Value.slice (ra 5).1 ((m.ps 5).list.length) ((ra 5).2)), (Value.slice (ra 6).1 ((m.ps 6).list.length) ((ra 6).2)), (vI ((m.ps 0).upto)), (vI ((m.ps 1).upto)), (vI ((m.ps 2).upto)), (vI ((m.ps 3).upto)), (vI ((m.ps 4).upto)), (vI ((m.ps 5).upto)), (vI ((m.ps 6).upto))] 87 (0, 0)) := T.row
  have k1 := hm.n1
  have k2 := hm.n7
  have k3 := hm.f0
  have k4 := hm.f1
  have hlen : ∀ i, ((m.ps i).list.length : Int) ≤ 4096 := fun i => by have := allow_len _ _ (hm.al i) hm.f1; have := hm.f0; omega
  have eb : begM m = max (m.frm) (upM m 7) := rfl
  have e7 := entM_hi hm 7 (by omega)
  have ee7 := endOf_range (E := entM m 7) hm (fun x hx => by obtain ⟨i, _, h⟩ := entM_mem 7 x hx; exact (allow_mem _ _ (hm.al i) x h).2.1)
  suffices H : ∀ K : Value → Heap → Prop, (∀ v h1, (fun v h1 => (readyB m = false → v = .tuple #[.slice none 0 0, .int .i64 9]) ∧ Ext h h1 ∧ (readyB m = true → ∃ oa oc, v = .tuple #[.slice oa (valuesM m).length oc, .int .i64 0] ∧ OwnAt h1 38 entc (valuesM m) (.slice oa (valuesM m).length oc) ∧ ∀ b, blk (.slice oa (valuesM m).length oc) b → h.size ≤ b)) v h1 → K v h1) → WCall Try.prog 23 #[(vP t 0)] h K from H _ fun _ _ q => q
  intro K hK
  refine wcall_at { tmps := #[(vP t 0), vZ, vZ, vZ, vZ, vZ, vZ, vZ, vZ, vZ, vZ, vZ, vZ, vZ, vZ, vZ, vZ, vZ, vZ, vZ, vZ, vZ, vZ, vZ, vZ, vZ, vZ, vZ, vZ, vZ, vZ, vZ, vZ, vZ, vZ, vZ, vZ, vZ, vZ, vZ, vZ, vZ, vZ, vZ, vZ, vZ, vZ, vZ, vZ, vZ, vZ, vZ, vZ, vZ, vZ, vZ, vZ, vZ, vZ, vZ, vZ, vZ, vZ, vZ, vZ, vZ, vZ, vZ, vZ, vZ, vZ, vZ, vZ, vZ, vZ, vZ, vZ, vZ, vZ, vZ, vZ, vZ, vZ, vZ, vZ, vZ, vZ, vZ, vZ, vZ, vZ, vZ, vZ, vZ, vZ, vZ, vZ, vZ, vZ, vZ, vZ, vZ, vZ, vZ, vZ, vZ, vZ, vZ, vZ, vZ, vZ, vZ, vZ, vZ, vZ], defers := [] } (by kernel_rfl) ?_
  refine wc_seq' (subc (bodyOf Try.prog 23) [0]) (subc (bodyOf Try.prog 23) [1]) (by kernel_rfl) ?_
  refine wc_upd (n := 200) (T := ⟨fun r i => match r, i with | _, _ => none, fun _ => none, none⟩) (x := .normal) (h1 := h) [(2, (vL none 0 0)), (3, (vI 0))]
    (fun q => q) (by intro K'; as_aux_lemma => kernel_rfl) (fun _ q => q) ?_
  refine wc_seq' (subc (bodyOf Try.prog 23) [1, 0]) (subc (bodyOf Try.prog 23) [1, 1]) (by kernel_rfl) ?_
  obtain ⟨_, _, sn3957, rfl, rfl⟩ := rvalid_ok h (hT'.keep fun b r _ q => (Ext.refl h) b r q) hm
  refine wc_upd (n := 200) (T := ⟨fun r i => match r, i with | 1, 1 => some ((vB true), h) | _, _ => none, fun _ => none, none⟩) (x := .normal) (h1 := h) [(13, (vP t 0)), (14, (vB true)), (15, (vB false))]
    (fun q => SoundCall Try.prog 41 #[(vP t 0)] h (vB true) h ∧ q) (by intro K'; as_aux_lemma => kernel_rfl) (fun _ q => ⟨sn3957, q⟩) ?_
  refine wc_seq' (subc (bodyOf Try.prog 23) [1, 1, 0]) (subc (bodyOf Try.prog 23) [1, 1, 1]) (by kernel_rfl) ?_
  obtain ⟨_, hh3959, sn3960, rfl, x3961⟩ := rready_ok h (hT'.keep fun b r _ q => (Ext.refl h) b r q) hm
  have x3962 := (Ext.refl h).trans x3961
  rcases Bool.eq_false_or_eq_true ((readyB m)) with c3963 | c3963
  · refine wc_upd (n := 200) (T := ⟨fun r i => match r, i with | 3, 1 => some ((vB true), hh3959) | _, _ => none, fun _ => none, none⟩) (x := .normal) (h1 := hh3959) [(16, (vP t 0)), (17, (vB true)), (18, (vB false))]
      (fun q => SoundCall Try.prog 24 #[(vP t 0)] h (vB true) hh3959 ∧ q) (by intro K'; as_aux_lemma => kernel_rfl) (fun _ q => ⟨(by rw [← c3963]; exact sn3960), q⟩) ?_
    refine wc_seq' (subc (bodyOf Try.prog 23) [1, 1, 1, 0]) (subc (bodyOf Try.prog 23) [1, 1, 1, 1]) (by kernel_rfl) ?_
    refine wc_upd (n := 200) (T := ⟨fun r i => match r, i with | _, _ => none, fun _ => none, none⟩) (x := .normal) (h1 := hh3959) [(4, (vI (-1)))]
      (fun q => q) (by intro K'; as_aux_lemma => kernel_rfl) (fun _ q => q) ?_
    refine wc_seq' (subc (bodyOf Try.prog 23) [1, 1, 1, 1, 0]) (subc (bodyOf Try.prog 23) [1, 1, 1, 1, 1]) (by kernel_rfl) ?_
    refine wc_seq' (subc (bodyOf Try.prog 23) [1, 1, 1, 1, 0, 0]) (subc (bodyOf Try.prog 23) [1, 1, 1, 1, 0, 1]) (by kernel_rfl) ?_
    refine wc_upd (n := 200) (T := ⟨fun r i => match r, i with | _, _ => none, fun _ => none, none⟩) (x := .normal) (h1 := hh3959) [(5, (vI 0))]
      (fun q => q) (by intro K'; as_aux_lemma => kernel_rfl) (fun _ q => q) ?_
    refine wc_block' 0 (subc (bodyOf Try.prog 23) [1, 1, 1, 1, 0, 1, 0]) (by kernel_rfl) ?_
    refine wc_loop' (subc (bodyOf Try.prog 23) [1, 1, 1, 1, 0, 1, 0, 0]) (by kernel_rfl) (fun n' a' h' => ∃ (k : Int) (w : Int) (g0 : Nat → Value), a' = { tmps := #[(vP t 0), vZ, (vL none 0 0), (vI 0), (vI w), (vI k), (g0 6), vZ, vZ, vZ, vZ, vZ, vZ, (vP t 0), (vB true), (vB false), (vP t 0), (vB true), (vB false), (g0 19), (g0 20), (g0 21), (g0 22), (g0 23), (g0 24), (g0 25), (g0 26), (g0 27), (g0 28), (g0 29), (g0 30), (g0 31), (g0 32), (g0 33), (g0 34), (g0 35), (g0 36), (g0 37), (g0 38), (g0 39), (g0 40), (g0 41), (g0 42), (g0 43), (g0 44), (g0 45), (g0 46), (g0 47), (g0 48), (g0 49), vZ, vZ, vZ, vZ, vZ, vZ, vZ, vZ, vZ, vZ, vZ, vZ, vZ, vZ, vZ, vZ, vZ, vZ, vZ, vZ, vZ, vZ, vZ, vZ, vZ, vZ, vZ, vZ, vZ, vZ, vZ, vZ, vZ, vZ, vZ, vZ, vZ, vZ, vZ, vZ, vZ, vZ, vZ, vZ, vZ, vZ, vZ, vZ, vZ, vZ, vZ, vZ, vZ, vZ, vZ, vZ, vZ, vZ, vZ, vZ, vZ, vZ, vZ, vZ, vZ], defers := [] } ∧ Ext h h' ∧ n' = m.n.toNat - k.toNat ∧ (0 ≤ k ∧ k ≤ m.n) ∧ w = endOf (entM m k.toNat)) ?_ (m.n.toNat - (0 : Int).toNat) ⟨0, (-1), (fun i => ([vU, vU, vU, vU, vU, vU, vZ, vU, vU, vU, vU, vU, vU, vU, vU, vU, vU, vU, vU, vZ, vZ, vZ, vZ, vZ, vZ, vZ, vZ, vZ, vZ, vZ, vZ, vZ, vZ, vZ, vZ, vZ, vZ, vZ, vZ, vZ, vZ, vZ, vZ, vZ, vZ, vZ, vZ, vZ, vZ, vZ] : List Value).getD i undef), by as_aux_lemma => kernel_rfl, x3962, rfl, by omega, rfl⟩
    rintro n' _ h3965 ⟨k, w, g0, rfl, x3969, m3968, i3966, i3967⟩
    refine wc_seq' (subc (bodyOf Try.prog 23) [1, 1, 1, 1, 0, 1, 0, 0, 0]) (subc (bodyOf Try.prog 23) [1, 1, 1, 1, 0, 1, 0, 0, 1]) (by kernel_rfl) ?_
    by_cases c3970 : ((k) : Int) < (m.n)
    · refine wc_upd (n := 200) (T := ⟨fun r i => match r, i with | 7, 4 => some ((vI m.n), h3965) | 7, 5 => some ((vB true), h3965) | _, _ => none, fun _ => none, none⟩) (x := .normal) (h1 := h3965) [(19, (vI k)), (20, (vP t 0)), (21, (vP t 0)), (22, (vP t 1)), (23, (vI m.n)), (24, (vB true))]
        (fun q => (loadT Try.prog h3965 3 (vP t 1) = some (vI m.n) ∧ h3965 = h3965) ∧ (binA Try.prog .lss 3 (vI k) (vI m.n) = some (vB true) ∧ h3965 = h3965) ∧ q) (by intro K'; as_aux_lemma => kernel_rfl) (fun _ q => ⟨⟨load_cell agg3 (x3969 _ _ hrow) rfl, rfl⟩, ⟨cmp_lss (decide_eq_true c3970), rfl⟩, q⟩) ?_
      refine wc_seq' (subc (bodyOf Try.prog 23) [1, 1, 1, 1, 0, 1, 0, 0, 1, 0]) (subc (bodyOf Try.prog 23) [1, 1, 1, 1, 0, 1, 0, 0, 1, 1]) (by kernel_rfl) ?_
      refine wc_block' 1 (subc (bodyOf Try.prog 23) [1, 1, 1, 1, 0, 1, 0, 0, 1, 0, 0]) (by kernel_rfl) ?_
      refine wc_seq' (subc (bodyOf Try.prog 23) [1, 1, 1, 1, 0, 1, 0, 0, 1, 0, 0, 0]) (subc (bodyOf Try.prog 23) [1, 1, 1, 1, 0, 1, 0, 0, 1, 0, 0, 1]) (by kernel_rfl) ?_
      refine wc_upd (n := 200) (T := ⟨fun r i => match r, i with | _, _ => none, fun _ => none, none⟩) (x := .normal) (h1 := h3965) [(6, (vI 0))]
        (fun q => q) (by intro K'; as_aux_lemma => kernel_rfl) (fun _ q => q) ?_
      refine wc_block' 2 (subc (bodyOf Try.prog 23) [1, 1, 1, 1, 0, 1, 0, 0, 1, 0, 0, 1, 0]) (by kernel_rfl) ?_
      refine wc_loop' (subc (bodyOf Try.prog 23) [1, 1, 1, 1, 0, 1, 0, 0, 1, 0, 0, 1, 0, 0]) (by kernel_rfl) (fun n' a' h' => ∃ (j : Int) (w : Int) (g1 : Nat → Value), a' = { tmps := #[(vP t 0), vZ, (vL none 0 0), (vI 0), (vI w), (vI k), (vI j), vZ, vZ, vZ, vZ, vZ, vZ, (vP t 0), (vB true), (vB false), (vP t 0), (vB true), (vB false), (vI k), (vP t 0), (vP t 0), (vP t 1), (vI m.n), (vB true), (g0 25), (g0 26), (g1 27), (g1 28), (g1 29), (g1 30), (g1 31), (g1 32), (g1 33), (g1 34), (g1 35), (g1 36), (g1 37), (g1 38), (g1 39), (g1 40), (g1 41), (g1 42), (g1 43), (g1 44), (g1 45), (g1 46), (g1 47), (g1 48), (g1 49), vZ, vZ, vZ, vZ, vZ, vZ, vZ, vZ, vZ, vZ, vZ, vZ, vZ, vZ, vZ, vZ, vZ, vZ, vZ, vZ, vZ, vZ, vZ, vZ, vZ, vZ, vZ, vZ, vZ, vZ, vZ, vZ, vZ, vZ, vZ, vZ, vZ, vZ, vZ, vZ, vZ, vZ, vZ, vZ, vZ, vZ, vZ, vZ, vZ, vZ, vZ, vZ, vZ, vZ, vZ, vZ, vZ, vZ, vZ, vZ, vZ, vZ, vZ, vZ, vZ], defers := [] } ∧ Ext h h' ∧ n' = (m.ps k.toNat).list.length - j.toNat ∧ (0 ≤ j ∧ j ≤ (m.ps k.toNat).list.length) ∧ w = endOf (upTo m k.toNat j.toNat)) ?_ ((m.ps k.toNat).list.length - (0 : Int).toNat) ⟨0, w, (fun i => ([vU, vU, vU, vU, vU, vU, vU, vU, vU, vU, vU, vU, vU, vU, vU, vU, vU, vU, vU, vU, vU, vU, vU, vU, vU, vU, vU, (g0 27), (g0 28), (g0 29), (g0 30), (g0 31), (g0 32), (g0 33), (g0 34), (g0 35), (g0 36), (g0 37), (g0 38), (g0 39), (g0 40), (g0 41), (g0 42), (g0 43), (g0 44), (g0 45), (g0 46), (g0 47), (g0 48), (g0 49)] : List Value).getD i undef), by as_aux_lemma => kernel_rfl, x3969, rfl, by omega, by rw [show (0 : Int).toNat = 0 from rfl, upTo_zero]; exact i3967⟩
      rintro n' _ h3972 ⟨j, w, g1, rfl, x3976, m3975, i3973, i3974⟩
      have hlk := hlen k.toNat
      have p3977 : CellsAt h3972 t (12 + k.toNat * 1) #[(Value.slice (ra k.toNat).1 ((m.ps k.toNat).list.length) ((ra k.toNat).2))] := rcells_lst (m := m) (ra := ra) (x3976 _ _ hrow) (by omega) (by omega)
      by_cases c3978 : ((j) : Int) < (((m.ps k.toNat).list.length : Nat))
      · obtain ⟨i3980, v3981, e3982, l3983, g3984⟩ := list_at (m.ps k.toNat).list (e := (j)) (by omega) (by first | omega | (simp only [List.length_set, List.length_append, List.length_singleton]; omega))
        obtain ⟨b3985, o3986, k3987, q3988, a3989⟩ := ((T.lists k.toNat (by omega)).slice entc_size).at entc_size g3984
        refine wc_upd (n := 200) (T := ⟨fun r i => match r, i with | 10, 5 => some ((Value.pointer (some ⟨t, 12 + k.toNat * 1, none⟩)), h3972) | 10, 6 => some ((Value.slice (ra k.toNat).1 ((m.ps k.toNat).list.length) ((ra k.toNat).2)), h3972) | 10, 8 => some ((vB true), h3972) | 12, 5 => some ((Value.pointer (some ⟨t, 12 + k.toNat * 1, none⟩)), h3972) | 12, 6 => some ((Value.slice (ra k.toNat).1 ((m.ps k.toNat).list.length) ((ra k.toNat).2)), h3972) | 12, 8 => some ((vP b3985 o3986), h3972) | 12, 10 => some ((vI v3981.slot), h3972) | 12, 11 => some ((vI (max (w) (v3981.slot))), h3972) | 11, 1 => some ((vI ((j) + 1)), h3972) | _, _ => none, fun _ => none, none⟩) (x := .normal) (h1 := h3972) [(27, (vI j)), (28, (vP t 0)), (29, (vI k)), (30, (vP t 0)), (31, (vP t 12)), (32, (Value.pointer (some ⟨t, 12 + k.toNat * 1, none⟩))), (33, (Value.slice (ra k.toNat).1 ((m.ps k.toNat).list.length) ((ra k.toNat).2))), (34, (vI (((m.ps k.toNat).list.length : Nat)))), (35, (vB true)), (38, (vI w)), (39, (vP t 0)), (40, (vI k)), (41, (vP t 0)), (42, (vP t 12)), (43, (Value.pointer (some ⟨t, 12 + k.toNat * 1, none⟩))), (44, (Value.slice (ra k.toNat).1 ((m.ps k.toNat).list.length) ((ra k.toNat).2))), (45, (vI j)), (46, (vP b3985 o3986)), (47, (vP b3985 o3986)), (48, (vI v3981.slot)), (49, (vI (max (w) (v3981.slot)))), (4, (vI (max (w) (v3981.slot)))), (36, (vI j)), (37, (vI ((j) + 1))), (6, (vI ((j) + 1)))]
          (fun q => (indexAddrA Try.prog 84 (vP t 12) (vI k) = some (Value.pointer (some ⟨t, 12 + k.toNat * 1, none⟩)) ∧ h3972 = h3972) ∧ (loadT Try.prog h3972 34 (Value.pointer (some ⟨t, 12 + k.toNat * 1, none⟩)) = some (Value.slice (ra k.toNat).1 ((m.ps k.toNat).list.length) ((ra k.toNat).2)) ∧ h3972 = h3972) ∧ (binA Try.prog .lss 3 (vI j) (vI (((m.ps k.toNat).list.length : Nat))) = some (vB true) ∧ h3972 = h3972) ∧ (indexAddrA Try.prog 84 (vP t 12) (vI k) = some (Value.pointer (some ⟨t, 12 + k.toNat * 1, none⟩)) ∧ h3972 = h3972) ∧ (loadT Try.prog h3972 34 (Value.pointer (some ⟨t, 12 + k.toNat * 1, none⟩)) = some (Value.slice (ra k.toNat).1 ((m.ps k.toNat).list.length) ((ra k.toNat).2)) ∧ h3972 = h3972) ∧ (indexAddrA Try.prog 34 (Value.slice (ra k.toNat).1 ((m.ps k.toNat).list.length) ((ra k.toNat).2)) (vI j) = some (vP b3985 o3986) ∧ h3972 = h3972) ∧ (loadT Try.prog h3972 3 (vP b3985 o3986) = some (vI v3981.slot) ∧ h3972 = h3972) ∧ ((vI (max (w) (v3981.slot))) = (vI (if (v3981.slot) > (w) then (v3981.slot) else (w))) ∧ h3972 = h3972) ∧ (binA Try.prog .add 3 (vI j) (vI 1) = some (vI ((j) + 1)) ∧ h3972 = h3972) ∧ q) (by intro K'; as_aux_lemma => kernel_rfl) (fun _ q => ⟨⟨index_arr und84 size34 (by omega) (by omega), rfl⟩, ⟨p3977.cell (j := 0) agg34 rfl, rfl⟩, ⟨cmp_lss (decide_eq_true c3978), rfl⟩, ⟨index_arr und84 size34 (by omega) (by omega), rfl⟩, ⟨p3977.cell (j := 0) agg34 rfl, rfl⟩, ⟨a3989 und34 size38 e3982, rfl⟩, ⟨(k3987.keep fun b r _ q => x3976 b r q).cell (j := 0) agg3 rfl, rfl⟩, ⟨by rw [max_ite], rfl⟩, ⟨add_i64 (by omega) (by omega), rfl⟩, q⟩) ?_
        exact ⟨(m.ps k.toNat).list.length - (j + 1).toNat, by omega, ⟨j + 1, max (w) (v3981.slot), (fun i => ([vU, vU, vU, vU, vU, vU, vU, vU, vU, vU, vU, vU, vU, vU, vU, vU, vU, vU, vU, vU, vU, vU, vU, vU, vU, vU, vU, (vI j), (vP t 0), (vI k), (vP t 0), (vP t 12), (Value.pointer (some ⟨t, 12 + k.toNat * 1, none⟩)), (Value.slice (ra k.toNat).1 ((m.ps k.toNat).list.length) ((ra k.toNat).2)), (vI (((m.ps k.toNat).list.length : Nat))), (vB true), (vI j), (vI ((j) + 1)), (vI w), (vP t 0), (vI k), (vP t 0), (vP t 12), (Value.pointer (some ⟨t, 12 + k.toNat * 1, none⟩)), (Value.slice (ra k.toNat).1 ((m.ps k.toNat).list.length) ((ra k.toNat).2)), (vI j), (vP b3985 o3986), (vP b3985 o3986), (vI v3981.slot), (vI (max (w) (v3981.slot)))] : List Value).getD i undef), by as_aux_lemma => kernel_rfl, x3976, rfl, by omega, by rw [show (j + 1).toNat = i3980 + 1 by omega, upTo_next g3984, endOf_add, show i3980 = j.toNat by omega, ← i3974]⟩⟩
      · refine wc_upd (n := 200) (T := ⟨fun r i => match r, i with | 10, 5 => some ((Value.pointer (some ⟨t, 12 + k.toNat * 1, none⟩)), h3972) | 10, 6 => some ((Value.slice (ra k.toNat).1 ((m.ps k.toNat).list.length) ((ra k.toNat).2)), h3972) | 10, 8 => some ((vB false), h3972) | _, _ => none, fun _ => none, none⟩) (x := (.exit 2)) (h1 := h3972) [(27, (vI j)), (28, (vP t 0)), (29, (vI k)), (30, (vP t 0)), (31, (vP t 12)), (32, (Value.pointer (some ⟨t, 12 + k.toNat * 1, none⟩))), (33, (Value.slice (ra k.toNat).1 ((m.ps k.toNat).list.length) ((ra k.toNat).2))), (34, (vI (((m.ps k.toNat).list.length : Nat)))), (35, (vB false))]
          (fun q => (indexAddrA Try.prog 84 (vP t 12) (vI k) = some (Value.pointer (some ⟨t, 12 + k.toNat * 1, none⟩)) ∧ h3972 = h3972) ∧ (loadT Try.prog h3972 34 (Value.pointer (some ⟨t, 12 + k.toNat * 1, none⟩)) = some (Value.slice (ra k.toNat).1 ((m.ps k.toNat).list.length) ((ra k.toNat).2)) ∧ h3972 = h3972) ∧ (binA Try.prog .lss 3 (vI j) (vI (((m.ps k.toNat).list.length : Nat))) = some (vB false) ∧ h3972 = h3972) ∧ q) (by intro K'; as_aux_lemma => kernel_rfl) (fun _ q => ⟨⟨index_arr und84 size34 (by omega) (by omega), rfl⟩, ⟨p3977.cell (j := 0) agg34 rfl, rfl⟩, ⟨cmp_lss (decide_eq_false c3978), rfl⟩, q⟩) ?_
        refine wc_upd (n := 200) (T := ⟨fun r i => match r, i with | 8, 1 => some ((vI ((k) + 1)), h3972) | _, _ => none, fun _ => none, none⟩) (x := .normal) (h1 := h3972) [(25, (vI k)), (26, (vI ((k) + 1))), (5, (vI ((k) + 1)))]
          (fun q => (binA Try.prog .add 3 (vI k) (vI 1) = some (vI ((k) + 1)) ∧ h3972 = h3972) ∧ q) (by intro K'; as_aux_lemma => kernel_rfl) (fun _ q => ⟨⟨add_i64 (by omega) (by omega), rfl⟩, q⟩) ?_
        exact ⟨m.n.toNat - (k + 1).toNat, by omega, ⟨k + 1, w, (fun i => ([vU, vU, vU, vU, vU, vU, (vI j), vU, vU, vU, vU, vU, vU, vU, vU, vU, vU, vU, vU, (vI k), (vP t 0), (vP t 0), (vP t 1), (vI m.n), (vB true), (vI k), (vI ((k) + 1)), (vI j), (vP t 0), (vI k), (vP t 0), (vP t 12), (Value.pointer (some ⟨t, 12 + k.toNat * 1, none⟩)), (Value.slice (ra k.toNat).1 ((m.ps k.toNat).list.length) ((ra k.toNat).2)), (vI (((m.ps k.toNat).list.length : Nat))), (vB false), (g1 36), (g1 37), (g1 38), (g1 39), (g1 40), (g1 41), (g1 42), (g1 43), (g1 44), (g1 45), (g1 46), (g1 47), (g1 48), (g1 49)] : List Value).getD i undef), by as_aux_lemma => kernel_rfl, x3976, rfl, by omega, by rw [i3974, show (k + 1).toNat = k.toNat + 1 by omega, upTo_end (by omega)]⟩⟩
    · refine wc_upd (n := 200) (T := ⟨fun r i => match r, i with | 7, 4 => some ((vI m.n), h3965) | 7, 5 => some ((vB false), h3965) | _, _ => none, fun _ => none, none⟩) (x := (.exit 0)) (h1 := h3965) [(19, (vI k)), (20, (vP t 0)), (21, (vP t 0)), (22, (vP t 1)), (23, (vI m.n)), (24, (vB false))]
        (fun q => (loadT Try.prog h3965 3 (vP t 1) = some (vI m.n) ∧ h3965 = h3965) ∧ (binA Try.prog .lss 3 (vI k) (vI m.n) = some (vB false) ∧ h3965 = h3965) ∧ q) (by intro K'; as_aux_lemma => kernel_rfl) (fun _ q => ⟨⟨load_cell agg3 (x3969 _ _ hrow) rfl, rfl⟩, ⟨cmp_lss (decide_eq_false c3970), rfl⟩, q⟩) ?_
      refine wc_seq' (subc (bodyOf Try.prog 23) [1, 1, 1, 1, 1, 0]) (subc (bodyOf Try.prog 23) [1, 1, 1, 1, 1, 1]) (by kernel_rfl) ?_
      refine wc_upd (n := 200) (T := ⟨fun r i => match r, i with | _, _ => none, fun _ => none, none⟩) (x := .normal) (h1 := h3965) [(7, (vL none 0 0))]
        (fun q => q) (by intro K'; as_aux_lemma => kernel_rfl) (fun _ q => q) ?_
      refine wc_seq' (subc (bodyOf Try.prog 23) [1, 1, 1, 1, 1, 1, 0]) (subc (bodyOf Try.prog 23) [1, 1, 1, 1, 1, 1, 1]) (by kernel_rfl) ?_
      refine wc_seq' (subc (bodyOf Try.prog 23) [1, 1, 1, 1, 1, 1, 0, 0]) (subc (bodyOf Try.prog 23) [1, 1, 1, 1, 1, 1, 0, 1]) (by kernel_rfl) ?_
      obtain ⟨_, hh3991, sn3992, rfl, x3993⟩ := rupto_ok h3965 (hT'.keep fun b r _ q => x3969 b r q) hm
      have x3994 := x3969.trans x3993
      have ux3993 := upM_range hm 7
      refine wc_upd (n := 200) (T := ⟨fun r i => match r, i with | 14, 3 => some ((vI m.frm), h3965) | 14, 5 => some ((vI (upM m 7)), hh3991) | 14, 6 => some ((vI (max (m.frm) (upM m 7))), hh3991) | _, _ => none, fun _ => none, none⟩) (x := .normal) (h1 := hh3991) [(50, (vP t 0)), (51, (vP t 0)), (52, (vP t 4)), (53, (vI m.frm)), (54, (vP t 0)), (55, (vI (upM m 7))), (56, (vI (max (m.frm) (upM m 7)))), (8, (vI (max (m.frm) (upM m 7))))]
        (fun q => (loadT Try.prog h3965 3 (vP t 4) = some (vI m.frm) ∧ h3965 = h3965) ∧ SoundCall Try.prog 25 #[(vP t 0)] h3965 (vI (upM m 7)) hh3991 ∧ (loadT Try.prog hh3991 3 (vP t 4) = some (vI m.frm) ∧ hh3991 = hh3991) ∧ ((vI (max (m.frm) (upM m 7))) = (vI (if (upM m 7) > (m.frm) then (upM m 7) else (m.frm))) ∧ hh3991 = hh3991) ∧ q) (by intro K'; as_aux_lemma => kernel_rfl) (fun _ q => ⟨⟨load_cell agg3 (x3969 _ _ hrow) rfl, rfl⟩, sn3992, ⟨load_cell agg3 (x3994 _ _ hrow) rfl, rfl⟩, ⟨by rw [max_ite], rfl⟩, q⟩) ?_
      refine wc_block' 4 (subc (bodyOf Try.prog 23) [1, 1, 1, 1, 1, 1, 0, 1, 0]) (by kernel_rfl) ?_
      refine wc_loop' (subc (bodyOf Try.prog 23) [1, 1, 1, 1, 1, 1, 0, 1, 0, 0]) (by kernel_rfl) (fun n' a' h' => ∃ (s : Int) (out : List EntM) (oa : Option Addr) (oc : Nat) (g2 : Nat → Value), a' = { tmps := #[(vP t 0), vZ, (vL none 0 0), (vI 0), (vI w), (vI k), (g0 6), (vL oa out.length oc), (vI s), (g2 9), (g2 10), (g2 11), (g2 12), (vP t 0), (vB true), (vB false), (vP t 0), (vB true), (vB false), (vI k), (vP t 0), (vP t 0), (vP t 1), (vI m.n), (vB false), (g0 25), (g0 26), (g0 27), (g0 28), (g0 29), (g0 30), (g0 31), (g0 32), (g0 33), (g0 34), (g0 35), (g0 36), (g0 37), (g0 38), (g0 39), (g0 40), (g0 41), (g0 42), (g0 43), (g0 44), (g0 45), (g0 46), (g0 47), (g0 48), (g0 49), (vP t 0), (vP t 0), (vP t 4), (vI m.frm), (vP t 0), (vI (upM m 7)), (vI (max (m.frm) (upM m 7))), (g2 57), (g2 58), (g2 59), (g2 60), (g2 61), (g2 62), (g2 63), (g2 64), (g2 65), (g2 66), (g2 67), (g2 68), (g2 69), (g2 70), (g2 71), (g2 72), (g2 73), (g2 74), (g2 75), (g2 76), (g2 77), (g2 78), (g2 79), (g2 80), (g2 81), (g2 82), (g2 83), (g2 84), (g2 85), (g2 86), (g2 87), (g2 88), (g2 89), (g2 90), (g2 91), (g2 92), (g2 93), (g2 94), (g2 95), (g2 96), (g2 97), (g2 98), (g2 99), (g2 100), (g2 101), (g2 102), (g2 103), (g2 104), (g2 105), (g2 106), (g2 107), (g2 108), (g2 109), (g2 110), (g2 111), (g2 112), (g2 113), vZ], defers := [] } ∧ Ext h h' ∧ n' = (4200 - s).toNat ∧ (begM m ≤ s ∧ s ≤ 4200) ∧ out = (valuesM m).take (s - begM m).toNat ∧ (∀ z, blk (vL oa out.length oc) z → h.size ≤ z) ∧ (out.length : Int) ≤ s - begM m ∧ OwnAt h' 38 entc out (vL oa out.length oc)) ?_ ((4200 - (max (m.frm) (upM m 7))).toNat) ⟨max (m.frm) (upM m 7), [], none, 0, (fun i => ([vU, vU, vU, vU, vU, vU, vU, vU, vU, vZ, vZ, vZ, vZ, vU, vU, vU, vU, vU, vU, vU, vU, vU, vU, vU, vU, vU, vU, vU, vU, vU, vU, vU, vU, vU, vU, vU, vU, vU, vU, vU, vU, vU, vU, vU, vU, vU, vU, vU, vU, vU, vU, vU, vU, vU, vU, vU, vU, vZ, vZ, vZ, vZ, vZ, vZ, vZ, vZ, vZ, vZ, vZ, vZ, vZ, vZ, vZ, vZ, vZ, vZ, vZ, vZ, vZ, vZ, vZ, vZ, vZ, vZ, vZ, vZ, vZ, vZ, vZ, vZ, vZ, vZ, vZ, vZ, vZ, vZ, vZ, vZ, vZ, vZ, vZ, vZ, vZ, vZ, vZ, vZ, vZ, vZ, vZ, vZ, vZ, vZ, vZ, vZ, vZ] : List Value).getD i undef), by as_aux_lemma => kernel_rfl, x3994, rfl, by omega, by rw [show (_ - begM m).toNat = 0 by omega]; rfl, (fun _ hz => hz.elim), by simp only [List.length_nil]; omega, .inl ⟨rfl, rfl⟩⟩
      rintro n' _ h3996 ⟨s, out, oa, oc, g2, rfl, x4003, m4002, i3997, i3998, i3999, i4000, p4001⟩
      have ew : w = endOf (entM m 7) := by rw [i3967, show k.toNat = m.n.toNat by omega, ← e7]
      have el := endOf_len (bg := begM m) (by omega) (entM m 7)
      have vl := vals_len' m
      have vb := vals_len hm
      refine wc_seq' (subc (bodyOf Try.prog 23) [1, 1, 1, 1, 1, 1, 0, 1, 0, 0, 0]) (subc (bodyOf Try.prog 23) [1, 1, 1, 1, 1, 1, 0, 1, 0, 0, 1]) (by kernel_rfl) ?_
      by_cases c4004 : ((s) : Int) ≤ (w)
      · refine wc_upd (n := 200) (T := ⟨fun r i => match r, i with | 15, 2 => some ((vB true), h3996) | _, _ => none, fun _ => none, none⟩) (x := .normal) (h1 := h3996) [(57, (vI s)), (58, (vI w)), (59, (vB true))]
          (fun q => (binA Try.prog .leq 3 (vI s) (vI w) = some (vB true) ∧ h3996 = h3996) ∧ q) (by intro K'; as_aux_lemma => kernel_rfl) (fun _ q => ⟨⟨cmp_leq (decide_eq_true c4004), rfl⟩, q⟩) ?_
        refine wc_seq' (subc (bodyOf Try.prog 23) [1, 1, 1, 1, 1, 1, 0, 1, 0, 0, 1, 0]) (subc (bodyOf Try.prog 23) [1, 1, 1, 1, 1, 1, 0, 1, 0, 0, 1, 1]) (by kernel_rfl) ?_
        refine wc_block' 5 (subc (bodyOf Try.prog 23) [1, 1, 1, 1, 1, 1, 0, 1, 0, 0, 1, 0, 0]) (by kernel_rfl) ?_
        refine wc_seq' (subc (bodyOf Try.prog 23) [1, 1, 1, 1, 1, 1, 0, 1, 0, 0, 1, 0, 0, 0]) (subc (bodyOf Try.prog 23) [1, 1, 1, 1, 1, 1, 0, 1, 0, 0, 1, 0, 0, 1]) (by kernel_rfl) ?_
        obtain ⟨b4007, eb4008⟩ : ∃ zq, zq = h3996.size := ⟨_, rfl⟩
        obtain ⟨h4005, e4006⟩ : ∃ zq, zq = h3996.push (.cells #[(vI 0), (vI 0), (vI 0), (vS .empty)] 38 (0, 0)) := ⟨_, rfl⟩
        have f4009 := push_new e4006
        rw [← eb4008] at f4009
        have n4012 : ∀ zz, (blk (Value.slice oa (out.length) (oc))) zz → ¬ zz = b4007 := fun zz hz ez => by have := p4001.blk_lt hz; omega
        have x4013 : Ext h3996 h4005 := by rw [e4006]; exact Ext.push _ _
        have o4014 : h.size ≤ b4007 := by have := x4003.size; omega
        have p4015 := p4001.keep fun b r _ q => x4013 b r q
        have x4016 := x4003.trans x4013
        refine wc_upd (n := 200) (T := ⟨fun r i => match r, i with | 17, 0 => some ((vP b4007 0), h4005) | _, _ => none, fun _ => none, none⟩) (x := .normal) (h1 := h4005) [(9, (vP b4007 0))]
          (fun q => ((vP b4007 0) = (Value.pointer (some ⟨h3996.size, 0, none⟩)) ∧ h4005 = h3996.push (.cells #[(vI 0), (vI 0), (vI 0), (vS .empty)] 38 (0, 0))) ∧ q) (by intro K'; as_aux_lemma => kernel_rfl) (fun _ q => ⟨⟨by rw [eb4008], e4006⟩, q⟩) ?_
        refine wc_seq' (subc (bodyOf Try.prog 23) [1, 1, 1, 1, 1, 1, 0, 1, 0, 0, 1, 0, 0, 1, 0]) (subc (bodyOf Try.prog 23) [1, 1, 1, 1, 1, 1, 0, 1, 0, 0, 1, 0, 0, 1, 1]) (by kernel_rfl) ?_
        refine wc_seq' (subc (bodyOf Try.prog 23) [1, 1, 1, 1, 1, 1, 0, 1, 0, 0, 1, 0, 0, 1, 0, 0]) (subc (bodyOf Try.prog 23) [1, 1, 1, 1, 1, 1, 0, 1, 0, 0, 1, 0, 0, 1, 0, 1]) (by kernel_rfl) ?_
        refine wc_upd (n := 200) (T := ⟨fun r i => match r, i with | _, _ => none, fun _ => none, none⟩) (x := .normal) (h1 := h4005) [(10, (vI 0))]
          (fun q => q) (by intro K'; as_aux_lemma => kernel_rfl) (fun _ q => q) ?_
        refine wc_block' 6 (subc (bodyOf Try.prog 23) [1, 1, 1, 1, 1, 1, 0, 1, 0, 0, 1, 0, 0, 1, 0, 1, 0]) (by kernel_rfl) ?_
        refine wc_loop' (subc (bodyOf Try.prog 23) [1, 1, 1, 1, 1, 1, 0, 1, 0, 0, 1, 0, 0, 1, 0, 1, 0, 0]) (by kernel_rfl) (fun n' a' h' => ∃ (u : Int) (bst : EntM) (g3 : Nat → Value), a' = { tmps := #[(vP t 0), vZ, (vL none 0 0), (vI 0), (vI w), (vI k), (g0 6), (vL oa out.length oc), (vI s), (vP b4007 0), (vI u), (g3 11), (g3 12), (vP t 0), (vB true), (vB false), (vP t 0), (vB true), (vB false), (vI k), (vP t 0), (vP t 0), (vP t 1), (vI m.n), (vB false), (g0 25), (g0 26), (g0 27), (g0 28), (g0 29), (g0 30), (g0 31), (g0 32), (g0 33), (g0 34), (g0 35), (g0 36), (g0 37), (g0 38), (g0 39), (g0 40), (g0 41), (g0 42), (g0 43), (g0 44), (g0 45), (g0 46), (g0 47), (g0 48), (g0 49), (vP t 0), (vP t 0), (vP t 4), (vI m.frm), (vP t 0), (vI (upM m 7)), (vI (max (m.frm) (upM m 7))), (vI s), (vI w), (vB true), (g2 60), (g2 61), (g3 62), (g3 63), (g3 64), (g3 65), (g3 66), (g3 67), (g3 68), (g3 69), (g3 70), (g3 71), (g3 72), (g3 73), (g3 74), (g3 75), (g3 76), (g3 77), (g3 78), (g3 79), (g3 80), (g3 81), (g3 82), (g3 83), (g3 84), (g3 85), (g3 86), (g3 87), (g3 88), (g3 89), (g3 90), (g3 91), (g3 92), (g3 93), (g3 94), (g3 95), (g3 96), (g3 97), (g3 98), (g3 99), (g3 100), (g3 101), (g3 102), (g2 103), (g2 104), (g2 105), (g2 106), (g2 107), (g2 108), (g2 109), (g2 110), (g2 111), (g2 112), (g2 113), vZ], defers := [] } ∧ Ext h h' ∧ n' = m.n.toNat - u.toNat ∧ (0 ≤ u ∧ u ≤ m.n) ∧ h'[b4007]? = some (.cells #[(vI bst.slot), (vI bst.rd), (vI bst.nd), (vS bst.val)] 38 (0, 0)) ∧ bst = bestAt (entM m u.toNat) s ∧ (∀ zz, blk (vL oa out.length oc) zz → ¬ zz = b4007) ∧ OwnAt h' 38 entc out (vL oa out.length oc)) ?_ (m.n.toNat - (0 : Int).toNat) ⟨0, zeroEnt, (fun i => ([vU, vU, vU, vU, vU, vU, vU, vU, vU, vU, vU, (g2 11), (g2 12), vU, vU, vU, vU, vU, vU, vU, vU, vU, vU, vU, vU, vU, vU, vU, vU, vU, vU, vU, vU, vU, vU, vU, vU, vU, vU, vU, vU, vU, vU, vU, vU, vU, vU, vU, vU, vU, vU, vU, vU, vU, vU, vU, vU, vU, vU, vU, vU, vU, (g2 62), (g2 63), (g2 64), (g2 65), (g2 66), (g2 67), (g2 68), (g2 69), (g2 70), (g2 71), (g2 72), (g2 73), (g2 74), (g2 75), (g2 76), (g2 77), (g2 78), (g2 79), (g2 80), (g2 81), (g2 82), (g2 83), (g2 84), (g2 85), (g2 86), (g2 87), (g2 88), (g2 89), (g2 90), (g2 91), (g2 92), (g2 93), (g2 94), (g2 95), (g2 96), (g2 97), (g2 98), (g2 99), (g2 100), (g2 101), (g2 102)] : List Value).getD i undef), by as_aux_lemma => kernel_rfl, x4016, rfl, by omega, f4009, rfl, n4012, p4015⟩
        rintro n' _ h4018 ⟨u, bst, g3, rfl, x4025, m4024, i4019, i4020, i4021, i4022, p4023⟩
        refine wc_seq' (subc (bodyOf Try.prog 23) [1, 1, 1, 1, 1, 1, 0, 1, 0, 0, 1, 0, 0, 1, 0, 1, 0, 0, 0]) (subc (bodyOf Try.prog 23) [1, 1, 1, 1, 1, 1, 0, 1, 0, 0, 1, 0, 0, 1, 0, 1, 0, 0, 1]) (by kernel_rfl) ?_
        by_cases c4026 : ((u) : Int) < (m.n)
        · refine wc_upd (n := 200) (T := ⟨fun r i => match r, i with | 19, 4 => some ((vI m.n), h4018) | 19, 5 => some ((vB true), h4018) | _, _ => none, fun _ => none, none⟩) (x := .normal) (h1 := h4018) [(62, (vI u)), (63, (vP t 0)), (64, (vP t 0)), (65, (vP t 1)), (66, (vI m.n)), (67, (vB true))]
            (fun q => (loadT Try.prog h4018 3 (vP t 1) = some (vI m.n) ∧ h4018 = h4018) ∧ (binA Try.prog .lss 3 (vI u) (vI m.n) = some (vB true) ∧ h4018 = h4018) ∧ q) (by intro K'; as_aux_lemma => kernel_rfl) (fun _ q => ⟨⟨load_cell agg3 (x4025 _ _ hrow) rfl, rfl⟩, ⟨cmp_lss (decide_eq_true c4026), rfl⟩, q⟩) ?_
          refine wc_seq' (subc (bodyOf Try.prog 23) [1, 1, 1, 1, 1, 1, 0, 1, 0, 0, 1, 0, 0, 1, 0, 1, 0, 0, 1, 0]) (subc (bodyOf Try.prog 23) [1, 1, 1, 1, 1, 1, 0, 1, 0, 0, 1, 0, 0, 1, 0, 1, 0, 0, 1, 1]) (by kernel_rfl) ?_
          refine wc_block' 7 (subc (bodyOf Try.prog 23) [1, 1, 1, 1, 1, 1, 0, 1, 0, 0, 1, 0, 0, 1, 0, 1, 0, 0, 1, 0, 0]) (by kernel_rfl) ?_
          refine wc_seq' (subc (bodyOf Try.prog 23) [1, 1, 1, 1, 1, 1, 0, 1, 0, 0, 1, 0, 0, 1, 0, 1, 0, 0, 1, 0, 0, 0]) (subc (bodyOf Try.prog 23) [1, 1, 1, 1, 1, 1, 0, 1, 0, 0, 1, 0, 0, 1, 0, 1, 0, 0, 1, 0, 0, 1]) (by kernel_rfl) ?_
          refine wc_upd (n := 200) (T := ⟨fun r i => match r, i with | _, _ => none, fun _ => none, none⟩) (x := .normal) (h1 := h4018) [(11, (vI 0))]
            (fun q => q) (by intro K'; as_aux_lemma => kernel_rfl) (fun _ q => q) ?_
          refine wc_block' 8 (subc (bodyOf Try.prog 23) [1, 1, 1, 1, 1, 1, 0, 1, 0, 0, 1, 0, 0, 1, 0, 1, 0, 0, 1, 0, 0, 1, 0]) (by kernel_rfl) ?_
          refine wc_loop' (subc (bodyOf Try.prog 23) [1, 1, 1, 1, 1, 1, 0, 1, 0, 0, 1, 0, 0, 1, 0, 1, 0, 0, 1, 0, 0, 1, 0, 0]) (by kernel_rfl) (fun n' a' h' => ∃ (j2 : Int) (bst : EntM) (g4 : Nat → Value), a' = { tmps := #[(vP t 0), vZ, (vL none 0 0), (vI 0), (vI w), (vI k), (g0 6), (vL oa out.length oc), (vI s), (vP b4007 0), (vI u), (vI j2), (g4 12), (vP t 0), (vB true), (vB false), (vP t 0), (vB true), (vB false), (vI k), (vP t 0), (vP t 0), (vP t 1), (vI m.n), (vB false), (g0 25), (g0 26), (g0 27), (g0 28), (g0 29), (g0 30), (g0 31), (g0 32), (g0 33), (g0 34), (g0 35), (g0 36), (g0 37), (g0 38), (g0 39), (g0 40), (g0 41), (g0 42), (g0 43), (g0 44), (g0 45), (g0 46), (g0 47), (g0 48), (g0 49), (vP t 0), (vP t 0), (vP t 4), (vI m.frm), (vP t 0), (vI (upM m 7)), (vI (max (m.frm) (upM m 7))), (vI s), (vI w), (vB true), (g2 60), (g2 61), (vI u), (vP t 0), (vP t 0), (vP t 1), (vI m.n), (vB true), (g3 68), (g3 69), (g4 70), (g4 71), (g4 72), (g4 73), (g4 74), (g4 75), (g4 76), (g4 77), (g4 78), (g4 79), (g4 80), (g4 81), (g4 82), (g4 83), (g4 84), (g4 85), (g4 86), (g4 87), (g4 88), (g4 89), (g4 90), (g4 91), (g4 92), (g4 93), (g4 94), (g4 95), (g4 96), (g4 97), (g4 98), (g4 99), (g4 100), (g4 101), (g4 102), (g2 103), (g2 104), (g2 105), (g2 106), (g2 107), (g2 108), (g2 109), (g2 110), (g2 111), (g2 112), (g2 113), vZ], defers := [] } ∧ Ext h h' ∧ n' = (m.ps u.toNat).list.length - j2.toNat ∧ (0 ≤ j2 ∧ j2 ≤ (m.ps u.toNat).list.length) ∧ h'[b4007]? = some (.cells #[(vI bst.slot), (vI bst.rd), (vI bst.nd), (vS bst.val)] 38 (0, 0)) ∧ bst = bestAt (upTo m u.toNat j2.toNat) s ∧ (∀ zz, blk (vL oa out.length oc) zz → ¬ zz = b4007) ∧ OwnAt h' 38 entc out (vL oa out.length oc)) ?_ ((m.ps u.toNat).list.length - (0 : Int).toNat) ⟨0, bst, (fun i => ([vU, vU, vU, vU, vU, vU, vU, vU, vU, vU, vU, vU, (g3 12), vU, vU, vU, vU, vU, vU, vU, vU, vU, vU, vU, vU, vU, vU, vU, vU, vU, vU, vU, vU, vU, vU, vU, vU, vU, vU, vU, vU, vU, vU, vU, vU, vU, vU, vU, vU, vU, vU, vU, vU, vU, vU, vU, vU, vU, vU, vU, vU, vU, vU, vU, vU, vU, vU, vU, vU, vU, (g3 70), (g3 71), (g3 72), (g3 73), (g3 74), (g3 75), (g3 76), (g3 77), (g3 78), (g3 79), (g3 80), (g3 81), (g3 82), (g3 83), (g3 84), (g3 85), (g3 86), (g3 87), (g3 88), (g3 89), (g3 90), (g3 91), (g3 92), (g3 93), (g3 94), (g3 95), (g3 96), (g3 97), (g3 98), (g3 99), (g3 100), (g3 101), (g3 102)] : List Value).getD i undef), by as_aux_lemma => kernel_rfl, x4025, rfl, by omega, i4020, by rw [show (0 : Int).toNat = 0 from rfl, upTo_zero]; exact i4021, i4022, p4023⟩
          rintro n' _ h4028 ⟨j2, bst, g4, rfl, x4035, m4034, i4029, i4030, i4031, i4032, p4033⟩
          have hlq := hlen u.toNat
          have p4036 : CellsAt h4028 t (12 + u.toNat * 1) #[(Value.slice (ra u.toNat).1 ((m.ps u.toNat).list.length) ((ra u.toNat).2))] := rcells_lst (m := m) (ra := ra) (x4035 _ _ hrow) (by omega) (by omega)
          by_cases c4037 : ((j2) : Int) < (((m.ps u.toNat).list.length : Nat))
          · obtain ⟨i4039, v4040, e4041, l4042, g4043⟩ := list_at (m.ps u.toNat).list (e := (j2)) (by omega) (by first | omega | (simp only [List.length_set, List.length_append, List.length_singleton]; omega))
            obtain ⟨b4044, o4045, k4046, q4047, a4048⟩ := ((T.lists u.toNat (by omega)).slice entc_size).at entc_size g4043
            obtain ⟨b4052, eb4053⟩ : ∃ zq, zq = h4028.size := ⟨_, rfl⟩
            obtain ⟨h4050, e4051⟩ : ∃ zq, zq = h4028.push (.cells #[(vI 0), (vI 0), (vI 0), (vS .empty)] 38 (0, 0)) := ⟨_, rfl⟩
            have f4054 := push_new e4051
            rw [← eb4053] at f4054
            have n4056 : b4052 ≠ b4007 := by have := row_lt i4030; omega
            have n4058 : ∀ zz, (blk (Value.slice oa (out.length) (oc))) zz → ¬ zz = b4052 := fun zz hz ez => by have := p4033.blk_lt hz; omega
            have x4061 : Ext h4028 h4050 := by rw [e4051]; exact Ext.push _ _
            have o4062 : h.size ≤ b4052 := by have := x4035.size; omega
            have f4063 := x4061 _ _ i4030
            have p4064 := p4033.keep fun b r _ q => x4061 b r q
            have x4066 := x4035.trans x4061
            obtain ⟨h4067, e4068⟩ : ∃ zq, zq = h4050.setIfInBounds b4052 (.cells #[(vI (v4040.slot)), (vI (v4040.rd)), (vI (v4040.nd)), (vS v4040.val)] 38 (0, 0)) := ⟨_, rfl⟩
            have f4069 := set_same e4068 f4054
            have f4070 := set_other e4068 f4063 n4056
            have p4072 := p4064.keep fun b r hb q => (Chg.set e4068).same b r q (n4058 b hb)
            have x4073 := Ext.setNew x4066 e4068 o4062
            by_cases c4074 : ((v4040.slot) : Int) = (s)
            · obtain ⟨_, hh4075, sn4076, rfl, x4077⟩ := rorder_ok h4067 (v4040.rd) (v4040.nd) (bst.rd) (bst.nd)
              have f4078 := x4077 _ _ f4070
              have f4079 := x4077 _ _ f4069
              have p4080 := p4072.keep fun b r _ q => x4077 b r q
              have x4081 := x4073.trans x4077
              by_cases c4082 : (0 : Int) < (ordB (v4040.rd) (v4040.nd) (bst.rd) (bst.nd))
              · obtain ⟨h4083, e4084⟩ : ∃ zq, zq = hh4075.setIfInBounds b4007 (.cells #[(vI (v4040.slot)), (vI (v4040.rd)), (vI (v4040.nd)), (vS v4040.val)] 38 (0, 0)) := ⟨_, rfl⟩
                have f4085 := set_same e4084 f4078
                have p4088 := p4080.keep fun b r hb q => (Chg.set e4084).same b r q (i4032 b hb)
                have x4089 := Ext.setNew x4081 e4084 o4014
                refine wc_upd (n := 200) (T := ⟨fun r i => match r, i with | 22, 5 => some ((Value.pointer (some ⟨t, 12 + u.toNat * 1, none⟩)), h4028) | 22, 6 => some ((Value.slice (ra u.toNat).1 ((m.ps u.toNat).list.length) ((ra u.toNat).2)), h4028) | 22, 8 => some ((vB true), h4028) | 24, 4 => some ((Value.pointer (some ⟨t, 12 + u.toNat * 1, none⟩)), h4028) | 24, 5 => some ((Value.slice (ra u.toNat).1 ((m.ps u.toNat).list.length) ((ra u.toNat).2)), h4028) | 24, 7 => some ((vP b4044 o4045), h4028) | 24, 8 => some ((vA #[(vI v4040.slot), (vI v4040.rd), (vI v4040.nd), (vS v4040.val)]), h4028) | 24, 9 => some ((vP b4052 0), h4050) | 24, 10 => some (undef, h4067) | 25, 1 => some ((vI v4040.slot), h4067) | 25, 3 => some ((vB true), h4067) | 25, 6 => some ((vA #[(vI v4040.rd), (vI v4040.nd)]), h4067) | 25, 8 => some ((vA #[(vI bst.rd), (vI bst.nd)]), h4067) | 25, 9 => some ((vI (ordB (v4040.rd) (v4040.nd) (bst.rd) (bst.nd))), hh4075) | 25, 10 => some ((vB true), hh4075) | 26, 0 => some ((vA #[(vI v4040.slot), (vI v4040.rd), (vI v4040.nd), (vS v4040.val)]), hh4075) | 26, 1 => some (undef, h4083) | 23, 1 => some ((vI ((j2) + 1)), h4083) | _, _ => none, fun _ => none, none⟩) (x := .normal) (h1 := h4083) [(70, (vI j2)), (71, (vP t 0)), (72, (vI u)), (73, (vP t 0)), (74, (vP t 12)), (75, (Value.pointer (some ⟨t, 12 + u.toNat * 1, none⟩))), (76, (Value.slice (ra u.toNat).1 ((m.ps u.toNat).list.length) ((ra u.toNat).2))), (77, (vI (((m.ps u.toNat).list.length : Nat)))), (78, (vB true)), (81, (vP t 0)), (82, (vI u)), (83, (vP t 0)), (84, (vP t 12)), (85, (Value.pointer (some ⟨t, 12 + u.toNat * 1, none⟩))), (86, (Value.slice (ra u.toNat).1 ((m.ps u.toNat).list.length) ((ra u.toNat).2))), (87, (vI j2)), (88, (vP b4044 o4045)), (89, (vA #[(vI v4040.slot), (vI v4040.rd), (vI v4040.nd), (vS v4040.val)])), (12, (vP b4052 0)), (90, (vP b4052 0)), (91, (vI v4040.slot)), (92, (vI s)), (93, (vB true)), (94, (vB true)), (95, (vP b4052 1)), (96, (vA #[(vI v4040.rd), (vI v4040.nd)])), (97, (vP b4007 1)), (98, (vA #[(vI bst.rd), (vI bst.nd)])), (99, (vI (ordB (v4040.rd) (v4040.nd) (bst.rd) (bst.nd)))), (100, (vB true)), (101, (vB true)), (102, (vA #[(vI v4040.slot), (vI v4040.rd), (vI v4040.nd), (vS v4040.val)])), (79, (vI j2)), (80, (vI ((j2) + 1))), (11, (vI ((j2) + 1)))]
                  (fun q => (indexAddrA Try.prog 84 (vP t 12) (vI u) = some (Value.pointer (some ⟨t, 12 + u.toNat * 1, none⟩)) ∧ h4028 = h4028) ∧ (loadT Try.prog h4028 34 (Value.pointer (some ⟨t, 12 + u.toNat * 1, none⟩)) = some (Value.slice (ra u.toNat).1 ((m.ps u.toNat).list.length) ((ra u.toNat).2)) ∧ h4028 = h4028) ∧ (binA Try.prog .lss 3 (vI j2) (vI (((m.ps u.toNat).list.length : Nat))) = some (vB true) ∧ h4028 = h4028) ∧ (indexAddrA Try.prog 84 (vP t 12) (vI u) = some (Value.pointer (some ⟨t, 12 + u.toNat * 1, none⟩)) ∧ h4028 = h4028) ∧ (loadT Try.prog h4028 34 (Value.pointer (some ⟨t, 12 + u.toNat * 1, none⟩)) = some (Value.slice (ra u.toNat).1 ((m.ps u.toNat).list.length) ((ra u.toNat).2)) ∧ h4028 = h4028) ∧ (indexAddrA Try.prog 34 (Value.slice (ra u.toNat).1 ((m.ps u.toNat).list.length) ((ra u.toNat).2)) (vI j2) = some (vP b4044 o4045) ∧ h4028 = h4028) ∧ (loadT Try.prog h4028 38 (vP b4044 o4045) = some (vA #[(vI v4040.slot), (vI v4040.rd), (vI v4040.nd), (vS v4040.val)]) ∧ h4028 = h4028) ∧ ((vP b4052 0) = (Value.pointer (some ⟨h4028.size, 0, none⟩)) ∧ h4050 = h4028.push (.cells #[(vI 0), (vI 0), (vI 0), (vS .empty)] 38 (0, 0))) ∧ (storeT Try.prog h4050 38 (vP b4052 0) (vA #[(vI v4040.slot), (vI v4040.rd), (vI v4040.nd), (vS v4040.val)]) = some h4067 ∧ (undef : Value) = undef) ∧ (loadT Try.prog h4067 3 (vP b4052 0) = some (vI v4040.slot) ∧ h4067 = h4067) ∧ (binA Try.prog .eql 3 (vI v4040.slot) (vI s) = some (vB true) ∧ h4067 = h4067) ∧ (loadT Try.prog h4067 29 (vP b4052 1) = some (vA #[(vI v4040.rd), (vI v4040.nd)]) ∧ h4067 = h4067) ∧ (loadT Try.prog h4067 29 (vP b4007 1) = some (vA #[(vI bst.rd), (vI bst.nd)]) ∧ h4067 = h4067) ∧ SoundCall Try.prog 42 #[(vA #[(vI v4040.rd), (vI v4040.nd)]), (vA #[(vI bst.rd), (vI bst.nd)])] h4067 (vI (ordB (v4040.rd) (v4040.nd) (bst.rd) (bst.nd))) hh4075 ∧ (binA Try.prog .gtr 3 (vI (ordB (v4040.rd) (v4040.nd) (bst.rd) (bst.nd))) (vI 0) = some (vB true) ∧ hh4075 = hh4075) ∧ (loadT Try.prog hh4075 38 (vP b4052 0) = some (vA #[(vI v4040.slot), (vI v4040.rd), (vI v4040.nd), (vS v4040.val)]) ∧ hh4075 = hh4075) ∧ (storeT Try.prog hh4075 38 (vP b4007 0) (vA #[(vI v4040.slot), (vI v4040.rd), (vI v4040.nd), (vS v4040.val)]) = some h4083 ∧ (undef : Value) = undef) ∧ (binA Try.prog .add 3 (vI j2) (vI 1) = some (vI ((j2) + 1)) ∧ h4083 = h4083) ∧ q) (by intro K'; as_aux_lemma => kernel_rfl) (fun _ q => ⟨⟨index_arr und84 size34 (by omega) (by omega), rfl⟩, ⟨p4036.cell (j := 0) agg34 rfl, rfl⟩, ⟨cmp_lss (decide_eq_true c4037), rfl⟩, ⟨index_arr und84 size34 (by omega) (by omega), rfl⟩, ⟨p4036.cell (j := 0) agg34 rfl, rfl⟩, ⟨a4048 und34 size38 e4041, rfl⟩, ⟨(k4046.keep fun b r _ q => x4035 b r q).agg (j := 0) agg38 size38 (show 0 + 4 ≤ 4 by decide) (by kernel_rfl), rfl⟩, ⟨by rw [eb4053], e4051⟩, ⟨by rw [e4068]; exact store_cells size38 rfl f4054 (by decide) (by simp) rfl (by kernel_rfl), rfl⟩, ⟨load_cell agg3 f4069 rfl, rfl⟩, ⟨cmp_eql (decide_eq_true c4074), rfl⟩, ⟨load_agg agg29 size29 f4069 (by simp) (by kernel_rfl), rfl⟩, ⟨load_agg agg29 size29 f4070 (by simp) (by kernel_rfl), rfl⟩, sn4076, ⟨cmp_gtr (decide_eq_true c4082), rfl⟩, ⟨load_agg agg38 size38 f4079 (by simp) (by kernel_rfl), rfl⟩, ⟨by rw [e4084]; exact store_cells size38 rfl f4078 (by decide) (by simp) rfl (by kernel_rfl), rfl⟩, ⟨add_i64 (by omega) (by omega), rfl⟩, q⟩) ?_
                exact ⟨(m.ps u.toNat).list.length - (j2 + 1).toNat, by omega, ⟨j2 + 1, v4040, (fun i => ([vU, vU, vU, vU, vU, vU, vU, vU, vU, vU, vU, vU, (vP b4052 0), vU, vU, vU, vU, vU, vU, vU, vU, vU, vU, vU, vU, vU, vU, vU, vU, vU, vU, vU, vU, vU, vU, vU, vU, vU, vU, vU, vU, vU, vU, vU, vU, vU, vU, vU, vU, vU, vU, vU, vU, vU, vU, vU, vU, vU, vU, vU, vU, vU, vU, vU, vU, vU, vU, vU, vU, vU, (vI j2), (vP t 0), (vI u), (vP t 0), (vP t 12), (Value.pointer (some ⟨t, 12 + u.toNat * 1, none⟩)), (Value.slice (ra u.toNat).1 ((m.ps u.toNat).list.length) ((ra u.toNat).2)), (vI (((m.ps u.toNat).list.length : Nat))), (vB true), (vI j2), (vI ((j2) + 1)), (vP t 0), (vI u), (vP t 0), (vP t 12), (Value.pointer (some ⟨t, 12 + u.toNat * 1, none⟩)), (Value.slice (ra u.toNat).1 ((m.ps u.toNat).list.length) ((ra u.toNat).2)), (vI j2), (vP b4044 o4045), (vA #[(vI v4040.slot), (vI v4040.rd), (vI v4040.nd), (vS v4040.val)]), (vP b4052 0), (vI v4040.slot), (vI s), (vB true), (vB true), (vP b4052 1), (vA #[(vI v4040.rd), (vI v4040.nd)]), (vP b4007 1), (vA #[(vI bst.rd), (vI bst.nd)]), (vI (ordB (v4040.rd) (v4040.nd) (bst.rd) (bst.nd))), (vB true), (vB true), (vA #[(vI v4040.slot), (vI v4040.rd), (vI v4040.nd), (vS v4040.val)])] : List Value).getD i undef), by as_aux_lemma => kernel_rfl, x4089, rfl, by omega, f4085, by rw [show (j2 + 1).toNat = i4039 + 1 by omega, upTo_next g4043, bestAt_add, show i4039 = j2.toNat by omega, ← i4031, ← pick_eq]; first | rw [if_pos ⟨by omega, by assumption⟩] | rw [if_neg (fun w => by first | exact absurd w.2 (by assumption) | exact absurd w.1 (by omega))], i4032, p4088⟩⟩
              · refine wc_upd (n := 200) (T := ⟨fun r i => match r, i with | 22, 5 => some ((Value.pointer (some ⟨t, 12 + u.toNat * 1, none⟩)), h4028) | 22, 6 => some ((Value.slice (ra u.toNat).1 ((m.ps u.toNat).list.length) ((ra u.toNat).2)), h4028) | 22, 8 => some ((vB true), h4028) | 24, 4 => some ((Value.pointer (some ⟨t, 12 + u.toNat * 1, none⟩)), h4028) | 24, 5 => some ((Value.slice (ra u.toNat).1 ((m.ps u.toNat).list.length) ((ra u.toNat).2)), h4028) | 24, 7 => some ((vP b4044 o4045), h4028) | 24, 8 => some ((vA #[(vI v4040.slot), (vI v4040.rd), (vI v4040.nd), (vS v4040.val)]), h4028) | 24, 9 => some ((vP b4052 0), h4050) | 24, 10 => some (undef, h4067) | 25, 1 => some ((vI v4040.slot), h4067) | 25, 3 => some ((vB true), h4067) | 25, 6 => some ((vA #[(vI v4040.rd), (vI v4040.nd)]), h4067) | 25, 8 => some ((vA #[(vI bst.rd), (vI bst.nd)]), h4067) | 25, 9 => some ((vI (ordB (v4040.rd) (v4040.nd) (bst.rd) (bst.nd))), hh4075) | 25, 10 => some ((vB false), hh4075) | 23, 1 => some ((vI ((j2) + 1)), hh4075) | _, _ => none, fun _ => none, none⟩) (x := .normal) (h1 := hh4075) [(70, (vI j2)), (71, (vP t 0)), (72, (vI u)), (73, (vP t 0)), (74, (vP t 12)), (75, (Value.pointer (some ⟨t, 12 + u.toNat * 1, none⟩))), (76, (Value.slice (ra u.toNat).1 ((m.ps u.toNat).list.length) ((ra u.toNat).2))), (77, (vI (((m.ps u.toNat).list.length : Nat)))), (78, (vB true)), (81, (vP t 0)), (82, (vI u)), (83, (vP t 0)), (84, (vP t 12)), (85, (Value.pointer (some ⟨t, 12 + u.toNat * 1, none⟩))), (86, (Value.slice (ra u.toNat).1 ((m.ps u.toNat).list.length) ((ra u.toNat).2))), (87, (vI j2)), (88, (vP b4044 o4045)), (89, (vA #[(vI v4040.slot), (vI v4040.rd), (vI v4040.nd), (vS v4040.val)])), (12, (vP b4052 0)), (90, (vP b4052 0)), (91, (vI v4040.slot)), (92, (vI s)), (93, (vB true)), (94, (vB true)), (95, (vP b4052 1)), (96, (vA #[(vI v4040.rd), (vI v4040.nd)])), (97, (vP b4007 1)), (98, (vA #[(vI bst.rd), (vI bst.nd)])), (99, (vI (ordB (v4040.rd) (v4040.nd) (bst.rd) (bst.nd)))), (100, (vB false)), (101, (vB false)), (79, (vI j2)), (80, (vI ((j2) + 1))), (11, (vI ((j2) + 1)))]
                  (fun q => (indexAddrA Try.prog 84 (vP t 12) (vI u) = some (Value.pointer (some ⟨t, 12 + u.toNat * 1, none⟩)) ∧ h4028 = h4028) ∧ (loadT Try.prog h4028 34 (Value.pointer (some ⟨t, 12 + u.toNat * 1, none⟩)) = some (Value.slice (ra u.toNat).1 ((m.ps u.toNat).list.length) ((ra u.toNat).2)) ∧ h4028 = h4028) ∧ (binA Try.prog .lss 3 (vI j2) (vI (((m.ps u.toNat).list.length : Nat))) = some (vB true) ∧ h4028 = h4028) ∧ (indexAddrA Try.prog 84 (vP t 12) (vI u) = some (Value.pointer (some ⟨t, 12 + u.toNat * 1, none⟩)) ∧ h4028 = h4028) ∧ (loadT Try.prog h4028 34 (Value.pointer (some ⟨t, 12 + u.toNat * 1, none⟩)) = some (Value.slice (ra u.toNat).1 ((m.ps u.toNat).list.length) ((ra u.toNat).2)) ∧ h4028 = h4028) ∧ (indexAddrA Try.prog 34 (Value.slice (ra u.toNat).1 ((m.ps u.toNat).list.length) ((ra u.toNat).2)) (vI j2) = some (vP b4044 o4045) ∧ h4028 = h4028) ∧ (loadT Try.prog h4028 38 (vP b4044 o4045) = some (vA #[(vI v4040.slot), (vI v4040.rd), (vI v4040.nd), (vS v4040.val)]) ∧ h4028 = h4028) ∧ ((vP b4052 0) = (Value.pointer (some ⟨h4028.size, 0, none⟩)) ∧ h4050 = h4028.push (.cells #[(vI 0), (vI 0), (vI 0), (vS .empty)] 38 (0, 0))) ∧ (storeT Try.prog h4050 38 (vP b4052 0) (vA #[(vI v4040.slot), (vI v4040.rd), (vI v4040.nd), (vS v4040.val)]) = some h4067 ∧ (undef : Value) = undef) ∧ (loadT Try.prog h4067 3 (vP b4052 0) = some (vI v4040.slot) ∧ h4067 = h4067) ∧ (binA Try.prog .eql 3 (vI v4040.slot) (vI s) = some (vB true) ∧ h4067 = h4067) ∧ (loadT Try.prog h4067 29 (vP b4052 1) = some (vA #[(vI v4040.rd), (vI v4040.nd)]) ∧ h4067 = h4067) ∧ (loadT Try.prog h4067 29 (vP b4007 1) = some (vA #[(vI bst.rd), (vI bst.nd)]) ∧ h4067 = h4067) ∧ SoundCall Try.prog 42 #[(vA #[(vI v4040.rd), (vI v4040.nd)]), (vA #[(vI bst.rd), (vI bst.nd)])] h4067 (vI (ordB (v4040.rd) (v4040.nd) (bst.rd) (bst.nd))) hh4075 ∧ (binA Try.prog .gtr 3 (vI (ordB (v4040.rd) (v4040.nd) (bst.rd) (bst.nd))) (vI 0) = some (vB false) ∧ hh4075 = hh4075) ∧ (binA Try.prog .add 3 (vI j2) (vI 1) = some (vI ((j2) + 1)) ∧ hh4075 = hh4075) ∧ q) (by intro K'; as_aux_lemma => kernel_rfl) (fun _ q => ⟨⟨index_arr und84 size34 (by omega) (by omega), rfl⟩, ⟨p4036.cell (j := 0) agg34 rfl, rfl⟩, ⟨cmp_lss (decide_eq_true c4037), rfl⟩, ⟨index_arr und84 size34 (by omega) (by omega), rfl⟩, ⟨p4036.cell (j := 0) agg34 rfl, rfl⟩, ⟨a4048 und34 size38 e4041, rfl⟩, ⟨(k4046.keep fun b r _ q => x4035 b r q).agg (j := 0) agg38 size38 (show 0 + 4 ≤ 4 by decide) (by kernel_rfl), rfl⟩, ⟨by rw [eb4053], e4051⟩, ⟨by rw [e4068]; exact store_cells size38 rfl f4054 (by decide) (by simp) rfl (by kernel_rfl), rfl⟩, ⟨load_cell agg3 f4069 rfl, rfl⟩, ⟨cmp_eql (decide_eq_true c4074), rfl⟩, ⟨load_agg agg29 size29 f4069 (by simp) (by kernel_rfl), rfl⟩, ⟨load_agg agg29 size29 f4070 (by simp) (by kernel_rfl), rfl⟩, sn4076, ⟨cmp_gtr (decide_eq_false c4082), rfl⟩, ⟨add_i64 (by omega) (by omega), rfl⟩, q⟩) ?_
                exact ⟨(m.ps u.toNat).list.length - (j2 + 1).toNat, by omega, ⟨j2 + 1, bst, (fun i => ([vU, vU, vU, vU, vU, vU, vU, vU, vU, vU, vU, vU, (vP b4052 0), vU, vU, vU, vU, vU, vU, vU, vU, vU, vU, vU, vU, vU, vU, vU, vU, vU, vU, vU, vU, vU, vU, vU, vU, vU, vU, vU, vU, vU, vU, vU, vU, vU, vU, vU, vU, vU, vU, vU, vU, vU, vU, vU, vU, vU, vU, vU, vU, vU, vU, vU, vU, vU, vU, vU, vU, vU, (vI j2), (vP t 0), (vI u), (vP t 0), (vP t 12), (Value.pointer (some ⟨t, 12 + u.toNat * 1, none⟩)), (Value.slice (ra u.toNat).1 ((m.ps u.toNat).list.length) ((ra u.toNat).2)), (vI (((m.ps u.toNat).list.length : Nat))), (vB true), (vI j2), (vI ((j2) + 1)), (vP t 0), (vI u), (vP t 0), (vP t 12), (Value.pointer (some ⟨t, 12 + u.toNat * 1, none⟩)), (Value.slice (ra u.toNat).1 ((m.ps u.toNat).list.length) ((ra u.toNat).2)), (vI j2), (vP b4044 o4045), (vA #[(vI v4040.slot), (vI v4040.rd), (vI v4040.nd), (vS v4040.val)]), (vP b4052 0), (vI v4040.slot), (vI s), (vB true), (vB true), (vP b4052 1), (vA #[(vI v4040.rd), (vI v4040.nd)]), (vP b4007 1), (vA #[(vI bst.rd), (vI bst.nd)]), (vI (ordB (v4040.rd) (v4040.nd) (bst.rd) (bst.nd))), (vB false), (vB false), (g4 102)] : List Value).getD i undef), by as_aux_lemma => kernel_rfl, x4081, rfl, by omega, f4078, by rw [show (j2 + 1).toNat = i4039 + 1 by omega, upTo_next g4043, bestAt_add, show i4039 = j2.toNat by omega, ← i4031, ← pick_eq]; first | rw [if_pos ⟨by omega, by assumption⟩] | rw [if_neg (fun w => by first | exact absurd w.2 (by assumption) | exact absurd w.1 (by omega))], i4032, p4080⟩⟩
            · refine wc_upd (n := 200) (T := ⟨fun r i => match r, i with | 22, 5 => some ((Value.pointer (some ⟨t, 12 + u.toNat * 1, none⟩)), h4028) | 22, 6 => some ((Value.slice (ra u.toNat).1 ((m.ps u.toNat).list.length) ((ra u.toNat).2)), h4028) | 22, 8 => some ((vB true), h4028) | 24, 4 => some ((Value.pointer (some ⟨t, 12 + u.toNat * 1, none⟩)), h4028) | 24, 5 => some ((Value.slice (ra u.toNat).1 ((m.ps u.toNat).list.length) ((ra u.toNat).2)), h4028) | 24, 7 => some ((vP b4044 o4045), h4028) | 24, 8 => some ((vA #[(vI v4040.slot), (vI v4040.rd), (vI v4040.nd), (vS v4040.val)]), h4028) | 24, 9 => some ((vP b4052 0), h4050) | 24, 10 => some (undef, h4067) | 25, 1 => some ((vI v4040.slot), h4067) | 25, 3 => some ((vB false), h4067) | 23, 1 => some ((vI ((j2) + 1)), h4067) | _, _ => none, fun _ => none, none⟩) (x := .normal) (h1 := h4067) [(70, (vI j2)), (71, (vP t 0)), (72, (vI u)), (73, (vP t 0)), (74, (vP t 12)), (75, (Value.pointer (some ⟨t, 12 + u.toNat * 1, none⟩))), (76, (Value.slice (ra u.toNat).1 ((m.ps u.toNat).list.length) ((ra u.toNat).2))), (77, (vI (((m.ps u.toNat).list.length : Nat)))), (78, (vB true)), (81, (vP t 0)), (82, (vI u)), (83, (vP t 0)), (84, (vP t 12)), (85, (Value.pointer (some ⟨t, 12 + u.toNat * 1, none⟩))), (86, (Value.slice (ra u.toNat).1 ((m.ps u.toNat).list.length) ((ra u.toNat).2))), (87, (vI j2)), (88, (vP b4044 o4045)), (89, (vA #[(vI v4040.slot), (vI v4040.rd), (vI v4040.nd), (vS v4040.val)])), (12, (vP b4052 0)), (90, (vP b4052 0)), (91, (vI v4040.slot)), (92, (vI s)), (93, (vB false)), (94, (vB false)), (95, vZ), (96, vZ), (97, vZ), (98, vZ), (99, vZ), (100, vZ), (101, (vB false)), (79, (vI j2)), (80, (vI ((j2) + 1))), (11, (vI ((j2) + 1)))]
                (fun q => (indexAddrA Try.prog 84 (vP t 12) (vI u) = some (Value.pointer (some ⟨t, 12 + u.toNat * 1, none⟩)) ∧ h4028 = h4028) ∧ (loadT Try.prog h4028 34 (Value.pointer (some ⟨t, 12 + u.toNat * 1, none⟩)) = some (Value.slice (ra u.toNat).1 ((m.ps u.toNat).list.length) ((ra u.toNat).2)) ∧ h4028 = h4028) ∧ (binA Try.prog .lss 3 (vI j2) (vI (((m.ps u.toNat).list.length : Nat))) = some (vB true) ∧ h4028 = h4028) ∧ (indexAddrA Try.prog 84 (vP t 12) (vI u) = some (Value.pointer (some ⟨t, 12 + u.toNat * 1, none⟩)) ∧ h4028 = h4028) ∧ (loadT Try.prog h4028 34 (Value.pointer (some ⟨t, 12 + u.toNat * 1, none⟩)) = some (Value.slice (ra u.toNat).1 ((m.ps u.toNat).list.length) ((ra u.toNat).2)) ∧ h4028 = h4028) ∧ (indexAddrA Try.prog 34 (Value.slice (ra u.toNat).1 ((m.ps u.toNat).list.length) ((ra u.toNat).2)) (vI j2) = some (vP b4044 o4045) ∧ h4028 = h4028) ∧ (loadT Try.prog h4028 38 (vP b4044 o4045) = some (vA #[(vI v4040.slot), (vI v4040.rd), (vI v4040.nd), (vS v4040.val)]) ∧ h4028 = h4028) ∧ ((vP b4052 0) = (Value.pointer (some ⟨h4028.size, 0, none⟩)) ∧ h4050 = h4028.push (.cells #[(vI 0), (vI 0), (vI 0), (vS .empty)] 38 (0, 0))) ∧ (storeT Try.prog h4050 38 (vP b4052 0) (vA #[(vI v4040.slot), (vI v4040.rd), (vI v4040.nd), (vS v4040.val)]) = some h4067 ∧ (undef : Value) = undef) ∧ (loadT Try.prog h4067 3 (vP b4052 0) = some (vI v4040.slot) ∧ h4067 = h4067) ∧ (binA Try.prog .eql 3 (vI v4040.slot) (vI s) = some (vB false) ∧ h4067 = h4067) ∧ (binA Try.prog .add 3 (vI j2) (vI 1) = some (vI ((j2) + 1)) ∧ h4067 = h4067) ∧ q) (by intro K'; as_aux_lemma => kernel_rfl) (fun _ q => ⟨⟨index_arr und84 size34 (by omega) (by omega), rfl⟩, ⟨p4036.cell (j := 0) agg34 rfl, rfl⟩, ⟨cmp_lss (decide_eq_true c4037), rfl⟩, ⟨index_arr und84 size34 (by omega) (by omega), rfl⟩, ⟨p4036.cell (j := 0) agg34 rfl, rfl⟩, ⟨a4048 und34 size38 e4041, rfl⟩, ⟨(k4046.keep fun b r _ q => x4035 b r q).agg (j := 0) agg38 size38 (show 0 + 4 ≤ 4 by decide) (by kernel_rfl), rfl⟩, ⟨by rw [eb4053], e4051⟩, ⟨by rw [e4068]; exact store_cells size38 rfl f4054 (by decide) (by simp) rfl (by kernel_rfl), rfl⟩, ⟨load_cell agg3 f4069 rfl, rfl⟩, ⟨cmp_eql (decide_eq_false c4074), rfl⟩, ⟨add_i64 (by omega) (by omega), rfl⟩, q⟩) ?_
              exact ⟨(m.ps u.toNat).list.length - (j2 + 1).toNat, by omega, ⟨j2 + 1, bst, (fun i => ([vU, vU, vU, vU, vU, vU, vU, vU, vU, vU, vU, vU, (vP b4052 0), vU, vU, vU, vU, vU, vU, vU, vU, vU, vU, vU, vU, vU, vU, vU, vU, vU, vU, vU, vU, vU, vU, vU, vU, vU, vU, vU, vU, vU, vU, vU, vU, vU, vU, vU, vU, vU, vU, vU, vU, vU, vU, vU, vU, vU, vU, vU, vU, vU, vU, vU, vU, vU, vU, vU, vU, vU, (vI j2), (vP t 0), (vI u), (vP t 0), (vP t 12), (Value.pointer (some ⟨t, 12 + u.toNat * 1, none⟩)), (Value.slice (ra u.toNat).1 ((m.ps u.toNat).list.length) ((ra u.toNat).2)), (vI (((m.ps u.toNat).list.length : Nat))), (vB true), (vI j2), (vI ((j2) + 1)), (vP t 0), (vI u), (vP t 0), (vP t 12), (Value.pointer (some ⟨t, 12 + u.toNat * 1, none⟩)), (Value.slice (ra u.toNat).1 ((m.ps u.toNat).list.length) ((ra u.toNat).2)), (vI j2), (vP b4044 o4045), (vA #[(vI v4040.slot), (vI v4040.rd), (vI v4040.nd), (vS v4040.val)]), (vP b4052 0), (vI v4040.slot), (vI s), (vB false), (vB false), vZ, vZ, vZ, vZ, vZ, vZ, (vB false), (g4 102)] : List Value).getD i undef), by as_aux_lemma => kernel_rfl, x4073, rfl, by omega, f4070, by rw [show (j2 + 1).toNat = i4039 + 1 by omega, upTo_next g4043, bestAt_add, show i4039 = j2.toNat by omega, ← i4031, ← pick_eq]; first | rw [if_pos ⟨by omega, by assumption⟩] | rw [if_neg (fun w => by first | exact absurd w.2 (by assumption) | exact absurd w.1 (by omega))], i4032, p4072⟩⟩
          · refine wc_upd (n := 200) (T := ⟨fun r i => match r, i with | 22, 5 => some ((Value.pointer (some ⟨t, 12 + u.toNat * 1, none⟩)), h4028) | 22, 6 => some ((Value.slice (ra u.toNat).1 ((m.ps u.toNat).list.length) ((ra u.toNat).2)), h4028) | 22, 8 => some ((vB false), h4028) | _, _ => none, fun _ => none, none⟩) (x := (.exit 8)) (h1 := h4028) [(70, (vI j2)), (71, (vP t 0)), (72, (vI u)), (73, (vP t 0)), (74, (vP t 12)), (75, (Value.pointer (some ⟨t, 12 + u.toNat * 1, none⟩))), (76, (Value.slice (ra u.toNat).1 ((m.ps u.toNat).list.length) ((ra u.toNat).2))), (77, (vI (((m.ps u.toNat).list.length : Nat)))), (78, (vB false))]
              (fun q => (indexAddrA Try.prog 84 (vP t 12) (vI u) = some (Value.pointer (some ⟨t, 12 + u.toNat * 1, none⟩)) ∧ h4028 = h4028) ∧ (loadT Try.prog h4028 34 (Value.pointer (some ⟨t, 12 + u.toNat * 1, none⟩)) = some (Value.slice (ra u.toNat).1 ((m.ps u.toNat).list.length) ((ra u.toNat).2)) ∧ h4028 = h4028) ∧ (binA Try.prog .lss 3 (vI j2) (vI (((m.ps u.toNat).list.length : Nat))) = some (vB false) ∧ h4028 = h4028) ∧ q) (by intro K'; as_aux_lemma => kernel_rfl) (fun _ q => ⟨⟨index_arr und84 size34 (by omega) (by omega), rfl⟩, ⟨p4036.cell (j := 0) agg34 rfl, rfl⟩, ⟨cmp_lss (decide_eq_false c4037), rfl⟩, q⟩) ?_
            refine wc_upd (n := 200) (T := ⟨fun r i => match r, i with | 20, 1 => some ((vI ((u) + 1)), h4028) | _, _ => none, fun _ => none, none⟩) (x := .normal) (h1 := h4028) [(68, (vI u)), (69, (vI ((u) + 1))), (10, (vI ((u) + 1)))]
              (fun q => (binA Try.prog .add 3 (vI u) (vI 1) = some (vI ((u) + 1)) ∧ h4028 = h4028) ∧ q) (by intro K'; as_aux_lemma => kernel_rfl) (fun _ q => ⟨⟨add_i64 (by omega) (by omega), rfl⟩, q⟩) ?_
            exact ⟨m.n.toNat - (u + 1).toNat, by omega, ⟨u + 1, bst, (fun i => ([vU, vU, vU, vU, vU, vU, vU, vU, vU, vU, vU, (vI j2), (g4 12), vU, vU, vU, vU, vU, vU, vU, vU, vU, vU, vU, vU, vU, vU, vU, vU, vU, vU, vU, vU, vU, vU, vU, vU, vU, vU, vU, vU, vU, vU, vU, vU, vU, vU, vU, vU, vU, vU, vU, vU, vU, vU, vU, vU, vU, vU, vU, vU, vU, (vI u), (vP t 0), (vP t 0), (vP t 1), (vI m.n), (vB true), (vI u), (vI ((u) + 1)), (vI j2), (vP t 0), (vI u), (vP t 0), (vP t 12), (Value.pointer (some ⟨t, 12 + u.toNat * 1, none⟩)), (Value.slice (ra u.toNat).1 ((m.ps u.toNat).list.length) ((ra u.toNat).2)), (vI (((m.ps u.toNat).list.length : Nat))), (vB false), (g4 79), (g4 80), (g4 81), (g4 82), (g4 83), (g4 84), (g4 85), (g4 86), (g4 87), (g4 88), (g4 89), (g4 90), (g4 91), (g4 92), (g4 93), (g4 94), (g4 95), (g4 96), (g4 97), (g4 98), (g4 99), (g4 100), (g4 101), (g4 102)] : List Value).getD i undef), by as_aux_lemma => kernel_rfl, x4035, rfl, by omega, i4030, by rw [i4031, show (u + 1).toNat = u.toNat + 1 by omega, upTo_end (by omega)], i4032, p4033⟩⟩
        · refine wc_upd (n := 200) (T := ⟨fun r i => match r, i with | 19, 4 => some ((vI m.n), h4018) | 19, 5 => some ((vB false), h4018) | _, _ => none, fun _ => none, none⟩) (x := (.exit 6)) (h1 := h4018) [(62, (vI u)), (63, (vP t 0)), (64, (vP t 0)), (65, (vP t 1)), (66, (vI m.n)), (67, (vB false))]
            (fun q => (loadT Try.prog h4018 3 (vP t 1) = some (vI m.n) ∧ h4018 = h4018) ∧ (binA Try.prog .lss 3 (vI u) (vI m.n) = some (vB false) ∧ h4018 = h4018) ∧ q) (by intro K'; as_aux_lemma => kernel_rfl) (fun _ q => ⟨⟨load_cell agg3 (x4025 _ _ hrow) rfl, rfl⟩, ⟨cmp_lss (decide_eq_false c4026), rfl⟩, q⟩) ?_
          obtain ⟨b4092, eb4093⟩ : ∃ zq, zq = h4018.size := ⟨_, rfl⟩
          obtain ⟨h4090, e4091⟩ : ∃ zq, zq = h4018.push (.cells #[(vI (s)), (vI (m.rd)), (vI (m.nd)), (vS bst.val)] 38 (0, 0)) := ⟨_, rfl⟩
          have f4094 := push_new e4091
          rw [← eb4093] at f4094
          have x4099 : Ext h4018 h4090 := by rw [e4091]; exact Ext.push _ _
          have o4100 : h.size ≤ b4092 := by have := x4025.size; omega
          have p4102 := p4023.keep fun b r _ q => x4099 b r q
          have x4103 := x4025.trans x4099
          obtain ⟨w4104, h4105, e4106, p4107, c4108, n4109, z4110⟩ := own_append und34 sizeb38 zero38 rfl (by decide) entc_size (x := (EntM.mk (s) (m.rd) (m.nd) bst.val)) p4102 f4094 rfl (by omega) (by unfold maxLen; omega)
          obtain ⟨a4111, c4112, rfl⟩ := (p4107.slice entc_size).len
          have z4113 : h.size ≤ h4090.size := x4103.size
          have x4114 : Ext h _ := (Chg.then (O := fun _ => False) (Chg.ext x4103) c4108 (fun b hb => .inr (i3999 b hb))).toExt'
          have o4122 : ∀ zz, blk (Value.slice a4111 ((out ++ [(EntM.mk (s) (m.rd) (m.nd) bst.val)]).length) (c4112)) zz → h.size ≤ zz := fun zz hz => by have := n4109 zz hz; have := z4113; omega
          refine wc_upd (n := 200) (T := ⟨fun r i => match r, i with | 27, 5 => some ((vA #[(vI m.rd), (vI m.nd)]), h4018) | 27, 7 => some ((vS bst.val), h4018) | 27, 9 => some ((vL (some ⟨b4092, 0, none⟩) 1 1), h4090) | 27, 10 => some ((Value.slice a4111 ((out ++ [(EntM.mk (s) (m.rd) (m.nd) bst.val)]).length) (c4112)), h4105) | _, _ => none, fun _ => none, none⟩) (x := .normal) (h1 := h4105) [(103, (vL oa out.length oc)), (104, (vI s)), (105, (vP t 0)), (106, (vP t 0)), (107, (vP t 2)), (108, (vA #[(vI m.rd), (vI m.nd)])), (109, (vP b4007 3)), (110, (vS bst.val)), (111, (vA #[(vI s), (vI m.rd), (vI m.nd), (vS bst.val)])), (112, (vL (some ⟨b4092, 0, none⟩) 1 1)), (113, (Value.slice a4111 ((out ++ [(EntM.mk (s) (m.rd) (m.nd) bst.val)]).length) (c4112))), (7, (Value.slice a4111 ((out ++ [(EntM.mk (s) (m.rd) (m.nd) bst.val)]).length) (c4112)))]
            (fun q => (loadT Try.prog h4018 29 (vP t 2) = some (vA #[(vI m.rd), (vI m.nd)]) ∧ h4018 = h4018) ∧ (loadT Try.prog h4018 9 (vP b4007 3) = some (vS bst.val) ∧ h4018 = h4018) ∧ ((vL (some ⟨b4092, 0, none⟩) 1 1) = (vL (some ⟨h4018.size, 0, none⟩) 1 1) ∧ h4090 = h4018.push (.cells #[(vI s), (vI m.rd), (vI m.nd), (vS bst.val)] 38 (0, 0))) ∧ appendA Try.prog h4090 #[34, 34] #[(vL oa out.length oc), (vL (some ⟨b4092, 0, none⟩) 1 1)] = some ((Value.slice a4111 ((out ++ [(EntM.mk (s) (m.rd) (m.nd) bst.val)]).length) (c4112)), h4105) ∧ q) (by intro K'; as_aux_lemma => kernel_rfl) (fun _ q => ⟨⟨load_agg agg29 size29 (x4025 _ _ hrow) (by simp) (by kernel_rfl), rfl⟩, ⟨load_cell agg9 i4020 rfl, rfl⟩, ⟨by rw [eb4093], e4091⟩, e4106, q⟩) ?_
          refine wc_upd (n := 200) (T := ⟨fun r i => match r, i with | 16, 1 => some ((vI ((s) + 1)), h4105) | _, _ => none, fun _ => none, none⟩) (x := .normal) (h1 := h4105) [(60, (vI s)), (61, (vI ((s) + 1))), (8, (vI ((s) + 1)))]
            (fun q => (binA Try.prog .add 3 (vI s) (vI 1) = some (vI ((s) + 1)) ∧ h4105 = h4105) ∧ q) (by intro K'; as_aux_lemma => kernel_rfl) (fun _ q => ⟨⟨add_i64 (by omega) (by omega), rfl⟩, q⟩) ?_
          exact ⟨(4200 - (s + 1)).toNat, by omega, ⟨s + 1, (out ++ [(EntM.mk (s) (m.rd) (m.nd) bst.val)]), a4111, c4112, (fun i => ([vU, vU, vU, vU, vU, vU, vU, vU, vU, (vP b4007 0), (vI u), (g3 11), (g3 12), vU, vU, vU, vU, vU, vU, vU, vU, vU, vU, vU, vU, vU, vU, vU, vU, vU, vU, vU, vU, vU, vU, vU, vU, vU, vU, vU, vU, vU, vU, vU, vU, vU, vU, vU, vU, vU, vU, vU, vU, vU, vU, vU, vU, (vI s), (vI w), (vB true), (vI s), (vI ((s) + 1)), (vI u), (vP t 0), (vP t 0), (vP t 1), (vI m.n), (vB false), (g3 68), (g3 69), (g3 70), (g3 71), (g3 72), (g3 73), (g3 74), (g3 75), (g3 76), (g3 77), (g3 78), (g3 79), (g3 80), (g3 81), (g3 82), (g3 83), (g3 84), (g3 85), (g3 86), (g3 87), (g3 88), (g3 89), (g3 90), (g3 91), (g3 92), (g3 93), (g3 94), (g3 95), (g3 96), (g3 97), (g3 98), (g3 99), (g3 100), (g3 101), (g3 102), (vL oa out.length oc), (vI s), (vP t 0), (vP t 0), (vP t 2), (vA #[(vI m.rd), (vI m.nd)]), (vP b4007 3), (vS bst.val), (vA #[(vI s), (vI m.rd), (vI m.nd), (vS bst.val)]), (vL (some ⟨b4092, 0, none⟩) 1 1), (Value.slice a4111 ((out ++ [(EntM.mk (s) (m.rd) (m.nd) bst.val)]).length) (c4112))] : List Value).getD i undef), by as_aux_lemma => kernel_rfl, x4114, rfl, by omega, rv_step (by omega) (by omega) i3998 (by rw [i4021, show u.toNat = m.n.toNat by omega, ← e7]), o4122, by rw [List.length_append, List.length_singleton]; omega, p4107⟩⟩
      · refine wc_upd (n := 200) (T := ⟨fun r i => match r, i with | 15, 2 => some ((vB false), h3996) | _, _ => none, fun _ => none, none⟩) (x := (.exit 4)) (h1 := h3996) [(57, (vI s)), (58, (vI w)), (59, (vB false))]
          (fun q => (binA Try.prog .leq 3 (vI s) (vI w) = some (vB false) ∧ h3996 = h3996) ∧ q) (by intro K'; as_aux_lemma => kernel_rfl) (fun _ q => ⟨⟨cmp_leq (decide_eq_false c4004), rfl⟩, q⟩) ?_
        refine wc_upd (n := 200) (T := ⟨fun r i => match r, i with | _, _ => none, fun _ => none, none⟩) (x := .ret) (h1 := h3996) [(114, (vL oa out.length oc)), (2, (vL oa out.length oc)), (3, (vI 0))]
          (fun q => q) (by intro K'; as_aux_lemma => kernel_rfl) (fun _ q => q) ?_
        have ev : out = valuesM m := by rw [i3998]; exact List.take_of_length_le (by omega)
        refine end_at (T := ⟨fun _ _ => none, fun _ => none, none⟩) (A := K (vT #[(vL oa out.length oc), (vI 0)]) h3996) (by kernel_rfl) ?_
        exact hK _ _ (⟨fun w => (by rw [c3963] at w; cases w), x4003, fun _ => ⟨oa, oc, by rw [← ev], by rw [← ev]; exact p4001, by rw [← ev]; exact i3999⟩⟩)
  · refine wc_upd (n := 200) (T := ⟨fun r i => match r, i with | 3, 1 => some ((vB false), hh3959) | _, _ => none, fun _ => none, none⟩) (x := .ret) (h1 := hh3959) [(16, (vP t 0)), (17, (vB false)), (18, (vB true)), (2, (vL none 0 0)), (3, (vI 9))]
      (fun q => SoundCall Try.prog 24 #[(vP t 0)] h (vB false) hh3959 ∧ q) (by intro K'; as_aux_lemma => kernel_rfl) (fun _ q => ⟨(by rw [← c3963]; exact sn3960), q⟩) ?_
    refine end_at (T := ⟨fun _ _ => none, fun _ => none, none⟩) (A := K (vT #[(vL none 0 0), (vI 9)]) hh3959) (by kernel_rfl) ?_
    exact hK _ _ (⟨fun _ => rfl, x3962, fun w => by rw [c3963] at w; cases w⟩)
theorem agg87 : isAggA Try.prog 87 = some true := by kernel_rfl
theorem size87 : (Try.prog.info? 87).map (·.size) = some 26 := by kernel_rfl
def ListsAt (h : Heap) (m : PropM) (r : Nat → Option Addr × Nat) : Prop := ∀ i, i < 7 → OwnAt h 38 entc (m.ps i).list (plist m r i)
theorem ListsAt.keep {h h1 : Heap} {m : PropM} {r : Nat → Option Addr × Nat} (k : ListsAt h m r) (w : ∀ b o, lfoot m r b → h[b]? = some o → h1[b]? = some o) : ListsAt h1 m r := fun i hi => (k i hi).keep fun b o hb q => w b o ⟨i, hi, hb⟩ q
theorem ListsAt.blk_lt {h : Heap} {m : PropM} {r : Nat → Option Addr × Nat} (k : ListsAt h m r) {b : Nat} (hb : lfoot m r b) : b < h.size := by
  obtain ⟨i, hi, hb⟩ := hb
  obtain ⟨cs, e, fr, hr⟩ := (k i hi).celled b hb; exact row_lt hr
theorem ListsAt.ne {h : Heap} {m : PropM} {r : Nat → Option Addr × Nat} (k : ListsAt h m r) {b b2 : Nat} {c : Array Value} {e2 : TypeId} {fr : Nat × Nat} (hb2 : h[b2]? = some (.cells c e2 fr)) (he : 38 ≠ e2) (hb : lfoot m r b) : ¬ b = b2 := by
  obtain ⟨i, hi, hb⟩ := hb
  exact (k i hi).ne hb2 he hb
theorem upd_same (m : PropM) (k : Nat) : m.upd k (tList (m.ps k).list) = m := by
  unfold PropM.upd tList
  cases m
  congr 1
  funext i
  by_cases e : i = k
  · subst e; simp
  · simp [e]
theorem rstore_same {h : Heap} {t : Nat} {m : PropM} {ra : Nat → Option Addr × Nat} (hr : h[t]? = some (.cells (rrow m ra) 87 (0, 0))) {k : Int} (h0 : 0 ≤ k) (h1 : k < 7) {a : Option Addr} {c : Nat} :
    storeT Try.prog h 34 (.pointer (some ⟨t, 12 + k.toNat * 1, none⟩)) (.slice a (m.ps k.toNat).list.length c) = some (h.setIfInBounds t (.cells (rrow m (fun i => if i = k.toNat then (a, c) else ra i)) 87 (0, 0))) := by
  have q := rstore_lst (m := m) (ra := ra) hr h0 h1 (l := (m.ps k.toNat).list) (a := a) (c := c) (u := 0)
  rwa [upd_same] at q
theorem lists_put {h : Heap} {m : PropM} {rc : Nat → Option Addr × Nat} {k : Nat} {a : Option Addr} {c : Nat} {Q : Nat → Prop} (k0 : ListsAt h m rc) (o : OwnAt h 38 entc (m.ps k).list (.slice a (m.ps k).list.length c)) (q0 : ∀ z, lfoot m rc z → Q z) (qn : ∀ z, blk (.slice a (m.ps k).list.length c) z → Q z) :
    ListsAt h m (fun i => if i = k then (a, c) else rc i) ∧ ∀ z, lfoot m (fun i => if i = k then (a, c) else rc i) z → Q z := by
  refine ⟨fun i hi => ?_, fun z ⟨i, hi, hz⟩ => ?_⟩
  · simp only [plist]
    by_cases e : i = k
    · subst e; rw [if_pos rfl]; exact o
    · rw [if_neg e]; exact k0 i hi
  · simp only [plist] at hz
    by_cases e : i = k
    · subst e; rw [if_pos rfl] at hz; exact qn z hz
    · rw [if_neg e] at hz; exact q0 z ⟨i, hi, hz⟩
set_option maxRecDepth 10000 in
set_option maxHeartbeats 4000000 in
theorem rcopy_ok (h : Heap) {F : Nat → Prop} {t : Nat} {m : PropM} (hT : RefAt h F t m) (hm : m.ok) : WCall Try.prog 22 #[(vP t 0)] h (fun v h1 => ∃ b F', v = .pointer (some ⟨b, 0, none⟩) ∧ RefAt h1 F' b m ∧ Ext h h1 ∧ h.size ≤ b ∧ ∀ z, F' z → h.size ≤ z ∨ (F z ∧ z ≠ t)) := by
  have hT' := hT
  obtain ⟨ra, T⟩ := hT
  have hrow : h[t]? = some (.cells #[(vB true), (vI (m.n)), (vI (m.rd)), (vI (m.nd)), (vI (m.frm)), (vB (m.ps 0).made), (vB (m.ps 1).made), (vB (m.ps 2).made), (vB (m.ps 3).made), (vB (m.ps 4).made), (vB (m.ps 5).made), (vB (m.ps 6).made), (Value.slice (ra 0).1 ((m.ps 0).list.length) ((ra 0).2)), (Value.slice (ra 1).1 ((m.ps 1).list.length) ((ra 1).2)), (Value.slice (ra 2).1 ((m.ps 2).list.length) ((ra 2).2)), (Value.slice (ra 3).1 ((m.ps 3).list.length) ((ra 3).2)), (Value.slice (ra 4).1 ((m.ps 4).list.length) ((ra 4).2)), (Value.slice (ra 5).1 ((m.ps 5).list.length) ((ra 5).2)), (Value.slice (ra 6).1 ((m.ps 6).list.length) ((ra 6).2)), (vI ((m.ps 0).upto)), (vI ((m.ps 1).upto)), (vI ((m.ps 2).upto)), (vI ((m.ps 3).upto)), (vI ((m.ps 4).upto)), (vI ((m.ps 5).upto)), (vI ((m.ps 6).upto))] 87 (0, 0)) := T.row
  have k1 := hm.n1
  have k2 := hm.n7
  have k3 := hm.f0
  have k4 := hm.f1
  have hlen : ∀ i, ((m.ps i).list.length : Int) ≤ 4096 := fun i => by have := allow_len _ _ (hm.al i) hm.f1; have := hm.f0; omega
  have hlf : ListsAt h m ra := fun i hi => T.lists i hi
  have hft : ∀ z, lfoot m ra z → h.size ≤ z ∨ (F z ∧ z ≠ t) := fun z hz => .inr ⟨(T.foot z).2 (.inr hz), hlf.ne hrow (by decide) hz⟩
  suffices H : ∀ K : Value → Heap → Prop, (∀ v h1, (fun v h1 => ∃ b F', v = .pointer (some ⟨b, 0, none⟩) ∧ RefAt h1 F' b m ∧ Ext h h1 ∧ h.size ≤ b ∧ ∀ z, F' z → h.size ≤ z ∨ (F z ∧ z ≠ t)) v h1 → K v h1) → WCall Try.prog 22 #[(vP t 0)] h K from H _ fun _ _ q => q
  intro K hK
  refine wcall_at { tmps := #[(vP t 0), vZ, vZ, vZ, vZ, vZ, vZ, vZ, vZ, vZ, vZ, vZ, vZ, vZ, vZ, vZ, vZ, vZ, vZ, vZ, vZ, vZ, vZ, vZ, vZ, vZ, vZ, vZ, vZ, vZ], defers := [] } (by kernel_rfl) ?_
  refine wc_seq' (subc (bodyOf Try.prog 22) [0]) (subc (bodyOf Try.prog 22) [1]) (by kernel_rfl) ?_
  refine wc_upd (n := 200) (T := ⟨fun r i => match r, i with | _, _ => none, fun _ => none, none⟩) (x := .normal) (h1 := h) [(2, vN)]
    (fun q => q) (by intro K'; as_aux_lemma => kernel_rfl) (fun _ q => q) ?_
  refine wc_seq' (subc (bodyOf Try.prog 22) [1, 0]) (subc (bodyOf Try.prog 22) [1, 1]) (by kernel_rfl) ?_
  obtain ⟨_, _, sn4124, rfl, rfl⟩ := rvalid_ok h (hT'.keep fun b r _ q => (Ext.refl h) b r q) hm
  refine wc_upd (n := 200) (T := ⟨fun r i => match r, i with | 1, 1 => some ((vB true), h) | _, _ => none, fun _ => none, none⟩) (x := .normal) (h1 := h) [(5, (vP t 0)), (6, (vB true)), (7, (vB false))]
    (fun q => SoundCall Try.prog 41 #[(vP t 0)] h (vB true) h ∧ q) (by intro K'; as_aux_lemma => kernel_rfl) (fun _ q => ⟨sn4124, q⟩) ?_
  refine wc_seq' (subc (bodyOf Try.prog 22) [1, 1, 0]) (subc (bodyOf Try.prog 22) [1, 1, 1]) (by kernel_rfl) ?_
  obtain ⟨b4128, eb4129⟩ : ∃ zq, zq = h.size := ⟨_, rfl⟩
  obtain ⟨h4126, e4127⟩ : ∃ zq, zq = h.push (.cells #[(vB false), (vI 0), (vI 0), (vI 0), (vI 0), (vB false), (vB false), (vB false), (vB false), (vB false), (vB false), (vB false), (Value.slice none 0 0), (Value.slice none 0 0), (Value.slice none 0 0), (Value.slice none 0 0), (Value.slice none 0 0), (Value.slice none 0 0), (Value.slice none 0 0), (vI 0), (vI 0), (vI 0), (vI 0), (vI 0), (vI 0), (vI 0)] 87 (0, 0)) := ⟨_, rfl⟩
  have f4130 := push_new e4127
  rw [← eb4129] at f4130
  have x4132 : Ext h h4126 := by rw [e4127]; exact Ext.push _ _
  have o4133 : h.size ≤ b4128 := by have := (Ext.refl h).size; omega
  have x4134 := (Ext.refl h).trans x4132
  obtain ⟨h4135, e4136⟩ : ∃ zq, zq = h4126.setIfInBounds b4128 (.cells #[(vB true), (vI (m.n)), (vI (m.rd)), (vI (m.nd)), (vI (m.frm)), (vB (m.ps 0).made), (vB (m.ps 1).made), (vB (m.ps 2).made), (vB (m.ps 3).made), (vB (m.ps 4).made), (vB (m.ps 5).made), (vB (m.ps 6).made), (Value.slice (ra 0).1 ((m.ps 0).list.length) ((ra 0).2)), (Value.slice (ra 1).1 ((m.ps 1).list.length) ((ra 1).2)), (Value.slice (ra 2).1 ((m.ps 2).list.length) ((ra 2).2)), (Value.slice (ra 3).1 ((m.ps 3).list.length) ((ra 3).2)), (Value.slice (ra 4).1 ((m.ps 4).list.length) ((ra 4).2)), (Value.slice (ra 5).1 ((m.ps 5).list.length) ((ra 5).2)), (Value.slice (ra 6).1 ((m.ps 6).list.length) ((ra 6).2)), (vI ((m.ps 0).upto)), (vI ((m.ps 1).upto)), (vI ((m.ps 2).upto)), (vI ((m.ps 3).upto)), (vI ((m.ps 4).upto)), (vI ((m.ps 5).upto)), (vI ((m.ps 6).upto))] 87 (0, 0)) := ⟨_, rfl⟩
  have f4137 := set_same e4136 f4130
  have x4139 := Ext.setNew x4134 e4136 o4133
  refine wc_upd (n := 200) (T := ⟨fun r i => match r, i with | 3, 2 => some ((vA #[(vB true), (vI m.n), (vI m.rd), (vI m.nd), (vI m.frm), (vB (m.ps 0).made), (vB (m.ps 1).made), (vB (m.ps 2).made), (vB (m.ps 3).made), (vB (m.ps 4).made), (vB (m.ps 5).made), (vB (m.ps 6).made), (Value.slice (ra 0).1 ((m.ps 0).list.length) ((ra 0).2)), (Value.slice (ra 1).1 ((m.ps 1).list.length) ((ra 1).2)), (Value.slice (ra 2).1 ((m.ps 2).list.length) ((ra 2).2)), (Value.slice (ra 3).1 ((m.ps 3).list.length) ((ra 3).2)), (Value.slice (ra 4).1 ((m.ps 4).list.length) ((ra 4).2)), (Value.slice (ra 5).1 ((m.ps 5).list.length) ((ra 5).2)), (Value.slice (ra 6).1 ((m.ps 6).list.length) ((ra 6).2)), (vI ((m.ps 0).upto)), (vI ((m.ps 1).upto)), (vI ((m.ps 2).upto)), (vI ((m.ps 3).upto)), (vI ((m.ps 4).upto)), (vI ((m.ps 5).upto)), (vI ((m.ps 6).upto))]), h) | 3, 3 => some ((vP b4128 0), h4126) | 3, 4 => some (undef, h4135) | _, _ => none, fun _ => none, none⟩) (x := .normal) (h1 := h4135) [(8, (vP t 0)), (9, (vP t 0)), (10, (vA #[(vB true), (vI m.n), (vI m.rd), (vI m.nd), (vI m.frm), (vB (m.ps 0).made), (vB (m.ps 1).made), (vB (m.ps 2).made), (vB (m.ps 3).made), (vB (m.ps 4).made), (vB (m.ps 5).made), (vB (m.ps 6).made), (Value.slice (ra 0).1 ((m.ps 0).list.length) ((ra 0).2)), (Value.slice (ra 1).1 ((m.ps 1).list.length) ((ra 1).2)), (Value.slice (ra 2).1 ((m.ps 2).list.length) ((ra 2).2)), (Value.slice (ra 3).1 ((m.ps 3).list.length) ((ra 3).2)), (Value.slice (ra 4).1 ((m.ps 4).list.length) ((ra 4).2)), (Value.slice (ra 5).1 ((m.ps 5).list.length) ((ra 5).2)), (Value.slice (ra 6).1 ((m.ps 6).list.length) ((ra 6).2)), (vI ((m.ps 0).upto)), (vI ((m.ps 1).upto)), (vI ((m.ps 2).upto)), (vI ((m.ps 3).upto)), (vI ((m.ps 4).upto)), (vI ((m.ps 5).upto)), (vI ((m.ps 6).upto))])), (3, (vP b4128 0))]
    (fun q => (loadT Try.prog h 87 (vP t 0) = some (vA #[(vB true), (vI m.n), (vI m.rd), (vI m.nd), (vI m.frm), (vB (m.ps 0).made), (vB (m.ps 1).made), (vB (m.ps 2).made), (vB (m.ps 3).made), (vB (m.ps 4).made), (vB (m.ps 5).made), (vB (m.ps 6).made), (Value.slice (ra 0).1 ((m.ps 0).list.length) ((ra 0).2)), (Value.slice (ra 1).1 ((m.ps 1).list.length) ((ra 1).2)), (Value.slice (ra 2).1 ((m.ps 2).list.length) ((ra 2).2)), (Value.slice (ra 3).1 ((m.ps 3).list.length) ((ra 3).2)), (Value.slice (ra 4).1 ((m.ps 4).list.length) ((ra 4).2)), (Value.slice (ra 5).1 ((m.ps 5).list.length) ((ra 5).2)), (Value.slice (ra 6).1 ((m.ps 6).list.length) ((ra 6).2)), (vI ((m.ps 0).upto)), (vI ((m.ps 1).upto)), (vI ((m.ps 2).upto)), (vI ((m.ps 3).upto)), (vI ((m.ps 4).upto)), (vI ((m.ps 5).upto)), (vI ((m.ps 6).upto))]) ∧ h = h) ∧ ((vP b4128 0) = (Value.pointer (some ⟨h.size, 0, none⟩)) ∧ h4126 = h.push (.cells #[(vB false), (vI 0), (vI 0), (vI 0), (vI 0), (vB false), (vB false), (vB false), (vB false), (vB false), (vB false), (vB false), (vL none 0 0), (vL none 0 0), (vL none 0 0), (vL none 0 0), (vL none 0 0), (vL none 0 0), (vL none 0 0), (vI 0), (vI 0), (vI 0), (vI 0), (vI 0), (vI 0), (vI 0)] 87 (0, 0))) ∧ (storeT Try.prog h4126 87 (vP b4128 0) (vA #[(vB true), (vI m.n), (vI m.rd), (vI m.nd), (vI m.frm), (vB (m.ps 0).made), (vB (m.ps 1).made), (vB (m.ps 2).made), (vB (m.ps 3).made), (vB (m.ps 4).made), (vB (m.ps 5).made), (vB (m.ps 6).made), (Value.slice (ra 0).1 ((m.ps 0).list.length) ((ra 0).2)), (Value.slice (ra 1).1 ((m.ps 1).list.length) ((ra 1).2)), (Value.slice (ra 2).1 ((m.ps 2).list.length) ((ra 2).2)), (Value.slice (ra 3).1 ((m.ps 3).list.length) ((ra 3).2)), (Value.slice (ra 4).1 ((m.ps 4).list.length) ((ra 4).2)), (Value.slice (ra 5).1 ((m.ps 5).list.length) ((ra 5).2)), (Value.slice (ra 6).1 ((m.ps 6).list.length) ((ra 6).2)), (vI ((m.ps 0).upto)), (vI ((m.ps 1).upto)), (vI ((m.ps 2).upto)), (vI ((m.ps 3).upto)), (vI ((m.ps 4).upto)), (vI ((m.ps 5).upto)), (vI ((m.ps 6).upto))]) = some h4135 ∧ (undef : Value) = undef) ∧ q) (by intro K'; as_aux_lemma => kernel_rfl) (fun _ q => ⟨⟨load_agg agg87 size87 hrow (by simp) (by kernel_rfl), rfl⟩, ⟨by rw [eb4129], e4127⟩, ⟨by rw [e4136]; exact store_cells size87 rfl f4130 (by decide) (by simp) rfl (by kernel_rfl), rfl⟩, q⟩) ?_
  refine wc_seq' (subc (bodyOf Try.prog 22) [1, 1, 1, 0]) (subc (bodyOf Try.prog 22) [1, 1, 1, 1]) (by kernel_rfl) ?_
  refine wc_seq' (subc (bodyOf Try.prog 22) [1, 1, 1, 0, 0]) (subc (bodyOf Try.prog 22) [1, 1, 1, 0, 1]) (by kernel_rfl) ?_
  refine wc_upd (n := 200) (T := ⟨fun r i => match r, i with | _, _ => none, fun _ => none, none⟩) (x := .normal) (h1 := h4135) [(4, (vI 0))]
    (fun q => q) (by intro K'; as_aux_lemma => kernel_rfl) (fun _ q => q) ?_
  refine wc_block' 0 (subc (bodyOf Try.prog 22) [1, 1, 1, 0, 1, 0]) (by kernel_rfl) ?_
  refine wc_loop' (subc (bodyOf Try.prog 22) [1, 1, 1, 0, 1, 0, 0]) (by kernel_rfl) (fun n' a' h' => ∃ (k : Int) (rc : Nat → Option Addr × Nat) (g0 : Nat → Value), a' = { tmps := #[(vP t 0), vZ, vN, (vP b4128 0), (vI k), (vP t 0), (vB true), (vB false), (vP t 0), (vP t 0), (vA #[(vB true), (vI m.n), (vI m.rd), (vI m.nd), (vI m.frm), (vB (m.ps 0).made), (vB (m.ps 1).made), (vB (m.ps 2).made), (vB (m.ps 3).made), (vB (m.ps 4).made), (vB (m.ps 5).made), (vB (m.ps 6).made), (Value.slice (ra 0).1 ((m.ps 0).list.length) ((ra 0).2)), (Value.slice (ra 1).1 ((m.ps 1).list.length) ((ra 1).2)), (Value.slice (ra 2).1 ((m.ps 2).list.length) ((ra 2).2)), (Value.slice (ra 3).1 ((m.ps 3).list.length) ((ra 3).2)), (Value.slice (ra 4).1 ((m.ps 4).list.length) ((ra 4).2)), (Value.slice (ra 5).1 ((m.ps 5).list.length) ((ra 5).2)), (Value.slice (ra 6).1 ((m.ps 6).list.length) ((ra 6).2)), (vI ((m.ps 0).upto)), (vI ((m.ps 1).upto)), (vI ((m.ps 2).upto)), (vI ((m.ps 3).upto)), (vI ((m.ps 4).upto)), (vI ((m.ps 5).upto)), (vI ((m.ps 6).upto))]), (g0 11), (g0 12), (g0 13), (g0 14), (g0 15), (g0 16), (g0 17), (g0 18), (g0 19), (g0 20), (g0 21), (g0 22), (g0 23), (g0 24), (g0 25), (g0 26), (g0 27), (g0 28), (g0 29)], defers := [] } ∧ Ext h h' ∧ n' = m.n.toNat - k.toNat ∧ (0 ≤ k ∧ k ≤ m.n) ∧ h'[b4128]? = some (.cells #[(vB true), (vI m.n), (vI m.rd), (vI m.nd), (vI m.frm), (vB (m.ps 0).made), (vB (m.ps 1).made), (vB (m.ps 2).made), (vB (m.ps 3).made), (vB (m.ps 4).made), (vB (m.ps 5).made), (vB (m.ps 6).made), (Value.slice (rc 0).1 ((m.ps 0).list.length) ((rc 0).2)), (Value.slice (rc 1).1 ((m.ps 1).list.length) ((rc 1).2)), (Value.slice (rc 2).1 ((m.ps 2).list.length) ((rc 2).2)), (Value.slice (rc 3).1 ((m.ps 3).list.length) ((rc 3).2)), (Value.slice (rc 4).1 ((m.ps 4).list.length) ((rc 4).2)), (Value.slice (rc 5).1 ((m.ps 5).list.length) ((rc 5).2)), (Value.slice (rc 6).1 ((m.ps 6).list.length) ((rc 6).2)), (vI ((m.ps 0).upto)), (vI ((m.ps 1).upto)), (vI ((m.ps 2).upto)), (vI ((m.ps 3).upto)), (vI ((m.ps 4).upto)), (vI ((m.ps 5).upto)), (vI ((m.ps 6).upto))] 87 (0, 0)) ∧ (∀ z, lfoot m rc z → h.size ≤ z ∨ (F z ∧ z ≠ t)) ∧ ListsAt h' m rc) ?_ (m.n.toNat - (0 : Int).toNat) ⟨0, ra, (fun i => ([vU, vU, vU, vU, vU, vU, vU, vU, vU, vU, vU, vZ, vZ, vZ, vZ, vZ, vZ, vZ, vZ, vZ, vZ, vZ, vZ, vZ, vZ, vZ, vZ, vZ, vZ, vZ] : List Value).getD i undef), by as_aux_lemma => kernel_rfl, x4139, rfl, by omega, f4137, hft, (hlf.keep fun b o _ q => x4139 b o q)⟩
  rintro n' _ h4141 ⟨k, rc, g0, rfl, x4147, m4146, i4142, i4143, i4144, p4145⟩
  have hlk := hlen k.toNat
  by_cases c4148 : ((k) : Int) < (m.n)
  · obtain ⟨b4151, eb4152⟩ : ∃ zq, zq = h4141.size := ⟨_, rfl⟩
    obtain ⟨h4149, e4150⟩ : ∃ zq, zq = h4141.push (.cells #[] 38 (0, 0)) := ⟨_, rfl⟩
    have f4153 := push_new e4150
    rw [← eb4152] at f4153
    have n4155 : b4151 ≠ b4128 := by have := row_lt i4143; omega
    have x4158 : Ext h4141 h4149 := by rw [e4150]; exact Ext.push _ _
    have o4159 : h.size ≤ b4151 := by have := x4147.size; omega
    have f4160 := x4158 _ _ i4143
    have p4161 := p4145.keep fun b r _ q => x4158 b r q
    have x4162 := x4147.trans x4158
    have p4163 : CellsAt h4149 t (12 + k.toNat * 1) #[(Value.slice (ra k.toNat).1 ((m.ps k.toNat).list.length) ((ra k.toNat).2))] := rcells_lst (m := m) (ra := ra) (x4162 _ _ hrow) (by omega) (by omega)
    obtain ⟨w4164, h4165, e4166, p4167, x4168, n4169⟩ := own_clone und34 sizeb38 zero38 rfl (by decide) entc_size (ys := (m.ps k.toNat).list) f4153 (((T.lists k.toNat (by omega)).keep fun b r _ q => x4162 b r q).slice entc_size) (by omega) (by unfold maxLen; omega)
    obtain ⟨a4170, c4171, rfl⟩ := (p4167.slice entc_size).len
    have z4174 : b4151 < h4149.size := row_lt f4153
    have n4173 : ∀ zz, blk (Value.slice a4170 ((m.ps k.toNat).list.length) (c4171)) zz → zz = b4151 ∨ h4149.size ≤ zz := fun zz hz => by rcases n4169 zz hz with e | e <;> omega
    have n4175 : ∀ zz, blk (Value.slice a4170 ((m.ps k.toNat).list.length) (c4171)) zz → ¬ zz = b4128 := fun zz hz ez => by have := n4155; have := row_lt f4160; rcases n4173 zz hz with g | g <;> omega
    have o4180 : ∀ zz, blk (Value.slice a4170 ((m.ps k.toNat).list.length) (c4171)) zz → h.size ≤ zz := fun zz hz => by have := o4159; have := x4162.size; rcases n4173 zz hz with g | g <;> omega
    have f4181 := x4168 _ _ f4160
    have p4183 := p4161.keep fun b r _ q => x4168 b r q
    have x4185 := x4162.trans x4168
    obtain ⟨h4187, e4188⟩ : ∃ zq, zq = h4165.setIfInBounds b4128 (.cells #[(vB true), (vI (m.n)), (vI (m.rd)), (vI (m.nd)), (vI (m.frm)), (vB (m.ps 0).made), (vB (m.ps 1).made), (vB (m.ps 2).made), (vB (m.ps 3).made), (vB (m.ps 4).made), (vB (m.ps 5).made), (vB (m.ps 6).made), (Value.slice ((fun i => if i = k.toNat then (a4170, c4171) else rc i) 0).1 ((m.ps 0).list.length) (((fun i => if i = k.toNat then (a4170, c4171) else rc i) 0).2)), (Value.slice ((fun i => if i = k.toNat then (a4170, c4171) else rc i) 1).1 ((m.ps 1).list.length) (((fun i => if i = k.toNat then (a4170, c4171) else rc i) 1).2)), (Value.slice ((fun i => if i = k.toNat then (a4170, c4171) else rc i) 2).1 ((m.ps 2).list.length) (((fun i => if i = k.toNat then (a4170, c4171) else rc i) 2).2)), (Value.slice ((fun i => if i = k.toNat then (a4170, c4171) else rc i) 3).1 ((m.ps 3).list.length) (((fun i => if i = k.toNat then (a4170, c4171) else rc i) 3).2)), (Value.slice ((fun i => if i = k.toNat then (a4170, c4171) else rc i) 4).1 ((m.ps 4).list.length) (((fun i => if i = k.toNat then (a4170, c4171) else rc i) 4).2)), (Value.slice ((fun i => if i = k.toNat then (a4170, c4171) else rc i) 5).1 ((m.ps 5).list.length) (((fun i => if i = k.toNat then (a4170, c4171) else rc i) 5).2)), (Value.slice ((fun i => if i = k.toNat then (a4170, c4171) else rc i) 6).1 ((m.ps 6).list.length) (((fun i => if i = k.toNat then (a4170, c4171) else rc i) 6).2)), (vI ((m.ps 0).upto)), (vI ((m.ps 1).upto)), (vI ((m.ps 2).upto)), (vI ((m.ps 3).upto)), (vI ((m.ps 4).upto)), (vI ((m.ps 5).upto)), (vI ((m.ps 6).upto))] 87 (0, 0)) := ⟨_, rfl⟩
    have f4189 : h4187[b4128]? = some (.cells #[(vB true), (vI (m.n)), (vI (m.rd)), (vI (m.nd)), (vI (m.frm)), (vB (m.ps 0).made), (vB (m.ps 1).made), (vB (m.ps 2).made), (vB (m.ps 3).made), (vB (m.ps 4).made), (vB (m.ps 5).made), (vB (m.ps 6).made), (Value.slice ((fun i => if i = k.toNat then (a4170, c4171) else rc i) 0).1 ((m.ps 0).list.length) (((fun i => if i = k.toNat then (a4170, c4171) else rc i) 0).2)), (Value.slice ((fun i => if i = k.toNat then (a4170, c4171) else rc i) 1).1 ((m.ps 1).list.length) (((fun i => if i = k.toNat then (a4170, c4171) else rc i) 1).2)), (Value.slice ((fun i => if i = k.toNat then (a4170, c4171) else rc i) 2).1 ((m.ps 2).list.length) (((fun i => if i = k.toNat then (a4170, c4171) else rc i) 2).2)), (Value.slice ((fun i => if i = k.toNat then (a4170, c4171) else rc i) 3).1 ((m.ps 3).list.length) (((fun i => if i = k.toNat then (a4170, c4171) else rc i) 3).2)), (Value.slice ((fun i => if i = k.toNat then (a4170, c4171) else rc i) 4).1 ((m.ps 4).list.length) (((fun i => if i = k.toNat then (a4170, c4171) else rc i) 4).2)), (Value.slice ((fun i => if i = k.toNat then (a4170, c4171) else rc i) 5).1 ((m.ps 5).list.length) (((fun i => if i = k.toNat then (a4170, c4171) else rc i) 5).2)), (Value.slice ((fun i => if i = k.toNat then (a4170, c4171) else rc i) 6).1 ((m.ps 6).list.length) (((fun i => if i = k.toNat then (a4170, c4171) else rc i) 6).2)), (vI ((m.ps 0).upto)), (vI ((m.ps 1).upto)), (vI ((m.ps 2).upto)), (vI ((m.ps 3).upto)), (vI ((m.ps 4).upto)), (vI ((m.ps 5).upto)), (vI ((m.ps 6).upto))] 87 (0, 0)) := set_same e4188 f4181
    have p4191 := p4183.keep fun b r hb q => (Chg.set e4188).same b r q ((fun b hb => p4183.ne f4181 (by decide) hb) b hb)
    have p4192 := p4167.keep fun b r hb q => (Chg.set e4188).same b r q (n4175 b hb)
    have x4193 := Ext.setNew x4185 e4188 o4133
    refine wc_upd (n := 200) (T := ⟨fun r i => match r, i with | 5, 4 => some ((vI m.n), h4141) | 5, 5 => some ((vB true), h4141) | 7, 1 => some ((vL (some ⟨b4151, 0, none⟩) 0 0), h4149) | 7, 6 => some ((Value.pointer (some ⟨t, 12 + k.toNat * 1, none⟩)), h4149) | 7, 7 => some ((Value.slice (ra k.toNat).1 ((m.ps k.toNat).list.length) ((ra k.toNat).2)), h4149) | 7, 8 => some ((vL a4170 ((m.ps k.toNat).list.length) c4171), h4165) | 7, 10 => some ((Value.pointer (some ⟨b4128, 12 + k.toNat * 1, none⟩)), h4165) | 7, 11 => some (undef, h4187) | 6, 1 => some ((vI ((k) + 1)), h4187) | _, _ => none, fun _ => none, none⟩) (x := .normal) (h1 := h4187) [(11, (vI k)), (12, (vP t 0)), (13, (vP t 0)), (14, (vP t 1)), (15, (vI m.n)), (16, (vB true)), (19, (vI k)), (20, (vL (some ⟨b4151, 0, none⟩) 0 0)), (21, (vP t 0)), (22, (vI k)), (23, (vP t 0)), (24, (vP t 12)), (25, (Value.pointer (some ⟨t, 12 + k.toNat * 1, none⟩))), (26, (Value.slice (ra k.toNat).1 ((m.ps k.toNat).list.length) ((ra k.toNat).2))), (27, (vL a4170 ((m.ps k.toNat).list.length) c4171)), (28, (vP b4128 12)), (29, (Value.pointer (some ⟨b4128, 12 + k.toNat * 1, none⟩))), (17, (vI k)), (18, (vI ((k) + 1))), (4, (vI ((k) + 1)))]
      (fun q => (loadT Try.prog h4141 3 (vP t 1) = some (vI m.n) ∧ h4141 = h4141) ∧ (binA Try.prog .lss 3 (vI k) (vI m.n) = some (vB true) ∧ h4141 = h4141) ∧ ((vL (some ⟨b4151, 0, none⟩) 0 0) = (vL (some ⟨h4141.size, 0, none⟩) 0 0) ∧ h4149 = h4141.push (.cells #[] 38 (0, 0))) ∧ (indexAddrA Try.prog 84 (vP t 12) (vI k) = some (Value.pointer (some ⟨t, 12 + k.toNat * 1, none⟩)) ∧ h4149 = h4149) ∧ (loadT Try.prog h4149 34 (Value.pointer (some ⟨t, 12 + k.toNat * 1, none⟩)) = some (Value.slice (ra k.toNat).1 ((m.ps k.toNat).list.length) ((ra k.toNat).2)) ∧ h4149 = h4149) ∧ appendA Try.prog h4149 #[34, 34] #[(vL (some ⟨b4151, 0, none⟩) 0 0), (Value.slice (ra k.toNat).1 ((m.ps k.toNat).list.length) ((ra k.toNat).2))] = some ((vL a4170 ((m.ps k.toNat).list.length) c4171), h4165) ∧ (indexAddrA Try.prog 84 (vP b4128 12) (vI k) = some (Value.pointer (some ⟨b4128, 12 + k.toNat * 1, none⟩)) ∧ h4165 = h4165) ∧ (storeT Try.prog h4165 34 (Value.pointer (some ⟨b4128, 12 + k.toNat * 1, none⟩)) (vL a4170 ((m.ps k.toNat).list.length) c4171) = some h4187 ∧ (undef : Value) = undef) ∧ (binA Try.prog .add 3 (vI k) (vI 1) = some (vI ((k) + 1)) ∧ h4187 = h4187) ∧ q) (by intro K'; as_aux_lemma => kernel_rfl) (fun _ q => ⟨⟨load_cell agg3 (x4147 _ _ hrow) rfl, rfl⟩, ⟨cmp_lss (decide_eq_true c4148), rfl⟩, ⟨by rw [eb4152], e4150⟩, ⟨index_arr und84 size34 (by omega) (by omega), rfl⟩, ⟨p4163.cell (j := 0) agg34 rfl, rfl⟩, e4166, ⟨index_arr und84 size34 (by omega) (by omega), rfl⟩, ⟨by rw [e4188]; exact rstore_same (m := m) (ra := rc) f4181 (by omega) (by omega), rfl⟩, ⟨add_i64 (by omega) (by omega), rfl⟩, q⟩) ?_
    obtain ⟨lp1, lp2⟩ := lists_put p4191 p4192 i4144 (fun z hz => .inl (o4180 z hz))
    exact ⟨m.n.toNat - (k + 1).toNat, by omega, ⟨k + 1, (fun i => if i = k.toNat then (a4170, c4171) else rc i), (fun i => ([vU, vU, vU, vU, vU, vU, vU, vU, vU, vU, vU, (vI k), (vP t 0), (vP t 0), (vP t 1), (vI m.n), (vB true), (vI k), (vI ((k) + 1)), (vI k), (vL (some ⟨b4151, 0, none⟩) 0 0), (vP t 0), (vI k), (vP t 0), (vP t 12), (Value.pointer (some ⟨t, 12 + k.toNat * 1, none⟩)), (Value.slice (ra k.toNat).1 ((m.ps k.toNat).list.length) ((ra k.toNat).2)), (vL a4170 ((m.ps k.toNat).list.length) c4171), (vP b4128 12), (Value.pointer (some ⟨b4128, 12 + k.toNat * 1, none⟩))] : List Value).getD i undef), by as_aux_lemma => kernel_rfl, x4193, rfl, by omega, f4189, lp2, lp1⟩⟩
  · refine wc_upd (n := 200) (T := ⟨fun r i => match r, i with | 5, 4 => some ((vI m.n), h4141) | 5, 5 => some ((vB false), h4141) | _, _ => none, fun _ => none, none⟩) (x := (.exit 0)) (h1 := h4141) [(11, (vI k)), (12, (vP t 0)), (13, (vP t 0)), (14, (vP t 1)), (15, (vI m.n)), (16, (vB false))]
      (fun q => (loadT Try.prog h4141 3 (vP t 1) = some (vI m.n) ∧ h4141 = h4141) ∧ (binA Try.prog .lss 3 (vI k) (vI m.n) = some (vB false) ∧ h4141 = h4141) ∧ q) (by intro K'; as_aux_lemma => kernel_rfl) (fun _ q => ⟨⟨load_cell agg3 (x4147 _ _ hrow) rfl, rfl⟩, ⟨cmp_lss (decide_eq_false c4148), rfl⟩, q⟩) ?_
    refine wc_upd (n := 200) (T := ⟨fun r i => match r, i with | _, _ => none, fun _ => none, none⟩) (x := .ret) (h1 := h4141) [(2, (vP b4128 0))]
      (fun q => q) (by intro K'; as_aux_lemma => kernel_rfl) (fun _ q => q) ?_
    refine end_at (T := ⟨fun _ _ => none, fun _ => none, none⟩) (A := K (vP b4128 0) h4141) (by kernel_rfl) ?_
    exact hK _ _ (⟨b4128, fun z => z = b4128 ∨ lfoot m rc z, rfl, ⟨rc, i4143, p4145, fun z => Iff.rfl⟩, x4147, o4133, fun z hz => hz.elim (fun e => .inl (by omega)) (i4144 z)⟩)
theorem copy_ok2 (h : Heap) {F : Nat → Prop} {t : Nat} {m : PropM} (hT : PropAt h F t m) (hm : m.ok) : WCall Try.prog 20 #[.pointer (some ⟨t, 0, none⟩)] h (fun v h1 => ∃ b F', v = .pointer (some ⟨b, 0, none⟩) ∧ PropAt h1 F' b m ∧ Ext h h1 ∧ h.size ≤ b ∧ ∀ z, F' z → h.size ≤ z ∨ (F z ∧ z ≠ t)) :=
  (copy_ok h hT hm).mono fun v h1 ⟨b, F', e, p, x, w, fi⟩ => ⟨b, F', e, p, x, w, fun z hz => ((fi z).1 hz).elim (fun e => .inl (by omega)) .inr⟩
set_option maxHeartbeats 4000000 in
theorem nil_13 (h : Heap)  : WCall Try.prog 13 #[(Value.pointer none)] h (fun v h1 => v = (Value.tuple #[(Value.slice none 0 0), (vI 1)]) ∧ Ext h h1) := by
  suffices H : ∀ K : Value → Heap → Prop, (∀ v h1, (fun v h1 => v = (Value.tuple #[(Value.slice none 0 0), (vI 1)]) ∧ Ext h h1) v h1 → K v h1) → WCall Try.prog 13 #[(Value.pointer none)] h K from H _ fun _ _ q => q
  intro K hK
  refine wcall_at { tmps := #[vN, vZ, vZ, vZ, vZ, vZ, vZ, vZ, vZ, vZ, vZ, vZ, vZ, vZ, vZ, vZ, vZ, vZ, vZ, vZ, vZ, vZ, vZ, vZ, vZ, vZ, vZ, vZ, vZ, vZ, vZ, vZ, vZ, vZ, vZ, vZ, vZ, vZ, vZ, vZ, vZ, vZ, vZ, vZ, vZ, vZ, vZ, vZ, vZ, vZ, vZ, vZ, vZ, vZ, vZ, vZ, vZ, vZ, vZ, vZ, vZ, vZ, vZ, vZ, vZ, vZ, vZ, vZ, vZ, vZ, vZ, vZ, vZ, vZ, vZ, vZ, vZ, vZ, vZ, vZ, vZ, vZ, vZ, vZ], defers := [] } (by kernel_rfl) ?_
  refine wc_seq' (subc (bodyOf Try.prog 13) [0]) (subc (bodyOf Try.prog 13) [1]) (by kernel_rfl) ?_
  refine wc_upd (n := 200) (T := ⟨fun r i => match r, i with | _, _ => none, fun _ => none, none⟩) (x := .normal) (h1 := h) [(2, (vL none 0 0)), (3, (vI 0))]
    (fun q => q) (by intro K'; as_aux_lemma => kernel_rfl) (fun _ q => q) ?_
  refine wc_seq' (subc (bodyOf Try.prog 13) [1, 0]) (subc (bodyOf Try.prog 13) [1, 1]) (by kernel_rfl) ?_
  obtain ⟨_, _, sn4195, rfl, rfl⟩ := valid_nil h
  refine wc_upd (n := 200) (T := ⟨fun r i => match r, i with | 1, 1 => some ((vB false), h) | _, _ => none, fun _ => none, none⟩) (x := .ret) (h1 := h) [(9, vN), (10, (vB false)), (11, (vB true)), (8, (vB true)), (2, (vL none 0 0)), (3, (vI 1))]
    (fun q => SoundCall Try.prog 31 #[vN] h (vB false) h ∧ q) (by intro K'; as_aux_lemma => kernel_rfl) (fun _ q => ⟨sn4195, q⟩) ?_
  refine end_at (T := ⟨fun _ _ => none, fun _ => none, none⟩) (A := K (vT #[(vL none 0 0), (vI 1)]) h) (by kernel_rfl) ?_
  exact hK _ _ (⟨rfl, (Ext.refl h)⟩)
set_option maxHeartbeats 4000000 in
theorem nil_14 (h : Heap)  : WCall Try.prog 14 #[(Value.pointer none)] h (fun v h1 => v = (vB false) ∧ Ext h h1) := by
  suffices H : ∀ K : Value → Heap → Prop, (∀ v h1, (fun v h1 => v = (vB false) ∧ Ext h h1) v h1 → K v h1) → WCall Try.prog 14 #[(Value.pointer none)] h K from H _ fun _ _ q => q
  intro K hK
  refine wcall_at { tmps := #[vN, vZ, vZ, vZ, vZ, vZ, vZ, vZ, vZ, vZ, vZ, vZ, vZ, vZ, vZ, vZ, vZ, vZ, vZ], defers := [] } (by kernel_rfl) ?_
  obtain ⟨_, _, sn4198, rfl, rfl⟩ := valid_nil h
  refine wc_upd (n := 200) (T := ⟨fun r i => match r, i with | 1, 1 => some ((vB false), h) | _, _ => none, fun _ => none, none⟩) (x := .ret) (h1 := h) [(2, (vB false)), (5, vN), (6, (vB false)), (7, (vB true)), (2, (vB false))]
    (fun q => SoundCall Try.prog 31 #[vN] h (vB false) h ∧ q) (by intro K'; as_aux_lemma => kernel_rfl) (fun _ q => ⟨sn4198, q⟩) ?_
  refine end_at (T := ⟨fun _ _ => none, fun _ => none, none⟩) (A := K (vB false) h) (by kernel_rfl) ?_
  exact hK _ _ (⟨rfl, (Ext.refl h)⟩)
set_option maxHeartbeats 4000000 in
theorem nil_17 (h : Heap)  : WCall Try.prog 17 #[(Value.pointer none)] h (fun v h1 => v = (vI 0) ∧ Ext h h1) := by
  suffices H : ∀ K : Value → Heap → Prop, (∀ v h1, (fun v h1 => v = (vI 0) ∧ Ext h h1) v h1 → K v h1) → WCall Try.prog 17 #[(Value.pointer none)] h K from H _ fun _ _ q => q
  intro K hK
  refine wcall_at { tmps := #[vN, vZ, vZ, vZ, vZ, vZ, vZ, vZ, vZ, vZ, vZ, vZ, vZ, vZ, vZ, vZ, vZ, vZ, vZ, vZ, vZ, vZ], defers := [] } (by kernel_rfl) ?_
  refine wc_seq' (subc (bodyOf Try.prog 17) [0]) (subc (bodyOf Try.prog 17) [1]) (by kernel_rfl) ?_
  refine wc_upd (n := 200) (T := ⟨fun r i => match r, i with | _, _ => none, fun _ => none, none⟩) (x := .normal) (h1 := h) [(2, (vI 0))]
    (fun q => q) (by intro K'; as_aux_lemma => kernel_rfl) (fun _ q => q) ?_
  refine wc_seq' (subc (bodyOf Try.prog 17) [1, 0]) (subc (bodyOf Try.prog 17) [1, 1]) (by kernel_rfl) ?_
  obtain ⟨_, _, sn4201, rfl, rfl⟩ := valid_nil h
  refine wc_upd (n := 200) (T := ⟨fun r i => match r, i with | 1, 1 => some ((vB false), h) | _, _ => none, fun _ => none, none⟩) (x := .ret) (h1 := h) [(6, vN), (7, (vB false)), (8, (vB true)), (2, (vI 0))]
    (fun q => SoundCall Try.prog 31 #[vN] h (vB false) h ∧ q) (by intro K'; as_aux_lemma => kernel_rfl) (fun _ q => ⟨sn4201, q⟩) ?_
  refine end_at (T := ⟨fun _ _ => none, fun _ => none, none⟩) (A := K (vI 0) h) (by kernel_rfl) ?_
  exact hK _ _ (⟨rfl, (Ext.refl h)⟩)
set_option maxHeartbeats 4000000 in
theorem nil_26 (h : Heap)  : WCall Try.prog 26 #[(Value.pointer none)] h (fun v h1 => v = (Value.agg #[(vI 0), (vI 0)]) ∧ Ext h h1) := by
  suffices H : ∀ K : Value → Heap → Prop, (∀ v h1, (fun v h1 => v = (Value.agg #[(vI 0), (vI 0)]) ∧ Ext h h1) v h1 → K v h1) → WCall Try.prog 26 #[(Value.pointer none)] h K from H _ fun _ _ q => q
  intro K hK
  refine wcall_at { tmps := #[vN, vZ, vZ, vZ, vZ, vZ, vZ, vZ, vZ, vZ, vZ], defers := [] } (by kernel_rfl) ?_
  obtain ⟨b4205, eb4206⟩ : ∃ zq, zq = h.size := ⟨_, rfl⟩
  obtain ⟨h4203, e4204⟩ : ∃ zq, zq = h.push (.cells #[(vI 0), (vI 0)] 29 (0, 0)) := ⟨_, rfl⟩
  have f4207 := push_new e4204
  rw [← eb4206] at f4207
  have x4208 : Ext h h4203 := by rw [e4204]; exact Ext.push _ _
  have o4209 : h.size ≤ b4205 := by have := (Ext.refl h).size; omega
  have x4210 := (Ext.refl h).trans x4208
  obtain ⟨_, _, sn4212, rfl, rfl⟩ := valid_nil h4203
  obtain ⟨h4214, e4215⟩ : ∃ zq, zq = h4203.setIfInBounds b4205 (.cells #[(vI 0), (vI 0)] 29 (0, 0)) := ⟨_, rfl⟩
  have f4216 := set_same e4215 f4207
  have x4218 := Ext.setNew x4210 e4215 o4209
  refine wc_upd (n := 200) (T := ⟨fun r i => match r, i with | 0, 0 => some ((vP b4205 0), h4203) | 1, 1 => some ((vB false), h4203) | 2, 1 => some (undef, h4214) | _, _ => none, fun _ => none, none⟩) (x := .ret) (h1 := h4214) [(2, (vP b4205 0)), (3, vN), (4, (vB false)), (5, (vB true)), (6, (vA #[(vI 0), (vI 0)]))]
    (fun q => ((vP b4205 0) = (Value.pointer (some ⟨h.size, 0, none⟩)) ∧ h4203 = h.push (.cells #[(vI 0), (vI 0)] 29 (0, 0))) ∧ SoundCall Try.prog 31 #[vN] h4203 (vB false) h4203 ∧ (storeT Try.prog h4203 29 (vP b4205 0) (vA #[(vI 0), (vI 0)]) = some h4214 ∧ (undef : Value) = undef) ∧ q) (by intro K'; as_aux_lemma => kernel_rfl) (fun _ q => ⟨⟨by rw [eb4206], e4204⟩, sn4212, ⟨by rw [e4215]; exact store_cells size29 rfl f4207 (by decide) (by simp) rfl (by kernel_rfl), rfl⟩, q⟩) ?_
  refine end_at (T := ⟨fun _ _ => none, fun _ => none, some [(vA #[(vI 0), (vI 0)])]⟩) (A := (loadT Try.prog h4214 29 (vP b4205 0) = some (vA #[(vI 0), (vI 0)]) ∧ True) ∧ K (vA #[(vI 0), (vI 0)]) h4214) (by kernel_rfl) ?_
  exact ⟨⟨load_agg agg29 size29 f4216 (by simp) (by kernel_rfl), trivial⟩, hK _ _ (⟨rfl, x4218⟩)⟩
set_option maxHeartbeats 4000000 in
theorem nil_19 (h : Heap)  : WCall Try.prog 19 #[(Value.pointer none)] h (fun v h1 => v = (Value.int .u64 0) ∧ Ext h h1) := by
  suffices H : ∀ K : Value → Heap → Prop, (∀ v h1, (fun v h1 => v = (Value.int .u64 0) ∧ Ext h h1) v h1 → K v h1) → WCall Try.prog 19 #[(Value.pointer none)] h K from H _ fun _ _ q => q
  intro K hK
  refine wcall_at { tmps := #[vN, vZ, vZ, vZ, vZ, vZ, vZ, vZ, vZ, vZ, vZ, vZ, vZ, vZ, vZ, vZ, vZ, vZ, vZ, vZ, vZ, vZ, vZ, vZ, vZ, vZ], defers := [] } (by kernel_rfl) ?_
  refine wc_seq' (subc (bodyOf Try.prog 19) [0]) (subc (bodyOf Try.prog 19) [1]) (by kernel_rfl) ?_
  refine wc_upd (n := 200) (T := ⟨fun r i => match r, i with | _, _ => none, fun _ => none, none⟩) (x := .normal) (h1 := h) [(2, (Value.int .u64 0))]
    (fun q => q) (by intro K'; as_aux_lemma => kernel_rfl) (fun _ q => q) ?_
  refine wc_seq' (subc (bodyOf Try.prog 19) [1, 0]) (subc (bodyOf Try.prog 19) [1, 1]) (by kernel_rfl) ?_
  refine wc_upd (n := 200) (T := ⟨fun r i => match r, i with | _, _ => none, fun _ => none, none⟩) (x := .normal) (h1 := h) [(3, (Value.int .u64 0))]
    (fun q => q) (by intro K'; as_aux_lemma => kernel_rfl) (fun _ q => q) ?_
  refine wc_seq' (subc (bodyOf Try.prog 19) [1, 1, 0]) (subc (bodyOf Try.prog 19) [1, 1, 1]) (by kernel_rfl) ?_
  obtain ⟨_, _, sn4220, rfl, rfl⟩ := valid_nil h
  refine wc_upd (n := 200) (T := ⟨fun r i => match r, i with | 2, 1 => some ((vB false), h) | _, _ => none, fun _ => none, none⟩) (x := .ret) (h1 := h) [(6, vN), (7, (vB false)), (8, (vB true)), (9, (Value.int .u64 0)), (2, (Value.int .u64 0))]
    (fun q => SoundCall Try.prog 31 #[vN] h (vB false) h ∧ q) (by intro K'; as_aux_lemma => kernel_rfl) (fun _ q => ⟨sn4220, q⟩) ?_
  refine end_at (T := ⟨fun _ _ => none, fun _ => none, none⟩) (A := K (Value.int .u64 0) h) (by kernel_rfl) ?_
  exact hK _ _ (⟨rfl, (Ext.refl h)⟩)
set_option maxHeartbeats 4000000 in
theorem nil_20 (h : Heap)  : WCall Try.prog 20 #[(Value.pointer none)] h (fun v h1 => v = (Value.pointer none) ∧ Ext h h1) := by
  suffices H : ∀ K : Value → Heap → Prop, (∀ v h1, (fun v h1 => v = (Value.pointer none) ∧ Ext h h1) v h1 → K v h1) → WCall Try.prog 20 #[(Value.pointer none)] h K from H _ fun _ _ q => q
  intro K hK
  refine wcall_at { tmps := #[vN, vZ, vZ, vZ, vZ, vZ, vZ, vZ, vZ, vZ], defers := [] } (by kernel_rfl) ?_
  obtain ⟨_, _, sn4223, rfl, rfl⟩ := valid_nil h
  refine wc_upd (n := 200) (T := ⟨fun r i => match r, i with | 1, 1 => some ((vB false), h) | _, _ => none, fun _ => none, none⟩) (x := .ret) (h1 := h) [(2, vN), (4, vN), (5, (vB false)), (6, (vB true)), (2, vN)]
    (fun q => SoundCall Try.prog 31 #[vN] h (vB false) h ∧ q) (by intro K'; as_aux_lemma => kernel_rfl) (fun _ q => ⟨sn4223, q⟩) ?_
  refine end_at (T := ⟨fun _ _ => none, fun _ => none, none⟩) (A := K vN h) (by kernel_rfl) ?_
  exact hK _ _ (⟨rfl, (Ext.refl h)⟩)
set_option maxHeartbeats 4000000 in
theorem nil_23 (h : Heap)  : WCall Try.prog 23 #[(Value.pointer none)] h (fun v h1 => v = (Value.tuple #[(Value.slice none 0 0), (vI 1)]) ∧ Ext h h1) := by
  suffices H : ∀ K : Value → Heap → Prop, (∀ v h1, (fun v h1 => v = (Value.tuple #[(Value.slice none 0 0), (vI 1)]) ∧ Ext h h1) v h1 → K v h1) → WCall Try.prog 23 #[(Value.pointer none)] h K from H _ fun _ _ q => q
  intro K hK
  refine wcall_at { tmps := #[vN, vZ, vZ, vZ, vZ, vZ, vZ, vZ, vZ, vZ, vZ, vZ, vZ, vZ, vZ, vZ, vZ, vZ, vZ, vZ, vZ, vZ, vZ, vZ, vZ, vZ, vZ, vZ, vZ, vZ, vZ, vZ, vZ, vZ, vZ, vZ, vZ, vZ, vZ, vZ, vZ, vZ, vZ, vZ, vZ, vZ, vZ, vZ, vZ, vZ, vZ, vZ, vZ, vZ, vZ, vZ, vZ, vZ, vZ, vZ, vZ, vZ, vZ, vZ, vZ, vZ, vZ, vZ, vZ, vZ, vZ, vZ, vZ, vZ, vZ, vZ, vZ, vZ, vZ, vZ, vZ, vZ, vZ, vZ, vZ, vZ, vZ, vZ, vZ, vZ, vZ, vZ, vZ, vZ, vZ, vZ, vZ, vZ, vZ, vZ, vZ, vZ, vZ, vZ, vZ, vZ, vZ, vZ, vZ, vZ, vZ, vZ, vZ, vZ, vZ], defers := [] } (by kernel_rfl) ?_
  refine wc_seq' (subc (bodyOf Try.prog 23) [0]) (subc (bodyOf Try.prog 23) [1]) (by kernel_rfl) ?_
  refine wc_upd (n := 200) (T := ⟨fun r i => match r, i with | _, _ => none, fun _ => none, none⟩) (x := .normal) (h1 := h) [(2, (vL none 0 0)), (3, (vI 0))]
    (fun q => q) (by intro K'; as_aux_lemma => kernel_rfl) (fun _ q => q) ?_
  refine wc_seq' (subc (bodyOf Try.prog 23) [1, 0]) (subc (bodyOf Try.prog 23) [1, 1]) (by kernel_rfl) ?_
  obtain ⟨_, _, sn4226, rfl, rfl⟩ := rvalid_nil h
  refine wc_upd (n := 200) (T := ⟨fun r i => match r, i with | 1, 1 => some ((vB false), h) | _, _ => none, fun _ => none, none⟩) (x := .ret) (h1 := h) [(13, vN), (14, (vB false)), (15, (vB true)), (2, (vL none 0 0)), (3, (vI 1))]
    (fun q => SoundCall Try.prog 41 #[vN] h (vB false) h ∧ q) (by intro K'; as_aux_lemma => kernel_rfl) (fun _ q => ⟨sn4226, q⟩) ?_
  refine end_at (T := ⟨fun _ _ => none, fun _ => none, none⟩) (A := K (vT #[(vL none 0 0), (vI 1)]) h) (by kernel_rfl) ?_
  exact hK _ _ (⟨rfl, (Ext.refl h)⟩)
set_option maxHeartbeats 4000000 in
theorem nil_24 (h : Heap)  : WCall Try.prog 24 #[(Value.pointer none)] h (fun v h1 => v = (vB false) ∧ Ext h h1) := by
  suffices H : ∀ K : Value → Heap → Prop, (∀ v h1, (fun v h1 => v = (vB false) ∧ Ext h h1) v h1 → K v h1) → WCall Try.prog 24 #[(Value.pointer none)] h K from H _ fun _ _ q => q
  intro K hK
  refine wcall_at { tmps := #[vN, vZ, vZ, vZ, vZ, vZ, vZ, vZ, vZ, vZ, vZ, vZ, vZ, vZ, vZ, vZ, vZ, vZ, vZ], defers := [] } (by kernel_rfl) ?_
  obtain ⟨_, _, sn4229, rfl, rfl⟩ := rvalid_nil h
  refine wc_upd (n := 200) (T := ⟨fun r i => match r, i with | 1, 1 => some ((vB false), h) | _, _ => none, fun _ => none, none⟩) (x := .ret) (h1 := h) [(2, (vB false)), (5, vN), (6, (vB false)), (7, (vB true)), (2, (vB false))]
    (fun q => SoundCall Try.prog 41 #[vN] h (vB false) h ∧ q) (by intro K'; as_aux_lemma => kernel_rfl) (fun _ q => ⟨sn4229, q⟩) ?_
  refine end_at (T := ⟨fun _ _ => none, fun _ => none, none⟩) (A := K (vB false) h) (by kernel_rfl) ?_
  exact hK _ _ (⟨rfl, (Ext.refl h)⟩)
set_option maxHeartbeats 4000000 in
theorem nil_25 (h : Heap)  : WCall Try.prog 25 #[(Value.pointer none)] h (fun v h1 => v = (vI 0) ∧ Ext h h1) := by
  suffices H : ∀ K : Value → Heap → Prop, (∀ v h1, (fun v h1 => v = (vI 0) ∧ Ext h h1) v h1 → K v h1) → WCall Try.prog 25 #[(Value.pointer none)] h K from H _ fun _ _ q => q
  intro K hK
  refine wcall_at { tmps := #[vN, vZ, vZ, vZ, vZ, vZ, vZ, vZ, vZ, vZ, vZ, vZ, vZ, vZ, vZ, vZ, vZ, vZ, vZ, vZ, vZ, vZ, vZ, vZ, vZ, vZ, vZ, vZ, vZ, vZ, vZ, vZ], defers := [] } (by kernel_rfl) ?_
  refine wc_seq' (subc (bodyOf Try.prog 25) [0]) (subc (bodyOf Try.prog 25) [1]) (by kernel_rfl) ?_
  refine wc_upd (n := 200) (T := ⟨fun r i => match r, i with | _, _ => none, fun _ => none, none⟩) (x := .normal) (h1 := h) [(2, (vI 0))]
    (fun q => q) (by intro K'; as_aux_lemma => kernel_rfl) (fun _ q => q) ?_
  refine wc_seq' (subc (bodyOf Try.prog 25) [1, 0]) (subc (bodyOf Try.prog 25) [1, 1]) (by kernel_rfl) ?_
  refine wc_upd (n := 200) (T := ⟨fun r i => match r, i with | _, _ => none, fun _ => none, none⟩) (x := .normal) (h1 := h) [(3, (vI 0))]
    (fun q => q) (by intro K'; as_aux_lemma => kernel_rfl) (fun _ q => q) ?_
  refine wc_seq' (subc (bodyOf Try.prog 25) [1, 1, 0]) (subc (bodyOf Try.prog 25) [1, 1, 1]) (by kernel_rfl) ?_
  refine wc_seq' (subc (bodyOf Try.prog 25) [1, 1, 0, 0]) (subc (bodyOf Try.prog 25) [1, 1, 0, 1]) (by kernel_rfl) ?_
  refine wc_upd (n := 200) (T := ⟨fun r i => match r, i with | _, _ => none, fun _ => none, none⟩) (x := .normal) (h1 := h) [(4, (vI 0))]
    (fun q => q) (by intro K'; as_aux_lemma => kernel_rfl) (fun _ q => q) ?_
  refine wc_block' 0 (subc (bodyOf Try.prog 25) [1, 1, 0, 1, 0]) (by kernel_rfl) ?_
  refine wc_once (subc (bodyOf Try.prog 25) [1, 1, 0, 1, 0, 0]) (by kernel_rfl) ?_
  obtain ⟨_, _, sn4232, rfl, rfl⟩ := rvalid_nil h
  refine wc_upd (n := 200) (T := ⟨fun r i => match r, i with | 3, 1 => some ((vB false), h) | _, _ => none, fun _ => none, none⟩) (x := (.exit 0)) (h1 := h) [(5, vN), (6, (vB false)), (7, (vB false)), (8, vZ), (9, vZ), (10, vZ), (11, vZ), (12, vZ), (13, vZ), (14, (vB false))]
    (fun q => SoundCall Try.prog 41 #[vN] h (vB false) h ∧ q) (by intro K'; as_aux_lemma => kernel_rfl) (fun _ q => ⟨sn4232, q⟩) ?_
  refine wc_upd (n := 200) (T := ⟨fun r i => match r, i with | _, _ => none, fun _ => none, none⟩) (x := .ret) (h1 := h) [(31, (vI 0)), (2, (vI 0))]
    (fun q => q) (by intro K'; as_aux_lemma => kernel_rfl) (fun _ q => q) ?_
  refine end_at (T := ⟨fun _ _ => none, fun _ => none, none⟩) (A := K (vI 0) h) (by kernel_rfl) ?_
  exact hK _ _ (⟨rfl, (Ext.refl h)⟩)
set_option maxHeartbeats 4000000 in
theorem nil_27 (h : Heap)  : WCall Try.prog 27 #[(Value.pointer none)] h (fun v h1 => v = (Value.agg #[(vI 0), (vI 0)]) ∧ Ext h h1) := by
  suffices H : ∀ K : Value → Heap → Prop, (∀ v h1, (fun v h1 => v = (Value.agg #[(vI 0), (vI 0)]) ∧ Ext h h1) v h1 → K v h1) → WCall Try.prog 27 #[(Value.pointer none)] h K from H _ fun _ _ q => q
  intro K hK
  refine wcall_at { tmps := #[vN, vZ, vZ, vZ, vZ, vZ, vZ, vZ, vZ, vZ, vZ], defers := [] } (by kernel_rfl) ?_
  obtain ⟨b4236, eb4237⟩ : ∃ zq, zq = h.size := ⟨_, rfl⟩
  obtain ⟨h4234, e4235⟩ : ∃ zq, zq = h.push (.cells #[(vI 0), (vI 0)] 29 (0, 0)) := ⟨_, rfl⟩
  have f4238 := push_new e4235
  rw [← eb4237] at f4238
  have x4239 : Ext h h4234 := by rw [e4235]; exact Ext.push _ _
  have o4240 : h.size ≤ b4236 := by have := (Ext.refl h).size; omega
  have x4241 := (Ext.refl h).trans x4239
  obtain ⟨_, _, sn4243, rfl, rfl⟩ := rvalid_nil h4234
  obtain ⟨h4245, e4246⟩ : ∃ zq, zq = h4234.setIfInBounds b4236 (.cells #[(vI 0), (vI 0)] 29 (0, 0)) := ⟨_, rfl⟩
  have f4247 := set_same e4246 f4238
  have x4249 := Ext.setNew x4241 e4246 o4240
  refine wc_upd (n := 200) (T := ⟨fun r i => match r, i with | 0, 0 => some ((vP b4236 0), h4234) | 1, 1 => some ((vB false), h4234) | 2, 1 => some (undef, h4245) | _, _ => none, fun _ => none, none⟩) (x := .ret) (h1 := h4245) [(2, (vP b4236 0)), (3, vN), (4, (vB false)), (5, (vB true)), (6, (vA #[(vI 0), (vI 0)]))]
    (fun q => ((vP b4236 0) = (Value.pointer (some ⟨h.size, 0, none⟩)) ∧ h4234 = h.push (.cells #[(vI 0), (vI 0)] 29 (0, 0))) ∧ SoundCall Try.prog 41 #[vN] h4234 (vB false) h4234 ∧ (storeT Try.prog h4234 29 (vP b4236 0) (vA #[(vI 0), (vI 0)]) = some h4245 ∧ (undef : Value) = undef) ∧ q) (by intro K'; as_aux_lemma => kernel_rfl) (fun _ q => ⟨⟨by rw [eb4237], e4235⟩, sn4243, ⟨by rw [e4246]; exact store_cells size29 rfl f4238 (by decide) (by simp) rfl (by kernel_rfl), rfl⟩, q⟩) ?_
  refine end_at (T := ⟨fun _ _ => none, fun _ => none, some [(vA #[(vI 0), (vI 0)])]⟩) (A := (loadT Try.prog h4245 29 (vP b4236 0) = some (vA #[(vI 0), (vI 0)]) ∧ True) ∧ K (vA #[(vI 0), (vI 0)]) h4245) (by kernel_rfl) ?_
  exact ⟨⟨load_agg agg29 size29 f4247 (by simp) (by kernel_rfl), trivial⟩, hK _ _ (⟨rfl, x4249⟩)⟩
set_option maxHeartbeats 4000000 in
theorem nil_28 (h : Heap)  : WCall Try.prog 28 #[(Value.pointer none)] h (fun v h1 => v = (Value.int .u64 0) ∧ Ext h h1) := by
  suffices H : ∀ K : Value → Heap → Prop, (∀ v h1, (fun v h1 => v = (Value.int .u64 0) ∧ Ext h h1) v h1 → K v h1) → WCall Try.prog 28 #[(Value.pointer none)] h K from H _ fun _ _ q => q
  intro K hK
  refine wcall_at { tmps := #[vN, vZ, vZ, vZ, vZ, vZ, vZ, vZ, vZ, vZ, vZ, vZ, vZ, vZ, vZ, vZ, vZ, vZ, vZ, vZ, vZ, vZ, vZ, vZ, vZ, vZ, vZ, vZ], defers := [] } (by kernel_rfl) ?_
  refine wc_seq' (subc (bodyOf Try.prog 28) [0]) (subc (bodyOf Try.prog 28) [1]) (by kernel_rfl) ?_
  refine wc_upd (n := 200) (T := ⟨fun r i => match r, i with | _, _ => none, fun _ => none, none⟩) (x := .normal) (h1 := h) [(2, (Value.int .u64 0))]
    (fun q => q) (by intro K'; as_aux_lemma => kernel_rfl) (fun _ q => q) ?_
  refine wc_seq' (subc (bodyOf Try.prog 28) [1, 0]) (subc (bodyOf Try.prog 28) [1, 1]) (by kernel_rfl) ?_
  refine wc_upd (n := 200) (T := ⟨fun r i => match r, i with | _, _ => none, fun _ => none, none⟩) (x := .normal) (h1 := h) [(3, (Value.int .u64 0))]
    (fun q => q) (by intro K'; as_aux_lemma => kernel_rfl) (fun _ q => q) ?_
  refine wc_seq' (subc (bodyOf Try.prog 28) [1, 1, 0]) (subc (bodyOf Try.prog 28) [1, 1, 1]) (by kernel_rfl) ?_
  refine wc_seq' (subc (bodyOf Try.prog 28) [1, 1, 0, 0]) (subc (bodyOf Try.prog 28) [1, 1, 0, 1]) (by kernel_rfl) ?_
  refine wc_upd (n := 200) (T := ⟨fun r i => match r, i with | _, _ => none, fun _ => none, none⟩) (x := .normal) (h1 := h) [(4, (vI 0))]
    (fun q => q) (by intro K'; as_aux_lemma => kernel_rfl) (fun _ q => q) ?_
  refine wc_block' 0 (subc (bodyOf Try.prog 28) [1, 1, 0, 1, 0]) (by kernel_rfl) ?_
  refine wc_once (subc (bodyOf Try.prog 28) [1, 1, 0, 1, 0, 0]) (by kernel_rfl) ?_
  obtain ⟨_, _, sn4251, rfl, rfl⟩ := rvalid_nil h
  refine wc_upd (n := 200) (T := ⟨fun r i => match r, i with | 3, 1 => some ((vB false), h) | _, _ => none, fun _ => none, none⟩) (x := (.exit 0)) (h1 := h) [(5, vN), (6, (vB false)), (7, (vB false)), (8, vZ), (9, vZ), (10, vZ), (11, vZ), (12, vZ), (13, vZ), (14, (vB false))]
    (fun q => SoundCall Try.prog 41 #[vN] h (vB false) h ∧ q) (by intro K'; as_aux_lemma => kernel_rfl) (fun _ q => ⟨sn4251, q⟩) ?_
  refine wc_upd (n := 200) (T := ⟨fun r i => match r, i with | _, _ => none, fun _ => none, none⟩) (x := .ret) (h1 := h) [(27, (Value.int .u64 0)), (2, (Value.int .u64 0))]
    (fun q => q) (by intro K'; as_aux_lemma => kernel_rfl) (fun _ q => q) ?_
  refine end_at (T := ⟨fun _ _ => none, fun _ => none, none⟩) (A := K (Value.int .u64 0) h) (by kernel_rfl) ?_
  exact hK _ _ (⟨rfl, (Ext.refl h)⟩)
set_option maxHeartbeats 4000000 in
theorem nil_22 (h : Heap)  : WCall Try.prog 22 #[(Value.pointer none)] h (fun v h1 => v = (Value.pointer none) ∧ Ext h h1) := by
  suffices H : ∀ K : Value → Heap → Prop, (∀ v h1, (fun v h1 => v = (Value.pointer none) ∧ Ext h h1) v h1 → K v h1) → WCall Try.prog 22 #[(Value.pointer none)] h K from H _ fun _ _ q => q
  intro K hK
  refine wcall_at { tmps := #[vN, vZ, vZ, vZ, vZ, vZ, vZ, vZ, vZ, vZ, vZ, vZ, vZ, vZ, vZ, vZ, vZ, vZ, vZ, vZ, vZ, vZ, vZ, vZ, vZ, vZ, vZ, vZ, vZ, vZ], defers := [] } (by kernel_rfl) ?_
  refine wc_seq' (subc (bodyOf Try.prog 22) [0]) (subc (bodyOf Try.prog 22) [1]) (by kernel_rfl) ?_
  refine wc_upd (n := 200) (T := ⟨fun r i => match r, i with | _, _ => none, fun _ => none, none⟩) (x := .normal) (h1 := h) [(2, vN)]
    (fun q => q) (by intro K'; as_aux_lemma => kernel_rfl) (fun _ q => q) ?_
  refine wc_seq' (subc (bodyOf Try.prog 22) [1, 0]) (subc (bodyOf Try.prog 22) [1, 1]) (by kernel_rfl) ?_
  obtain ⟨_, _, sn4254, rfl, rfl⟩ := rvalid_nil h
  refine wc_upd (n := 200) (T := ⟨fun r i => match r, i with | 1, 1 => some ((vB false), h) | _, _ => none, fun _ => none, none⟩) (x := .ret) (h1 := h) [(5, vN), (6, (vB false)), (7, (vB true)), (2, vN)]
    (fun q => SoundCall Try.prog 41 #[vN] h (vB false) h ∧ q) (by intro K'; as_aux_lemma => kernel_rfl) (fun _ q => ⟨sn4254, q⟩) ?_
  refine end_at (T := ⟨fun _ _ => none, fun _ => none, none⟩) (A := K vN h) (by kernel_rfl) ?_
  exact hK _ _ (⟨rfl, (Ext.refl h)⟩)
set_option maxHeartbeats 4000000 in
theorem nil_12 (h : Heap) (k u : Int) (v : Value) : WCall Try.prog 12 #[(Value.pointer none), (vI (k)), v, (vI (u))] h (fun v h1 => v = .tuple #[.bool false, .int .i64 1] ∧ Ext h h1) := by
  suffices H : ∀ K : Value → Heap → Prop, (∀ v h1, (fun v h1 => v = .tuple #[.bool false, .int .i64 1] ∧ Ext h h1) v h1 → K v h1) → WCall Try.prog 12 #[(Value.pointer none), (vI (k)), v, (vI (u))] h K from H _ fun _ _ q => q
  intro K hK
  refine wcall_at { tmps := #[vN, (vI k), v, (vI u), vZ, vZ, vZ, vZ, vZ, vZ, vZ, vZ, vZ, vZ, vZ, vZ, vZ, vZ, vZ, vZ, vZ, vZ, vZ, vZ, vZ, vZ, vZ, vZ, vZ, vZ, vZ, vZ, vZ, vZ, vZ, vZ, vZ, vZ, vZ, vZ, vZ, vZ, vZ, vZ, vZ, vZ, vZ, vZ, vZ, vZ, vZ, vZ, vZ, vZ, vZ, vZ, vZ, vZ, vZ, vZ, vZ], defers := [] } (by kernel_rfl) ?_
  obtain ⟨_, _, sn4257, rfl, rfl⟩ := valid_nil h
  refine wc_upd (n := 200) (T := ⟨fun r i => match r, i with | 1, 1 => some ((vB false), h) | _, _ => none, fun _ => none, none⟩) (x := .ret) (h1 := h) [(8, (vB false)), (9, (vI 0)), (11, vN), (12, (vB false)), (13, (vB true)), (10, (vB true)), (8, (vB false)), (9, (vI 1))]
    (fun q => SoundCall Try.prog 31 #[vN] h (vB false) h ∧ q) (by intro K'; as_aux_lemma => kernel_rfl) (fun _ q => ⟨sn4257, q⟩) ?_
  refine end_at (T := ⟨fun _ _ => none, fun _ => none, none⟩) (A := K (vT #[(vB false), (vI 1)]) h) (by kernel_rfl) ?_
  exact hK _ _ (⟨rfl, (Ext.refl h)⟩)
set_option maxHeartbeats 4000000 in
theorem nil_29 (h : Heap) (k u : Int) (v : Value) : WCall Try.prog 29 #[(Value.pointer none), (vI (k)), v, (vI (u))] h (fun v h1 => v = .tuple #[.bool false, .int .i64 1] ∧ Ext h h1) := by
  suffices H : ∀ K : Value → Heap → Prop, (∀ v h1, (fun v h1 => v = .tuple #[.bool false, .int .i64 1] ∧ Ext h h1) v h1 → K v h1) → WCall Try.prog 29 #[(Value.pointer none), (vI (k)), v, (vI (u))] h K from H _ fun _ _ q => q
  intro K hK
  refine wcall_at { tmps := #[vN, (vI k), v, (vI u), vZ, vZ, vZ, vZ, vZ, vZ, vZ, vZ, vZ, vZ, vZ, vZ, vZ, vZ, vZ, vZ, vZ, vZ, vZ, vZ, vZ, vZ, vZ, vZ, vZ, vZ, vZ, vZ, vZ, vZ, vZ, vZ, vZ, vZ, vZ, vZ, vZ, vZ, vZ, vZ, vZ, vZ, vZ, vZ, vZ, vZ, vZ, vZ, vZ, vZ, vZ, vZ, vZ, vZ, vZ, vZ, vZ, vZ, vZ, vZ, vZ, vZ, vZ, vZ, vZ, vZ, vZ, vZ, vZ, vZ, vZ, vZ, vZ, vZ], defers := [] } (by kernel_rfl) ?_
  refine wc_seq' (subc (bodyOf Try.prog 29) [0]) (subc (bodyOf Try.prog 29) [1]) (by kernel_rfl) ?_
  refine wc_upd (n := 200) (T := ⟨fun r i => match r, i with | _, _ => none, fun _ => none, none⟩) (x := .normal) (h1 := h) [(8, (vB false)), (9, (vI 0))]
    (fun q => q) (by intro K'; as_aux_lemma => kernel_rfl) (fun _ q => q) ?_
  refine wc_seq' (subc (bodyOf Try.prog 29) [1, 0]) (subc (bodyOf Try.prog 29) [1, 1]) (by kernel_rfl) ?_
  obtain ⟨_, _, sn4260, rfl, rfl⟩ := rvalid_nil h
  refine wc_upd (n := 200) (T := ⟨fun r i => match r, i with | 1, 1 => some ((vB false), h) | _, _ => none, fun _ => none, none⟩) (x := .ret) (h1 := h) [(11, vN), (12, (vB false)), (13, (vB true)), (8, (vB false)), (9, (vI 1))]
    (fun q => SoundCall Try.prog 41 #[vN] h (vB false) h ∧ q) (by intro K'; as_aux_lemma => kernel_rfl) (fun _ q => ⟨sn4260, q⟩) ?_
  refine end_at (T := ⟨fun _ _ => none, fun _ => none, none⟩) (A := K (vT #[(vB false), (vI 1)]) h) (by kernel_rfl) ?_
  exact hK _ _ (⟨rfl, (Ext.refl h)⟩)
theorem RefAt.self_some {h : Heap} {F : Nat → Prop} {t : Nat} {m : PropM} (k : RefAt h F t m) : h[t]? = some (.cells (rrow m k.choose) 87 (0, 0)) := k.choose_spec.row
theorem RefAt.self {h : Heap} {F : Nat → Prop} {t : Nat} {m : PropM} (k : RefAt h F t m) : F t := (k.choose_spec.foot t).2 (.inl rfl)
theorem radd_yes (h : Heap) {F : Nat → Prop} {t : Nat} {m : PropM} (hT : RefAt h F t m) (hm : m.ok) (xs : List EntM) (sa : Option Addr) (cp : Nat) (hl : SliceAt h entc 4 xs (.slice sa xs.length cp)) (hlen : xs.length ≤ 1048576) (hlt : ∀ b, blk (.slice sa xs.length cp) b → ¬ b = t) (k u : Int) (h0 : addE m k xs u = 0) : WCall Try.prog 29 #[.pointer (some ⟨t, 0, none⟩), .int .i64 k, .slice sa xs.length cp, .int .i64 u] h
    (fun v h1 => v = .tuple #[.bool (readyB (m.told k.toNat xs u)), .int .i64 0] ∧ Chg (fun b => b = t) h h1 ∧ ∃ F', RefAt h1 F' t (m.told k.toNat xs u) ∧ ∀ b, F' b → F b ∨ h.size ≤ b) := by
  refine (radd_ok h hT hm xs sa cp hl hlen hlt k u).mono fun v h1 q => ?_
  obtain ⟨q1, q2, _, q4⟩ := q
  have e : addM m k xs u = m.told k.toNat xs u := by unfold addM; rw [if_pos h0]
  rw [e] at q4
  rw [h0] at q1
  exact ⟨q1, q2, q4⟩
theorem radd_no (h : Heap) {F : Nat → Prop} {t : Nat} {m : PropM} (hT : RefAt h F t m) (hm : m.ok) (xs : List EntM) (sa : Option Addr) (cp : Nat) (hl : SliceAt h entc 4 xs (.slice sa xs.length cp)) (hlen : xs.length ≤ 1048576) (hlt : ∀ b, blk (.slice sa xs.length cp) b → ¬ b = t) (k u : Int) (h0 : ¬ addE m k xs u = 0) : WCall Try.prog 29 #[.pointer (some ⟨t, 0, none⟩), .int .i64 k, .slice sa xs.length cp, .int .i64 u] h
    (fun v h1 => v = .tuple #[.bool false, .int .i64 (addE m k xs u)] ∧ Ext h h1) := by
  refine (radd_ok h hT hm xs sa cp hl hlen hlt k u).mono fun v h1 q => ?_
  obtain ⟨q1, _, q3, _⟩ := q
  rw [decide_eq_false h0] at q1
  exact ⟨q1, q3 h0⟩
theorem rvalues_yes (h : Heap) {F : Nat → Prop} {t : Nat} {m : PropM} (hT : RefAt h F t m) (hm : m.ok) (hr : readyB m = true) : WCall Try.prog 23 #[.pointer (some ⟨t, 0, none⟩)] h
    (fun v h1 => ∃ oa oc, v = .tuple #[.slice oa (valuesM m).length oc, .int .i64 0] ∧ OwnAt h1 38 entc (valuesM m) (.slice oa (valuesM m).length oc) ∧ Ext h h1 ∧ ∀ b, blk (.slice oa (valuesM m).length oc) b → h.size ≤ b) := by
  refine (rvalues_ok h hT hm).mono fun v h1 q => ?_
  obtain ⟨_, q2, q3⟩ := q
  obtain ⟨oa, oc, e, o, w⟩ := q3 hr
  exact ⟨oa, oc, e, o, q2, w⟩
theorem rvalues_no (h : Heap) {F : Nat → Prop} {t : Nat} {m : PropM} (hT : RefAt h F t m) (hm : m.ok) (hr : readyB m = false) : WCall Try.prog 23 #[.pointer (some ⟨t, 0, none⟩)] h (fun v h1 => v = .tuple #[.slice none 0 0, .int .i64 9] ∧ Ext h h1) :=
  (rvalues_ok h hT hm).mono fun v h1 q => ⟨q.1 hr, q.2.1⟩
theorem rnew_yes (h : Heap) (n rd nd frm : Int) (h0 : newE n rd nd frm = 0) : WCall Try.prog 21 #[.int .i64 n, .agg #[.int .i64 rd, .int .i64 nd], .int .i64 frm] h
    (fun v h1 => ∃ b F, v = .tuple #[.pointer (some ⟨b, 0, none⟩), .int .i64 0] ∧ RefAt h1 F b (newM n rd nd frm) ∧ Ext h h1 ∧ ∀ z, F z → h.size ≤ z) :=
  (rnew_ok h n rd nd frm).mono fun v h1 q => q.2 h0
theorem rnew_no (h : Heap) (n rd nd frm : Int) (h0 : ¬ newE n rd nd frm = 0) : WCall Try.prog 21 #[.int .i64 n, .agg #[.int .i64 rd, .int .i64 nd], .int .i64 frm] h
    (fun v h1 => v = .tuple #[.pointer none, .int .i64 2] ∧ Ext h h1) := (rnew_ok h n rd nd frm).mono fun v h1 q => q.1 h0
theorem wc_cut {P : Program} {ro : Option Nat} {c : Code} {a : Act} {h : Heap} {K : Exit → Act → Heap → Prop} (d e : Code) (hc : c = .seq d e) (J : Act → Heap → Prop) (h1 : WCode P ro d a h fun x a1 h1 => match x with | .normal => J a1 h1 | x => K x a1 h1) (h2 : ∀ a1 h1, J a1 h1 → WCode P ro e a1 h1 K) : WCode P ro c a h K := by
  subst hc
  refine wc_seq (h1.mono fun x a1 h1 q => ?_)
  cases x with
  | normal => exact h2 a1 h1 q
  | _ => exact q
/-- What Values returns, in one. -/
def valL (m : PropM) : List EntM := if readyB m then valuesM m else []
def valE (m : PropM) : Int := if readyB m then 0 else 9
theorem valL_len {m : PropM} (hm : m.ok) : (valL m).length ≤ 4096 := by
  unfold valL
  split
  · exact vals_len hm
  · decide
theorem values_both (h : Heap) {F : Nat → Prop} {t : Nat} {m : PropM} (hT : PropAt h F t m) (hm : m.ok) : WCall Try.prog 13 #[.pointer (some ⟨t, 0, none⟩)] h
    (fun v h1 => ∃ oa oc, v = .tuple #[.slice oa (valL m).length oc, .int .i64 (valE m)] ∧ OwnAt h1 38 entc (valL m) (.slice oa (valL m).length oc) ∧ Ext h h1 ∧ ∀ b, blk (.slice oa (valL m).length oc) b → h.size ≤ b) := by
  unfold valL valE
  cases hr : readyB m with
  | true => rw [if_pos rfl, if_pos rfl]; exact values_yes h hT hm hr
  | false =>
    rw [if_neg (by decide), if_neg (by decide)]
    exact (values_no h hT hm hr).mono fun v h1 q => ⟨none, 0, q.1, .inl ⟨rfl, rfl⟩, q.2, fun b hb => hb.elim⟩
theorem rvalues_both (h : Heap) {F : Nat → Prop} {t : Nat} {m : PropM} (hT : RefAt h F t m) (hm : m.ok) : WCall Try.prog 23 #[.pointer (some ⟨t, 0, none⟩)] h
    (fun v h1 => ∃ oa oc, v = .tuple #[.slice oa (valL m).length oc, .int .i64 (valE m)] ∧ OwnAt h1 38 entc (valL m) (.slice oa (valL m).length oc) ∧ Ext h h1 ∧ ∀ b, blk (.slice oa (valL m).length oc) b → h.size ≤ b) := by
  unfold valL valE
  cases hr : readyB m with
  | true => rw [if_pos rfl, if_pos rfl]; exact rvalues_yes h hT hm hr
  | false =>
    rw [if_neg (by decide), if_neg (by decide)]
    exact (rvalues_no h hT hm hr).mono fun v h1 q => ⟨none, 0, q.1, .inl ⟨rfl, rfl⟩, q.2, fun b hb => hb.elim⟩
end C14
