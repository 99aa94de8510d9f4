/- What the laws share, further. -/
import Derived.Test.YtpagkfbpgppeiaaMq
import Derived.KernelRfl
open Go Go.AM Go.Proofs
namespace C14
theorem agg5 : isAggA Try.prog 5 = some false := by kernel_rfl
theorem agg49 : isAggA Try.prog 49 = some true := by kernel_rfl
theorem size5 : (Try.prog.info? 5).map (·.size) = some 1 := by kernel_rfl
theorem und43 : Try.prog.underlying 43 = some (.slice 5) := by kernel_rfl
theorem told_n (m : PropM) (k : Nat) (l : List EntM) (u : Int) : (m.told k l u).n = m.n := rfl
theorem addE_nil {m : PropM} {k u : Int} (h0 : 0 ≤ k) (h1 : k < m.n) (h2 : 0 ≤ u) (h3 : u ≤ 4096) : addE m k [] u = if (m.ps k.toNat).made = true then 6 else 0 := by
  unfold addE
  rw [if_neg (fun w => by rcases w with w | w | w | w | w; omega; omega; cases w; omega; omega), if_neg (by decide)]
theorem newE_zero {n rd nd frm : Int} (h1 : 1 ≤ n) (h7 : n ≤ 7) (hr : 1 ≤ rd) (hr2 : rd ≤ 1073741824) (hn : 0 ≤ nd) (hn2 : nd < n) (f0 : 0 ≤ frm) (f1 : frm ≤ 4096) : newE n rd nd frm = 0 := by
  unfold newE
  rw [if_neg]
  have : chkB rd nd n = 0 := by unfold chkB; rw [if_neg (by omega), if_neg (by omega), if_neg (by omega)]
  rintro (w | w | w | w)
  · exact w this
  · omega
  · omega
  · omega
theorem mul_i64 {t : TypeId} {a b : Int} (h0 : -9223372036854775808 ≤ a * b) (h1 : a * b ≤ 9223372036854775807) : binA Try.prog .mul t (.int .i64 a) (.int .i64 b) = some (.int .i64 (a * b)) := by
  have : IntKind.i64.wrap (a * b) = a * b := by rw [IntKind.wrap_i64]; omega
  simp [binA, intBinA, this]
theorem same_self (h : Heap) (xs : List EntM) (sa : Option Addr) (ca : Nat) (hl1 : SliceAt h entc 4 xs (.slice sa xs.length ca))  (sb : Option Addr) (cb : Nat) (hl2 : SliceAt h entc 4 xs (.slice sb xs.length cb)) (hlx : xs.length ≤ 9223372036854775807) : WCall Try.prog 18 #[.slice sa xs.length ca, .slice sb xs.length cb] h (fun v h1 => v = .bool true ∧ Ext h h1) :=
  (same_ok h xs sa ca hl1 xs sb cb hl2 hlx hlx).mono fun v h1 q => ⟨by rw [q.1, sameB_refl], q.2⟩
theorem addE_again {m : PropM} {k u : Int} {l : List EntM} (h : addE m k l u = 0) : addE (m.told k.toNat l u) k l u = 6 := by
  obtain ⟨h1, h2, h3, h4, h5⟩ := addE_ok h
  unfold addE
  rw [if_neg (fun w => by
    rcases w with w | w | w | w | w
    · omega
    · exact absurd w (by show ¬ m.n ≤ k; omega)
    · exact absurd (show allowB m.n m.frm l = false from w) (by rw [h2]; decide)
    · omega
    · omega), if_neg (by rw [h4]; decide), if_pos (by simp [PropM.told])]
theorem slice_told {h : Heap} {b : Nat} (x : ToldA) (hr : h[b]? = some (.cells #[.int .i64 x.1.node, .int .i64 x.1.upto, .slice x.2.1 x.1.l.length x.2.2] 49 (0, 0))) : SliceAt h toldc 3 [x] (.slice (some ⟨b, 0, none⟩) 1 1) :=
  .inr ⟨b, 0, 1, _, _, _, rfl, ⟨hr, by decide, by simp, by simp, by simp [flat, toldc]⟩⟩
theorem sub_told {h : Heap} {x : ToldA} (hs : SliceAt h entc 4 x.1.l (.slice x.2.1 x.1.l.length x.2.2)) : SubT h [x] := fun y hy => by rw [List.mem_singleton.1 hy]; exact hs
theorem vals_at {m : PropM} {k : Nat} {x : EntM} (h : (valuesM m)[k]? = some x) : x.slot = begM m + k ∧ x.rd = m.rd ∧ x.nd = m.nd := by
  have hl := (List.getElem?_eq_some_iff.1 h).1
  simp only [valuesM, List.length_map, List.length_range] at hl
  simp only [valuesM, List.getElem?_map, List.getElem?_range hl, Option.map_some, Option.some.injEq] at h
  subst h
  exact ⟨rfl, rfl, rfl⟩
theorem begM_range {m : PropM} (hm : m.ok) : 0 ≤ begM m ∧ begM m ≤ 4096 := by
  have := upM_range hm 7
  have := hm.f0
  have := hm.f1
  unfold begM; omega
theorem storeN_none {h : Heap} {b o : Nat} {c : Array Value} {e : TypeId} {fr : Nat × Nat} (hb : h[b]? = some (.cells c e fr)) (ho : o ≤ c.size) (hf : fr.2 ≤ fr.1) : storeN h (⟨b, o, none⟩ : Addr) (#[] : Array Value).toList = some h := by
  simp only [storeN, hb]
  rw [if_pos ⟨trivial, by simpa using ho, hf, rfl⟩]
  congr 1
  apply Array.ext_getElem?
  intro j
  rw [Array.getElem?_setIfInBounds]
  split
  · rename_i ej; subst ej
    rw [if_pos (row_lt hb)]; exact hb.symm
  · rfl
theorem flat_one_all {α : Type} {f : α → Array Value} (hone : ∀ x, (f x).toList.all (·.oneCell') = true) : ∀ xs : List α, (flat f xs).toList.all (·.oneCell') = true
  | [] => by simp [flat]
  | x :: r => by
    have e : flat f (x :: r) = f x ++ flat f r := by
      have := flat_append (f := f) [x] r
      rw [flat_one] at this; simpa using this
    rw [e, Array.toList_append, List.all_append, hone x, flat_one_all hone r]; rfl
/-- A list is added to a list of one's own. -/
theorem own_append_many {α : Type} {f : α → Array Value} {z : Nat} {P : Program} {h : Heap} {t e : TypeId} {bytes : Nat} {zv : Value} (ht : P.underlying t = some (.slice e)) (hi : (P.info? e).map (fun i => (i.size, i.bytes)) = some (z, bytes)) (hz : zeroA P e = some zv) (hzs : zv.cells.size = z) (hz0 : z ≠ 0) (hf : ∀ x, (f x).size = z) (hone : ∀ x, (f x).toList.all (·.oneCell') = true)
    {xs ys : List α} {v w : Value} (k : OwnAt h e f xs v) (ky : SliceAt h f z ys w) (hby : (xs.length + ys.length) * bytes ≤ 140737488355328) (hml : xs.length + ys.length ≤ maxLen) :
    ∃ v1 h1, appendA P h #[t, t] #[v, w] = some (v1, h1) ∧ OwnAt h1 e f (xs ++ ys) v1 ∧ Chg (blk v) h h1 ∧ (∀ b, blk v1 b → blk v b ∨ h.size ≤ b) := by
  by_cases h0 : ys = []
  · subst h0
    rw [List.append_nil]
    refine ⟨v, h, ?_, k, Chg.refl h, fun b hb => .inl hb⟩
    rcases ky with ⟨rfl, _⟩ | ⟨b2, off2, cp2, c2, e2, fr2, rfl, ky⟩
    · rcases k with ⟨rfl, rfl⟩ | ⟨b, rfl, rfl, k⟩ | ⟨b, rfl, hne, k⟩
      · obtain ⟨i, hi', rfl⟩ := info_of (info_size hi)
        simp only [appendA, ht, hi', hz, newsA, hzs]
        simp [hz0]
      · exact append_none ht (info_size hi) hz hzs hz0 rfl k (by decide) (Nat.le_refl _) (by simp) (by decide)
      · exact append_none ht (info_size hi) hz hzs hz0 rfl k (by decide) (Nat.le_refl _) (by rw [flat_size hf]; omega) (by decide)
    · have hc2 := ky.fits
      simp only [List.length_nil, Nat.zero_mul, Nat.add_zero] at hc2
      rcases k with ⟨rfl, rfl⟩ | ⟨b, rfl, rfl, k⟩ | ⟨b, rfl, hne, k⟩
      · obtain ⟨i, hi', rfl⟩ := info_of (info_size hi)
        have hl := load_all (a := ⟨b2, off2, none⟩) (n := 0 * i.size) ky.row rfl (by simpa using hc2)
        simp only [appendA, ht, hi', hz, newsA, hzs, List.length_nil, hl]
        simp [hz0]
      · exact append_empty ht (info_size hi) hz hzs hz0 k (by decide) (Nat.le_refl _) (by simp) (by decide) ky.row hc2
      · exact append_empty ht (info_size hi) hz hzs hz0 k (by decide) (Nat.le_refl _) (by rw [flat_size hf]; omega) (by decide) ky.row hc2
  · have hn : ys.length ≠ 0 := fun q => h0 (List.eq_nil_of_length_eq_zero q)
    rcases ky with ⟨_, e0⟩ | ⟨b2, off2, cp2, c2, e2, fr2, rfl, ky⟩
    · exact absurd e0 h0
    have hfit := ky.fits
    have hcl := ky.cells
    rcases k with ⟨rfl, rfl⟩ | ⟨b, rfl, rfl, k⟩ | ⟨b, rfl, hne, k⟩
    · refine ⟨_, _, append_nil ht hi hz hzs hz0 ky.row hfit hn (by simpa using hby) (by simpa using hml), .inr (.inr ⟨h.size, by simp, by simpa using h0, ?_⟩), Chg.ext (Ext.push _ _), fun b hb => .inr (have q : h.size = b := (by simpa [blk] using hb); by omega)⟩
      rw [hcl]; simp
    · refine ⟨_, _, append_full (a1 := ⟨b, 0, none⟩) ht hi hz hzs hz0 k rfl (by decide) (.inl (by decide)) (by simp) (by omega) ky.row hfit hn (by simpa using hby) (by simpa using hml), .inr (.inr ⟨h.size, by simp, by simpa using h0, ?_⟩), Chg.ext (Ext.push _ _), fun b hb => .inr (have q : h.size = b := (by simpa [blk] using hb); by omega)⟩
      rw [hcl]; simp
    · have hxn : xs.length ≠ 0 := fun q => hne (List.eq_nil_of_length_eq_zero q)
      refine ⟨_, _, append_grown ht hi hz hzs hz0 k hxn (tsz_of (info_size hi)) (by rw [flat_size hf]; omega) ky.row hfit hn (by rw [hcl]; exact flat_one_all hone ys) hby hml, .inr (.inr ⟨h.size, by simp, by simp [h0], ?_⟩), ?_, fun b hb => .inr (have q : h.size = b := (by simpa [blk] using hb); by omega)⟩
      · rw [hcl, flat_all hf]
        have := push_new (h := h.setIfInBounds b deadRow) (o := .cells (flat f xs ++ flat f ys) e (1, 1)) rfl
        rw [flat_append]
        simpa using this
      · refine ⟨by simp, fun q r hq hn => ?_⟩
        have hqb : b ≠ q := fun e => hn e
        exact push_old rfl (set_other rfl hq hqb)
theorem entc_one (x : EntM) : (entc x).toList.all (·.oneCell') = true := rfl
end C14
