/- The nodes of a set, collected. -/
import Derived.Test.YtbjehneffpbkeaaDoorKi
import Derived.KernelRfl
open Go Go.AM Go.Proofs
namespace C11
theorem agg41 : isAggA Tryd.prog 41 = some false := by kernel_rfl
theorem size41 : (Tryd.prog.info? 41).map (·.size) = some 1 := by kernel_rfl
theorem filter_head (P Q : Nat → Bool) (k r : Nat) (hk : P k = true) (hlt : ∀ i, i < k → P i = false) (hq : ∀ i, Q i = (P i && decide (i ≠ k))) : (List.range (k + 1 + r)).filter P = k :: (List.range (k + 1 + r)).filter Q := by
  have h1 : (List.range k).filter P = [] := List.filter_eq_nil_iff.2 fun i hi => by rw [hlt i (List.mem_range.1 hi)]; decide
  have h2 : (List.range k).filter Q = [] := List.filter_eq_nil_iff.2 fun i hi => by rw [hq, hlt i (List.mem_range.1 hi)]; simp
  have h3 : ((List.range r).map fun i => k + 1 + i).filter Q = ((List.range r).map fun i => k + 1 + i).filter P := by
    refine List.filter_congr fun i hi => ?_
    obtain ⟨j, _, rfl⟩ := List.mem_map.1 hi
    rw [hq, decide_eq_true (by omega), Bool.and_true]
  have h4 : Q k = false := by rw [hq]; simp
  rw [List.range_add, List.range_succ, List.filter_append, List.filter_append, List.filter_append, List.filter_append, h1, h2, h3]
  simp [List.filter_cons, hk, h4]
theorem low_bits {s : Nat} (h0 : s ≠ 0) (h : s < 2 ^ 64) (i : Nat) : (s &&& (s - 1)).testBit i = (s.testBit i && decide (i ≠ Lib.ctz 64 s)) ∧ (i < Lib.ctz 64 s → s.testBit i = false) ∧ s.testBit (Lib.ctz 64 s) = true := by
  obtain ⟨m, hm, hk⟩ := Lib.ctzFrom_spec 64 s (by omega) h
  have e : Lib.ctz 64 s = Lib.ctzFrom 64 s := by simp [Lib.ctz, h0]
  rw [← e] at hm hk
  obtain ⟨k, hk'⟩ : ∃ k, k = Lib.ctz 64 s := ⟨_, rfl⟩
  rw [← hk'] at hm hk ⊢
  have hp := Nat.two_pow_pos k
  have e1 : s = 2 ^ k * (2 * m + 1) + 0 := by omega
  have e2 : s - 1 = 2 ^ k * (2 * m) + (2 ^ k - 1) := by
    have : 2 ^ k * (2 * m + 1) = 2 ^ k * (2 * m) + 2 ^ k := by rw [Nat.mul_add, Nat.mul_one]
    omega
  have t1 : ∀ j, s.testBit j = if j < k then false else (2 * m + 1).testBit (j - k) := fun j => by
    rw [e1, Nat.testBit_two_pow_mul_add _ hp]; simp
  have t2 : ∀ j, (s - 1).testBit j = if j < k then (2 ^ k - 1).testBit j else (2 * m).testBit (j - k) := fun j => by
    rw [e2, Nat.testBit_two_pow_mul_add _ (by omega)]
  refine ⟨?_, fun hi => by rw [t1, if_pos hi], by rw [t1, if_neg (by omega), Nat.sub_self]; simp⟩
  rw [Nat.testBit_and, t1, t2]
  by_cases hi : i < k
  · rw [if_pos hi]; simp
  · rw [if_neg hi, if_neg hi]
    obtain ⟨j, hj⟩ : ∃ j, j = i - k := ⟨_, rfl⟩
    rw [← hj]
    cases j with
    | zero => rw [decide_eq_false (by omega)]; simp
    | succ j =>
      rw [decide_eq_true (by omega), Nat.testBit_succ, Nat.testBit_succ]
      rw [show (2 * m + 1) / 2 = m by omega, show 2 * m / 2 = m by omega]
      simp
theorem nodes_step {s : Int} (hs : 0 < s ∧ s ≤ 18446744073709551615) : nodesI s = tz s :: nodesI (uand s (usub s 1)) ∧ 0 ≤ uand s (usub s 1) ∧ uand s (usub s 1) ≤ 18446744073709551615 := by
  obtain ⟨x, rfl⟩ : ∃ x : Nat, s = (x : Int) := ⟨s.toNat, by omega⟩
  have e : usub (x : Int) 1 = ((x - 1 : Nat) : Int) := by simp only [usub, IntKind.wrap_u64]; omega
  have e2 : uand (x : Int) (usub (x : Int) 1) = ((x &&& (x - 1) : Nat) : Int) := by rw [e, uand_nat (by omega) (by omega)]
  refine ⟨?_, uand_range _ _⟩
  rw [e2]
  have hx : x < 2 ^ 64 := by omega
  have hk := (Lib.lowest_bit 64 x (by omega) hx).2
  have hb := low_bits (s := x) (by omega) hx
  unfold nodesI nodesP tz
  simp only [Int.toNat_natCast]
  have hf := filter_head x.testBit (x &&& (x - 1)).testBit (Lib.ctz 64 x) (63 - Lib.ctz 64 x) (hb 0).2.2 (fun i hi => (hb i).2.1 hi) (fun i => (hb i).1)
  rw [show Lib.ctz 64 x + 1 + (63 - Lib.ctz 64 x) = 64 by omega] at hf
  rw [hf, List.map_cons]
theorem nodes_zero : nodesI 0 = [] := by decide +kernel
/-- The loop over nodes, that collects them. -/
noncomputable def noLoop (bs dv : Nat) (ga0 ga1 ga3 ga4 ga5 ga6 ga7 ga8 ga9 ga10 ga11 ga12 : Value) : Loop := { state := .ready, pending := none, fn := 0, tmps := #[ga0, ga1, (.pointer (some ⟨bs, 0, none⟩)), ga3, ga4, ga5, ga6, ga7, ga8, ga9, ga10, ga11, ga12], params := #[7], assign := subc (bodyOf Tryd.prog 44) [1, 0, 1, 0, 0], body := subc (bodyOf Tryd.prog 44) [1, 0, 1, 0, 1], defers := dv }
theorem OwnAt_notloop {α : Type} {h : Heap} {f : α → Array Value} {e : TypeId} {xs : List α} {v : Value} (k : OwnAt h e f xs v) {l : Nat} {L : Loop} (hl : At h l (.loop L)) (b : Nat) (hb : blk v b) : ¬ b = l := by
  rintro rfl
  have hl' : h[b]? = some (.loop L) := hl
  rcases k with ⟨rfl, k⟩ | ⟨b', rfl, hx, k⟩ | ⟨b', rfl, hx, k⟩
  · exact hb.elim
  · cases hb; rw [hl'] at k; cases k
  · cases hb; rw [hl'] at k; cases k
set_option maxHeartbeats 4000000 in
theorem yield_no (h : Heap) (l bs dv : Nat) (ga0 ga1 ga3 ga4 ga5 ga6 ga7 ga8 ga9 ga10 ga11 ga12 : Value) (x : Int) (out : List Int) (oa : Option Addr) (oc : Nat) (hl : At h l (.loop (noLoop bs dv ga0 ga1 ga3 ga4 ga5 ga6 ga7 ga8 ga9 ga10 ga11 ga12))) (hb : h[bs]? = some (.cells #[(Value.slice oa (out.length) (oc))] 41 (0, 0))) (ho : OwnAt h 3 icell out (Value.slice oa (out.length) (oc))) (hne : l ≠ bs) (hlen : out.length ≤ 100000) : ∃ h', SoundYield Tryd.prog l #[(vI (x))] h (.bool true) h' ∧ (fun h' => At h' l (.loop (noLoop bs dv ga0 ga1 ga3 ga4 ga5 ga6 ga7 ga8 ga9 ga10 ga11 ga12)) ∧ ∃ oa' oc', At h' bs (.cells #[.slice oa' (out ++ [x]).length oc'] 41 (0, 0)) ∧ OwnAt h' 3 icell (out ++ [x]) (.slice oa' (out ++ [x]).length oc') ∧ Chg (fun b => b = l ∨ b = bs ∨ blk (Value.slice oa (out.length) (oc)) b) h h' ∧ ∀ b, blk (.slice oa' (out ++ [x]).length oc') b → h.size ≤ b) h' := by
  obtain ⟨O, eO⟩ : ∃ O : Nat → Prop, O = (fun b => b = l ∨ b = bs ∨ blk (Value.slice oa (out.length) (oc)) b) := ⟨_, rfl⟩
  have nol := OwnAt_notloop ho hl
  have oO : ∀ b, blk (Value.slice oa (out.length) (oc)) b → O b := by intro b hb; rw [eO]; exact .inr (.inr hb)
  have oB : O bs := by rw [eO]; exact .inr (.inl rfl)
  have oL : ∀ b, b = l → O b := by intro b hb; rw [eO]; exact .inl hb
  have neLB : ∀ zz, (fun q => q = l) zz → ¬ zz = bs := by intro zz hz ez; have hz' : zz = l := hz; exact hne (by omega)
  refine w_yield (K := (fun h' => At h' l (.loop (noLoop bs dv ga0 ga1 ga3 ga4 ga5 ga6 ga7 ga8 ga9 ga10 ga11 ga12)) ∧ ∃ oa' oc', At h' bs (.cells #[.slice oa' (out ++ [x]).length oc'] 41 (0, 0)) ∧ OwnAt h' 3 icell (out ++ [x]) (.slice oa' (out ++ [x]).length oc') ∧ Chg (fun b => b = l ∨ b = bs ∨ blk (Value.slice oa (out.length) (oc)) b) h h' ∧ ∀ b, blk (.slice oa' (out ++ [x]).length oc') b → h.size ≤ b)) hl rfl rfl { tmps := #[ga0, ga1, (vP bs 0), ga3, ga4, ga5, ga6, (vI (x)), ga8, ga9, ga10, ga11, ga12], defers := [] } (by kernel_rfl) ?_
  show WCode Tryd.prog (some l) (subc (bodyOf Tryd.prog 44) [1, 0, 1, 0, 0]) _ _ _
  refine wc_upd (n := 200) (T := ⟨fun r i => match r, i with | _, _ => none, fun _ => none, none⟩) (x := .normal) (h1 := h) [(5, (vI (x)))]
    (fun q => q) (by intro K'; kernel_rfl) (fun _ q => q) ?_
  refine ⟨rfl, _, hl, rfl, ?_⟩
  obtain ⟨h861, e862⟩ : ∃ zq, zq = h.setIfInBounds l (.loop { noLoop bs dv ga0 ga1 ga3 ga4 ga5 ga6 ga7 ga8 ga9 ga10 ga11 ga12 with state := .busy }) := ⟨_, rfl⟩
  have p863 : At h861 l (.loop { noLoop bs dv ga0 ga1 ga3 ga4 ga5 ga6 ga7 ga8 ga9 ga10 ga11 ga12 with state := .busy }) := set_same e862 hl
  have f864 := set_other e862 hb (neLB _ rfl)
  have p865 := ho.keep fun b r hb q => (Chg.set e862).same b r q (nol b hb)
  have x866 := (Chg.refl (O := O) h).then (Chg.set e862) (fun b hb => .inl (oL b hb))
  rw [← e862]
  obtain ⟨b869, eb870⟩ : ∃ zq, zq = h861.size := ⟨_, rfl⟩
  obtain ⟨h867, e868⟩ : ∃ zq, zq = h861.push (.cells #[(vI (x))] 3 (0, 0)) := ⟨_, rfl⟩
  have f871 := push_new e868
  rw [← eb870] at f871
  have x875 : Ext h861 h867 := by rw [e868]; exact Ext.push _ _
  have o876 : h.size ≤ b869 := by have := x866.size; omega
  have f877 := x875 _ _ f864
  have p878 := p863.keep fun b r _ q => x875 b r q
  have p879 := p865.keep fun b r _ q => x875 b r q
  have x880 := x866.trans (Chg.ext x875)
  obtain ⟨w881, h882, e883, p884, c885, n886, z887⟩ := own_append und41 sizeb3 zero3 rfl (by decide) icell_size (x := (x : Int)) p879 f871 rfl (by omega) (by unfold maxLen; omega)
  obtain ⟨a888, c889, rfl⟩ := (p884.slice icell_size).len
  have z890 : h.size ≤ h867.size := x880.size
  have x891 := x880.then c885 (fun b hb => .inl (oO b hb))
  have f892 := c885.same _ _ f877 (fun hb => p879.ne f877 (by decide) hb rfl)
  have p894 := p878.keep fun b r hb q => c885.same b r q ((fun b hb hb2 => nol b hb2 hb) b hb)
  have n896 : ∀ zz, blk (Value.slice a888 ((out ++ [(x : Int)]).length) (c889)) zz → ¬ zz = bs := fun zz hz ez => by have := n886 zz hz; have := row_lt f877; omega
  have n898 : ∀ zz, blk (Value.slice a888 ((out ++ [(x : Int)]).length) (c889)) zz → ¬ (fun q => q = l) zz := fun zz hz ez => by have := n886 zz hz; have := p878.blk_lt ez; omega
  have o899 : ∀ zz, blk (Value.slice a888 ((out ++ [(x : Int)]).length) (c889)) zz → h.size ≤ zz := fun zz hz => by have := n886 zz hz; have := z890; omega
  obtain ⟨h900, e901⟩ : ∃ zq, zq = h882.setIfInBounds bs (.cells #[(Value.slice a888 ((out ++ [(x : Int)]).length) (c889))] 41 (0, 0)) := ⟨_, rfl⟩
  have f902 := set_same e901 f892
  have p905 := p894.keep fun b r hb q => (Chg.set e901).same b r q (neLB b hb)
  have p906 := p884.keep fun b r hb q => (Chg.set e901).same b r q (n896 b hb)
  have x907 := x891.then (Chg.set e901) (fun b hb => by subst hb; exact (.inl oB))
  refine wc_upd (n := 200) (T := ⟨fun r i => match r, i with | 3, 0 => some ((Value.slice oa (out.length) (oc)), h861) | 3, 2 => some ((Value.slice (some ⟨b869, 0, none⟩) 1 1), h867) | 3, 3 => some ((Value.slice a888 ((out ++ [(x : Int)]).length) (c889)), h882) | 3, 4 => some (undef, h900) | _, _ => none, fun _ => none, none⟩) (x := .normal) (h1 := h900) [(8, (Value.slice oa (out.length) (oc))), (9, (vI (x))), (10, (Value.slice (some ⟨b869, 0, none⟩) 1 1)), (11, (Value.slice a888 ((out ++ [(x : Int)]).length) (c889)))]
    (fun q => (loadT Tryd.prog h861 41 (vP bs 0) = some (Value.slice oa (out.length) (oc)) ∧ h861 = h861) ∧ ((Value.slice (some ⟨b869, 0, none⟩) 1 1) = (Value.slice (some ⟨h861.size, 0, none⟩) 1 1) ∧ h867 = h861.push (.cells #[(vI (x))] 3 (0, 0))) ∧ appendA Tryd.prog h867 #[41, 41] #[(Value.slice oa (out.length) (oc)), (Value.slice (some ⟨b869, 0, none⟩) 1 1)] = some ((Value.slice a888 ((out ++ [(x : Int)]).length) (c889)), h882) ∧ (storeT Tryd.prog h882 41 (vP bs 0) (Value.slice a888 ((out ++ [(x : Int)]).length) (c889)) = some h900 ∧ (undef : Value) = undef) ∧ q) (by intro K'; kernel_rfl) (fun _ q => ⟨⟨load_cell agg41 f864 rfl, rfl⟩, ⟨by rw [eb870], e868⟩, e883, ⟨by rw [e901]; exact store_cells size41 rfl f892 (by decide) (by simp) rfl (by kernel_rfl), rfl⟩, q⟩) ?_
  refine ⟨rfl, _, p905, ?_⟩
  obtain ⟨h908, e909⟩ : ∃ zq, zq = h900.setIfInBounds l (.loop { ({ noLoop bs dv ga0 ga1 ga3 ga4 ga5 ga6 ga7 ga8 ga9 ga10 ga11 ga12 with state := .busy } : Loop) with state := .ready, pending := none }) := ⟨_, rfl⟩
  have p910 : At h908 l (.loop { ({ noLoop bs dv ga0 ga1 ga3 ga4 ga5 ga6 ga7 ga8 ga9 ga10 ga11 ga12 with state := .busy } : Loop) with state := .ready, pending := none }) := set_same e909 p905
  have f911 := set_other e909 f902 (neLB _ rfl)
  have p913 := p906.keep fun b r hb q => (Chg.set e909).same b r q (n898 b hb)
  have x914 := x907.then (Chg.set e909) (fun b hb => .inl (oL b hb))
  rw [← e909]
  rw [eO] at x914
  exact ⟨p910, _, _, f911, p913, x914, o899⟩
set_option maxHeartbeats 4000000 in
theorem each_no (h : Heap) (hg : At h 0 tabRow) (s : Int) (hs : 0 ≤ s ∧ s ≤ 18446744073709551615) (l bs dv bx : Nat) (ga0 ga1 ga3 ga4 ga5 ga6 ga7 ga8 ga9 ga10 ga11 ga12 : Value) (hl : At h l (.loop (noLoop bs dv ga0 ga1 ga3 ga4 ga5 ga6 ga7 ga8 ga9 ga10 ga11 ga12))) (hb : At h bs (.cells #[.slice none 0 0] 41 (0, 0))) (hx : h[bx]? = some (.cells #[.int .u64 s] 22 (0, 0))) (hne : l ≠ bs) (n0 : 0 ≠ bs) : WCall Tryd.prog 42 #[(Value.func (.yield l) #[] #[]), (vP bx 0)] h (fun _ h1 => ∃ (oa : Option Addr) (oc : Nat), At h1 l (.loop (noLoop bs dv ga0 ga1 ga3 ga4 ga5 ga6 ga7 ga8 ga9 ga10 ga11 ga12)) ∧ At h1 bs (.cells #[.slice oa (nodesI s).length oc] 41 (0, 0)) ∧ OwnAt h1 3 icell (nodesI s) (.slice oa (nodesI s).length oc) ∧ Chg (fun b => b = l ∨ b = bs) h h1 ∧ ∀ zz, blk (.slice oa (nodesI s).length oc) zz → h.size ≤ zz) := by
  have ll := hl.blk_lt rfl
  have lb := hb.blk_lt rfl
  have h0 : ∀ b, b = 0 → ¬ (b = l ∨ b = bs) := by intro b hb w; have hg' := hg; subst hb; rcases w with w | w; (subst w; have := Option.some.inj (hl.symm.trans hg'); cases this); exact n0 w
  suffices H : ∀ K : Value → Heap → Prop, (∀ v h1, (fun _ h1 => ∃ (oa : Option Addr) (oc : Nat), At h1 l (.loop (noLoop bs dv ga0 ga1 ga3 ga4 ga5 ga6 ga7 ga8 ga9 ga10 ga11 ga12)) ∧ At h1 bs (.cells #[.slice oa (nodesI s).length oc] 41 (0, 0)) ∧ OwnAt h1 3 icell (nodesI s) (.slice oa (nodesI s).length oc) ∧ Chg (fun b => b = l ∨ b = bs) h h1 ∧ ∀ zz, blk (.slice oa (nodesI s).length oc) zz → h.size ≤ zz) v h1 → K v h1) → WCall Tryd.prog 42 #[(Value.func (.yield l) #[] #[]), (vP bx 0)] h K from H _ fun _ _ q => q
  intro K hK
  refine wcall_at { tmps := #[(Value.func (.yield l) #[] #[]), (vP bx 0), (Value.tuple #[]), (Value.tuple #[]), (Value.tuple #[]), (Value.tuple #[]), (Value.tuple #[]), (Value.tuple #[]), (Value.tuple #[]), (Value.tuple #[]), (Value.tuple #[]), (Value.tuple #[]), (Value.tuple #[]), (Value.tuple #[]), (Value.tuple #[]), (Value.tuple #[])], defers := [] } (by kernel_rfl) ?_
  refine wc_seq' (subc (bodyOf Tryd.prog 42) [0]) (subc (bodyOf Tryd.prog 42) [1]) (by kernel_rfl) ?_
  refine wc_upd (n := 200) (T := ⟨fun r i => match r, i with | 0, 0 => some ((Value.int .u64 (s)), h) | _, _ => none, fun _ => none, none⟩) (x := .normal) (h1 := h) [(4, (Value.int .u64 (s))), (3, (Value.int .u64 (s)))]
    (fun q => (loadT Tryd.prog h 22 (vP bx 0) = some (Value.int .u64 (s)) ∧ h = h) ∧ q) (by intro K'; kernel_rfl) (fun _ q => ⟨⟨load_cell agg22 hx rfl, rfl⟩, q⟩) ?_
  refine wc_block' 0 (subc (bodyOf Tryd.prog 42) [1, 0]) (by kernel_rfl) ?_
  refine wc_loop' (subc (bodyOf Tryd.prog 42) [1, 0, 0]) (by kernel_rfl) (fun n' a' h' => ∃ (c : Int) (out : List Int) (oa : Option Addr) (oc : Nat) (gb915 : Nat → Value), a' = { tmps := #[(Value.func (.yield l) #[] #[]), (vP bx 0), (Value.tuple #[]), (Value.int .u64 (c)), (Value.int .u64 (s)), (gb915 5), (gb915 6), (gb915 7), (gb915 8), (gb915 9), (gb915 10), (gb915 11), (gb915 12), (gb915 13), (gb915 14), (gb915 15)], defers := [] } ∧ Chg (fun b => b = l ∨ b = bs) h h' ∧ n' = (nodesI c).length ∧ (0 ≤ c ∧ c ≤ 18446744073709551615) ∧ nodesI s = out ++ nodesI c ∧ (out.length + (nodesI c).length ≤ 64) ∧ (out.length ≤ 64) ∧ (∀ zz, blk (Value.slice oa (out.length) (oc)) zz → h.size ≤ zz) ∧ At h' l (.loop (noLoop bs dv ga0 ga1 ga3 ga4 ga5 ga6 ga7 ga8 ga9 ga10 ga11 ga12)) ∧ At h' bs (.cells #[.slice oa out.length oc] 41 (0, 0)) ∧ OwnAt h' 3 icell out (Value.slice oa (out.length) (oc))) ?_ ((nodesI s).length) ⟨s, [], none, 0, (fun i => ([undef, undef, undef, undef, undef, (Value.tuple #[]), (Value.tuple #[]), (Value.tuple #[]), (Value.tuple #[]), (Value.tuple #[]), (Value.tuple #[]), (Value.tuple #[]), (Value.tuple #[]), (Value.tuple #[]), (Value.tuple #[]), (Value.tuple #[])] : List Value).getD i undef), by kernel_rfl, (Chg.refl (O := fun b => b = l ∨ b = bs) h), rfl, hs, rfl, by have := nodesP_len s.toNat 64; unfold nodesI; simp; omega, by simp, fun zz hz => hz.elim, hl, hb, .inl ⟨rfl, rfl⟩⟩
  rintro n' _ h916 ⟨c, out, oa, oc, gb915, rfl, x926, m925, i917, i918, i919, i920, i921, p922, p923, p924⟩
  by_cases c927 : ((c) : Int) = 0
  · refine wc_upd (n := 200) (T := ⟨fun r i => match r, i with | 1, 1 => some ((vB false), h916) | _, _ => none, fun _ => none, none⟩) (x := (.exit 0)) (h1 := h916) [(5, (Value.int .u64 (c))), (6, (vB false))]
      (fun q => (binA Tryd.prog .neq 22 (Value.int .u64 (c)) (Value.int .u64 0) = some (vB false) ∧ h916 = h916) ∧ q) (by intro K'; kernel_rfl) (fun _ q => ⟨⟨cmp_neq (decide_eq_false (not_not_intro c927)), rfl⟩, q⟩) ?_
    have ez : nodesI s = out := by rw [i918, c927, nodes_zero, List.append_nil]
    refine end_at (T := ⟨fun _ _ => none, fun _ => none, none⟩) (A := K (Value.tuple #[]) h916) (by kernel_rfl) ?_
    exact hK _ _ (⟨oa, oc, p922, by rw [ez]; exact p923, by rw [ez]; exact p924, x926, by rw [ez]; exact i921⟩)
  · obtain ⟨_, _, sn929, rfl, rfl⟩ := tz_ok h916 (hg.keep fun b r hb q => x926.same b r q (h0 b hb)) (c) (by omega)
    obtain ⟨h931, s932, p933, oa934, oc935, p936, p937, c938, n939⟩ := yield_no h916 l bs dv ga0 ga1 ga3 ga4 ga5 ga6 ga7 ga8 ga9 ga10 ga11 ga12 (tz (c)) out oa oc p922 p923 p924 hne (by omega)
    have zh931 : h.size ≤ h916.size := x926.size
    have x940 := x926.then c938 (fun b hb => by rcases hb with w | w | w; exact .inl (.inl w); exact .inl (.inr w); exact .inr (i921 b w))
    refine wc_upd (n := 200) (T := ⟨fun r i => match r, i with | 1, 1 => some ((vB true), h916) | 3, 2 => some ((vI (tz (c))), h916) | 3, 3 => some ((vB true), h931) | 2, 2 => some ((Value.int .u64 (usub (c) 1)), h931) | 2, 3 => some ((Value.int .u64 (uand (c) (usub (c) 1))), h931) | _, _ => none, fun _ => none, none⟩) (x := .normal) (h1 := h931) [(5, (Value.int .u64 (c))), (6, (vB true)), (11, (Value.func (.yield l) #[] #[])), (12, (Value.int .u64 (c))), (13, (vI (tz (c)))), (14, (vB true)), (15, (vB false)), (7, (Value.int .u64 (c))), (8, (Value.int .u64 (c))), (9, (Value.int .u64 (usub (c) 1))), (10, (Value.int .u64 (uand (c) (usub (c) 1)))), (3, (Value.int .u64 (uand (c) (usub (c) 1))))]
      (fun q => (binA Tryd.prog .neq 22 (Value.int .u64 (c)) (Value.int .u64 0) = some (vB true) ∧ h916 = h916) ∧ SoundCall Tryd.prog 43 #[(Value.int .u64 (c))] h916 (vI (tz (c))) h916 ∧ SoundYield Tryd.prog l #[(vI (tz (c)))] h916 (vB true) h931 ∧ (binA Tryd.prog .sub 22 (Value.int .u64 (c)) (Value.int .u64 1) = some (Value.int .u64 (usub (c) 1)) ∧ h931 = h931) ∧ (binA Tryd.prog .and 22 (Value.int .u64 (c)) (Value.int .u64 (usub (c) 1)) = some (Value.int .u64 (uand (c) (usub (c) 1))) ∧ h931 = h931) ∧ q) (by intro K'; kernel_rfl) (fun _ q => ⟨⟨cmp_neq (decide_eq_true c927), rfl⟩, sn929, s932, ⟨sub_raw, rfl⟩, ⟨and_raw, rfl⟩, q⟩) ?_
    have ns := nodes_step (s := c) (by omega)
    have e1 := congrArg List.length ns.1
    simp only [List.length_cons] at e1
    exact ⟨(nodesI (uand c (usub c 1))).length, by omega, ⟨uand c (usub c 1), (out ++ [(tz (c))]), oa934, oc935, (fun i => ([undef, undef, undef, undef, undef, (Value.int .u64 (c)), (vB true), (Value.int .u64 (c)), (Value.int .u64 (c)), (Value.int .u64 (usub (c) 1)), (Value.int .u64 (uand (c) (usub (c) 1))), (Value.func (.yield l) #[] #[]), (Value.int .u64 (c)), (vI (tz (c))), (vB true), (vB false)] : List Value).getD i undef), by kernel_rfl, x940, rfl, ns.2, by rw [i918, ns.1]; simp, by simp only [List.length_append, List.length_singleton]; omega, by simp only [List.length_append, List.length_singleton]; omega, fun zz hz => by have := n939 zz hz; omega, p933, p936, p937⟩⟩
set_option maxHeartbeats 4000000 in
theorem append_no (h : Heap) (hg : At h 0 tabRow) (s : Int) (hs : 0 ≤ s ∧ s ≤ 18446744073709551615) (bx : Nat) (hx : h[bx]? = some (.cells #[.int .u64 s] 22 (0, 0))) : WCall Tryd.prog 44 #[(Value.slice none 0 0), (Value.func (.func 42) #[] #[(vP bx 0)])] h (fun v h1 => ∃ wa wc, v = .slice wa (nodesI s).length wc ∧ OwnAt h1 3 icell (nodesI s) v ∧ Ext h h1 ∧ ∀ b, blk v b → h.size ≤ b) := by
  suffices H : ∀ K : Value → Heap → Prop, (∀ v h1, (fun v h1 => ∃ wa wc, v = .slice wa (nodesI s).length wc ∧ OwnAt h1 3 icell (nodesI s) v ∧ Ext h h1 ∧ ∀ b, blk v b → h.size ≤ b) v h1 → K v h1) → WCall Tryd.prog 44 #[(Value.slice none 0 0), (Value.func (.func 42) #[] #[(vP bx 0)])] h K from H _ fun _ _ q => q
  intro K hK
  refine wcall_at { tmps := #[(Value.slice none 0 0), (Value.func (.func 42) #[] #[(vP bx 0)]), (Value.tuple #[]), (Value.tuple #[]), (Value.tuple #[]), (Value.tuple #[]), (Value.tuple #[]), (Value.tuple #[]), (Value.tuple #[]), (Value.tuple #[]), (Value.tuple #[]), (Value.tuple #[]), (Value.tuple #[])], defers := [] } (by kernel_rfl) ?_
  refine wc_seq' (subc (bodyOf Tryd.prog 44) [0]) (subc (bodyOf Tryd.prog 44) [1]) (by kernel_rfl) ?_
  obtain ⟨b943, eb944⟩ : ∃ zq, zq = h.size := ⟨_, rfl⟩
  obtain ⟨h941, e942⟩ : ∃ zq, zq = h.push (.cells #[(Value.slice none 0 0)] 41 (0, 0)) := ⟨_, rfl⟩
  have f945 := push_new e942
  rw [← eb944] at f945
  have x947 : Ext h h941 := by rw [e942]; exact Ext.push _ _
  have o948 : h.size ≤ b943 := by have := (Ext.refl h).size; omega
  have f949 := x947 _ _ hx
  have x950 := (Ext.refl h).trans x947
  refine wc_upd (n := 200) (T := ⟨fun r i => match r, i with | 0, 0 => some ((vP b943 0), h941) | _, _ => none, fun _ => none, none⟩) (x := .normal) (h1 := h941) [(2, (vP b943 0)), (4, (Value.slice none 0 0))]
    (fun q => ((vP b943 0) = (Value.pointer (some ⟨h.size, 0, none⟩)) ∧ h941 = h.push (.cells #[(Value.slice none 0 0)] 41 (0, 0))) ∧ q) (by intro K'; kernel_rfl) (fun _ q => ⟨⟨by rw [eb944], e942⟩, q⟩) ?_
  refine wc_seq' (subc (bodyOf Tryd.prog 44) [1, 0]) (subc (bodyOf Tryd.prog 44) [1, 1]) (by kernel_rfl) ?_
  refine wc_seq' (subc (bodyOf Tryd.prog 44) [1, 0, 0]) (subc (bodyOf Tryd.prog 44) [1, 0, 1]) (by kernel_rfl) ?_
  refine wc_upd (n := 200) (T := ⟨fun r i => match r, i with | _, _ => none, fun _ => none, none⟩) (x := .normal) (h1 := h941) [(6, (Value.func (.func 42) #[] #[(vP bx 0)]))]
    (fun q => q) (by intro K'; kernel_rfl) (fun _ q => q) ?_
  refine wc_block' 0 (subc (bodyOf Tryd.prog 44) [1, 0, 1, 0]) (by kernel_rfl) ?_
  obtain ⟨dv, edv⟩ : ∃ zq, zq = h941.size := ⟨_, rfl⟩
  obtain ⟨l, el⟩ : ∃ zq, zq = h941.size + 1 := ⟨_, rfl⟩
  obtain ⟨h9, e9⟩ : ∃ zq, zq = (h941.push (.deferred (some []))).push (.loop (noLoop b943 dv (Value.slice none 0 0) (Value.func (.func 42) #[] #[(vP bx 0)]) (Value.tuple #[]) (Value.slice none 0 0) (Value.tuple #[]) (Value.func (.func 42) #[] #[(vP bx 0)]) (Value.tuple #[]) (Value.tuple #[]) (Value.tuple #[]) (Value.tuple #[]) (Value.tuple #[]) (Value.tuple #[]))) := ⟨_, rfl⟩
  have x9 : Ext h941 h9 := by rw [e9]; exact (Ext.push _ _).trans (Ext.push _ _)
  have pl : At h9 l (.loop (noLoop b943 dv (Value.slice none 0 0) (Value.func (.func 42) #[] #[(vP bx 0)]) (Value.tuple #[]) (Value.slice none 0 0) (Value.tuple #[]) (Value.func (.func 42) #[] #[(vP bx 0)]) (Value.tuple #[]) (Value.tuple #[]) (Value.tuple #[]) (Value.tuple #[]) (Value.tuple #[]) (Value.tuple #[]))) := by rw [e9, el, show h941.size + 1 = (h941.push (.deferred (some []))).size by simp]; exact push_new rfl
  have pd : At h9 dv (.deferred (some [])) := by rw [e9, edv]; exact push_old (b := h941.size) rfl (push_new rfl)
  have sl9 : l < h9.size := pl.blk_lt rfl
  have lb : b943 < h941.size := row_lt f945
  have b0 : h.size ≤ b943 := o948
  have z0 : h.size ≤ h941.size := x950.size
  have z1 : 0 < h.size := hg.blk_lt rfl
  refine wc_range (h1 := h9) (c := (subc (bodyOf Tryd.prog 44) [1, 0, 1, 0])) (g := .tmp 6) (params := #[7]) (assign := subc (bodyOf Tryd.prog 44) [1, 0, 1, 0, 0]) (body := subc (bodyOf Tryd.prog 44) [1, 0, 1, 0, 1]) (by kernel_rfl) 42 #[] #[(.pointer (some ⟨bx, 0, none⟩))] l [{ target := .collected dv, args := #[] }] #[(Value.func (.yield l) #[] #[]), (.pointer (some ⟨bx, 0, none⟩))] (by rfl) (by kernel_rfl) (by kernel_rfl) (by kernel_rfl) (by rw [e9, el, edv]; kernel_rfl) ?_
  refine (each_no h9 (hg.keep fun b r _ q => (x950.trans x9) b r q) s hs l b943 dv bx (Value.slice none 0 0) (Value.func (.func 42) #[] #[(vP bx 0)]) (Value.tuple #[]) (Value.slice none 0 0) (Value.tuple #[]) (Value.func (.func 42) #[] #[(vP bx 0)]) (Value.tuple #[]) (Value.tuple #[]) (Value.tuple #[]) (Value.tuple #[]) (Value.tuple #[]) (Value.tuple #[]) pl (x9 _ _ f945) (x9 _ _ f949) (by omega) (by omega)).mono fun _ h8 q => ?_
  obtain ⟨oa, oc, q1, q2, q3, q6, q7⟩ := q
  refine ⟨_, q1, rfl, rfl, ?_⟩
  obtain ⟨h7, e7⟩ : ∃ zq, zq = h8.setIfInBounds l (.loop { noLoop b943 dv (Value.slice none 0 0) (Value.func (.func 42) #[] #[(vP bx 0)]) (Value.tuple #[]) (Value.slice none 0 0) (Value.tuple #[]) (Value.func (.func 42) #[] #[(vP bx 0)]) (Value.tuple #[]) (Value.tuple #[]) (Value.tuple #[]) (Value.tuple #[]) (Value.tuple #[]) (Value.tuple #[]) with state := .exhausted }) := ⟨_, rfl⟩
  rw [← e7]
  have rb : h7[b943]? = some (.cells #[.slice oa (nodesI s).length oc] 41 (0, 0)) := set_other e7 (show h8[b943]? = some _ from q2) (by omega)
  have pd8 : At h8 dv (.deferred (some [])) := q6.same _ _ pd (fun w => by rcases w with w | w <;> omega)
  have pd7 : At h7 dv (.deferred (some [])) := set_other e7 (show h8[dv]? = some _ from pd8) (by omega)
  have o7 := q3.keep fun b r hb q => (Chg.set e7).same b r q (fun w => by have := q7 b hb; omega)
  have x7 : Chg (fun b => b = l ∨ b = b943) h h7 := ((Chg.ext (x950.trans x9)).trans q6).trans ((Chg.set e7).weak fun b hb => .inl hb)
  refine wc_upd (n := 200) (T := ⟨fun r i => match r, i with | 4, 0 => some ((Value.slice oa ((nodesI s).length) (oc)), h7) | _, _ => none, fun _ => none, none⟩) (x := .ret) (h1 := h7) [(12, (Value.slice oa ((nodesI s).length) (oc))), (4, (Value.slice oa ((nodesI s).length) (oc)))]
    (fun q => (loadT Tryd.prog h7 41 (vP b943 0) = some (Value.slice oa ((nodesI s).length) (oc)) ∧ h7 = h7) ∧ q) (by intro K'; kernel_rfl) (fun _ q => ⟨⟨load_cell agg41 rb rfl, rfl⟩, q⟩) ?_
  refine end_mark2 (dv := dv) (Value.slice oa ((nodesI s).length) (oc)) { tmps := #[(Value.slice none 0 0), (Value.func (.func 42) #[] #[(vP bx 0)]), (vP b943 0), (Value.tuple #[]), (Value.slice oa ((nodesI s).length) (oc)), (Value.tuple #[]), (Value.func (.func 42) #[] #[(vP bx 0)]), (Value.tuple #[]), (Value.tuple #[]), (Value.tuple #[]), (Value.tuple #[]), (Value.tuple #[]), (Value.slice oa ((nodesI s).length) (oc))], defers := ([{ target := .collected dv, args := #[] }] ++ []) } (by kernel_rfl) (.inr rfl) rfl pd7 (by kernel_rfl) ?_
  obtain ⟨h6, e6⟩ : ∃ zq, zq = h7.setIfInBounds dv (.deferred none) := ⟨_, rfl⟩
  rw [← e6]
  have o6 := o7.keep fun b r hb q => (Chg.set e6).same b r q (fun w => by have := q7 b hb; omega)
  have x6 : Ext h h6 := (x7.then (Chg.set e6) (fun b hb => .inr (by omega))).toExt fun b hb => by rcases hb with w | w <;> omega
  have z9 : h.size ≤ h9.size := by have := x9.size; omega
  exact hK _ _ ⟨oa, oc, rfl, o6, x6, fun zz hz => by have := q7 zz hz; omega⟩
set_option maxHeartbeats 4000000 in
theorem collect_no (h : Heap) (hg : At h 0 tabRow) (s : Int) (hs : 0 ≤ s ∧ s ≤ 18446744073709551615) (bx : Nat) (hx : h[bx]? = some (.cells #[.int .u64 s] 22 (0, 0))) : WCall Tryd.prog 37 #[(Value.func (.func 42) #[] #[(vP bx 0)])] h (fun v h1 => ∃ wa wc, v = .slice wa (nodesI s).length wc ∧ OwnAt h1 3 icell (nodesI s) v ∧ Ext h h1 ∧ ∀ b, blk v b → h.size ≤ b) := by
  obtain ⟨_, hh955, sn956, a951, c952, rfl, o953, x957, b954⟩ := append_no h (hg.keep fun b r _ q => (Ext.refl h) b r q) s hs _ hx
  have x959 := (Ext.refl h).trans x957
  have z961 : h.size ≤ h.size := (Ext.refl h).size
  have o963 : ∀ zz, blk (Value.slice a951 ((nodesI s).length) (c952)) zz → h.size ≤ zz := fun zz hz => by have := b954 zz hz; omega
  exact hCall_of (n := 200) (T := ⟨fun r i => match r, i with | 1, 1 => some ((Value.slice a951 ((nodesI s).length) (c952)), hh955) | _, _ => none, fun _ => none, none⟩)
    (A := SoundCall Tryd.prog 44 #[(Value.slice none 0 0), (Value.func (.func 42) #[] #[(vP bx 0)])] h (Value.slice a951 ((nodesI s).length) (c952)) hh955 ∧ (fun v h1 => ∃ wa wc, v = .slice wa (nodesI s).length wc ∧ OwnAt h1 3 icell (nodesI s) v ∧ Ext h h1 ∧ ∀ b, blk v b → h.size ≤ b) (Value.slice a951 ((nodesI s).length) (c952)) hh955) (by kernel_rfl) ⟨sn956, ⟨_, _, rfl, o953, x959, o963⟩⟩
set_option maxHeartbeats 4000000 in
theorem nodes_ok (h : Heap) (hg : At h 0 tabRow) (s : Int) (hs : 0 ≤ s ∧ s ≤ 18446744073709551615) : WCall Tryd.prog 29 #[(Value.int .u64 (s))] h (fun v h1 => ∃ wa wc, v = .slice wa (nodesI s).length wc ∧ OwnAt h1 3 icell (nodesI s) v ∧ Ext h h1 ∧ ∀ b, blk v b → h.size ≤ b) := by
  obtain ⟨_, h965, s966, b964, rfl, f967, x968, w969⟩ := nodes_fn h (s)
  have o970 : h.size ≤ b964 := by have := (Ext.refl h).size; omega
  have x971 := (Ext.refl h).trans x968
  obtain ⟨_, hh976, sn977, a972, c973, rfl, o974, x978, b975⟩ := collect_no h965 (hg.keep fun b r _ q => x971 b r q) s hs _ f967
  have x980 := x971.trans x978
  have z982 : h.size ≤ h965.size := x971.size
  have o984 : ∀ zz, blk (Value.slice a972 ((nodesI s).length) (c973)) zz → h.size ≤ zz := fun zz hz => by have := b975 zz hz; omega
  exact hCall_of (n := 200) (T := ⟨fun r i => match r, i with | 1, 1 => some ((Value.func (.func 42) #[] #[(vP b964 0)]), h965) | 1, 2 => some ((Value.slice a972 ((nodesI s).length) (c973)), hh976) | _, _ => none, fun _ => none, none⟩)
    (A := SoundCall Tryd.prog 36 #[(Value.int .u64 (s))] h (Value.func (.func 42) #[] #[(vP b964 0)]) h965 ∧ SoundCall Tryd.prog 37 #[(Value.func (.func 42) #[] #[(vP b964 0)])] h965 (Value.slice a972 ((nodesI s).length) (c973)) hh976 ∧ (fun v h1 => ∃ wa wc, v = .slice wa (nodesI s).length wc ∧ OwnAt h1 3 icell (nodesI s) v ∧ Ext h h1 ∧ ∀ b, blk v b → h.size ≤ b) (Value.slice a972 ((nodesI s).length) (c973)) hh976) (by kernel_rfl) ⟨s966, sn977, ⟨_, _, rfl, o974, x980, o984⟩⟩
end C11
