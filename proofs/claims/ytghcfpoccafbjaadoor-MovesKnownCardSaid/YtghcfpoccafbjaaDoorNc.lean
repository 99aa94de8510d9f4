/- Scripts: which are looked at; the table behind one. -/
import Derived.Test.YtghcfpoccafbjaaDoorMh
import Derived.KernelRfl
open Go Go.AM Go.Proofs
namespace C32
theorem size50 : (Tryd.prog.info? 50).map (·.size) = some 7 := by kernel_rfl
theorem und22 : Tryd.prog.underlying 22 = some (.slice 50) := by kernel_rfl
theorem startL_len {l : List MoveM} (h : l.length ≤ 64) (r0 r1 : ByteArray) (f t : Int) : (startL l r0 r1 f t).length ≤ 64 := by
  unfold startL; split
  · rename_i e
    unfold startE at e
    split at e
    · split at e
      · cases e
      · split at e
        · cases e
        · simp; omega
    · cases e
  · exact h
theorem givenL_leq (l : List MoveM) (n : Int) (d : ByteArray) : (givenL l n d).length = l.length := by unfold givenL; split <;> simp
theorem takenL_leq (l : List MoveM) (n : Int) : (takenL l n).length = l.length := by unfold takenL; split <;> simp
theorem givenL_len {l : List MoveM} (h : l.length ≤ 64) (n : Int) (d : ByteArray) : (givenL l n d).length ≤ 64 := by rw [givenL_leq]; exact h
theorem takenL_len {l : List MoveM} (h : l.length ≤ 64) (n : Int) : (takenL l n).length ≤ 64 := by rw [takenL_leq]; exact h
/-- A step of a script. -/
structure StepA where
  k : Int
  rf : ByteArray
  rt : ByteArray
  f : Int
  t : Int
  n : Int
  d : ByteArray
def scell (x : StepA) : Array Value := #[.int .i64 x.k, .string x.rf, .string x.rt, .int .i64 x.f, .int .i64 x.t, .int .i64 x.n, .string x.d]
theorem scell_size (x : StepA) : (scell x).size = 7 := rfl
def I64 (x : Int) : Prop := -9223372036854775808 ≤ x ∧ x ≤ 9223372036854775807
def stepM (l : List MoveM) (s : StepA) : List MoveM := if s.k = 0 then startL l s.rf s.rt s.f s.t else if s.k = 1 then givenL l s.n s.d else if s.k = 2 then takenL l s.n else l
def fillM (xs : List StepA) : List MoveM := xs.foldl stepM []
theorem fill_next {xs : List StepA} {n : Nat} {x : StepA} (hx : xs[n]? = some x) : fillM (xs.take (n + 1)) = stepM (fillM (xs.take n)) x := by
  rw [List.take_add_one, hx]; simp [fillM, List.foldl_append]
theorem stepM_len {l : List MoveM} (h : l.length ≤ 64) (s : StepA) : (stepM l s).length ≤ 64 := by
  unfold stepM; split
  · exact startL_len h _ _ _ _
  · split
    · exact givenL_len h _ _
    · split
      · exact takenL_len h _
      · exact h
theorem fold_inv {α β : Type} {f : α → β → α} {J : α → Prop} (hs : ∀ a b, J a → J (f a b)) : ∀ (l : List β) (a : α), J a → J (l.foldl f a)
  | [], _, h => h
  | b :: l, _, h => fold_inv hs l _ (hs _ b h)
theorem fillM_len (xs : List StepA) : (fillM xs).length ≤ 64 := fold_inv (J := fun l : List MoveM => l.length ≤ 64) (f := stepM) (fun _ s h => stepM_len h s) xs [] (Nat.zero_le _)
/-- The ends of the ranges are no longer than a text can be. -/
def szM (l : List MoveM) : Prop := ∀ m ∈ l, m.rf.size ≤ 9223372036854775807 ∧ m.rt.size ≤ 9223372036854775807
theorem getM_mem {l : List MoveM} {n : Int} (h : findE l n = 0) : getM l n ∈ l := by
  obtain ⟨h1, h2⟩ := findE_zero h
  have hj : (n - 1).toNat < l.length := by omega
  rw [getM_at (List.getElem?_eq_getElem hj) (by omega)]
  exact List.getElem_mem hj
theorem givenE_find {l : List MoveM} {n : Int} {d : ByteArray} (h : givenE l n d = 0) : findE l n = 0 := by
  unfold givenE at h; split at h
  · assumption
  · cases h
theorem takenE_find {l : List MoveM} {n : Int} (h : takenE l n = 0) : findE l n = 0 := by
  unfold takenE at h; split at h
  · assumption
  · cases h
theorem szM_nil : szM [] := fun m h => by cases h
theorem szM_start {l : List MoveM} (h : szM l) {r0 r1 : ByteArray} (h0 : r0.size ≤ 9223372036854775807) (h1 : r1.size ≤ 9223372036854775807) (f t : Int) : szM (startL l r0 r1 f t) := by
  unfold startL; split
  · intro m hm
    rcases List.mem_append.1 hm with hm | hm
    · exact h m hm
    · rw [List.mem_singleton.1 hm]; exact ⟨h0, h1⟩
  · exact h
theorem szM_given {l : List MoveM} (h : szM l) (n : Int) (d : ByteArray) : szM (givenL l n d) := by
  unfold givenL; split
  · rename_i e
    intro m hm
    rcases List.mem_or_eq_of_mem_set hm with hm | rfl
    · exact h m hm
    · exact h (getM l n) (getM_mem (givenE_find e))
  · exact h
theorem szM_taken {l : List MoveM} (h : szM l) (n : Int) : szM (takenL l n) := by
  unfold takenL; split
  · rename_i e
    intro m hm
    rcases List.mem_or_eq_of_mem_set hm with hm | rfl
    · exact h m hm
    · exact h (getM l n) (getM_mem (takenE_find e))
  · exact h
theorem bytes_beq (c c' : ByteArray) : (c == c') = decide (c = c') := by
  cases c with | mk a => cases c' with | mk b =>
  have : (ByteArray.mk a == ByteArray.mk b) = (a == b) := by
    show ByteArray.beq _ _ = _
    unfold ByteArray.beq
    rfl
  rw [this]
  by_cases h : a = b <;> simp [h]
theorem int_beq (a b : Int) : (a == b) = decide (a = b) := by by_cases h : a = b <;> simp [h]
theorem bool_beq (a b : Bool) : (a == b) = decide (a = b) := by cases a <;> cases b <;> rfl
theorem eq32 {a0 b0 : ByteArray} {a1 b1 : ByteArray} {a2 b2 : Int} {a3 b3 : Int} {a4 b4 : Int} {a5 b5 : ByteArray} : eqA Tryd.prog 8 32 (.agg #[.string a0, .string a1, .int .i64 a2, .int .i64 a3, .int .i64 a4, .string a5]) (.agg #[.string b0, .string b1, .int .i64 b2, .int .i64 b3, .int .i64 b4, .string b5]) = some (decide (a0 = b0 ∧ a1 = b1 ∧ a2 = b2 ∧ a3 = b3 ∧ a4 = b4 ∧ a5 = b5)) := by
  have e : eqA Tryd.prog 8 32 (.agg #[.string a0, .string a1, .int .i64 a2, .int .i64 a3, .int .i64 a4, .string a5]) (.agg #[.string b0, .string b1, .int .i64 b2, .int .i64 b3, .int .i64 b4, .string b5]) = (match ((match (some (a0 == b0) : Option Bool) with | some true => (match (some (a1 == b1) : Option Bool) with | some true => some true | some false => some false | none => none) | some false => some false | none => none) : Option Bool) with | some true => (match (some (a2 == b2) : Option Bool) with | some true => (match (some (a3 == b3) : Option Bool) with | some true => (match (some (a4 == b4) : Option Bool) with | some true => (match (some (a5 == b5) : Option Bool) with | some true => some true | some false => some false | none => none) | some false => some false | none => none) | some false => some false | none => none) | some false => some false | none => none) | some false => some false | none => none) := by kernel_rfl
  rw [e]
  simp only [int_beq, bytes_beq, bool_beq]
  by_cases h0 : a0 = b0 <;> by_cases h1 : a1 = b1 <;> by_cases h2 : a2 = b2 <;> by_cases h3 : a3 = b3 <;> by_cases h4 : a4 = b4 <;> by_cases h5 : a5 = b5 <;> simp [h0, h1, h2, h3, h4, h5]
theorem cmp32_eql {a0 b0 : ByteArray} {a1 b1 : ByteArray} {a2 b2 : Int} {a3 b3 : Int} {a4 b4 : Int} {a5 b5 : ByteArray} {r : Bool} (e : decide (a0 = b0 ∧ a1 = b1 ∧ a2 = b2 ∧ a3 = b3 ∧ a4 = b4 ∧ a5 = b5) = r) : binA Tryd.prog .eql 32 (.agg #[.string a0, .string a1, .int .i64 a2, .int .i64 a3, .int .i64 a4, .string a5]) (.agg #[.string b0, .string b1, .int .i64 b2, .int .i64 b3, .int .i64 b4, .string b5]) = some (.bool r) := by
  have k : binA Tryd.prog .eql 32 (.agg #[.string a0, .string a1, .int .i64 a2, .int .i64 a3, .int .i64 a4, .string a5]) (.agg #[.string b0, .string b1, .int .i64 b2, .int .i64 b3, .int .i64 b4, .string b5]) = (eqA Tryd.prog 8 32 (.agg #[.string a0, .string a1, .int .i64 a2, .int .i64 a3, .int .i64 a4, .string a5]) (.agg #[.string b0, .string b1, .int .i64 b2, .int .i64 b3, .int .i64 b4, .string b5])).map .bool := by kernel_rfl
  rw [k, eq32, ← e]; rfl
theorem cmp32_neq {a0 b0 : ByteArray} {a1 b1 : ByteArray} {a2 b2 : Int} {a3 b3 : Int} {a4 b4 : Int} {a5 b5 : ByteArray} {r : Bool} (e : decide (¬ (a0 = b0 ∧ a1 = b1 ∧ a2 = b2 ∧ a3 = b3 ∧ a4 = b4 ∧ a5 = b5)) = r) : binA Tryd.prog .neq 32 (.agg #[.string a0, .string a1, .int .i64 a2, .int .i64 a3, .int .i64 a4, .string a5]) (.agg #[.string b0, .string b1, .int .i64 b2, .int .i64 b3, .int .i64 b4, .string b5]) = some (.bool r) := by
  have k : binA Tryd.prog .neq 32 (.agg #[.string a0, .string a1, .int .i64 a2, .int .i64 a3, .int .i64 a4, .string a5]) (.agg #[.string b0, .string b1, .int .i64 b2, .int .i64 b3, .int .i64 b4, .string b5]) = (eqA Tryd.prog 8 32 (.agg #[.string a0, .string a1, .int .i64 a2, .int .i64 a3, .int .i64 a4, .string a5]) (.agg #[.string b0, .string b1, .int .i64 b2, .int .i64 b3, .int .i64 b4, .string b5])).map (fun b => .bool (!b)) := by kernel_rfl
  rw [k, eq32, ← e]
  simp only [Option.map_some, decide_not]
theorem eq30 {a0 b0 : ByteArray} {a1 b1 : ByteArray} : eqA Tryd.prog 8 30 (.agg #[.string a0, .string a1]) (.agg #[.string b0, .string b1]) = some (decide (a0 = b0 ∧ a1 = b1)) := by
  have e : eqA Tryd.prog 8 30 (.agg #[.string a0, .string a1]) (.agg #[.string b0, .string b1]) = (match (some (a0 == b0) : Option Bool) with | some true => (match (some (a1 == b1) : Option Bool) with | some true => some true | some false => some false | none => none) | some false => some false | none => none) := by kernel_rfl
  rw [e]
  simp only [int_beq, bytes_beq, bool_beq]
  by_cases h0 : a0 = b0 <;> by_cases h1 : a1 = b1 <;> simp [h0, h1]
theorem cmp30_eql {a0 b0 : ByteArray} {a1 b1 : ByteArray} {r : Bool} (e : decide (a0 = b0 ∧ a1 = b1) = r) : binA Tryd.prog .eql 30 (.agg #[.string a0, .string a1]) (.agg #[.string b0, .string b1]) = some (.bool r) := by
  have k : binA Tryd.prog .eql 30 (.agg #[.string a0, .string a1]) (.agg #[.string b0, .string b1]) = (eqA Tryd.prog 8 30 (.agg #[.string a0, .string a1]) (.agg #[.string b0, .string b1])).map .bool := by kernel_rfl
  rw [k, eq30, ← e]; rfl
theorem cmp30_neq {a0 b0 : ByteArray} {a1 b1 : ByteArray} {r : Bool} (e : decide (¬ (a0 = b0 ∧ a1 = b1)) = r) : binA Tryd.prog .neq 30 (.agg #[.string a0, .string a1]) (.agg #[.string b0, .string b1]) = some (.bool r) := by
  have k : binA Tryd.prog .neq 30 (.agg #[.string a0, .string a1]) (.agg #[.string b0, .string b1]) = (eqA Tryd.prog 8 30 (.agg #[.string a0, .string a1]) (.agg #[.string b0, .string b1])).map (fun b => .bool (!b)) := by kernel_rfl
  rw [k, eq30, ← e]
  simp only [Option.map_some, decide_not]
set_option maxHeartbeats 4000000 in
theorem ints_ok (h : Heap) (xs ys : List Int) (sa sb : Option Addr) (ca cb : Nat) (hl : SliceAt h icell 1 xs (.slice sa xs.length ca)) (hm : SliceAt h icell 1 ys (.slice sb ys.length cb)) (hlen : xs.length ≤ 9223372036854775807) : WCall Tryd.prog 34 #[(Value.slice sa (xs.length) (ca)), (Value.slice sb (ys.length) (cb))] h (fun v h1 => v = .bool (decide (xs = ys)) ∧ h = h1) := by
  suffices H : ∀ K : Value → Heap → Prop, (∀ v h1, (fun v h1 => v = .bool (decide (xs = ys)) ∧ h = h1) v h1 → K v h1) → WCall Tryd.prog 34 #[(Value.slice sa (xs.length) (ca)), (Value.slice sb (ys.length) (cb))] h K from H _ fun _ _ q => q
  intro K hK
  refine wcall_at { tmps := #[(vL sa xs.length ca), (vL sb ys.length cb), vZ, vZ, vZ, vZ, vZ, vZ, vZ, vZ, vZ, vZ, vZ, vZ, vZ, vZ, vZ, vZ, vZ, vZ, vZ, vZ, vZ, vZ, vZ, vZ], defers := [] } (by kernel_rfl) ?_
  refine wc_seq' (subc (bodyOf Tryd.prog 34) [0]) (subc (bodyOf Tryd.prog 34) [1]) (by kernel_rfl) ?_
  refine wc_upd (n := 200) (T := ⟨fun r i => match r, i with | _, _ => none, fun _ => none, none⟩) (x := .normal) (h1 := h) [(4, (vB false))]
    (fun q => q) (by intro K'; as_aux_lemma => kernel_rfl) (fun _ q => q) ?_
  refine wc_seq' (subc (bodyOf Tryd.prog 34) [1, 0]) (subc (bodyOf Tryd.prog 34) [1, 1]) (by kernel_rfl) ?_
  by_cases c2273 : (((xs.length : Nat)) : Int) = ((ys.length : Nat))
  · refine wc_upd (n := 200) (T := ⟨fun r i => match r, i with | 1, 4 => some ((vB false), h) | _, _ => none, fun _ => none, none⟩) (x := .normal) (h1 := h) [(6, (vL sa xs.length ca)), (7, (vI ((xs.length : Nat)))), (8, (vL sb ys.length cb)), (9, (vI ((ys.length : Nat)))), (10, (vB false))]
      (fun q => (binA Tryd.prog .neq 3 (vI ((xs.length : Nat))) (vI ((ys.length : Nat))) = some (vB false) ∧ h = h) ∧ q) (by intro K'; as_aux_lemma => kernel_rfl) (fun _ q => ⟨⟨cmp_neq (decide_eq_false (not_not_intro c2273)), rfl⟩, q⟩) ?_
    refine wc_seq' (subc (bodyOf Tryd.prog 34) [1, 1, 0]) (subc (bodyOf Tryd.prog 34) [1, 1, 1]) (by kernel_rfl) ?_
    refine wc_seq' (subc (bodyOf Tryd.prog 34) [1, 1, 0, 0]) (subc (bodyOf Tryd.prog 34) [1, 1, 0, 1]) (by kernel_rfl) ?_
    refine wc_upd (n := 200) (T := ⟨fun r i => match r, i with | _, _ => none, fun _ => none, none⟩) (x := .normal) (h1 := h) [(5, (vI 0))]
      (fun q => q) (by intro K'; as_aux_lemma => kernel_rfl) (fun _ q => q) ?_
    refine wc_block' 0 (subc (bodyOf Tryd.prog 34) [1, 1, 0, 1, 0]) (by kernel_rfl) ?_
    refine wc_loop' (subc (bodyOf Tryd.prog 34) [1, 1, 0, 1, 0, 0]) (by kernel_rfl) (fun n' a' h' => ∃ (k : Int) (g0 : Nat → Value), a' = { tmps := #[(vL sa xs.length ca), (vL sb ys.length cb), vZ, vZ, (g0 4), (vI k), (vL sa xs.length ca), (vI ((xs.length : Nat))), (vL sb ys.length cb), (vI ((ys.length : Nat))), (vB false), (g0 11), (g0 12), (g0 13), (g0 14), (g0 15), (g0 16), (g0 17), (g0 18), (g0 19), (g0 20), (g0 21), (g0 22), (g0 23), (g0 24), (g0 25)], defers := [] } ∧ h = h' ∧ n' = xs.length - k.toNat ∧ (0 ≤ k ∧ k ≤ (xs.length : Nat)) ∧ xs.take k.toNat = ys.take k.toNat) ?_ (xs.length - (0 : Int).toNat) ⟨0, (fun i => ([vU, vU, vU, vU, (vB false), vU, vU, vU, vU, vU, vU, vZ, vZ, vZ, vZ, vZ, vZ, vZ, vZ, vZ, vZ, vZ, vZ, vZ, vZ, vZ] : List Value).getD i undef), by as_aux_lemma => kernel_rfl, rfl, rfl, by omega, rfl⟩
    rintro n' _ _ ⟨k, g0, rfl, rfl, m2278, i2276, i2277⟩
    by_cases c2280 : ((k) : Int) < ((xs.length : Nat))
    · obtain ⟨i2281, v2282, e2283, l2284, g2285⟩ := list_at xs (e := (k)) (by omega) (by first | omega | (simp only [List.length_set, List.length_append, List.length_singleton]; omega))
      obtain ⟨b2286, o2287, k2288, q2289, a2290⟩ := hl.at icell_size g2285
      obtain ⟨i2292, v2293, e2294, l2295, g2296⟩ := list_at ys (e := (k)) (by omega) (by first | omega | (simp only [List.length_set, List.length_append, List.length_singleton]; omega))
      obtain ⟨b2297, o2298, k2299, q2300, a2301⟩ := hm.at icell_size g2296
      by_cases c2303 : ((v2282) : Int) = (v2293)
      · refine wc_upd (n := 200) (T := ⟨fun r i => match r, i with | 4, 3 => some ((vB true), h) | 6, 2 => some ((vP b2286 o2287), h) | 6, 3 => some ((vI v2282), h) | 6, 6 => some ((vP b2297 o2298), h) | 6, 7 => some ((vI v2293), h) | 6, 8 => some ((vB false), h) | 5, 1 => some ((vI ((k) + 1)), h) | _, _ => none, fun _ => none, none⟩) (x := .normal) (h1 := h) [(11, (vI k)), (12, (vL sa xs.length ca)), (13, (vI ((xs.length : Nat)))), (14, (vB true)), (17, (vL sa xs.length ca)), (18, (vI k)), (19, (vP b2286 o2287)), (20, (vI v2282)), (21, (vL sb ys.length cb)), (22, (vI k)), (23, (vP b2297 o2298)), (24, (vI v2293)), (25, (vB false)), (15, (vI k)), (16, (vI ((k) + 1))), (5, (vI ((k) + 1)))]
          (fun q => (binA Tryd.prog .lss 3 (vI k) (vI ((xs.length : Nat))) = some (vB true) ∧ h = h) ∧ (indexAddrA Tryd.prog 27 (vL sa xs.length ca) (vI k) = some (vP b2286 o2287) ∧ h = h) ∧ (loadT Tryd.prog h 3 (vP b2286 o2287) = some (vI v2282) ∧ h = h) ∧ (indexAddrA Tryd.prog 27 (vL sb ys.length cb) (vI k) = some (vP b2297 o2298) ∧ h = h) ∧ (loadT Tryd.prog h 3 (vP b2297 o2298) = some (vI v2293) ∧ h = h) ∧ (binA Tryd.prog .neq 3 (vI v2282) (vI v2293) = some (vB false) ∧ h = h) ∧ (binA Tryd.prog .add 3 (vI k) (vI 1) = some (vI ((k) + 1)) ∧ h = h) ∧ q) (by intro K'; as_aux_lemma => kernel_rfl) (fun _ q => ⟨⟨cmp_lss (decide_eq_true c2280), rfl⟩, ⟨a2290 und27 size3 e2283, rfl⟩, ⟨(k2288.keep fun b r _ q => (Ext.refl h) b r q).cell (j := 0) agg3 rfl, rfl⟩, ⟨a2301 und27 size3 e2294, rfl⟩, ⟨(k2299.keep fun b r _ q => (Ext.refl h) b r q).cell (j := 0) agg3 rfl, rfl⟩, ⟨cmp_neq (decide_eq_false (not_not_intro c2303)), rfl⟩, ⟨add_i64 (by omega) (by omega), rfl⟩, q⟩) ?_
        exact ⟨xs.length - (k + 1).toNat, by omega, ⟨k + 1, (fun i => ([vU, vU, vU, vU, (g0 4), vU, vU, vU, vU, vU, vU, (vI k), (vL sa xs.length ca), (vI ((xs.length : Nat))), (vB true), (vI k), (vI ((k) + 1)), (vL sa xs.length ca), (vI k), (vP b2286 o2287), (vI v2282), (vL sb ys.length cb), (vI k), (vP b2297 o2298), (vI v2293), (vB false)] : List Value).getD i undef), by as_aux_lemma => kernel_rfl, rfl, rfl, by omega, by rw [show (k + 1).toNat = i2281 + 1 by omega, List.take_add_one, List.take_add_one, g2285, show i2281 = i2292 by omega, g2296, show i2292 = k.toNat by omega, i2277, show v2282 = v2293 by omega]⟩⟩
      · refine wc_upd (n := 200) (T := ⟨fun r i => match r, i with | 4, 3 => some ((vB true), h) | 6, 2 => some ((vP b2286 o2287), h) | 6, 3 => some ((vI v2282), h) | 6, 6 => some ((vP b2297 o2298), h) | 6, 7 => some ((vI v2293), h) | 6, 8 => some ((vB true), h) | _, _ => none, fun _ => none, none⟩) (x := .ret) (h1 := h) [(11, (vI k)), (12, (vL sa xs.length ca)), (13, (vI ((xs.length : Nat)))), (14, (vB true)), (17, (vL sa xs.length ca)), (18, (vI k)), (19, (vP b2286 o2287)), (20, (vI v2282)), (21, (vL sb ys.length cb)), (22, (vI k)), (23, (vP b2297 o2298)), (24, (vI v2293)), (25, (vB true)), (4, (vB false))]
          (fun q => (binA Tryd.prog .lss 3 (vI k) (vI ((xs.length : Nat))) = some (vB true) ∧ h = h) ∧ (indexAddrA Tryd.prog 27 (vL sa xs.length ca) (vI k) = some (vP b2286 o2287) ∧ h = h) ∧ (loadT Tryd.prog h 3 (vP b2286 o2287) = some (vI v2282) ∧ h = h) ∧ (indexAddrA Tryd.prog 27 (vL sb ys.length cb) (vI k) = some (vP b2297 o2298) ∧ h = h) ∧ (loadT Tryd.prog h 3 (vP b2297 o2298) = some (vI v2293) ∧ h = h) ∧ (binA Tryd.prog .neq 3 (vI v2282) (vI v2293) = some (vB true) ∧ h = h) ∧ q) (by intro K'; as_aux_lemma => kernel_rfl) (fun _ q => ⟨⟨cmp_lss (decide_eq_true c2280), rfl⟩, ⟨a2290 und27 size3 e2283, rfl⟩, ⟨(k2288.keep fun b r _ q => (Ext.refl h) b r q).cell (j := 0) agg3 rfl, rfl⟩, ⟨a2301 und27 size3 e2294, rfl⟩, ⟨(k2299.keep fun b r _ q => (Ext.refl h) b r q).cell (j := 0) agg3 rfl, rfl⟩, ⟨cmp_neq (decide_eq_true c2303), rfl⟩, q⟩) ?_
        have n9 : ¬ xs = ys := by intro w; subst w; have e9 : i2281 = i2292 := (by omega); subst e9; rw [g2285] at g2296; cases g2296; exact c2303 rfl
        refine end_at (T := ⟨fun _ _ => none, fun _ => none, none⟩) (A := K (vB false) h) (by kernel_rfl) ?_
        exact hK _ _ (⟨by rw [decide_eq_false n9], rfl⟩)
    · refine wc_upd (n := 200) (T := ⟨fun r i => match r, i with | 4, 3 => some ((vB false), h) | _, _ => none, fun _ => none, none⟩) (x := (.exit 0)) (h1 := h) [(11, (vI k)), (12, (vL sa xs.length ca)), (13, (vI ((xs.length : Nat)))), (14, (vB false))]
        (fun q => (binA Tryd.prog .lss 3 (vI k) (vI ((xs.length : Nat))) = some (vB false) ∧ h = h) ∧ q) (by intro K'; as_aux_lemma => kernel_rfl) (fun _ q => ⟨⟨cmp_lss (decide_eq_false c2280), rfl⟩, q⟩) ?_
      refine wc_upd (n := 200) (T := ⟨fun r i => match r, i with | _, _ => none, fun _ => none, none⟩) (x := .ret) (h1 := h) [(4, (vB true))]
        (fun q => q) (by intro K'; as_aux_lemma => kernel_rfl) (fun _ q => q) ?_
      have e9 := i2277
      rw [List.take_of_length_le (by omega), List.take_of_length_le (by omega)] at e9
      refine end_at (T := ⟨fun _ _ => none, fun _ => none, none⟩) (A := K (vB true) h) (by kernel_rfl) ?_
      exact hK _ _ (⟨by rw [decide_eq_true e9], rfl⟩)
  · refine wc_upd (n := 200) (T := ⟨fun r i => match r, i with | 1, 4 => some ((vB true), h) | _, _ => none, fun _ => none, none⟩) (x := .ret) (h1 := h) [(6, (vL sa xs.length ca)), (7, (vI ((xs.length : Nat)))), (8, (vL sb ys.length cb)), (9, (vI ((ys.length : Nat)))), (10, (vB true)), (4, (vB false))]
      (fun q => (binA Tryd.prog .neq 3 (vI ((xs.length : Nat))) (vI ((ys.length : Nat))) = some (vB true) ∧ h = h) ∧ q) (by intro K'; as_aux_lemma => kernel_rfl) (fun _ q => ⟨⟨cmp_neq (decide_eq_true c2273), rfl⟩, q⟩) ?_
    refine end_at (T := ⟨fun _ _ => none, fun _ => none, none⟩) (A := K (vB false) h) (by kernel_rfl) ?_
    exact hK _ _ (⟨by rw [decide_eq_false (fun w => c2273 (by rw [w]))], rfl⟩)
theorem sl_ints {h : Heap} {b n : Nat} {xs : List Int} {c : Array Value} {e : TypeId} (k : h[b]? = some (.cells c e (0, 0))) (e1 : c = flat icell xs) (hn : xs.length = n) : SliceAt h icell 1 xs (.slice (some ⟨b, 0, none⟩) n n) := by
  subst hn
  refine .inr ⟨b, 0, xs.length, c, e, (0, 0), rfl, k, by decide, Nat.le_refl _, ?_, ?_⟩
  · rw [e1, flat_size icell_size]; omega
  · have : c.size = 0 + xs.length * 1 := by rw [e1, flat_size icell_size]; omega
    rw [← this, Array.extract_size]; exact e1
theorem openL_len (l : List MoveM) : (openL l).length ≤ l.length := by unfold openL; rw [List.length_map]; exact opn_len l _
set_option maxHeartbeats 4000000 in
theorem short_ok (h : Heap) (xs : List StepA) (sa : Option Addr) (cp : Nat) (hl : SliceAt h scell 7 xs (.slice sa xs.length cp)) (hlen : xs.length ≤ 9223372036854775807) (hq : ∀ x ∈ xs, I64 x.n) : WCall Tryd.prog 11 #[(Value.slice sa (xs.length) (cp))] h (fun v h1 => ∃ b, v = .bool b ∧ (b = true → xs.length ≤ 100 ∧ ∀ x ∈ xs, x.rf.size ≤ 40 ∧ x.rt.size ≤ 40) ∧ Ext h h1) := by
  suffices H : ∀ K : Value → Heap → Prop, (∀ v h1, (fun v h1 => ∃ b, v = .bool b ∧ (b = true → xs.length ≤ 100 ∧ ∀ x ∈ xs, x.rf.size ≤ 40 ∧ x.rt.size ≤ 40) ∧ Ext h h1) v h1 → K v h1) → WCall Tryd.prog 11 #[(Value.slice sa (xs.length) (cp))] h K from H _ fun _ _ q => q
  intro K hK
  refine wcall_at { tmps := #[(vL sa xs.length cp), vZ, vZ, vZ, vZ, vZ, vZ, vZ, vZ, vZ, vZ, vZ, vZ, vZ, vZ, vZ, vZ, vZ, vZ, vZ, vZ, vZ, vZ, vZ, vZ, vZ, vZ, vZ, vZ, vZ, vZ, vZ, vZ, vZ, vZ, vZ, vZ, vZ, vZ, vZ, vZ, vZ, vZ, vZ, vZ, vZ, vZ, vZ, vZ], defers := [] } (by kernel_rfl) ?_
  refine wc_seq' (subc (bodyOf Tryd.prog 11) [0]) (subc (bodyOf Tryd.prog 11) [1]) (by kernel_rfl) ?_
  refine wc_upd (n := 200) (T := ⟨fun r i => match r, i with | _, _ => none, fun _ => none, none⟩) (x := .normal) (h1 := h) [(2, (vB false))]
    (fun q => q) (by intro K'; as_aux_lemma => kernel_rfl) (fun _ q => q) ?_
  refine wc_seq' (subc (bodyOf Tryd.prog 11) [1, 0]) (subc (bodyOf Tryd.prog 11) [1, 1]) (by kernel_rfl) ?_
  by_cases c2304 : (100 : Int) < ((xs.length : Nat))
  · refine wc_upd (n := 200) (T := ⟨fun r i => match r, i with | 1, 2 => some ((vB true), h) | _, _ => none, fun _ => none, none⟩) (x := .ret) (h1 := h) [(4, (vL sa xs.length cp)), (5, (vI ((xs.length : Nat)))), (6, (vB true)), (2, (vB false))]
      (fun q => (binA Tryd.prog .gtr 3 (vI ((xs.length : Nat))) (vI 100) = some (vB true) ∧ h = h) ∧ q) (by intro K'; as_aux_lemma => kernel_rfl) (fun _ q => ⟨⟨cmp_gtr (decide_eq_true c2304), rfl⟩, q⟩) ?_
    refine end_at (T := ⟨fun _ _ => none, fun _ => none, none⟩) (A := K (vB false) h) (by kernel_rfl) ?_
    exact hK _ _ (⟨false, rfl, fun q => (by cases q), (Ext.refl h)⟩)
  · refine wc_upd (n := 200) (T := ⟨fun r i => match r, i with | 1, 2 => some ((vB false), h) | _, _ => none, fun _ => none, none⟩) (x := .normal) (h1 := h) [(4, (vL sa xs.length cp)), (5, (vI ((xs.length : Nat)))), (6, (vB false))]
      (fun q => (binA Tryd.prog .gtr 3 (vI ((xs.length : Nat))) (vI 100) = some (vB false) ∧ h = h) ∧ q) (by intro K'; as_aux_lemma => kernel_rfl) (fun _ q => ⟨⟨cmp_gtr (decide_eq_false c2304), rfl⟩, q⟩) ?_
    refine wc_seq' (subc (bodyOf Tryd.prog 11) [1, 1, 0]) (subc (bodyOf Tryd.prog 11) [1, 1, 1]) (by kernel_rfl) ?_
    refine wc_seq' (subc (bodyOf Tryd.prog 11) [1, 1, 0, 0]) (subc (bodyOf Tryd.prog 11) [1, 1, 0, 1]) (by kernel_rfl) ?_
    refine wc_upd (n := 200) (T := ⟨fun r i => match r, i with | _, _ => none, fun _ => none, none⟩) (x := .normal) (h1 := h) [(3, (vI 0))]
      (fun q => q) (by intro K'; as_aux_lemma => kernel_rfl) (fun _ q => q) ?_
    refine wc_block' 0 (subc (bodyOf Tryd.prog 11) [1, 1, 0, 1, 0]) (by kernel_rfl) ?_
    refine wc_loop' (subc (bodyOf Tryd.prog 11) [1, 1, 0, 1, 0, 0]) (by kernel_rfl) (fun n' a' h' => ∃ (k : Int) (g0 : Nat → Value), a' = { tmps := #[(vL sa xs.length cp), vZ, (g0 2), (vI k), (vL sa xs.length cp), (vI ((xs.length : Nat))), (vB false), (g0 7), (g0 8), (g0 9), (g0 10), (g0 11), (g0 12), (g0 13), (g0 14), (g0 15), (g0 16), (g0 17), (g0 18), (g0 19), (g0 20), (g0 21), (g0 22), (g0 23), (g0 24), (g0 25), (g0 26), (g0 27), (g0 28), (g0 29), (g0 30), (g0 31), (g0 32), (g0 33), (g0 34), (g0 35), (g0 36), (g0 37), (g0 38), (g0 39), (g0 40), (g0 41), (g0 42), (g0 43), (g0 44), (g0 45), (g0 46), (g0 47), (g0 48)], defers := [] } ∧ Ext h h' ∧ n' = xs.length - k.toNat ∧ (0 ≤ k ∧ k ≤ (xs.length : Nat)) ∧ (∀ (j : Nat) (x : StepA), (j : Int) < k → xs[j]? = some x → x.rf.size ≤ 40 ∧ x.rt.size ≤ 40)) ?_ (xs.length - (0 : Int).toNat) ⟨0, (fun i => ([vU, vU, (vB false), vU, vU, vU, vU, vZ, vZ, vZ, vZ, vZ, vZ, vZ, vZ, vZ, vZ, vZ, vZ, vZ, vZ, vZ, vZ, vZ, vZ, vZ, vZ, vZ, vZ, vZ, vZ, vZ, vZ, vZ, vZ, vZ, vZ, vZ, vZ, vZ, vZ, vZ, vZ, vZ, vZ, vZ, vZ, vZ, vZ] : List Value).getD i undef), by as_aux_lemma => kernel_rfl, (Ext.refl h), rfl, by omega, fun j x hj => absurd hj (by omega)⟩
    rintro n' _ h2306 ⟨k, g0, rfl, x2310, m2309, i2307, i2308⟩
    by_cases c2311 : ((k) : Int) < ((xs.length : Nat))
    · obtain ⟨i2312, v2313, e2314, l2315, g2316⟩ := list_at xs (e := (k)) (by omega) (by first | omega | (simp only [List.length_set, List.length_append, List.length_singleton]; omega))
      obtain ⟨b2317, o2318, k2319, q2320, a2321⟩ := hl.at scell_size g2316
      have : I64 v2313.n := hq _ (List.mem_of_getElem? g2316)
      unfold I64 at this
      by_cases c2323 : (40 : Int) < ((v2313.rf.size : Nat))
      · refine wc_upd (n := 200) (T := ⟨fun r i => match r, i with | 4, 3 => some ((vB true), h2306) | 6, 2 => some ((vP b2317 o2318), h2306) | 6, 5 => some ((vS v2313.rf), h2306) | 6, 7 => some ((vB true), h2306) | _, _ => none, fun _ => none, none⟩) (x := .ret) (h1 := h2306) [(7, (vI k)), (8, (vL sa xs.length cp)), (9, (vI ((xs.length : Nat)))), (10, (vB true)), (13, (vL sa xs.length cp)), (14, (vI k)), (15, (vP b2317 o2318)), (16, (vP b2317 (o2318 + 1))), (17, (vP b2317 (o2318 + 1))), (18, (vS v2313.rf)), (19, (vI ((v2313.rf.size : Nat)))), (20, (vB true)), (21, (vB true)), (22, vZ), (23, vZ), (24, vZ), (25, vZ), (26, vZ), (27, vZ), (28, vZ), (29, vZ), (30, (vB true)), (31, (vB true)), (32, vZ), (33, vZ), (34, vZ), (35, vZ), (36, vZ), (37, vZ), (38, vZ), (39, vZ), (40, vZ), (41, vZ), (42, vZ), (43, vZ), (44, vZ), (45, vZ), (46, vZ), (47, vZ), (48, (vB true)), (2, (vB false))]
          (fun q => (binA Tryd.prog .lss 3 (vI k) (vI ((xs.length : Nat))) = some (vB true) ∧ h2306 = h2306) ∧ (indexAddrA Tryd.prog 22 (vL sa xs.length cp) (vI k) = some (vP b2317 o2318) ∧ h2306 = h2306) ∧ (loadT Tryd.prog h2306 9 (vP b2317 (o2318 + 1)) = some (vS v2313.rf) ∧ h2306 = h2306) ∧ (binA Tryd.prog .gtr 3 (vI ((v2313.rf.size : Nat))) (vI 40) = some (vB true) ∧ h2306 = h2306) ∧ q) (by intro K'; as_aux_lemma => kernel_rfl) (fun _ q => ⟨⟨cmp_lss (decide_eq_true c2311), rfl⟩, ⟨a2321 und22 size50 e2314, rfl⟩, ⟨(k2319.keep fun b r _ q => x2310 b r q).cell (j := 1) agg9 rfl, rfl⟩, ⟨cmp_gtr (decide_eq_true c2323), rfl⟩, q⟩) ?_
        refine end_at (T := ⟨fun _ _ => none, fun _ => none, none⟩) (A := K (vB false) h2306) (by kernel_rfl) ?_
        exact hK _ _ (⟨false, rfl, fun q => (by cases q), x2310⟩)
      · obtain ⟨b2329, o2330, k2331, q2332, a2333⟩ := hl.at scell_size g2316
        have : I64 v2313.n := hq _ (List.mem_of_getElem? g2316)
        unfold I64 at this
        by_cases c2335 : (40 : Int) < ((v2313.rt.size : Nat))
        · refine wc_upd (n := 200) (T := ⟨fun r i => match r, i with | 4, 3 => some ((vB true), h2306) | 6, 2 => some ((vP b2317 o2318), h2306) | 6, 5 => some ((vS v2313.rf), h2306) | 6, 7 => some ((vB false), h2306) | 6, 11 => some ((vP b2329 o2330), h2306) | 6, 14 => some ((vS v2313.rt), h2306) | 6, 16 => some ((vB true), h2306) | _, _ => none, fun _ => none, none⟩) (x := .ret) (h1 := h2306) [(7, (vI k)), (8, (vL sa xs.length cp)), (9, (vI ((xs.length : Nat)))), (10, (vB true)), (13, (vL sa xs.length cp)), (14, (vI k)), (15, (vP b2317 o2318)), (16, (vP b2317 (o2318 + 1))), (17, (vP b2317 (o2318 + 1))), (18, (vS v2313.rf)), (19, (vI ((v2313.rf.size : Nat)))), (20, (vB false)), (21, (vB false)), (22, (vL sa xs.length cp)), (23, (vI k)), (24, (vP b2329 o2330)), (25, (vP b2329 (o2330 + 1))), (26, (vP b2329 (o2330 + 2))), (27, (vS v2313.rt)), (28, (vI ((v2313.rt.size : Nat)))), (29, (vB true)), (30, (vB true)), (31, (vB true)), (32, vZ), (33, vZ), (34, vZ), (35, vZ), (36, vZ), (37, vZ), (38, vZ), (39, vZ), (40, vZ), (41, vZ), (42, vZ), (43, vZ), (44, vZ), (45, vZ), (46, vZ), (47, vZ), (48, (vB true)), (2, (vB false))]
            (fun q => (binA Tryd.prog .lss 3 (vI k) (vI ((xs.length : Nat))) = some (vB true) ∧ h2306 = h2306) ∧ (indexAddrA Tryd.prog 22 (vL sa xs.length cp) (vI k) = some (vP b2317 o2318) ∧ h2306 = h2306) ∧ (loadT Tryd.prog h2306 9 (vP b2317 (o2318 + 1)) = some (vS v2313.rf) ∧ h2306 = h2306) ∧ (binA Tryd.prog .gtr 3 (vI ((v2313.rf.size : Nat))) (vI 40) = some (vB false) ∧ h2306 = h2306) ∧ (indexAddrA Tryd.prog 22 (vL sa xs.length cp) (vI k) = some (vP b2329 o2330) ∧ h2306 = h2306) ∧ (loadT Tryd.prog h2306 9 (vP b2329 (o2330 + 2)) = some (vS v2313.rt) ∧ h2306 = h2306) ∧ (binA Tryd.prog .gtr 3 (vI ((v2313.rt.size : Nat))) (vI 40) = some (vB true) ∧ h2306 = h2306) ∧ q) (by intro K'; as_aux_lemma => kernel_rfl) (fun _ q => ⟨⟨cmp_lss (decide_eq_true c2311), rfl⟩, ⟨a2321 und22 size50 e2314, rfl⟩, ⟨(k2319.keep fun b r _ q => x2310 b r q).cell (j := 1) agg9 rfl, rfl⟩, ⟨cmp_gtr (decide_eq_false c2323), rfl⟩, ⟨a2333 und22 size50 e2314, rfl⟩, ⟨(k2331.keep fun b r _ q => x2310 b r q).cell (j := 2) agg9 rfl, rfl⟩, ⟨cmp_gtr (decide_eq_true c2335), rfl⟩, q⟩) ?_
          refine end_at (T := ⟨fun _ _ => none, fun _ => none, none⟩) (A := K (vB false) h2306) (by kernel_rfl) ?_
          exact hK _ _ (⟨false, rfl, fun q => (by cases q), x2310⟩)
        · obtain ⟨b2341, o2342, k2343, q2344, a2345⟩ := hl.at scell_size g2316
          have : I64 v2313.n := hq _ (List.mem_of_getElem? g2316)
          unfold I64 at this
          by_cases c2347 : (40 : Int) < ((v2313.d.size : Nat))
          · obtain ⟨b2353, o2354, k2355, q2356, a2357⟩ := hl.at scell_size g2316
            have : I64 v2313.n := hq _ (List.mem_of_getElem? g2316)
            unfold I64 at this
            by_cases c2359 : (((v2313.d.size : Nat)) : Int) ≤ 65536
            · refine wc_upd (n := 200) (T := ⟨fun r i => match r, i with | 4, 3 => some ((vB true), h2306) | 6, 2 => some ((vP b2317 o2318), h2306) | 6, 5 => some ((vS v2313.rf), h2306) | 6, 7 => some ((vB false), h2306) | 6, 11 => some ((vP b2329 o2330), h2306) | 6, 14 => some ((vS v2313.rt), h2306) | 6, 16 => some ((vB false), h2306) | 6, 21 => some ((vP b2341 o2342), h2306) | 6, 23 => some ((vS v2313.d), h2306) | 6, 25 => some ((vB true), h2306) | 6, 29 => some ((vP b2353 o2354), h2306) | 6, 31 => some ((vS v2313.d), h2306) | 6, 33 => some ((vB true), h2306) | _, _ => none, fun _ => none, none⟩) (x := .ret) (h1 := h2306) [(7, (vI k)), (8, (vL sa xs.length cp)), (9, (vI ((xs.length : Nat)))), (10, (vB true)), (13, (vL sa xs.length cp)), (14, (vI k)), (15, (vP b2317 o2318)), (16, (vP b2317 (o2318 + 1))), (17, (vP b2317 (o2318 + 1))), (18, (vS v2313.rf)), (19, (vI ((v2313.rf.size : Nat)))), (20, (vB false)), (21, (vB false)), (22, (vL sa xs.length cp)), (23, (vI k)), (24, (vP b2329 o2330)), (25, (vP b2329 (o2330 + 1))), (26, (vP b2329 (o2330 + 2))), (27, (vS v2313.rt)), (28, (vI ((v2313.rt.size : Nat)))), (29, (vB false)), (30, (vB false)), (31, (vB false)), (32, (vL sa xs.length cp)), (33, (vI k)), (34, (vP b2341 o2342)), (35, (vP b2341 (o2342 + 6))), (36, (vS v2313.d)), (37, (vI ((v2313.d.size : Nat)))), (38, (vB true)), (39, (vB true)), (40, (vL sa xs.length cp)), (41, (vI k)), (42, (vP b2353 o2354)), (43, (vP b2353 (o2354 + 6))), (44, (vS v2313.d)), (45, (vI ((v2313.d.size : Nat)))), (46, (vB true)), (47, (vB true)), (48, (vB true)), (2, (vB false))]
                (fun q => (binA Tryd.prog .lss 3 (vI k) (vI ((xs.length : Nat))) = some (vB true) ∧ h2306 = h2306) ∧ (indexAddrA Tryd.prog 22 (vL sa xs.length cp) (vI k) = some (vP b2317 o2318) ∧ h2306 = h2306) ∧ (loadT Tryd.prog h2306 9 (vP b2317 (o2318 + 1)) = some (vS v2313.rf) ∧ h2306 = h2306) ∧ (binA Tryd.prog .gtr 3 (vI ((v2313.rf.size : Nat))) (vI 40) = some (vB false) ∧ h2306 = h2306) ∧ (indexAddrA Tryd.prog 22 (vL sa xs.length cp) (vI k) = some (vP b2329 o2330) ∧ h2306 = h2306) ∧ (loadT Tryd.prog h2306 9 (vP b2329 (o2330 + 2)) = some (vS v2313.rt) ∧ h2306 = h2306) ∧ (binA Tryd.prog .gtr 3 (vI ((v2313.rt.size : Nat))) (vI 40) = some (vB false) ∧ h2306 = h2306) ∧ (indexAddrA Tryd.prog 22 (vL sa xs.length cp) (vI k) = some (vP b2341 o2342) ∧ h2306 = h2306) ∧ (loadT Tryd.prog h2306 9 (vP b2341 (o2342 + 6)) = some (vS v2313.d) ∧ h2306 = h2306) ∧ (binA Tryd.prog .gtr 3 (vI ((v2313.d.size : Nat))) (vI 40) = some (vB true) ∧ h2306 = h2306) ∧ (indexAddrA Tryd.prog 22 (vL sa xs.length cp) (vI k) = some (vP b2353 o2354) ∧ h2306 = h2306) ∧ (loadT Tryd.prog h2306 9 (vP b2353 (o2354 + 6)) = some (vS v2313.d) ∧ h2306 = h2306) ∧ (binA Tryd.prog .leq 3 (vI ((v2313.d.size : Nat))) (vI 65536) = some (vB true) ∧ h2306 = h2306) ∧ q) (by intro K'; as_aux_lemma => kernel_rfl) (fun _ q => ⟨⟨cmp_lss (decide_eq_true c2311), rfl⟩, ⟨a2321 und22 size50 e2314, rfl⟩, ⟨(k2319.keep fun b r _ q => x2310 b r q).cell (j := 1) agg9 rfl, rfl⟩, ⟨cmp_gtr (decide_eq_false c2323), rfl⟩, ⟨a2333 und22 size50 e2314, rfl⟩, ⟨(k2331.keep fun b r _ q => x2310 b r q).cell (j := 2) agg9 rfl, rfl⟩, ⟨cmp_gtr (decide_eq_false c2335), rfl⟩, ⟨a2345 und22 size50 e2314, rfl⟩, ⟨(k2343.keep fun b r _ q => x2310 b r q).cell (j := 6) agg9 rfl, rfl⟩, ⟨cmp_gtr (decide_eq_true c2347), rfl⟩, ⟨a2357 und22 size50 e2314, rfl⟩, ⟨(k2355.keep fun b r _ q => x2310 b r q).cell (j := 6) agg9 rfl, rfl⟩, ⟨cmp_leq (decide_eq_true c2359), rfl⟩, q⟩) ?_
              refine end_at (T := ⟨fun _ _ => none, fun _ => none, none⟩) (A := K (vB false) h2306) (by kernel_rfl) ?_
              exact hK _ _ (⟨false, rfl, fun q => (by cases q), x2310⟩)
            · refine wc_upd (n := 200) (T := ⟨fun r i => match r, i with | 4, 3 => some ((vB true), h2306) | 6, 2 => some ((vP b2317 o2318), h2306) | 6, 5 => some ((vS v2313.rf), h2306) | 6, 7 => some ((vB false), h2306) | 6, 11 => some ((vP b2329 o2330), h2306) | 6, 14 => some ((vS v2313.rt), h2306) | 6, 16 => some ((vB false), h2306) | 6, 21 => some ((vP b2341 o2342), h2306) | 6, 23 => some ((vS v2313.d), h2306) | 6, 25 => some ((vB true), h2306) | 6, 29 => some ((vP b2353 o2354), h2306) | 6, 31 => some ((vS v2313.d), h2306) | 6, 33 => some ((vB false), h2306) | 5, 1 => some ((vI ((k) + 1)), h2306) | _, _ => none, fun _ => none, none⟩) (x := .normal) (h1 := h2306) [(7, (vI k)), (8, (vL sa xs.length cp)), (9, (vI ((xs.length : Nat)))), (10, (vB true)), (13, (vL sa xs.length cp)), (14, (vI k)), (15, (vP b2317 o2318)), (16, (vP b2317 (o2318 + 1))), (17, (vP b2317 (o2318 + 1))), (18, (vS v2313.rf)), (19, (vI ((v2313.rf.size : Nat)))), (20, (vB false)), (21, (vB false)), (22, (vL sa xs.length cp)), (23, (vI k)), (24, (vP b2329 o2330)), (25, (vP b2329 (o2330 + 1))), (26, (vP b2329 (o2330 + 2))), (27, (vS v2313.rt)), (28, (vI ((v2313.rt.size : Nat)))), (29, (vB false)), (30, (vB false)), (31, (vB false)), (32, (vL sa xs.length cp)), (33, (vI k)), (34, (vP b2341 o2342)), (35, (vP b2341 (o2342 + 6))), (36, (vS v2313.d)), (37, (vI ((v2313.d.size : Nat)))), (38, (vB true)), (39, (vB true)), (40, (vL sa xs.length cp)), (41, (vI k)), (42, (vP b2353 o2354)), (43, (vP b2353 (o2354 + 6))), (44, (vS v2313.d)), (45, (vI ((v2313.d.size : Nat)))), (46, (vB false)), (47, (vB false)), (48, (vB false)), (11, (vI k)), (12, (vI ((k) + 1))), (3, (vI ((k) + 1)))]
                (fun q => (binA Tryd.prog .lss 3 (vI k) (vI ((xs.length : Nat))) = some (vB true) ∧ h2306 = h2306) ∧ (indexAddrA Tryd.prog 22 (vL sa xs.length cp) (vI k) = some (vP b2317 o2318) ∧ h2306 = h2306) ∧ (loadT Tryd.prog h2306 9 (vP b2317 (o2318 + 1)) = some (vS v2313.rf) ∧ h2306 = h2306) ∧ (binA Tryd.prog .gtr 3 (vI ((v2313.rf.size : Nat))) (vI 40) = some (vB false) ∧ h2306 = h2306) ∧ (indexAddrA Tryd.prog 22 (vL sa xs.length cp) (vI k) = some (vP b2329 o2330) ∧ h2306 = h2306) ∧ (loadT Tryd.prog h2306 9 (vP b2329 (o2330 + 2)) = some (vS v2313.rt) ∧ h2306 = h2306) ∧ (binA Tryd.prog .gtr 3 (vI ((v2313.rt.size : Nat))) (vI 40) = some (vB false) ∧ h2306 = h2306) ∧ (indexAddrA Tryd.prog 22 (vL sa xs.length cp) (vI k) = some (vP b2341 o2342) ∧ h2306 = h2306) ∧ (loadT Tryd.prog h2306 9 (vP b2341 (o2342 + 6)) = some (vS v2313.d) ∧ h2306 = h2306) ∧ (binA Tryd.prog .gtr 3 (vI ((v2313.d.size : Nat))) (vI 40) = some (vB true) ∧ h2306 = h2306) ∧ (indexAddrA Tryd.prog 22 (vL sa xs.length cp) (vI k) = some (vP b2353 o2354) ∧ h2306 = h2306) ∧ (loadT Tryd.prog h2306 9 (vP b2353 (o2354 + 6)) = some (vS v2313.d) ∧ h2306 = h2306) ∧ (binA Tryd.prog .leq 3 (vI ((v2313.d.size : Nat))) (vI 65536) = some (vB false) ∧ h2306 = h2306) ∧ (binA Tryd.prog .add 3 (vI k) (vI 1) = some (vI ((k) + 1)) ∧ h2306 = h2306) ∧ q) (by intro K'; as_aux_lemma => kernel_rfl) (fun _ q => ⟨⟨cmp_lss (decide_eq_true c2311), rfl⟩, ⟨a2321 und22 size50 e2314, rfl⟩, ⟨(k2319.keep fun b r _ q => x2310 b r q).cell (j := 1) agg9 rfl, rfl⟩, ⟨cmp_gtr (decide_eq_false c2323), rfl⟩, ⟨a2333 und22 size50 e2314, rfl⟩, ⟨(k2331.keep fun b r _ q => x2310 b r q).cell (j := 2) agg9 rfl, rfl⟩, ⟨cmp_gtr (decide_eq_false c2335), rfl⟩, ⟨a2345 und22 size50 e2314, rfl⟩, ⟨(k2343.keep fun b r _ q => x2310 b r q).cell (j := 6) agg9 rfl, rfl⟩, ⟨cmp_gtr (decide_eq_true c2347), rfl⟩, ⟨a2357 und22 size50 e2314, rfl⟩, ⟨(k2355.keep fun b r _ q => x2310 b r q).cell (j := 6) agg9 rfl, rfl⟩, ⟨cmp_leq (decide_eq_false c2359), rfl⟩, ⟨add_i64 (by omega) (by omega), rfl⟩, q⟩) ?_
              exact ⟨xs.length - (k + 1).toNat, by omega, ⟨k + 1, (fun i => ([vU, vU, (g0 2), vU, vU, vU, vU, (vI k), (vL sa xs.length cp), (vI ((xs.length : Nat))), (vB true), (vI k), (vI ((k) + 1)), (vL sa xs.length cp), (vI k), (vP b2317 o2318), (vP b2317 (o2318 + 1)), (vP b2317 (o2318 + 1)), (vS v2313.rf), (vI ((v2313.rf.size : Nat))), (vB false), (vB false), (vL sa xs.length cp), (vI k), (vP b2329 o2330), (vP b2329 (o2330 + 1)), (vP b2329 (o2330 + 2)), (vS v2313.rt), (vI ((v2313.rt.size : Nat))), (vB false), (vB false), (vB false), (vL sa xs.length cp), (vI k), (vP b2341 o2342), (vP b2341 (o2342 + 6)), (vS v2313.d), (vI ((v2313.d.size : Nat))), (vB true), (vB true), (vL sa xs.length cp), (vI k), (vP b2353 o2354), (vP b2353 (o2354 + 6)), (vS v2313.d), (vI ((v2313.d.size : Nat))), (vB false), (vB false), (vB false)] : List Value).getD i undef), by as_aux_lemma => kernel_rfl, x2310, rfl, by omega, fun j x hj w => by
          rcases Int.lt_or_eq_of_le (Int.lt_add_one_iff.1 hj) with g | g
          · exact i2308 j x g w
          · have e : j = i2312 := by omega
            subst e; rw [w] at g2316; cases g2316; exact ⟨by omega, by omega⟩⟩⟩
          · refine wc_upd (n := 200) (T := ⟨fun r i => match r, i with | 4, 3 => some ((vB true), h2306) | 6, 2 => some ((vP b2317 o2318), h2306) | 6, 5 => some ((vS v2313.rf), h2306) | 6, 7 => some ((vB false), h2306) | 6, 11 => some ((vP b2329 o2330), h2306) | 6, 14 => some ((vS v2313.rt), h2306) | 6, 16 => some ((vB false), h2306) | 6, 21 => some ((vP b2341 o2342), h2306) | 6, 23 => some ((vS v2313.d), h2306) | 6, 25 => some ((vB false), h2306) | 5, 1 => some ((vI ((k) + 1)), h2306) | _, _ => none, fun _ => none, none⟩) (x := .normal) (h1 := h2306) [(7, (vI k)), (8, (vL sa xs.length cp)), (9, (vI ((xs.length : Nat)))), (10, (vB true)), (13, (vL sa xs.length cp)), (14, (vI k)), (15, (vP b2317 o2318)), (16, (vP b2317 (o2318 + 1))), (17, (vP b2317 (o2318 + 1))), (18, (vS v2313.rf)), (19, (vI ((v2313.rf.size : Nat)))), (20, (vB false)), (21, (vB false)), (22, (vL sa xs.length cp)), (23, (vI k)), (24, (vP b2329 o2330)), (25, (vP b2329 (o2330 + 1))), (26, (vP b2329 (o2330 + 2))), (27, (vS v2313.rt)), (28, (vI ((v2313.rt.size : Nat)))), (29, (vB false)), (30, (vB false)), (31, (vB false)), (32, (vL sa xs.length cp)), (33, (vI k)), (34, (vP b2341 o2342)), (35, (vP b2341 (o2342 + 6))), (36, (vS v2313.d)), (37, (vI ((v2313.d.size : Nat)))), (38, (vB false)), (39, (vB false)), (40, vZ), (41, vZ), (42, vZ), (43, vZ), (44, vZ), (45, vZ), (46, vZ), (47, (vB false)), (48, (vB false)), (11, (vI k)), (12, (vI ((k) + 1))), (3, (vI ((k) + 1)))]
              (fun q => (binA Tryd.prog .lss 3 (vI k) (vI ((xs.length : Nat))) = some (vB true) ∧ h2306 = h2306) ∧ (indexAddrA Tryd.prog 22 (vL sa xs.length cp) (vI k) = some (vP b2317 o2318) ∧ h2306 = h2306) ∧ (loadT Tryd.prog h2306 9 (vP b2317 (o2318 + 1)) = some (vS v2313.rf) ∧ h2306 = h2306) ∧ (binA Tryd.prog .gtr 3 (vI ((v2313.rf.size : Nat))) (vI 40) = some (vB false) ∧ h2306 = h2306) ∧ (indexAddrA Tryd.prog 22 (vL sa xs.length cp) (vI k) = some (vP b2329 o2330) ∧ h2306 = h2306) ∧ (loadT Tryd.prog h2306 9 (vP b2329 (o2330 + 2)) = some (vS v2313.rt) ∧ h2306 = h2306) ∧ (binA Tryd.prog .gtr 3 (vI ((v2313.rt.size : Nat))) (vI 40) = some (vB false) ∧ h2306 = h2306) ∧ (indexAddrA Tryd.prog 22 (vL sa xs.length cp) (vI k) = some (vP b2341 o2342) ∧ h2306 = h2306) ∧ (loadT Tryd.prog h2306 9 (vP b2341 (o2342 + 6)) = some (vS v2313.d) ∧ h2306 = h2306) ∧ (binA Tryd.prog .gtr 3 (vI ((v2313.d.size : Nat))) (vI 40) = some (vB false) ∧ h2306 = h2306) ∧ (binA Tryd.prog .add 3 (vI k) (vI 1) = some (vI ((k) + 1)) ∧ h2306 = h2306) ∧ q) (by intro K'; as_aux_lemma => kernel_rfl) (fun _ q => ⟨⟨cmp_lss (decide_eq_true c2311), rfl⟩, ⟨a2321 und22 size50 e2314, rfl⟩, ⟨(k2319.keep fun b r _ q => x2310 b r q).cell (j := 1) agg9 rfl, rfl⟩, ⟨cmp_gtr (decide_eq_false c2323), rfl⟩, ⟨a2333 und22 size50 e2314, rfl⟩, ⟨(k2331.keep fun b r _ q => x2310 b r q).cell (j := 2) agg9 rfl, rfl⟩, ⟨cmp_gtr (decide_eq_false c2335), rfl⟩, ⟨a2345 und22 size50 e2314, rfl⟩, ⟨(k2343.keep fun b r _ q => x2310 b r q).cell (j := 6) agg9 rfl, rfl⟩, ⟨cmp_gtr (decide_eq_false c2347), rfl⟩, ⟨add_i64 (by omega) (by omega), rfl⟩, q⟩) ?_
            exact ⟨xs.length - (k + 1).toNat, by omega, ⟨k + 1, (fun i => ([vU, vU, (g0 2), vU, vU, vU, vU, (vI k), (vL sa xs.length cp), (vI ((xs.length : Nat))), (vB true), (vI k), (vI ((k) + 1)), (vL sa xs.length cp), (vI k), (vP b2317 o2318), (vP b2317 (o2318 + 1)), (vP b2317 (o2318 + 1)), (vS v2313.rf), (vI ((v2313.rf.size : Nat))), (vB false), (vB false), (vL sa xs.length cp), (vI k), (vP b2329 o2330), (vP b2329 (o2330 + 1)), (vP b2329 (o2330 + 2)), (vS v2313.rt), (vI ((v2313.rt.size : Nat))), (vB false), (vB false), (vB false), (vL sa xs.length cp), (vI k), (vP b2341 o2342), (vP b2341 (o2342 + 6)), (vS v2313.d), (vI ((v2313.d.size : Nat))), (vB false), (vB false), vZ, vZ, vZ, vZ, vZ, vZ, vZ, (vB false), (vB false)] : List Value).getD i undef), by as_aux_lemma => kernel_rfl, x2310, rfl, by omega, fun j x hj w => by
          rcases Int.lt_or_eq_of_le (Int.lt_add_one_iff.1 hj) with g | g
          · exact i2308 j x g w
          · have e : j = i2312 := by omega
            subst e; rw [w] at g2316; cases g2316; exact ⟨by omega, by omega⟩⟩⟩
    · refine wc_upd (n := 200) (T := ⟨fun r i => match r, i with | 4, 3 => some ((vB false), h2306) | _, _ => none, fun _ => none, none⟩) (x := (.exit 0)) (h1 := h2306) [(7, (vI k)), (8, (vL sa xs.length cp)), (9, (vI ((xs.length : Nat)))), (10, (vB false))]
        (fun q => (binA Tryd.prog .lss 3 (vI k) (vI ((xs.length : Nat))) = some (vB false) ∧ h2306 = h2306) ∧ q) (by intro K'; as_aux_lemma => kernel_rfl) (fun _ q => ⟨⟨cmp_lss (decide_eq_false c2311), rfl⟩, q⟩) ?_
      refine wc_upd (n := 200) (T := ⟨fun r i => match r, i with | _, _ => none, fun _ => none, none⟩) (x := .ret) (h1 := h2306) [(2, (vB true))]
        (fun q => q) (by intro K'; as_aux_lemma => kernel_rfl) (fun _ q => q) ?_
      refine end_at (T := ⟨fun _ _ => none, fun _ => none, none⟩) (A := K (vB true) h2306) (by kernel_rfl) ?_
      exact hK _ _ (⟨true, rfl, fun _ => ⟨by omega, fun x hx => by obtain ⟨j, hj, e⟩ := List.getElem_of_mem hx; exact i2308 j x (by omega) (List.getElem?_eq_some_iff.2 ⟨hj, e⟩)⟩, x2310⟩)
set_option maxHeartbeats 4000000 in
theorem filled_ok (h : Heap) (xs : List StepA) (sa : Option Addr) (cp : Nat) (hl : SliceAt h scell 7 xs (.slice sa xs.length cp)) (hlen : xs.length ≤ 9223372036854775807) (hq : ∀ x ∈ xs, I64 x.n) : WCall Tryd.prog 13 #[(Value.slice sa (xs.length) (cp))] h (fun v h1 => ∃ b O', v = .pointer (some ⟨b, 0, none⟩) ∧ TabAt 56 32 h1 O' b (fillM xs) ∧ Ext h h1 ∧ ∀ z, O' z → h.size ≤ z) := by
  suffices H : ∀ K : Value → Heap → Prop, (∀ v h1, (fun v h1 => ∃ b O', v = .pointer (some ⟨b, 0, none⟩) ∧ TabAt 56 32 h1 O' b (fillM xs) ∧ Ext h h1 ∧ ∀ z, O' z → h.size ≤ z) v h1 → K v h1) → WCall Tryd.prog 13 #[(Value.slice sa (xs.length) (cp))] h K from H _ fun _ _ q => q
  intro K hK
  refine wcall_at { tmps := #[(vL sa xs.length cp), vZ, vZ, vZ, vZ, vZ, vZ, vZ, vZ, vZ, vZ, vZ, vZ, vZ, vZ, vZ, vZ, vZ, vZ, vZ, vZ, vZ, vZ, vZ, vZ, vZ, vZ, vZ, vZ, vZ, vZ, vZ, vZ, vZ, vZ, vZ, vZ, vZ, vZ, vZ, vZ, vZ, vZ, vZ, vZ, vZ, vZ, vZ, vZ, vZ, vZ, vZ, vZ, vZ, vZ, vZ, vZ, vZ, vZ, vZ], defers := [] } (by kernel_rfl) ?_
  refine wc_seq' (subc (bodyOf Tryd.prog 13) [0]) (subc (bodyOf Tryd.prog 13) [1]) (by kernel_rfl) ?_
  refine wc_upd (n := 200) (T := ⟨fun r i => match r, i with | _, _ => none, fun _ => none, none⟩) (x := .normal) (h1 := h) [(2, vN)]
    (fun q => q) (by intro K'; as_aux_lemma => kernel_rfl) (fun _ q => q) ?_
  refine wc_seq' (subc (bodyOf Tryd.prog 13) [1, 0]) (subc (bodyOf Tryd.prog 13) [1, 1]) (by kernel_rfl) ?_
  obtain ⟨_, h2361, s2362, b2360, O2364, rfl, p2365, x2363, w2366⟩ := new_ok h
  have x2367 := (Ext.refl h).trans x2363
  have z2368 : h.size ≤ h.size := (Ext.refl h).size
  have o2370 : ∀ zz, O2364 zz → h.size ≤ zz := fun zz hz => by have := w2366 zz hz; omega
  refine wc_upd (n := 200) (T := ⟨fun r i => match r, i with | 1, 0 => some ((vP b2360 0), h2361) | _, _ => none, fun _ => none, none⟩) (x := .normal) (h1 := h2361) [(5, (vP b2360 0)), (3, (vP b2360 0))]
    (fun q => SoundCall Tryd.prog 20 #[] h (vP b2360 0) h2361 ∧ q) (by intro K'; as_aux_lemma => kernel_rfl) (fun _ q => ⟨s2362, q⟩) ?_
  refine wc_seq' (subc (bodyOf Tryd.prog 13) [1, 1, 0]) (subc (bodyOf Tryd.prog 13) [1, 1, 1]) (by kernel_rfl) ?_
  refine wc_seq' (subc (bodyOf Tryd.prog 13) [1, 1, 0, 0]) (subc (bodyOf Tryd.prog 13) [1, 1, 0, 1]) (by kernel_rfl) ?_
  refine wc_upd (n := 200) (T := ⟨fun r i => match r, i with | _, _ => none, fun _ => none, none⟩) (x := .normal) (h1 := h2361) [(4, (vI 0))]
    (fun q => q) (by intro K'; as_aux_lemma => kernel_rfl) (fun _ q => q) ?_
  refine wc_block' 0 (subc (bodyOf Tryd.prog 13) [1, 1, 0, 1, 0]) (by kernel_rfl) ?_
  refine wc_loop' (subc (bodyOf Tryd.prog 13) [1, 1, 0, 1, 0, 0]) (by kernel_rfl) (fun n' a' h' => ∃ (k : Int) (O : Nat → Prop) (g0 : Nat → Value), a' = { tmps := #[(vL sa xs.length cp), vZ, vN, (vP b2360 0), (vI k), (vP b2360 0), (g0 6), (g0 7), (g0 8), (g0 9), (g0 10), (g0 11), (g0 12), (g0 13), (g0 14), (g0 15), (g0 16), (g0 17), (g0 18), (g0 19), (g0 20), (g0 21), (g0 22), (g0 23), (g0 24), (g0 25), (g0 26), (g0 27), (g0 28), (g0 29), (g0 30), (g0 31), (g0 32), (g0 33), (g0 34), (g0 35), (g0 36), (g0 37), (g0 38), (g0 39), (g0 40), (g0 41), (g0 42), (g0 43), (g0 44), (g0 45), (g0 46), (g0 47), (g0 48), (g0 49), (g0 50), (g0 51), (g0 52), (g0 53), (g0 54), (g0 55), (g0 56), (g0 57), (g0 58), vZ], defers := [] } ∧ Ext h h' ∧ n' = xs.length - k.toNat ∧ (0 ≤ k ∧ k ≤ (xs.length : Nat)) ∧ (∀ zz, O zz → h.size ≤ zz) ∧ TabAt 56 32 h' O b2360 (fillM (xs.take k.toNat))) ?_ (xs.length - (0 : Int).toNat) ⟨0, O2364, (fun i => ([vU, vU, vU, vU, vU, vU, vZ, vZ, vZ, vZ, vZ, vZ, vZ, vZ, vZ, vZ, vZ, vZ, vZ, vZ, vZ, vZ, vZ, vZ, vZ, vZ, vZ, vZ, vZ, vZ, vZ, vZ, vZ, vZ, vZ, vZ, vZ, vZ, vZ, vZ, vZ, vZ, vZ, vZ, vZ, vZ, vZ, vZ, vZ, vZ, vZ, vZ, vZ, vZ, vZ, vZ, vZ, vZ, vZ] : List Value).getD i undef), by as_aux_lemma => kernel_rfl, x2367, rfl, by omega, o2370, p2365⟩
  rintro n' _ h2372 ⟨k, O, g0, rfl, x2377, m2376, i2373, i2374, p2375⟩
  by_cases c2378 : ((k) : Int) < ((xs.length : Nat))
  · obtain ⟨i2379, v2380, e2381, l2382, g2383⟩ := list_at xs (e := (k)) (by omega) (by first | omega | (simp only [List.length_set, List.length_append, List.length_singleton]; omega))
    obtain ⟨b2384, o2385, k2386, q2387, a2388⟩ := hl.at scell_size g2383
    have : I64 v2380.n := hq _ (List.mem_of_getElem? g2383)
    unfold I64 at this
    by_cases c2390 : ((v2380.k) : Int) = 0
    · obtain ⟨b2396, o2397, k2398, q2399, a2400⟩ := hl.at scell_size g2383
      have : I64 v2380.n := hq _ (List.mem_of_getElem? g2383)
      unfold I64 at this
      obtain ⟨b2407, o2408, k2409, q2410, a2411⟩ := hl.at scell_size g2383
      have : I64 v2380.n := hq _ (List.mem_of_getElem? g2383)
      unfold I64 at this
      obtain ⟨b2418, o2419, k2420, q2421, a2422⟩ := hl.at scell_size g2383
      have : I64 v2380.n := hq _ (List.mem_of_getElem? g2383)
      unfold I64 at this
      obtain ⟨_, h2424, s2425, rfl, x2426, O2427, p2428, o2429⟩ := start_ok h2372 p2375 (fillM_len (xs.take k.toNat)) v2380.rf v2380.rt (v2380.f) (v2380.t)
      have k2430 := startL_len (fillM_len (xs.take k.toNat)) v2380.rf v2380.rt (v2380.f) (v2380.t)
      have z2431 : h.size ≤ h2372.size := x2377.size
      have x2432 : Ext h _ := (Chg.then (O := fun _ => False) (Chg.ext x2377) x2426 (fun b hb => .inr (i2374 b hb))).toExt'
      have z2433 : h.size ≤ h2372.size := x2377.size
      have o2434 : ∀ zz, O2427 zz → h.size ≤ zz := fun zz hz => by rcases o2429 zz hz with g | g; (exact i2374 zz g); omega
      refine wc_upd (n := 200) (T := ⟨fun r i => match r, i with | 3, 3 => some ((vB true), h2372) | 5, 2 => some ((vP b2384 o2385), h2372) | 5, 4 => some ((vI v2380.k), h2372) | 6, 0 => some ((vB true), h2372) | 7, 3 => some ((vP b2396 o2397), h2372) | 7, 5 => some ((vA #[(vS v2380.rf), (vS v2380.rt)]), h2372) | 7, 8 => some ((vP b2407 o2408), h2372) | 7, 10 => some ((vI v2380.f), h2372) | 7, 13 => some ((vP b2418 o2419), h2372) | 7, 15 => some ((vI v2380.t), h2372) | 7, 16 => some ((vT #[(vI (startN (fillM (xs.take k.toNat)) v2380.rf v2380.rt (v2380.f) (v2380.t))), (vI (startE (fillM (xs.take k.toNat)) v2380.rf v2380.rt (v2380.f) (v2380.t)))]), h2424) | 4, 1 => some ((vI ((k) + 1)), h2424) | _, _ => none, fun _ => none, none⟩) (x := .normal) (h1 := h2424) [(6, (vI k)), (7, (vL sa xs.length cp)), (8, (vI ((xs.length : Nat)))), (9, (vB true)), (12, (vL sa xs.length cp)), (13, (vI k)), (14, (vP b2384 o2385)), (15, (vP b2384 o2385)), (16, (vI v2380.k)), (18, (vB true)), (17, (vB true)), (19, (vP b2360 0)), (20, (vL sa xs.length cp)), (21, (vI k)), (22, (vP b2396 o2397)), (23, (vP b2396 (o2397 + 1))), (24, (vA #[(vS v2380.rf), (vS v2380.rt)])), (25, (vL sa xs.length cp)), (26, (vI k)), (27, (vP b2407 o2408)), (28, (vP b2407 (o2408 + 3))), (29, (vI v2380.f)), (30, (vL sa xs.length cp)), (31, (vI k)), (32, (vP b2418 o2419)), (33, (vP b2418 (o2419 + 4))), (34, (vI v2380.t)), (35, (vT #[(vI (startN (fillM (xs.take k.toNat)) v2380.rf v2380.rt (v2380.f) (v2380.t))), (vI (startE (fillM (xs.take k.toNat)) v2380.rf v2380.rt (v2380.f) (v2380.t)))])), (10, (vI k)), (11, (vI ((k) + 1))), (4, (vI ((k) + 1)))]
        (fun q => (binA Tryd.prog .lss 3 (vI k) (vI ((xs.length : Nat))) = some (vB true) ∧ h2372 = h2372) ∧ (indexAddrA Tryd.prog 22 (vL sa xs.length cp) (vI k) = some (vP b2384 o2385) ∧ h2372 = h2372) ∧ (loadT Tryd.prog h2372 3 (vP b2384 o2385) = some (vI v2380.k) ∧ h2372 = h2372) ∧ (binA Tryd.prog .eql 3 (vI v2380.k) (vI 0) = some (vB true) ∧ h2372 = h2372) ∧ (indexAddrA Tryd.prog 22 (vL sa xs.length cp) (vI k) = some (vP b2396 o2397) ∧ h2372 = h2372) ∧ (loadT Tryd.prog h2372 30 (vP b2396 (o2397 + 1)) = some (vA #[(vS v2380.rf), (vS v2380.rt)]) ∧ h2372 = h2372) ∧ (indexAddrA Tryd.prog 22 (vL sa xs.length cp) (vI k) = some (vP b2407 o2408) ∧ h2372 = h2372) ∧ (loadT Tryd.prog h2372 3 (vP b2407 (o2408 + 3)) = some (vI v2380.f) ∧ h2372 = h2372) ∧ (indexAddrA Tryd.prog 22 (vL sa xs.length cp) (vI k) = some (vP b2418 o2419) ∧ h2372 = h2372) ∧ (loadT Tryd.prog h2372 3 (vP b2418 (o2419 + 4)) = some (vI v2380.t) ∧ h2372 = h2372) ∧ SoundCall Tryd.prog 21 #[(vP b2360 0), (vA #[(vS v2380.rf), (vS v2380.rt)]), (vI v2380.f), (vI v2380.t)] h2372 (vT #[(vI (startN (fillM (xs.take k.toNat)) v2380.rf v2380.rt (v2380.f) (v2380.t))), (vI (startE (fillM (xs.take k.toNat)) v2380.rf v2380.rt (v2380.f) (v2380.t)))]) h2424 ∧ (binA Tryd.prog .add 3 (vI k) (vI 1) = some (vI ((k) + 1)) ∧ h2424 = h2424) ∧ q) (by intro K'; as_aux_lemma => kernel_rfl) (fun _ q => ⟨⟨cmp_lss (decide_eq_true c2378), rfl⟩, ⟨a2388 und22 size50 e2381, rfl⟩, ⟨(k2386.keep fun b r _ q => x2377 b r q).cell (j := 0) agg3 rfl, rfl⟩, ⟨cmp_eql (decide_eq_true c2390), rfl⟩, ⟨a2400 und22 size50 e2381, rfl⟩, ⟨(k2398.keep fun b r _ q => x2377 b r q).agg (j := 1) agg30 size30 (show 1 + 2 ≤ 7 by decide) (by kernel_rfl), rfl⟩, ⟨a2411 und22 size50 e2381, rfl⟩, ⟨(k2409.keep fun b r _ q => x2377 b r q).cell (j := 3) agg3 rfl, rfl⟩, ⟨a2422 und22 size50 e2381, rfl⟩, ⟨(k2420.keep fun b r _ q => x2377 b r q).cell (j := 4) agg3 rfl, rfl⟩, s2425, ⟨add_i64 (by omega) (by omega), rfl⟩, q⟩) ?_
      exact ⟨xs.length - (k + 1).toNat, by omega, ⟨k + 1, O2427, (fun i => ([vU, vU, vU, vU, vU, vU, (vI k), (vL sa xs.length cp), (vI ((xs.length : Nat))), (vB true), (vI k), (vI ((k) + 1)), (vL sa xs.length cp), (vI k), (vP b2384 o2385), (vP b2384 o2385), (vI v2380.k), (vB true), (vB true), (vP b2360 0), (vL sa xs.length cp), (vI k), (vP b2396 o2397), (vP b2396 (o2397 + 1)), (vA #[(vS v2380.rf), (vS v2380.rt)]), (vL sa xs.length cp), (vI k), (vP b2407 o2408), (vP b2407 (o2408 + 3)), (vI v2380.f), (vL sa xs.length cp), (vI k), (vP b2418 o2419), (vP b2418 (o2419 + 4)), (vI v2380.t), (vT #[(vI (startN (fillM (xs.take k.toNat)) v2380.rf v2380.rt (v2380.f) (v2380.t))), (vI (startE (fillM (xs.take k.toNat)) v2380.rf v2380.rt (v2380.f) (v2380.t)))]), (g0 36), (g0 37), (g0 38), (g0 39), (g0 40), (g0 41), (g0 42), (g0 43), (g0 44), (g0 45), (g0 46), (g0 47), (g0 48), (g0 49), (g0 50), (g0 51), (g0 52), (g0 53), (g0 54), (g0 55), (g0 56), (g0 57), (g0 58)] : List Value).getD i undef), by as_aux_lemma => kernel_rfl, x2432, rfl, by omega, o2434, by rw [show (k + 1).toNat = i2379 + 1 by omega, fill_next g2383, stepM, if_pos c2390, show i2379 = k.toNat by omega]; exact p2428⟩⟩
    · by_cases c2435 : ((v2380.k) : Int) = 1
      · obtain ⟨b2441, o2442, k2443, q2444, a2445⟩ := hl.at scell_size g2383
        have : I64 v2380.n := hq _ (List.mem_of_getElem? g2383)
        unfold I64 at this
        obtain ⟨b2452, o2453, k2454, q2455, a2456⟩ := hl.at scell_size g2383
        have : I64 v2380.n := hq _ (List.mem_of_getElem? g2383)
        unfold I64 at this
        obtain ⟨_, h2458, s2459, rfl, x2460, O2461, p2462, o2463⟩ := given_ok h2372 p2375 (fillM_len (xs.take k.toNat)) (v2380.n) (by omega) v2380.d
        have k2464 := givenL_len (fillM_len (xs.take k.toNat)) (v2380.n) v2380.d
        have z2465 : h.size ≤ h2372.size := x2377.size
        have x2466 : Ext h _ := (Chg.then (O := fun _ => False) (Chg.ext x2377) x2460 (fun b hb => .inr (i2374 b hb))).toExt'
        have z2467 : h.size ≤ h2372.size := x2377.size
        have o2468 : ∀ zz, O2461 zz → h.size ≤ zz := fun zz hz => by rcases o2463 zz hz with g | g; (exact i2374 zz g); omega
        refine wc_upd (n := 200) (T := ⟨fun r i => match r, i with | 3, 3 => some ((vB true), h2372) | 5, 2 => some ((vP b2384 o2385), h2372) | 5, 4 => some ((vI v2380.k), h2372) | 6, 0 => some ((vB false), h2372) | 8, 0 => some ((vB true), h2372) | 9, 3 => some ((vP b2441 o2442), h2372) | 9, 5 => some ((vI v2380.n), h2372) | 9, 8 => some ((vP b2452 o2453), h2372) | 9, 10 => some ((vS v2380.d), h2372) | 9, 11 => some ((vI (givenE (fillM (xs.take k.toNat)) (v2380.n) v2380.d)), h2458) | 4, 1 => some ((vI ((k) + 1)), h2458) | _, _ => none, fun _ => none, none⟩) (x := .normal) (h1 := h2458) [(6, (vI k)), (7, (vL sa xs.length cp)), (8, (vI ((xs.length : Nat)))), (9, (vB true)), (12, (vL sa xs.length cp)), (13, (vI k)), (14, (vP b2384 o2385)), (15, (vP b2384 o2385)), (16, (vI v2380.k)), (18, (vB false)), (17, (vB false)), (37, (vB true)), (36, (vB true)), (38, (vP b2360 0)), (39, (vL sa xs.length cp)), (40, (vI k)), (41, (vP b2441 o2442)), (42, (vP b2441 (o2442 + 5))), (43, (vI v2380.n)), (44, (vL sa xs.length cp)), (45, (vI k)), (46, (vP b2452 o2453)), (47, (vP b2452 (o2453 + 6))), (48, (vS v2380.d)), (49, (vI (givenE (fillM (xs.take k.toNat)) (v2380.n) v2380.d))), (10, (vI k)), (11, (vI ((k) + 1))), (4, (vI ((k) + 1)))]
          (fun q => (binA Tryd.prog .lss 3 (vI k) (vI ((xs.length : Nat))) = some (vB true) ∧ h2372 = h2372) ∧ (indexAddrA Tryd.prog 22 (vL sa xs.length cp) (vI k) = some (vP b2384 o2385) ∧ h2372 = h2372) ∧ (loadT Tryd.prog h2372 3 (vP b2384 o2385) = some (vI v2380.k) ∧ h2372 = h2372) ∧ (binA Tryd.prog .eql 3 (vI v2380.k) (vI 0) = some (vB false) ∧ h2372 = h2372) ∧ (binA Tryd.prog .eql 3 (vI v2380.k) (vI 1) = some (vB true) ∧ h2372 = h2372) ∧ (indexAddrA Tryd.prog 22 (vL sa xs.length cp) (vI k) = some (vP b2441 o2442) ∧ h2372 = h2372) ∧ (loadT Tryd.prog h2372 3 (vP b2441 (o2442 + 5)) = some (vI v2380.n) ∧ h2372 = h2372) ∧ (indexAddrA Tryd.prog 22 (vL sa xs.length cp) (vI k) = some (vP b2452 o2453) ∧ h2372 = h2372) ∧ (loadT Tryd.prog h2372 9 (vP b2452 (o2453 + 6)) = some (vS v2380.d) ∧ h2372 = h2372) ∧ SoundCall Tryd.prog 22 #[(vP b2360 0), (vI v2380.n), (vS v2380.d)] h2372 (vI (givenE (fillM (xs.take k.toNat)) (v2380.n) v2380.d)) h2458 ∧ (binA Tryd.prog .add 3 (vI k) (vI 1) = some (vI ((k) + 1)) ∧ h2458 = h2458) ∧ q) (by intro K'; as_aux_lemma => kernel_rfl) (fun _ q => ⟨⟨cmp_lss (decide_eq_true c2378), rfl⟩, ⟨a2388 und22 size50 e2381, rfl⟩, ⟨(k2386.keep fun b r _ q => x2377 b r q).cell (j := 0) agg3 rfl, rfl⟩, ⟨cmp_eql (decide_eq_false c2390), rfl⟩, ⟨cmp_eql (decide_eq_true c2435), rfl⟩, ⟨a2445 und22 size50 e2381, rfl⟩, ⟨(k2443.keep fun b r _ q => x2377 b r q).cell (j := 5) agg3 rfl, rfl⟩, ⟨a2456 und22 size50 e2381, rfl⟩, ⟨(k2454.keep fun b r _ q => x2377 b r q).cell (j := 6) agg9 rfl, rfl⟩, s2459, ⟨add_i64 (by omega) (by omega), rfl⟩, q⟩) ?_
        exact ⟨xs.length - (k + 1).toNat, by omega, ⟨k + 1, O2461, (fun i => ([vU, vU, vU, vU, vU, vU, (vI k), (vL sa xs.length cp), (vI ((xs.length : Nat))), (vB true), (vI k), (vI ((k) + 1)), (vL sa xs.length cp), (vI k), (vP b2384 o2385), (vP b2384 o2385), (vI v2380.k), (vB false), (vB false), (g0 19), (g0 20), (g0 21), (g0 22), (g0 23), (g0 24), (g0 25), (g0 26), (g0 27), (g0 28), (g0 29), (g0 30), (g0 31), (g0 32), (g0 33), (g0 34), (g0 35), (vB true), (vB true), (vP b2360 0), (vL sa xs.length cp), (vI k), (vP b2441 o2442), (vP b2441 (o2442 + 5)), (vI v2380.n), (vL sa xs.length cp), (vI k), (vP b2452 o2453), (vP b2452 (o2453 + 6)), (vS v2380.d), (vI (givenE (fillM (xs.take k.toNat)) (v2380.n) v2380.d)), (g0 50), (g0 51), (g0 52), (g0 53), (g0 54), (g0 55), (g0 56), (g0 57), (g0 58)] : List Value).getD i undef), by as_aux_lemma => kernel_rfl, x2466, rfl, by omega, o2468, by rw [show (k + 1).toNat = i2379 + 1 by omega, fill_next g2383, stepM, if_neg c2390, if_pos c2435, show i2379 = k.toNat by omega]; exact p2462⟩⟩
      · by_cases c2469 : ((v2380.k) : Int) = 2
        · obtain ⟨b2475, o2476, k2477, q2478, a2479⟩ := hl.at scell_size g2383
          have : I64 v2380.n := hq _ (List.mem_of_getElem? g2383)
          unfold I64 at this
          obtain ⟨_, h2481, s2482, rfl, x2483, O2484, p2485, o2486⟩ := taken_ok h2372 p2375 (fillM_len (xs.take k.toNat)) (v2380.n) (by omega)
          have k2487 := takenL_len (fillM_len (xs.take k.toNat)) (v2380.n)
          have z2488 : h.size ≤ h2372.size := x2377.size
          have x2489 : Ext h _ := (Chg.then (O := fun _ => False) (Chg.ext x2377) x2483 (fun b hb => .inr (i2374 b hb))).toExt'
          have z2490 : h.size ≤ h2372.size := x2377.size
          have o2491 : ∀ zz, O2484 zz → h.size ≤ zz := fun zz hz => by rcases o2486 zz hz with g | g; (exact i2374 zz g); omega
          refine wc_upd (n := 200) (T := ⟨fun r i => match r, i with | 3, 3 => some ((vB true), h2372) | 5, 2 => some ((vP b2384 o2385), h2372) | 5, 4 => some ((vI v2380.k), h2372) | 6, 0 => some ((vB false), h2372) | 8, 0 => some ((vB false), h2372) | 10, 0 => some ((vB true), h2372) | 11, 3 => some ((vP b2475 o2476), h2372) | 11, 5 => some ((vI v2380.n), h2372) | 11, 6 => some ((vI (takenE (fillM (xs.take k.toNat)) (v2380.n))), h2481) | 4, 1 => some ((vI ((k) + 1)), h2481) | _, _ => none, fun _ => none, none⟩) (x := .normal) (h1 := h2481) [(6, (vI k)), (7, (vL sa xs.length cp)), (8, (vI ((xs.length : Nat)))), (9, (vB true)), (12, (vL sa xs.length cp)), (13, (vI k)), (14, (vP b2384 o2385)), (15, (vP b2384 o2385)), (16, (vI v2380.k)), (18, (vB false)), (17, (vB false)), (37, (vB false)), (36, (vB false)), (51, (vB true)), (50, (vB true)), (52, (vP b2360 0)), (53, (vL sa xs.length cp)), (54, (vI k)), (55, (vP b2475 o2476)), (56, (vP b2475 (o2476 + 5))), (57, (vI v2380.n)), (58, (vI (takenE (fillM (xs.take k.toNat)) (v2380.n)))), (10, (vI k)), (11, (vI ((k) + 1))), (4, (vI ((k) + 1)))]
            (fun q => (binA Tryd.prog .lss 3 (vI k) (vI ((xs.length : Nat))) = some (vB true) ∧ h2372 = h2372) ∧ (indexAddrA Tryd.prog 22 (vL sa xs.length cp) (vI k) = some (vP b2384 o2385) ∧ h2372 = h2372) ∧ (loadT Tryd.prog h2372 3 (vP b2384 o2385) = some (vI v2380.k) ∧ h2372 = h2372) ∧ (binA Tryd.prog .eql 3 (vI v2380.k) (vI 0) = some (vB false) ∧ h2372 = h2372) ∧ (binA Tryd.prog .eql 3 (vI v2380.k) (vI 1) = some (vB false) ∧ h2372 = h2372) ∧ (binA Tryd.prog .eql 3 (vI v2380.k) (vI 2) = some (vB true) ∧ h2372 = h2372) ∧ (indexAddrA Tryd.prog 22 (vL sa xs.length cp) (vI k) = some (vP b2475 o2476) ∧ h2372 = h2372) ∧ (loadT Tryd.prog h2372 3 (vP b2475 (o2476 + 5)) = some (vI v2380.n) ∧ h2372 = h2372) ∧ SoundCall Tryd.prog 23 #[(vP b2360 0), (vI v2380.n)] h2372 (vI (takenE (fillM (xs.take k.toNat)) (v2380.n))) h2481 ∧ (binA Tryd.prog .add 3 (vI k) (vI 1) = some (vI ((k) + 1)) ∧ h2481 = h2481) ∧ q) (by intro K'; as_aux_lemma => kernel_rfl) (fun _ q => ⟨⟨cmp_lss (decide_eq_true c2378), rfl⟩, ⟨a2388 und22 size50 e2381, rfl⟩, ⟨(k2386.keep fun b r _ q => x2377 b r q).cell (j := 0) agg3 rfl, rfl⟩, ⟨cmp_eql (decide_eq_false c2390), rfl⟩, ⟨cmp_eql (decide_eq_false c2435), rfl⟩, ⟨cmp_eql (decide_eq_true c2469), rfl⟩, ⟨a2479 und22 size50 e2381, rfl⟩, ⟨(k2477.keep fun b r _ q => x2377 b r q).cell (j := 5) agg3 rfl, rfl⟩, s2482, ⟨add_i64 (by omega) (by omega), rfl⟩, q⟩) ?_
          exact ⟨xs.length - (k + 1).toNat, by omega, ⟨k + 1, O2484, (fun i => ([vU, vU, vU, vU, vU, vU, (vI k), (vL sa xs.length cp), (vI ((xs.length : Nat))), (vB true), (vI k), (vI ((k) + 1)), (vL sa xs.length cp), (vI k), (vP b2384 o2385), (vP b2384 o2385), (vI v2380.k), (vB false), (vB false), (g0 19), (g0 20), (g0 21), (g0 22), (g0 23), (g0 24), (g0 25), (g0 26), (g0 27), (g0 28), (g0 29), (g0 30), (g0 31), (g0 32), (g0 33), (g0 34), (g0 35), (vB false), (vB false), (g0 38), (g0 39), (g0 40), (g0 41), (g0 42), (g0 43), (g0 44), (g0 45), (g0 46), (g0 47), (g0 48), (g0 49), (vB true), (vB true), (vP b2360 0), (vL sa xs.length cp), (vI k), (vP b2475 o2476), (vP b2475 (o2476 + 5)), (vI v2380.n), (vI (takenE (fillM (xs.take k.toNat)) (v2380.n)))] : List Value).getD i undef), by as_aux_lemma => kernel_rfl, x2489, rfl, by omega, o2491, by rw [show (k + 1).toNat = i2379 + 1 by omega, fill_next g2383, stepM, if_neg c2390, if_neg c2435, if_pos c2469, show i2379 = k.toNat by omega]; exact p2485⟩⟩
        · refine wc_upd (n := 200) (T := ⟨fun r i => match r, i with | 3, 3 => some ((vB true), h2372) | 5, 2 => some ((vP b2384 o2385), h2372) | 5, 4 => some ((vI v2380.k), h2372) | 6, 0 => some ((vB false), h2372) | 8, 0 => some ((vB false), h2372) | 10, 0 => some ((vB false), h2372) | 4, 1 => some ((vI ((k) + 1)), h2372) | _, _ => none, fun _ => none, none⟩) (x := .normal) (h1 := h2372) [(6, (vI k)), (7, (vL sa xs.length cp)), (8, (vI ((xs.length : Nat)))), (9, (vB true)), (12, (vL sa xs.length cp)), (13, (vI k)), (14, (vP b2384 o2385)), (15, (vP b2384 o2385)), (16, (vI v2380.k)), (18, (vB false)), (17, (vB false)), (37, (vB false)), (36, (vB false)), (51, (vB false)), (50, (vB false)), (10, (vI k)), (11, (vI ((k) + 1))), (4, (vI ((k) + 1)))]
            (fun q => (binA Tryd.prog .lss 3 (vI k) (vI ((xs.length : Nat))) = some (vB true) ∧ h2372 = h2372) ∧ (indexAddrA Tryd.prog 22 (vL sa xs.length cp) (vI k) = some (vP b2384 o2385) ∧ h2372 = h2372) ∧ (loadT Tryd.prog h2372 3 (vP b2384 o2385) = some (vI v2380.k) ∧ h2372 = h2372) ∧ (binA Tryd.prog .eql 3 (vI v2380.k) (vI 0) = some (vB false) ∧ h2372 = h2372) ∧ (binA Tryd.prog .eql 3 (vI v2380.k) (vI 1) = some (vB false) ∧ h2372 = h2372) ∧ (binA Tryd.prog .eql 3 (vI v2380.k) (vI 2) = some (vB false) ∧ h2372 = h2372) ∧ (binA Tryd.prog .add 3 (vI k) (vI 1) = some (vI ((k) + 1)) ∧ h2372 = h2372) ∧ q) (by intro K'; as_aux_lemma => kernel_rfl) (fun _ q => ⟨⟨cmp_lss (decide_eq_true c2378), rfl⟩, ⟨a2388 und22 size50 e2381, rfl⟩, ⟨(k2386.keep fun b r _ q => x2377 b r q).cell (j := 0) agg3 rfl, rfl⟩, ⟨cmp_eql (decide_eq_false c2390), rfl⟩, ⟨cmp_eql (decide_eq_false c2435), rfl⟩, ⟨cmp_eql (decide_eq_false c2469), rfl⟩, ⟨add_i64 (by omega) (by omega), rfl⟩, q⟩) ?_
          exact ⟨xs.length - (k + 1).toNat, by omega, ⟨k + 1, O, (fun i => ([vU, vU, vU, vU, vU, vU, (vI k), (vL sa xs.length cp), (vI ((xs.length : Nat))), (vB true), (vI k), (vI ((k) + 1)), (vL sa xs.length cp), (vI k), (vP b2384 o2385), (vP b2384 o2385), (vI v2380.k), (vB false), (vB false), (g0 19), (g0 20), (g0 21), (g0 22), (g0 23), (g0 24), (g0 25), (g0 26), (g0 27), (g0 28), (g0 29), (g0 30), (g0 31), (g0 32), (g0 33), (g0 34), (g0 35), (vB false), (vB false), (g0 38), (g0 39), (g0 40), (g0 41), (g0 42), (g0 43), (g0 44), (g0 45), (g0 46), (g0 47), (g0 48), (g0 49), (vB false), (vB false), (g0 52), (g0 53), (g0 54), (g0 55), (g0 56), (g0 57), (g0 58)] : List Value).getD i undef), by as_aux_lemma => kernel_rfl, x2377, rfl, by omega, i2374, by rw [show (k + 1).toNat = i2379 + 1 by omega, fill_next g2383, stepM, if_neg c2390, if_neg c2435, if_neg c2469, show i2379 = k.toNat by omega]; exact p2375⟩⟩
  · refine wc_upd (n := 200) (T := ⟨fun r i => match r, i with | 3, 3 => some ((vB false), h2372) | _, _ => none, fun _ => none, none⟩) (x := (.exit 0)) (h1 := h2372) [(6, (vI k)), (7, (vL sa xs.length cp)), (8, (vI ((xs.length : Nat)))), (9, (vB false))]
      (fun q => (binA Tryd.prog .lss 3 (vI k) (vI ((xs.length : Nat))) = some (vB false) ∧ h2372 = h2372) ∧ q) (by intro K'; as_aux_lemma => kernel_rfl) (fun _ q => ⟨⟨cmp_lss (decide_eq_false c2378), rfl⟩, q⟩) ?_
    refine wc_upd (n := 200) (T := ⟨fun r i => match r, i with | _, _ => none, fun _ => none, none⟩) (x := .ret) (h1 := h2372) [(59, (vP b2360 0)), (2, (vP b2360 0))]
      (fun q => q) (by intro K'; as_aux_lemma => kernel_rfl) (fun _ q => q) ?_
    have ek : xs.take k.toNat = xs := List.take_of_length_le (by omega)
    have tb := p2375
    rw [ek] at tb
    refine end_at (T := ⟨fun _ _ => none, fun _ => none, none⟩) (A := K (vP b2360 0) h2372) (by kernel_rfl) ?_
    exact hK _ _ (⟨_, O, rfl, tb, x2377, i2374⟩)
end C32
