/- Lists of numbers are compared. -/
import Derived.Test.YtghcfpoccafbjaaDoorNa
import Derived.KernelRfl
open Go Go.AM Go.Proofs
namespace C32
theorem bytes_beq (c c' : ByteArray) : (c == c') = decide (c = c') := by
  cases c with | mk a => cases c' with | mk b =>
  have : (ByteArray.mk a == ByteArray.mk b) = (a == b) := by
    show ByteArray.beq _ _ = _
    unfold ByteArray.beq
    rfl
  rw [this]
  by_cases h : a = b <;> simp [h]
theorem int_beq (a b : Int) : (a == b) = decide (a = b) := by by_cases h : a = b <;> simp [h]
theorem bool_beq (a b : Bool) : (a == b) = decide (a = b) := by cases a <;> cases b <;> rfl
theorem eq32 {a0 b0 : ByteArray} {a1 b1 : ByteArray} {a2 b2 : Int} {a3 b3 : Int} {a4 b4 : Int} {a5 b5 : ByteArray} : eqA Tryd.prog 8 32 (.agg #[.string a0, .string a1, .int .i64 a2, .int .i64 a3, .int .i64 a4, .string a5]) (.agg #[.string b0, .string b1, .int .i64 b2, .int .i64 b3, .int .i64 b4, .string b5]) = some (decide (a0 = b0 ∧ a1 = b1 ∧ a2 = b2 ∧ a3 = b3 ∧ a4 = b4 ∧ a5 = b5)) := by
  have e : eqA Tryd.prog 8 32 (.agg #[.string a0, .string a1, .int .i64 a2, .int .i64 a3, .int .i64 a4, .string a5]) (.agg #[.string b0, .string b1, .int .i64 b2, .int .i64 b3, .int .i64 b4, .string b5]) = (match ((match (some (a0 == b0) : Option Bool) with | some true => (match (some (a1 == b1) : Option Bool) with | some true => some true | some false => some false | none => none) | some false => some false | none => none) : Option Bool) with | some true => (match (some (a2 == b2) : Option Bool) with | some true => (match (some (a3 == b3) : Option Bool) with | some true => (match (some (a4 == b4) : Option Bool) with | some true => (match (some (a5 == b5) : Option Bool) with | some true => some true | some false => some false | none => none) | some false => some false | none => none) | some false => some false | none => none) | some false => some false | none => none) | some false => some false | none => none) := by kernel_rfl
  rw [e]
  simp only [int_beq, bytes_beq, bool_beq]
  by_cases h0 : a0 = b0 <;> by_cases h1 : a1 = b1 <;> by_cases h2 : a2 = b2 <;> by_cases h3 : a3 = b3 <;> by_cases h4 : a4 = b4 <;> by_cases h5 : a5 = b5 <;> simp [h0, h1, h2, h3, h4, h5]
theorem cmp32_eql {a0 b0 : ByteArray} {a1 b1 : ByteArray} {a2 b2 : Int} {a3 b3 : Int} {a4 b4 : Int} {a5 b5 : ByteArray} {r : Bool} (e : decide (a0 = b0 ∧ a1 = b1 ∧ a2 = b2 ∧ a3 = b3 ∧ a4 = b4 ∧ a5 = b5) = r) : binA Tryd.prog .eql 32 (.agg #[.string a0, .string a1, .int .i64 a2, .int .i64 a3, .int .i64 a4, .string a5]) (.agg #[.string b0, .string b1, .int .i64 b2, .int .i64 b3, .int .i64 b4, .string b5]) = some (.bool r) := by
  have k : binA Tryd.prog .eql 32 (.agg #[.string a0, .string a1, .int .i64 a2, .int .i64 a3, .int .i64 a4, .string a5]) (.agg #[.string b0, .string b1, .int .i64 b2, .int .i64 b3, .int .i64 b4, .string b5]) = (eqA Tryd.prog 8 32 (.agg #[.string a0, .string a1, .int .i64 a2, .int .i64 a3, .int .i64 a4, .string a5]) (.agg #[.string b0, .string b1, .int .i64 b2, .int .i64 b3, .int .i64 b4, .string b5])).map .bool := by kernel_rfl
  rw [k, eq32, ← e]; rfl
theorem cmp32_neq {a0 b0 : ByteArray} {a1 b1 : ByteArray} {a2 b2 : Int} {a3 b3 : Int} {a4 b4 : Int} {a5 b5 : ByteArray} {r : Bool} (e : decide (¬ (a0 = b0 ∧ a1 = b1 ∧ a2 = b2 ∧ a3 = b3 ∧ a4 = b4 ∧ a5 = b5)) = r) : binA Tryd.prog .neq 32 (.agg #[.string a0, .string a1, .int .i64 a2, .int .i64 a3, .int .i64 a4, .string a5]) (.agg #[.string b0, .string b1, .int .i64 b2, .int .i64 b3, .int .i64 b4, .string b5]) = some (.bool r) := by
  have k : binA Tryd.prog .neq 32 (.agg #[.string a0, .string a1, .int .i64 a2, .int .i64 a3, .int .i64 a4, .string a5]) (.agg #[.string b0, .string b1, .int .i64 b2, .int .i64 b3, .int .i64 b4, .string b5]) = (eqA Tryd.prog 8 32 (.agg #[.string a0, .string a1, .int .i64 a2, .int .i64 a3, .int .i64 a4, .string a5]) (.agg #[.string b0, .string b1, .int .i64 b2, .int .i64 b3, .int .i64 b4, .string b5])).map (fun b => .bool (!b)) := by kernel_rfl
  rw [k, eq32, ← e]
  simp only [Option.map_some, decide_not]
theorem eq30 {a0 b0 : ByteArray} {a1 b1 : ByteArray} : eqA Tryd.prog 8 30 (.agg #[.string a0, .string a1]) (.agg #[.string b0, .string b1]) = some (decide (a0 = b0 ∧ a1 = b1)) := by
  have e : eqA Tryd.prog 8 30 (.agg #[.string a0, .string a1]) (.agg #[.string b0, .string b1]) = (match (some (a0 == b0) : Option Bool) with | some true => (match (some (a1 == b1) : Option Bool) with | some true => some true | some false => some false | none => none) | some false => some false | none => none) := by kernel_rfl
  rw [e]
  simp only [int_beq, bytes_beq, bool_beq]
  by_cases h0 : a0 = b0 <;> by_cases h1 : a1 = b1 <;> simp [h0, h1]
theorem cmp30_eql {a0 b0 : ByteArray} {a1 b1 : ByteArray} {r : Bool} (e : decide (a0 = b0 ∧ a1 = b1) = r) : binA Tryd.prog .eql 30 (.agg #[.string a0, .string a1]) (.agg #[.string b0, .string b1]) = some (.bool r) := by
  have k : binA Tryd.prog .eql 30 (.agg #[.string a0, .string a1]) (.agg #[.string b0, .string b1]) = (eqA Tryd.prog 8 30 (.agg #[.string a0, .string a1]) (.agg #[.string b0, .string b1])).map .bool := by kernel_rfl
  rw [k, eq30, ← e]; rfl
theorem cmp30_neq {a0 b0 : ByteArray} {a1 b1 : ByteArray} {r : Bool} (e : decide (¬ (a0 = b0 ∧ a1 = b1)) = r) : binA Tryd.prog .neq 30 (.agg #[.string a0, .string a1]) (.agg #[.string b0, .string b1]) = some (.bool r) := by
  have k : binA Tryd.prog .neq 30 (.agg #[.string a0, .string a1]) (.agg #[.string b0, .string b1]) = (eqA Tryd.prog 8 30 (.agg #[.string a0, .string a1]) (.agg #[.string b0, .string b1])).map (fun b => .bool (!b)) := by kernel_rfl
  rw [k, eq30, ← e]
  simp only [Option.map_some, decide_not]
set_option maxHeartbeats 4000000 in
theorem ints_ok (h : Heap) (xs ys : List Int) (sa sb : Option Addr) (ca cb : Nat) (hl : SliceAt h icell 1 xs (.slice sa xs.length ca)) (hm : SliceAt h icell 1 ys (.slice sb ys.length cb)) (hlen : xs.length ≤ 9223372036854775807) : WCall Tryd.prog 34 #[(Value.slice sa (xs.length) (ca)), (Value.slice sb (ys.length) (cb))] h (fun v h1 => v = .bool (decide (xs = ys)) ∧ h = h1) := by
  suffices H : ∀ K : Value → Heap → Prop, (∀ v h1, (fun v h1 => v = .bool (decide (xs = ys)) ∧ h = h1) v h1 → K v h1) → WCall Tryd.prog 34 #[(Value.slice sa (xs.length) (ca)), (Value.slice sb (ys.length) (cb))] h K from H _ fun _ _ q => q
  intro K hK
  refine wcall_at { tmps := #[(vL sa xs.length ca), (vL sb ys.length cb), vZ, vZ, vZ, vZ, vZ, vZ, vZ, vZ, vZ, vZ, vZ, vZ, vZ, vZ, vZ, vZ, vZ, vZ, vZ, vZ, vZ, vZ, vZ, vZ], defers := [] } (by kernel_rfl) ?_
  refine wc_seq' (subc (bodyOf Tryd.prog 34) [0]) (subc (bodyOf Tryd.prog 34) [1]) (by kernel_rfl) ?_
  refine wc_upd (n := 200) (T := ⟨fun r i => match r, i with | _, _ => none, fun _ => none, none⟩) (x := .normal) (h1 := h) [(4, (vB false))]
    (fun q => q) (by intro K'; as_aux_lemma => kernel_rfl) (fun _ q => q) ?_
  refine wc_seq' (subc (bodyOf Tryd.prog 34) [1, 0]) (subc (bodyOf Tryd.prog 34) [1, 1]) (by kernel_rfl) ?_
  by_cases c2273 : (((xs.length : Nat)) : Int) = ((ys.length : Nat))
  · refine wc_upd (n := 200) (T := ⟨fun r i => match r, i with | 1, 4 => some ((vB false), h) | _, _ => none, fun _ => none, none⟩) (x := .normal) (h1 := h) [(6, (vL sa xs.length ca)), (7, (vI ((xs.length : Nat)))), (8, (vL sb ys.length cb)), (9, (vI ((ys.length : Nat)))), (10, (vB false))]
      (fun q => (binA Tryd.prog .neq 3 (vI ((xs.length : Nat))) (vI ((ys.length : Nat))) = some (vB false) ∧ h = h) ∧ q) (by intro K'; as_aux_lemma => kernel_rfl) (fun _ q => ⟨⟨cmp_neq (decide_eq_false (not_not_intro c2273)), rfl⟩, q⟩) ?_
    refine wc_seq' (subc (bodyOf Tryd.prog 34) [1, 1, 0]) (subc (bodyOf Tryd.prog 34) [1, 1, 1]) (by kernel_rfl) ?_
    refine wc_seq' (subc (bodyOf Tryd.prog 34) [1, 1, 0, 0]) (subc (bodyOf Tryd.prog 34) [1, 1, 0, 1]) (by kernel_rfl) ?_
    refine wc_upd (n := 200) (T := ⟨fun r i => match r, i with | _, _ => none, fun _ => none, none⟩) (x := .normal) (h1 := h) [(5, (vI 0))]
      (fun q => q) (by intro K'; as_aux_lemma => kernel_rfl) (fun _ q => q) ?_
    refine wc_block' 0 (subc (bodyOf Tryd.prog 34) [1, 1, 0, 1, 0]) (by kernel_rfl) ?_
    refine wc_loop' (subc (bodyOf Tryd.prog 34) [1, 1, 0, 1, 0, 0]) (by kernel_rfl) (fun n' a' h' => ∃ (k : Int) (g0 : Nat → Value), a' = { tmps := #[(vL sa xs.length ca), (vL sb ys.length cb), vZ, vZ, (g0 4), (vI k), (vL sa xs.length ca), (vI ((xs.length : Nat))), (vL sb ys.length cb), (vI ((ys.length : Nat))), (vB false), (g0 11), (g0 12), (g0 13), (g0 14), (g0 15), (g0 16), (g0 17), (g0 18), (g0 19), (g0 20), (g0 21), (g0 22), (g0 23), (g0 24), (g0 25)], defers := [] } ∧ h = h' ∧ n' = xs.length - k.toNat ∧ (0 ≤ k ∧ k ≤ (xs.length : Nat)) ∧ xs.take k.toNat = ys.take k.toNat) ?_ (xs.length - (0 : Int).toNat) ⟨0, (fun i => ([vU, vU, vU, vU, (vB false), vU, vU, vU, vU, vU, vU, vZ, vZ, vZ, vZ, vZ, vZ, vZ, vZ, vZ, vZ, vZ, vZ, vZ, vZ, vZ] : List Value).getD i undef), by as_aux_lemma => kernel_rfl, rfl, rfl, by omega, rfl⟩
    rintro n' _ _ ⟨k, g0, rfl, rfl, m2278, i2276, i2277⟩
    by_cases c2280 : ((k) : Int) < ((xs.length : Nat))
    · obtain ⟨i2281, v2282, e2283, l2284, g2285⟩ := list_at xs (e := (k)) (by omega) (by first | omega | (simp only [List.length_set, List.length_append, List.length_singleton]; omega))
      obtain ⟨b2286, o2287, k2288, q2289, a2290⟩ := hl.at icell_size g2285
      obtain ⟨i2292, v2293, e2294, l2295, g2296⟩ := list_at ys (e := (k)) (by omega) (by first | omega | (simp only [List.length_set, List.length_append, List.length_singleton]; omega))
      obtain ⟨b2297, o2298, k2299, q2300, a2301⟩ := hm.at icell_size g2296
      by_cases c2303 : ((v2282) : Int) = (v2293)
      · refine wc_upd (n := 200) (T := ⟨fun r i => match r, i with | 4, 3 => some ((vB true), h) | 6, 2 => some ((vP b2286 o2287), h) | 6, 3 => some ((vI v2282), h) | 6, 6 => some ((vP b2297 o2298), h) | 6, 7 => some ((vI v2293), h) | 6, 8 => some ((vB false), h) | 5, 1 => some ((vI ((k) + 1)), h) | _, _ => none, fun _ => none, none⟩) (x := .normal) (h1 := h) [(11, (vI k)), (12, (vL sa xs.length ca)), (13, (vI ((xs.length : Nat)))), (14, (vB true)), (17, (vL sa xs.length ca)), (18, (vI k)), (19, (vP b2286 o2287)), (20, (vI v2282)), (21, (vL sb ys.length cb)), (22, (vI k)), (23, (vP b2297 o2298)), (24, (vI v2293)), (25, (vB false)), (15, (vI k)), (16, (vI ((k) + 1))), (5, (vI ((k) + 1)))]
          (fun q => (binA Tryd.prog .lss 3 (vI k) (vI ((xs.length : Nat))) = some (vB true) ∧ h = h) ∧ (indexAddrA Tryd.prog 27 (vL sa xs.length ca) (vI k) = some (vP b2286 o2287) ∧ h = h) ∧ (loadT Tryd.prog h 3 (vP b2286 o2287) = some (vI v2282) ∧ h = h) ∧ (indexAddrA Tryd.prog 27 (vL sb ys.length cb) (vI k) = some (vP b2297 o2298) ∧ h = h) ∧ (loadT Tryd.prog h 3 (vP b2297 o2298) = some (vI v2293) ∧ h = h) ∧ (binA Tryd.prog .neq 3 (vI v2282) (vI v2293) = some (vB false) ∧ h = h) ∧ (binA Tryd.prog .add 3 (vI k) (vI 1) = some (vI ((k) + 1)) ∧ h = h) ∧ q) (by intro K'; as_aux_lemma => kernel_rfl) (fun _ q => ⟨⟨cmp_lss (decide_eq_true c2280), rfl⟩, ⟨a2290 und27 size3 e2283, rfl⟩, ⟨(k2288.keep fun b r _ q => (Ext.refl h) b r q).cell (j := 0) agg3 rfl, rfl⟩, ⟨a2301 und27 size3 e2294, rfl⟩, ⟨(k2299.keep fun b r _ q => (Ext.refl h) b r q).cell (j := 0) agg3 rfl, rfl⟩, ⟨cmp_neq (decide_eq_false (not_not_intro c2303)), rfl⟩, ⟨add_i64 (by omega) (by omega), rfl⟩, q⟩) ?_
        exact ⟨xs.length - (k + 1).toNat, by omega, ⟨k + 1, (fun i => ([vU, vU, vU, vU, (g0 4), vU, vU, vU, vU, vU, vU, (vI k), (vL sa xs.length ca), (vI ((xs.length : Nat))), (vB true), (vI k), (vI ((k) + 1)), (vL sa xs.length ca), (vI k), (vP b2286 o2287), (vI v2282), (vL sb ys.length cb), (vI k), (vP b2297 o2298), (vI v2293), (vB false)] : List Value).getD i undef), by as_aux_lemma => kernel_rfl, rfl, rfl, by omega, by rw [show (k + 1).toNat = i2281 + 1 by omega, List.take_add_one, List.take_add_one, g2285, show i2281 = i2292 by omega, g2296, show i2292 = k.toNat by omega, i2277, show v2282 = v2293 by omega]⟩⟩
      · refine wc_upd (n := 200) (T := ⟨fun r i => match r, i with | 4, 3 => some ((vB true), h) | 6, 2 => some ((vP b2286 o2287), h) | 6, 3 => some ((vI v2282), h) | 6, 6 => some ((vP b2297 o2298), h) | 6, 7 => some ((vI v2293), h) | 6, 8 => some ((vB true), h) | _, _ => none, fun _ => none, none⟩) (x := .ret) (h1 := h) [(11, (vI k)), (12, (vL sa xs.length ca)), (13, (vI ((xs.length : Nat)))), (14, (vB true)), (17, (vL sa xs.length ca)), (18, (vI k)), (19, (vP b2286 o2287)), (20, (vI v2282)), (21, (vL sb ys.length cb)), (22, (vI k)), (23, (vP b2297 o2298)), (24, (vI v2293)), (25, (vB true)), (4, (vB false))]
          (fun q => (binA Tryd.prog .lss 3 (vI k) (vI ((xs.length : Nat))) = some (vB true) ∧ h = h) ∧ (indexAddrA Tryd.prog 27 (vL sa xs.length ca) (vI k) = some (vP b2286 o2287) ∧ h = h) ∧ (loadT Tryd.prog h 3 (vP b2286 o2287) = some (vI v2282) ∧ h = h) ∧ (indexAddrA Tryd.prog 27 (vL sb ys.length cb) (vI k) = some (vP b2297 o2298) ∧ h = h) ∧ (loadT Tryd.prog h 3 (vP b2297 o2298) = some (vI v2293) ∧ h = h) ∧ (binA Tryd.prog .neq 3 (vI v2282) (vI v2293) = some (vB true) ∧ h = h) ∧ q) (by intro K'; as_aux_lemma => kernel_rfl) (fun _ q => ⟨⟨cmp_lss (decide_eq_true c2280), rfl⟩, ⟨a2290 und27 size3 e2283, rfl⟩, ⟨(k2288.keep fun b r _ q => (Ext.refl h) b r q).cell (j := 0) agg3 rfl, rfl⟩, ⟨a2301 und27 size3 e2294, rfl⟩, ⟨(k2299.keep fun b r _ q => (Ext.refl h) b r q).cell (j := 0) agg3 rfl, rfl⟩, ⟨cmp_neq (decide_eq_true c2303), rfl⟩, q⟩) ?_
        have n9 : ¬ xs = ys := by intro w; subst w; have e9 : i2281 = i2292 := (by omega); subst e9; rw [g2285] at g2296; cases g2296; exact c2303 rfl
        refine end_at (T := ⟨fun _ _ => none, fun _ => none, none⟩) (A := K (vB false) h) (by kernel_rfl) ?_
        exact hK _ _ (⟨by rw [decide_eq_false n9], rfl⟩)
    · refine wc_upd (n := 200) (T := ⟨fun r i => match r, i with | 4, 3 => some ((vB false), h) | _, _ => none, fun _ => none, none⟩) (x := (.exit 0)) (h1 := h) [(11, (vI k)), (12, (vL sa xs.length ca)), (13, (vI ((xs.length : Nat)))), (14, (vB false))]
        (fun q => (binA Tryd.prog .lss 3 (vI k) (vI ((xs.length : Nat))) = some (vB false) ∧ h = h) ∧ q) (by intro K'; as_aux_lemma => kernel_rfl) (fun _ q => ⟨⟨cmp_lss (decide_eq_false c2280), rfl⟩, q⟩) ?_
      refine wc_upd (n := 200) (T := ⟨fun r i => match r, i with | _, _ => none, fun _ => none, none⟩) (x := .ret) (h1 := h) [(4, (vB true))]
        (fun q => q) (by intro K'; as_aux_lemma => kernel_rfl) (fun _ q => q) ?_
      have e9 := i2277
      rw [List.take_of_length_le (by omega), List.take_of_length_le (by omega)] at e9
      refine end_at (T := ⟨fun _ _ => none, fun _ => none, none⟩) (A := K (vB true) h) (by kernel_rfl) ?_
      exact hK _ _ (⟨by rw [decide_eq_true e9], rfl⟩)
  · refine wc_upd (n := 200) (T := ⟨fun r i => match r, i with | 1, 4 => some ((vB true), h) | _, _ => none, fun _ => none, none⟩) (x := .ret) (h1 := h) [(6, (vL sa xs.length ca)), (7, (vI ((xs.length : Nat)))), (8, (vL sb ys.length cb)), (9, (vI ((ys.length : Nat)))), (10, (vB true)), (4, (vB false))]
      (fun q => (binA Tryd.prog .neq 3 (vI ((xs.length : Nat))) (vI ((ys.length : Nat))) = some (vB true) ∧ h = h) ∧ q) (by intro K'; as_aux_lemma => kernel_rfl) (fun _ q => ⟨⟨cmp_neq (decide_eq_true c2273), rfl⟩, q⟩) ?_
    refine end_at (T := ⟨fun _ _ => none, fun _ => none, none⟩) (A := K (vB false) h) (by kernel_rfl) ?_
    exact hK _ _ (⟨by rw [decide_eq_false (fun w => c2273 (by rw [w]))], rfl⟩)
theorem sl_ints {h : Heap} {b n : Nat} {xs : List Int} {c : Array Value} {e : TypeId} (k : h[b]? = some (.cells c e (0, 0))) (e1 : c = flat icell xs) (hn : xs.length = n) : SliceAt h icell 1 xs (.slice (some ⟨b, 0, none⟩) n n) := by
  subst hn
  refine .inr ⟨b, 0, xs.length, c, e, (0, 0), rfl, k, by decide, Nat.le_refl _, ?_, ?_⟩
  · rw [e1, flat_size icell_size]; omega
  · have : c.size = 0 + xs.length * 1 := by rw [e1, flat_size icell_size]; omega
    rw [← this, Array.extract_size]; exact e1
theorem openL_len (l : List MoveM) : (openL l).length ≤ l.length := by unfold openL; rw [List.length_map]; exact opn_len l _
end C32
