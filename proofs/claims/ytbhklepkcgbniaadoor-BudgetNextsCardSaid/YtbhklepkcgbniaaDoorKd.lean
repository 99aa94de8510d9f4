/- Steps, and whether a list has a key. -/
import Derived.Test.YtbhklepkcgbniaaDoorKc
import Derived.Test.YtbhklepkcgbniaaDoorBmh
import Derived.KernelRfl
open Go Go.AM Go.Proofs
namespace C27
theorem agg9 : isAggA Tryd.prog 9 = some false := by kernel_rfl
theorem agg66 : isAggA Tryd.prog 66 = some true := by kernel_rfl
theorem size66 : (Tryd.prog.info? 66).map (·.size) = some 2 := by kernel_rfl
theorem und22 : Tryd.prog.underlying 22 = some (.slice 66) := by kernel_rfl
/-- A step of a definition. -/
structure StepM where
  key : ByteArray
  delta : Int
def stepc (x : StepM) : Array Value := #[.string x.key, .int .i64 x.delta]
theorem stepc_size (x : StepM) : (stepc x).size = 2 := rfl
/-- A definition. -/
structure DefM where
  name : ByteArray
  rt : Int
  dl : Int
  xs : List StepM
def stepB (x : StepM) : Bool := nameB x.key && decide (¬ x.delta = 0 ∧ -1152921504606846976 ≤ x.delta ∧ x.delta ≤ 1152921504606846976)
def goodAt (xs : List StepM) (k : Nat) : Bool := match xs[k]? with | some x => stepB x && !((xs.take k).any fun y => decide (y.key = x.key)) | none => true
def goodS (xs : List StepM) (n : Nat) : Bool := (List.range n).all fun k => goodAt xs k
def defB (d : DefM) : Bool := nameB d.name && decide (0 ≤ d.rt ∧ d.rt ≤ 20 ∧ 0 ≤ d.dl ∧ d.dl ≤ 100000 ∧ 1 ≤ d.xs.length ∧ d.xs.length ≤ 8) && goodS d.xs d.xs.length
theorem goodS_succ (xs : List StepM) (n : Nat) : goodS xs (n + 1) = (goodS xs n && goodAt xs n) := by simp [goodS, List.range_succ, List.all_append]
theorem goodS_not {xs : List StepM} {k n : Nat} (hk : k < n) (h : goodAt xs k = false) : goodS xs n = false := by
  apply Bool.eq_false_iff.2
  intro w
  have := List.all_eq_true.1 w k (List.mem_range.2 hk)
  rw [h] at this; cases this
theorem goodAt_some {xs : List StepM} {k : Nat} {x : StepM} (hx : xs[k]? = some x) : goodAt xs k = (stepB x && !((xs.take k).any fun y => decide (y.key = x.key))) := by simp only [goodAt, hx]
/-- A list whose row has no hidden room. -/
def LAt {α : Type} (h : Heap) (f : α → Array Value) (z : Nat) (xs : List α) (v : Value) : Prop := SliceAt h f z xs v ∧ ∀ b, blk v b → slackElem h b = none
section
variable {α : Type} {h h1 : Heap} {f : α → Array Value} {z : Nat} {xs : List α} {v : Value}
theorem LAt.keep (k : LAt h f z xs v) (w : ∀ b r, blk v b → h[b]? = some r → h1[b]? = some r) : LAt h1 f z xs v := by
  refine ⟨k.1.keep w, fun b hb => ?_⟩
  have hl := k.1.blk_lt hb
  have e := w b _ hb (Array.getElem?_eq_getElem hl)
  have := k.2 b hb
  unfold slackElem at this ⊢
  rw [e]; rw [Array.getElem?_eq_getElem hl] at this; exact this
theorem LAt.slice (k : LAt h f z xs v) (_ : ∀ x, (f x).size = z) : SliceAt h f z xs v := k.1
theorem LAt.blk_lt (k : LAt h f z xs v) {b : Nat} (hb : blk v b) : b < h.size := k.1.blk_lt hb
theorem LAt.pl (k : LAt h f z xs v) {n : Nat} (b : Nat) (hb : blk v b) (e0 : TypeId) (h0 : slackElem h b = some e0) : tsz Tryd.prog e0 = n := by rw [k.2 b hb] at h0; cases h0
end
set_option maxHeartbeats 4000000 in
theorem in_ok (h : Heap) (a b : Int) : WCall Tryd.prog 41 #[(vI (a)), (vI (b))] h (fun v h1 => v = .bool (decide ((0 : Int) ≤ a ∧ (a : Int) ≤ b)) ∧ h = h1) := by
  by_cases c128 : (0 : Int) ≤ (a)
  · by_cases c129 : ((a) : Int) ≤ (b)
    · exact hCall_of (n := 200) (T := ⟨fun r i => match r, i with | 1, 1 => some ((vB true), h) | 1, 5 => some ((vB true), h) | _, _ => none, fun _ => none, none⟩)
        (A := (binA Tryd.prog .geq 3 (vI a) (vI 0) = some (vB true) ∧ h = h) ∧ (binA Tryd.prog .leq 3 (vI a) (vI b) = some (vB true) ∧ h = h) ∧ (fun v h1 => v = .bool (decide ((0 : Int) ≤ a ∧ (a : Int) ≤ b)) ∧ h = h1) (vB true) h) (by kernel_rfl) ⟨⟨cmp_geq (decide_eq_true c128), rfl⟩, ⟨cmp_leq (decide_eq_true c129), rfl⟩, ⟨by rw [decide_eq_true (by omega)], rfl⟩⟩
    · exact hCall_of (n := 200) (T := ⟨fun r i => match r, i with | 1, 1 => some ((vB true), h) | 1, 5 => some ((vB false), h) | _, _ => none, fun _ => none, none⟩)
        (A := (binA Tryd.prog .geq 3 (vI a) (vI 0) = some (vB true) ∧ h = h) ∧ (binA Tryd.prog .leq 3 (vI a) (vI b) = some (vB false) ∧ h = h) ∧ (fun v h1 => v = .bool (decide ((0 : Int) ≤ a ∧ (a : Int) ≤ b)) ∧ h = h1) (vB false) h) (by kernel_rfl) ⟨⟨cmp_geq (decide_eq_true c128), rfl⟩, ⟨cmp_leq (decide_eq_false c129), rfl⟩, ⟨by rw [decide_eq_false (by omega)], rfl⟩⟩
  · exact hCall_of (n := 200) (T := ⟨fun r i => match r, i with | 1, 1 => some ((vB false), h) | _, _ => none, fun _ => none, none⟩)
      (A := (binA Tryd.prog .geq 3 (vI a) (vI 0) = some (vB false) ∧ h = h) ∧ (fun v h1 => v = .bool (decide ((0 : Int) ≤ a ∧ (a : Int) ≤ b)) ∧ h = h1) (vB false) h) (by kernel_rfl) ⟨⟨cmp_geq (decide_eq_false c128), rfl⟩, ⟨by rw [decide_eq_false (by omega)], rfl⟩⟩
def numE (a : Int) : Int := if a < -1152921504606846976 ∨ 1152921504606846976 < a then 7 else 0
set_option maxHeartbeats 4000000 in
theorem num_ok (h : Heap) (a : Int) : WCall Tryd.prog 44 #[(vI (a))] h (fun v h1 => v = .int .i64 (numE a) ∧ h = h1) := by
  by_cases c130 : ((a) : Int) < (-1152921504606846976)
  · exact hCall_of (n := 200) (T := ⟨fun r i => match r, i with | 1, 1 => some ((vB true), h) | _, _ => none, fun _ => none, none⟩)
      (A := (binA Tryd.prog .lss 2 (vI a) (vI (-1152921504606846976)) = some (vB true) ∧ h = h) ∧ (fun v h1 => v = .int .i64 (numE a) ∧ h = h1) (vI 7) h) (by kernel_rfl) ⟨⟨cmp_lss (decide_eq_true c130), rfl⟩, ⟨by unfold numE; rw [if_pos (by omega)], rfl⟩⟩
  · by_cases c131 : (1152921504606846976 : Int) < (a)
    · exact hCall_of (n := 200) (T := ⟨fun r i => match r, i with | 1, 1 => some ((vB false), h) | 1, 4 => some ((vB true), h) | _, _ => none, fun _ => none, none⟩)
        (A := (binA Tryd.prog .lss 2 (vI a) (vI (-1152921504606846976)) = some (vB false) ∧ h = h) ∧ (binA Tryd.prog .gtr 2 (vI a) (vI 1152921504606846976) = some (vB true) ∧ h = h) ∧ (fun v h1 => v = .int .i64 (numE a) ∧ h = h1) (vI 7) h) (by kernel_rfl) ⟨⟨cmp_lss (decide_eq_false c130), rfl⟩, ⟨cmp_gtr (decide_eq_true c131), rfl⟩, ⟨by unfold numE; rw [if_pos (by omega)], rfl⟩⟩
    · exact hCall_of (n := 200) (T := ⟨fun r i => match r, i with | 1, 1 => some ((vB false), h) | 1, 4 => some ((vB false), h) | _, _ => none, fun _ => none, none⟩)
        (A := (binA Tryd.prog .lss 2 (vI a) (vI (-1152921504606846976)) = some (vB false) ∧ h = h) ∧ (binA Tryd.prog .gtr 2 (vI a) (vI 1152921504606846976) = some (vB false) ∧ h = h) ∧ (fun v h1 => v = .int .i64 (numE a) ∧ h = h1) (vI 0) h) (by kernel_rfl) ⟨⟨cmp_lss (decide_eq_false c130), rfl⟩, ⟨cmp_gtr (decide_eq_false c131), rfl⟩, ⟨by unfold numE; rw [if_neg (by omega)], rfl⟩⟩
set_option maxHeartbeats 4000000 in
theorem samekey_ok (h : Heap) (x : StepM) {b : Nat} (y : StepM) (hb : h[b]? = some (.cells (stepc y) 66 (0, 0))) : WCall Tryd.prog 43 #[(Value.agg #[(vS x.key), (vI (x.delta))]), (vP b 0)] h (fun v h1 => v = .bool (decide (x.key = y.key)) ∧ Ext h h1) := by
  obtain ⟨b134, eb135⟩ : ∃ zq, zq = h.size := ⟨_, rfl⟩
  obtain ⟨h132, e133⟩ : ∃ zq, zq = h.push (.cells #[(vS x.key), (vI (x.delta))] 66 (0, 0)) := ⟨_, rfl⟩
  have f136 := push_new e133
  rw [← eb135] at f136
  have x138 : Ext h h132 := by rw [e133]; exact Ext.push _ _
  have o139 : h.size ≤ b134 := by have := (Ext.refl h).size; omega
  have f140 := x138 _ _ hb
  have x141 := (Ext.refl h).trans x138
  by_cases c142 : (x.key : ByteArray) = y.key
  · exact hCall_of (n := 200) (T := ⟨fun r i => match r, i with | 0, 0 => some ((vP b134 0), h132) | 1, 1 => some ((vS x.key), h132) | 1, 3 => some ((vS y.key), h132) | 1, 4 => some ((vB true), h132) | _, _ => none, fun _ => none, none⟩)
      (A := ((vP b134 0) = (Value.pointer (some ⟨h.size, 0, none⟩)) ∧ h132 = h.push (.cells #[(vS x.key), (vI x.delta)] 66 (0, 0))) ∧ (loadT Tryd.prog h132 9 (vP b134 0) = some (vS x.key) ∧ h132 = h132) ∧ (loadT Tryd.prog h132 9 (vP b 0) = some (vS y.key) ∧ h132 = h132) ∧ (binA Tryd.prog .eql 9 (vS x.key) (vS y.key) = some (vB true) ∧ h132 = h132) ∧ (fun v h1 => v = .bool (decide (x.key = y.key)) ∧ Ext h h1) (vB true) h132) (by kernel_rfl) ⟨⟨by rw [eb135], e133⟩, ⟨load_cell agg9 f136 rfl, rfl⟩, ⟨load_cell agg9 f140 rfl, rfl⟩, ⟨cmp_str_eql (decide_eq_true c142), rfl⟩, ⟨by rw [decide_eq_true c142], x141⟩⟩
  · exact hCall_of (n := 200) (T := ⟨fun r i => match r, i with | 0, 0 => some ((vP b134 0), h132) | 1, 1 => some ((vS x.key), h132) | 1, 3 => some ((vS y.key), h132) | 1, 4 => some ((vB false), h132) | _, _ => none, fun _ => none, none⟩)
      (A := ((vP b134 0) = (Value.pointer (some ⟨h.size, 0, none⟩)) ∧ h132 = h.push (.cells #[(vS x.key), (vI x.delta)] 66 (0, 0))) ∧ (loadT Tryd.prog h132 9 (vP b134 0) = some (vS x.key) ∧ h132 = h132) ∧ (loadT Tryd.prog h132 9 (vP b 0) = some (vS y.key) ∧ h132 = h132) ∧ (binA Tryd.prog .eql 9 (vS x.key) (vS y.key) = some (vB false) ∧ h132 = h132) ∧ (fun v h1 => v = .bool (decide (x.key = y.key)) ∧ Ext h h1) (vB false) h132) (by kernel_rfl) ⟨⟨by rw [eb135], e133⟩, ⟨load_cell agg9 f136 rfl, rfl⟩, ⟨load_cell agg9 f140 rfl, rfl⟩, ⟨cmp_str_eql (decide_eq_false c142), rfl⟩, ⟨by rw [decide_eq_false c142], x141⟩⟩
set_option maxHeartbeats 4000000 in
theorem ixf_key (h : Heap) {b : Nat} (y : StepM) (hb : h[b]? = some (.cells (stepc y) 66 (0, 0))) (xs : List StepM) (sa : Option Addr) (cp : Nat) (hl : SliceAt h stepc 2 xs (.slice sa xs.length cp)) (hlen : xs.length ≤ 9223372036854775807) : WCall Tryd.prog 49 #[(Value.slice sa (xs.length) (cp)), (Value.func (.func 43) #[] #[(vP b 0)])] h (fun v h1 => ∃ i, v = .int .i64 i ∧ (0 ≤ i ↔ (xs.any fun x => decide (x.key = y.key)) = true) ∧ Ext h h1) := by
  suffices H : ∀ K : Value → Heap → Prop, (∀ v h1, (fun v h1 => ∃ i, v = .int .i64 i ∧ (0 ≤ i ↔ (xs.any fun x => decide (x.key = y.key)) = true) ∧ Ext h h1) v h1 → K v h1) → WCall Tryd.prog 49 #[(Value.slice sa (xs.length) (cp)), (Value.func (.func 43) #[] #[(vP b 0)])] h K from H _ fun _ _ q => q
  intro K hK
  refine wcall_at { tmps := #[(vL sa xs.length cp), (Value.func (.func 43) #[] #[(vP b 0)]), vZ, vZ, vZ, vZ, vZ, vZ, vZ, vZ, vZ, vZ, vZ, vZ, vZ, vZ, vZ, vZ, vZ], defers := [] } (by kernel_rfl) ?_
  refine wc_seq' (subc (bodyOf Tryd.prog 49) [0]) (subc (bodyOf Tryd.prog 49) [1]) (by kernel_rfl) ?_
  refine wc_upd (n := 200) (T := ⟨fun r i => match r, i with | _, _ => none, fun _ => none, none⟩) (x := .normal) (h1 := h) [(4, (vI 0))]
    (fun q => q) (by intro K'; as_aux_lemma => kernel_rfl) (fun _ q => q) ?_
  refine wc_seq' (subc (bodyOf Tryd.prog 49) [1, 0]) (subc (bodyOf Tryd.prog 49) [1, 1]) (by kernel_rfl) ?_
  refine wc_seq' (subc (bodyOf Tryd.prog 49) [1, 0, 0]) (subc (bodyOf Tryd.prog 49) [1, 0, 1]) (by kernel_rfl) ?_
  refine wc_upd (n := 200) (T := ⟨fun r i => match r, i with | _, _ => none, fun _ => none, none⟩) (x := .normal) (h1 := h) [(6, (vL sa xs.length cp)), (7, (vI ((xs.length : Nat)))), (8, (vI 0))]
    (fun q => q) (by intro K'; as_aux_lemma => kernel_rfl) (fun _ q => q) ?_
  refine wc_block' 0 (subc (bodyOf Tryd.prog 49) [1, 0, 1, 0]) (by kernel_rfl) ?_
  refine wc_loop' (subc (bodyOf Tryd.prog 49) [1, 0, 1, 0, 0]) (by kernel_rfl) (fun n' a' h' => ∃ (k : Int) (g0 : Nat → Value), a' = { tmps := #[(vL sa xs.length cp), (Value.func (.func 43) #[] #[(vP b 0)]), vZ, vZ, (g0 4), (g0 5), (vL sa xs.length cp), (vI ((xs.length : Nat))), (vI k), (g0 9), (g0 10), (g0 11), (g0 12), (g0 13), (g0 14), (g0 15), (g0 16), (g0 17), (g0 18)], defers := [] } ∧ Ext h h' ∧ n' = xs.length - k.toNat ∧ h'[b]? = some (.cells #[(vS y.key), (vI y.delta)] 66 (0, 0)) ∧ (0 ≤ k ∧ k ≤ xs.length) ∧ ((xs.take k.toNat).any fun x => decide (x.key = y.key)) = false) ?_ (xs.length - (0 : Int).toNat) ⟨0, (fun i => ([vU, vU, vU, vU, (vI 0), vZ, vU, vU, vU, vZ, vZ, vZ, vZ, vZ, vZ, vZ, vZ, vZ, vZ] : List Value).getD i undef), by as_aux_lemma => kernel_rfl, (Ext.refl h), rfl, hb, by omega, rfl⟩
  rintro n' _ h144 ⟨k, g0, rfl, x149, m148, f145, i146, i147⟩
  by_cases c150 : ((k) : Int) < ((xs.length : Nat))
  · obtain ⟨i151, v152, e153, l154, g155⟩ := list_at xs (e := (k)) (by omega) (by first | omega | (simp only [List.length_set, List.length_append, List.length_singleton]; omega))
    obtain ⟨b156, o157, k158, q159, a160⟩ := hl.at stepc_size g155
    obtain ⟨_, hh162, sn163, rfl, x164⟩ := samekey_ok h144 v152 y f145
    have f165 := x164 _ _ f145
    have x166 := x149.trans x164
    rcases Bool.eq_false_or_eq_true ((decide (v152.key = y.key))) with c167 | c167
    · refine wc_upd (n := 200) (T := ⟨fun r i => match r, i with | 2, 0 => some ((vB true), h144) | 4, 3 => some ((vP b156 o157), h144) | 4, 4 => some ((vA #[(vS v152.key), (vI v152.delta)]), h144) | 4, 5 => some ((vB true), hh162) | _, _ => none, fun _ => none, none⟩) (x := .ret) (h1 := hh162) [(9, (vB true)), (10, (vI k)), (5, (vI k)), (11, (Value.func (.func 43) #[] #[(vP b 0)])), (12, (vL sa xs.length cp)), (13, (vI k)), (14, (vP b156 o157)), (15, (vA #[(vS v152.key), (vI v152.delta)])), (16, (vB true)), (17, (vI k)), (4, (vI k))]
        (fun q => (binA Tryd.prog .lss 3 (vI k) (vI ((xs.length : Nat))) = some (vB true) ∧ h144 = h144) ∧ (indexAddrA Tryd.prog 22 (vL sa xs.length cp) (vI k) = some (vP b156 o157) ∧ h144 = h144) ∧ (loadT Tryd.prog h144 66 (vP b156 o157) = some (vA #[(vS v152.key), (vI v152.delta)]) ∧ h144 = h144) ∧ SoundCall Tryd.prog 43 #[(vA #[(vS v152.key), (vI v152.delta)]), (vP b 0)] h144 (vB true) hh162 ∧ q) (by intro K'; as_aux_lemma => kernel_rfl) (fun _ q => ⟨⟨cmp_lss (decide_eq_true c150), rfl⟩, ⟨a160 und22 size66 e153, rfl⟩, ⟨(k158.keep fun b r _ q => x149 b r q).agg (j := 0) agg66 size66 (show 0 + 2 ≤ 2 by decide) (by kernel_rfl), rfl⟩, (by rw [← c167]; exact sn163), q⟩) ?_
      refine end_at (T := ⟨fun _ _ => none, fun _ => none, none⟩) (A := K (vI k) hh162) (by kernel_rfl) ?_
      exact hK _ _ (⟨_, rfl, ⟨fun _ => List.any_eq_true.2 ⟨_, List.mem_of_getElem? g155, c167⟩, fun _ => by omega⟩, x166⟩)
    · refine wc_upd (n := 200) (T := ⟨fun r i => match r, i with | 2, 0 => some ((vB true), h144) | 4, 3 => some ((vP b156 o157), h144) | 4, 4 => some ((vA #[(vS v152.key), (vI v152.delta)]), h144) | 4, 5 => some ((vB false), hh162) | 6, 0 => some ((vI ((k) + 1)), hh162) | _, _ => none, fun _ => none, none⟩) (x := .normal) (h1 := hh162) [(9, (vB true)), (10, (vI k)), (5, (vI k)), (11, (Value.func (.func 43) #[] #[(vP b 0)])), (12, (vL sa xs.length cp)), (13, (vI k)), (14, (vP b156 o157)), (15, (vA #[(vS v152.key), (vI v152.delta)])), (16, (vB false)), (18, (vI ((k) + 1))), (8, (vI ((k) + 1)))]
        (fun q => (binA Tryd.prog .lss 3 (vI k) (vI ((xs.length : Nat))) = some (vB true) ∧ h144 = h144) ∧ (indexAddrA Tryd.prog 22 (vL sa xs.length cp) (vI k) = some (vP b156 o157) ∧ h144 = h144) ∧ (loadT Tryd.prog h144 66 (vP b156 o157) = some (vA #[(vS v152.key), (vI v152.delta)]) ∧ h144 = h144) ∧ SoundCall Tryd.prog 43 #[(vA #[(vS v152.key), (vI v152.delta)]), (vP b 0)] h144 (vB false) hh162 ∧ (binA Tryd.prog .add 3 (vI k) (vI 1) = some (vI ((k) + 1)) ∧ hh162 = hh162) ∧ q) (by intro K'; as_aux_lemma => kernel_rfl) (fun _ q => ⟨⟨cmp_lss (decide_eq_true c150), rfl⟩, ⟨a160 und22 size66 e153, rfl⟩, ⟨(k158.keep fun b r _ q => x149 b r q).agg (j := 0) agg66 size66 (show 0 + 2 ≤ 2 by decide) (by kernel_rfl), rfl⟩, (by rw [← c167]; exact sn163), ⟨add_i64 (by omega) (by omega), rfl⟩, q⟩) ?_
      exact ⟨xs.length - (k + 1).toNat, by omega, ⟨k + 1, (fun i => ([vU, vU, vU, vU, (g0 4), (vI k), vU, vU, vU, (vB true), (vI k), (Value.func (.func 43) #[] #[(vP b 0)]), (vL sa xs.length cp), (vI k), (vP b156 o157), (vA #[(vS v152.key), (vI v152.delta)]), (vB false), (g0 17), (vI ((k) + 1))] : List Value).getD i undef), by as_aux_lemma => kernel_rfl, x166, rfl, f165, by omega, by rw [show (k + 1).toNat = i151 + 1 by omega, List.take_add_one, g155, List.any_append, show i151 = k.toNat by omega, i147]; simp only [Option.toList_some, List.any_cons, List.any_nil, c167]; rfl⟩⟩
  · refine wc_upd (n := 200) (T := ⟨fun r i => match r, i with | 2, 0 => some ((vB false), h144) | _, _ => none, fun _ => none, none⟩) (x := (.exit 0)) (h1 := h144) [(9, (vB false))]
      (fun q => (binA Tryd.prog .lss 3 (vI k) (vI ((xs.length : Nat))) = some (vB false) ∧ h144 = h144) ∧ q) (by intro K'; as_aux_lemma => kernel_rfl) (fun _ q => ⟨⟨cmp_lss (decide_eq_false c150), rfl⟩, q⟩) ?_
    refine wc_upd (n := 200) (T := ⟨fun r i => match r, i with | _, _ => none, fun _ => none, none⟩) (x := .ret) (h1 := h144) [(4, (vI (-1)))]
      (fun q => q) (by intro K'; as_aux_lemma => kernel_rfl) (fun _ q => q) ?_
    have et : xs.take k.toNat = xs := List.take_of_length_le (by omega)
    have ea := i147
    rw [et] at ea
    refine end_at (T := ⟨fun _ _ => none, fun _ => none, none⟩) (A := K (vI (-1)) h144) (by kernel_rfl) ?_
    exact hK _ _ (⟨-1, rfl, by rw [ea]; simp, x149⟩)
set_option maxHeartbeats 4000000 in
theorem any_key (h : Heap) {b : Nat} (y : StepM) (hb : h[b]? = some (.cells (stepc y) 66 (0, 0))) (xs : List StepM) (sa : Option Addr) (cp : Nat) (hl : SliceAt h stepc 2 xs (.slice sa xs.length cp)) (hlen : xs.length ≤ 9223372036854775807) : WCall Tryd.prog 42 #[(Value.slice sa (xs.length) (cp)), (Value.func (.func 43) #[] #[(vP b 0)])] h (fun v h1 => v = .bool (xs.any fun x => decide (x.key = y.key)) ∧ Ext h h1) := by
  obtain ⟨_, hh170, sn171, i168, rfl, q169, x172⟩ := ixf_key h y hb xs _ _ (hl.keep fun b r _ q => (Ext.refl h) b r q) (by omega)
  have x174 := (Ext.refl h).trans x172
  by_cases c175 : (0 : Int) ≤ (i168)
  · exact hCall_of (n := 200) (T := ⟨fun r i => match r, i with | 1, 2 => some ((vI i168), hh170) | 1, 3 => some ((vB true), hh170) | _, _ => none, fun _ => none, none⟩)
      (A := SoundCall Tryd.prog 49 #[(vL sa xs.length cp), (Value.func (.func 43) #[] #[(vP b 0)])] h (vI i168) hh170 ∧ (binA Tryd.prog .geq 3 (vI i168) (vI 0) = some (vB true) ∧ hh170 = hh170) ∧ (fun v h1 => v = .bool (xs.any fun x => decide (x.key = y.key)) ∧ Ext h h1) (vB true) hh170) (by kernel_rfl) ⟨sn171, ⟨cmp_geq (decide_eq_true c175), rfl⟩, ⟨by rw [q169.1 (by omega)], x174⟩⟩
  · exact hCall_of (n := 200) (T := ⟨fun r i => match r, i with | 1, 2 => some ((vI i168), hh170) | 1, 3 => some ((vB false), hh170) | _, _ => none, fun _ => none, none⟩)
      (A := SoundCall Tryd.prog 49 #[(vL sa xs.length cp), (Value.func (.func 43) #[] #[(vP b 0)])] h (vI i168) hh170 ∧ (binA Tryd.prog .geq 3 (vI i168) (vI 0) = some (vB false) ∧ hh170 = hh170) ∧ (fun v h1 => v = .bool (xs.any fun x => decide (x.key = y.key)) ∧ Ext h h1) (vB false) hh170) (by kernel_rfl) ⟨sn171, ⟨cmp_geq (decide_eq_false c175), rfl⟩, ⟨by rw [Bool.eq_false_iff.2 (fun w => absurd (q169.2 w) (by omega))], x174⟩⟩
end C27
