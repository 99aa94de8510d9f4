/- Scripts: which are looked at; the store behind one; stores are compared. -/
import Derived.Test.YtciigibbgklcjaaDoorMf
import Derived.KernelRfl
open Go Go.AM Go.Proofs
namespace C08
theorem agg3 : isAggA Tryd.prog 3 = some false := by kernel_rfl
theorem size47 : (Tryd.prog.info? 47).map (·.size) = some 11 := by kernel_rfl
theorem und22 : Tryd.prog.underlying 22 = some (.slice 47) := by kernel_rfl
/-- A step of a script. -/
structure StepA where
  k : Int
  key : ByteArray
  c : CntM
  ph : Int
  d : Int
  r0 : ByteArray
  r1 : ByteArray
def scell (x : StepA) : Array Value := #[.int .i64 x.k, .string x.key, .int .i64 x.c.v, .int .i64 x.c.up, .int .i64 x.c.dn, .int .i64 x.c.lo, .int .i64 x.c.hi, .int .i64 x.ph, .int .i64 x.d, .string x.r0, .string x.r1]
theorem scell_size (x : StepA) : (scell x).size = 11 := rfl
def stepM (m : Sto) (x : StepA) : Sto := if x.k = 0 then putM m x.key x.c else if x.k = 1 then apSM m x.key x.ph x.d else if x.k = 2 then remM m x.key else m
def fillM (xs : List StepA) : Sto := xs.foldl stepM []
theorem fill_next {xs : List StepA} {k : Nat} {x : StepA} (h : xs[k]? = some x) : fillM (xs.take (k + 1)) = stepM (fillM (xs.take k)) x := by
  unfold fillM; rw [take_next h, List.foldl_append]; rfl
theorem stepM_wf {m : Sto} (w : WfM m) (x : StepA) : WfM (stepM m x) := by
  unfold stepM
  repeat' split
  · exact w.put _ _
  · exact w.app _ _ _
  · exact w.rem _
  · exact w
theorem foldM_wf : ∀ (xs : List StepA) {m : Sto}, WfM m → WfM (xs.foldl stepM m)
  | [], _, w => w
  | x :: xs, _, w => foldM_wf xs (stepM_wf w x)
theorem fillM_wf (xs : List StepA) : WfM (fillM xs) := foldM_wf xs WfM.nil
set_option maxHeartbeats 4000000 in
theorem short_ok (h : Heap) (xs : List StepA) (sa : Option Addr) (cp : Nat) (hl : SliceAt h scell 11 xs (.slice sa xs.length cp)) (hlen : xs.length ≤ 9223372036854775807) : WCall Tryd.prog 10 #[(Value.slice sa (xs.length) (cp))] h (fun v h1 => ∃ b, v = .bool b ∧ (b = true → xs.length ≤ 120 ∧ ∀ x ∈ xs, x.key.size ≤ 40 ∧ x.r0.size ≤ 40 ∧ x.r1.size ≤ 40) ∧ Ext h h1) := by
  suffices H : ∀ K : Value → Heap → Prop, (∀ v h1, (fun v h1 => ∃ b, v = .bool b ∧ (b = true → xs.length ≤ 120 ∧ ∀ x ∈ xs, x.key.size ≤ 40 ∧ x.r0.size ≤ 40 ∧ x.r1.size ≤ 40) ∧ Ext h h1) v h1 → K v h1) → WCall Tryd.prog 10 #[(Value.slice sa (xs.length) (cp))] h K from H _ fun _ _ q => q
  intro K hK
  refine wcall_at { tmps := #[(vL sa xs.length cp), vZ, vZ, vZ, vZ, vZ, vZ, vZ, vZ, vZ, vZ, vZ, vZ, vZ, vZ, vZ, vZ, vZ, vZ, vZ, vZ, vZ, vZ, vZ, vZ, vZ, vZ, vZ, vZ, vZ, vZ, vZ, vZ, vZ, vZ, vZ, vZ, vZ, vZ, vZ], defers := [] } (by kernel_rfl) ?_
  refine wc_seq' (subc (bodyOf Tryd.prog 10) [0]) (subc (bodyOf Tryd.prog 10) [1]) (by kernel_rfl) ?_
  refine wc_ev [] .normal h [(2, (vB false))] ?_
  refine wc_seq' (subc (bodyOf Tryd.prog 10) [1, 0]) (subc (bodyOf Tryd.prog 10) [1, 1]) (by kernel_rfl) ?_
  by_cases c1 : (120 : Int) < ((xs.length : Nat))
  · refine wc_ev [gtT 1 2 3 c1] .ret h [(4, (vL sa xs.length cp)), (5, (vI ((xs.length : Nat)))), (6, (vB true)), (2, (vB false))] ?_
    exact end_ev [] (vB false) (hK _ _ (⟨false, rfl, fun q => (by cases q), (Ext.refl h)⟩))
  · refine wc_ev [gtF 1 2 3 c1] .normal h [(4, (vL sa xs.length cp)), (5, (vI ((xs.length : Nat)))), (6, (vB false))] ?_
    refine wc_seq' (subc (bodyOf Tryd.prog 10) [1, 1, 0]) (subc (bodyOf Tryd.prog 10) [1, 1, 1]) (by kernel_rfl) ?_
    refine wc_seq' (subc (bodyOf Tryd.prog 10) [1, 1, 0, 0]) (subc (bodyOf Tryd.prog 10) [1, 1, 0, 1]) (by kernel_rfl) ?_
    refine wc_ev [] .normal h [(3, (vI 0))] ?_
    refine wc_block' 0 (subc (bodyOf Tryd.prog 10) [1, 1, 0, 1, 0]) (by kernel_rfl) ?_
    refine wc_loop' (subc (bodyOf Tryd.prog 10) [1, 1, 0, 1, 0, 0]) (by kernel_rfl) (fun n' a' h' => ∃ (k : Int) (g0 : Nat → Value), a' = { tmps := #[(vL sa xs.length cp), vZ, (g0 2), (vI k), (vL sa xs.length cp), (vI ((xs.length : Nat))), (vB false), (g0 7), (g0 8), (g0 9), (g0 10), (g0 11), (g0 12), (g0 13), (g0 14), (g0 15), (g0 16), (g0 17), (g0 18), (g0 19), (g0 20), (g0 21), (g0 22), (g0 23), (g0 24), (g0 25), (g0 26), (g0 27), (g0 28), (g0 29), (g0 30), (g0 31), (g0 32), (g0 33), (g0 34), (g0 35), (g0 36), (g0 37), (g0 38), (g0 39)], defers := [] } ∧ Ext h h' ∧ n' = xs.length - k.toNat ∧ (0 ≤ k ∧ k ≤ (xs.length : Nat)) ∧ (∀ (j : Nat) (x : StepA), (j : Int) < k → xs[j]? = some x → x.key.size ≤ 40 ∧ x.r0.size ≤ 40 ∧ x.r1.size ≤ 40)) ?_ (xs.length - (0 : Int).toNat) ⟨0, (fun i => ([vU, vU, (vB false), vU, vU, vU, vU, vZ, vZ, vZ, vZ, vZ, vZ, vZ, vZ, vZ, vZ, vZ, vZ, vZ, vZ, vZ, vZ, vZ, vZ, vZ, vZ, vZ, vZ, vZ, vZ, vZ, vZ, vZ, vZ, vZ, vZ, vZ, vZ, vZ] : List Value).getD i undef), by as_aux_lemma => kernel_rfl, (Ext.refl h), rfl, by omega, fun j x hj => absurd hj (by omega)⟩
    rintro n' _ h2 ⟨k, g0, rfl, x3, m4, i5, i6⟩
    by_cases c7 : ((k) : Int) < ((xs.length : Nat))
    · obtain ⟨i9, v10, e11, l12, g13⟩ := list_at xs (e := (k)) (by omega) (by first | omega | (simp only [List.length_set, List.length_append, List.length_singleton]; omega))
      obtain ⟨b14, o15, k16, q17, a18⟩ := hl.at scell_size g13
      by_cases c19 : (40 : Int) < ((v10.key.size : Nat))
      · refine wc_ev [ltT 4 3 3 c7, evV 6 2 (vP b14 o15) (show indexAddrA Tryd.prog 22 (vL sa xs.length cp) (vI k) = some (vP b14 o15) from a18 und22 size47 e11), evV 6 4 (vS v10.key) (show loadT Tryd.prog h2 9 (vP b14 (o15 + 1)) = some (vS v10.key) from (k16.keep fun b r _ q => x3 b r q).cell (j := 1) agg9 rfl), gtT 6 6 3 c19] .ret h2 [(7, (vI k)), (8, (vL sa xs.length cp)), (9, (vI ((xs.length : Nat)))), (10, (vB true)), (13, (vL sa xs.length cp)), (14, (vI k)), (15, (vP b14 o15)), (16, (vP b14 (o15 + 1))), (17, (vS v10.key)), (18, (vI ((v10.key.size : Nat)))), (19, (vB true)), (20, (vB true)), (21, vZ), (22, vZ), (23, vZ), (24, vZ), (25, vZ), (26, vZ), (27, vZ), (28, vZ), (29, (vB true)), (30, (vB true)), (31, vZ), (32, vZ), (33, vZ), (34, vZ), (35, vZ), (36, vZ), (37, vZ), (38, vZ), (39, (vB true)), (2, (vB false))] ?_
        exact end_ev [] (vB false) (hK _ _ (⟨false, rfl, fun q => (by cases q), x3⟩))
      · obtain ⟨b20, o21, k22, q23, a24⟩ := hl.at scell_size g13
        by_cases c25 : (40 : Int) < ((v10.r0.size : Nat))
        · refine wc_ev [ltT 4 3 3 c7, evV 6 2 (vP b14 o15) (show indexAddrA Tryd.prog 22 (vL sa xs.length cp) (vI k) = some (vP b14 o15) from a18 und22 size47 e11), evV 6 4 (vS v10.key) (show loadT Tryd.prog h2 9 (vP b14 (o15 + 1)) = some (vS v10.key) from (k16.keep fun b r _ q => x3 b r q).cell (j := 1) agg9 rfl), gtF 6 6 3 c19, evV 6 10 (vP b20 o21) (show indexAddrA Tryd.prog 22 (vL sa xs.length cp) (vI k) = some (vP b20 o21) from a24 und22 size47 e11), evV 6 13 (vS v10.r0) (show loadT Tryd.prog h2 9 (vP b20 (o21 + 9)) = some (vS v10.r0) from (k22.keep fun b r _ q => x3 b r q).cell (j := 9) agg9 rfl), gtT 6 15 3 c25] .ret h2 [(7, (vI k)), (8, (vL sa xs.length cp)), (9, (vI ((xs.length : Nat)))), (10, (vB true)), (13, (vL sa xs.length cp)), (14, (vI k)), (15, (vP b14 o15)), (16, (vP b14 (o15 + 1))), (17, (vS v10.key)), (18, (vI ((v10.key.size : Nat)))), (19, (vB false)), (20, (vB false)), (21, (vL sa xs.length cp)), (22, (vI k)), (23, (vP b20 o21)), (24, (vP b20 (o21 + 9))), (25, (vP b20 (o21 + 9))), (26, (vS v10.r0)), (27, (vI ((v10.r0.size : Nat)))), (28, (vB true)), (29, (vB true)), (30, (vB true)), (31, vZ), (32, vZ), (33, vZ), (34, vZ), (35, vZ), (36, vZ), (37, vZ), (38, vZ), (39, (vB true)), (2, (vB false))] ?_
          exact end_ev [] (vB false) (hK _ _ (⟨false, rfl, fun q => (by cases q), x3⟩))
        · obtain ⟨b26, o27, k28, q29, a30⟩ := hl.at scell_size g13
          by_cases c31 : (40 : Int) < ((v10.r1.size : Nat))
          · refine wc_ev [ltT 4 3 3 c7, evV 6 2 (vP b14 o15) (show indexAddrA Tryd.prog 22 (vL sa xs.length cp) (vI k) = some (vP b14 o15) from a18 und22 size47 e11), evV 6 4 (vS v10.key) (show loadT Tryd.prog h2 9 (vP b14 (o15 + 1)) = some (vS v10.key) from (k16.keep fun b r _ q => x3 b r q).cell (j := 1) agg9 rfl), gtF 6 6 3 c19, evV 6 10 (vP b20 o21) (show indexAddrA Tryd.prog 22 (vL sa xs.length cp) (vI k) = some (vP b20 o21) from a24 und22 size47 e11), evV 6 13 (vS v10.r0) (show loadT Tryd.prog h2 9 (vP b20 (o21 + 9)) = some (vS v10.r0) from (k22.keep fun b r _ q => x3 b r q).cell (j := 9) agg9 rfl), gtF 6 15 3 c25, evV 6 20 (vP b26 o27) (show indexAddrA Tryd.prog 22 (vL sa xs.length cp) (vI k) = some (vP b26 o27) from a30 und22 size47 e11), evV 6 23 (vS v10.r1) (show loadT Tryd.prog h2 9 (vP b26 (o27 + 10)) = some (vS v10.r1) from (k28.keep fun b r _ q => x3 b r q).cell (j := 10) agg9 rfl), gtT 6 25 3 c31] .ret h2 [(7, (vI k)), (8, (vL sa xs.length cp)), (9, (vI ((xs.length : Nat)))), (10, (vB true)), (13, (vL sa xs.length cp)), (14, (vI k)), (15, (vP b14 o15)), (16, (vP b14 (o15 + 1))), (17, (vS v10.key)), (18, (vI ((v10.key.size : Nat)))), (19, (vB false)), (20, (vB false)), (21, (vL sa xs.length cp)), (22, (vI k)), (23, (vP b20 o21)), (24, (vP b20 (o21 + 9))), (25, (vP b20 (o21 + 9))), (26, (vS v10.r0)), (27, (vI ((v10.r0.size : Nat)))), (28, (vB false)), (29, (vB false)), (30, (vB false)), (31, (vL sa xs.length cp)), (32, (vI k)), (33, (vP b26 o27)), (34, (vP b26 (o27 + 9))), (35, (vP b26 (o27 + 10))), (36, (vS v10.r1)), (37, (vI ((v10.r1.size : Nat)))), (38, (vB true)), (39, (vB true)), (2, (vB false))] ?_
            exact end_ev [] (vB false) (hK _ _ (⟨false, rfl, fun q => (by cases q), x3⟩))
          · refine wc_ev [ltT 4 3 3 c7, evV 6 2 (vP b14 o15) (show indexAddrA Tryd.prog 22 (vL sa xs.length cp) (vI k) = some (vP b14 o15) from a18 und22 size47 e11), evV 6 4 (vS v10.key) (show loadT Tryd.prog h2 9 (vP b14 (o15 + 1)) = some (vS v10.key) from (k16.keep fun b r _ q => x3 b r q).cell (j := 1) agg9 rfl), gtF 6 6 3 c19, evV 6 10 (vP b20 o21) (show indexAddrA Tryd.prog 22 (vL sa xs.length cp) (vI k) = some (vP b20 o21) from a24 und22 size47 e11), evV 6 13 (vS v10.r0) (show loadT Tryd.prog h2 9 (vP b20 (o21 + 9)) = some (vS v10.r0) from (k22.keep fun b r _ q => x3 b r q).cell (j := 9) agg9 rfl), gtF 6 15 3 c25, evV 6 20 (vP b26 o27) (show indexAddrA Tryd.prog 22 (vL sa xs.length cp) (vI k) = some (vP b26 o27) from a30 und22 size47 e11), evV 6 23 (vS v10.r1) (show loadT Tryd.prog h2 9 (vP b26 (o27 + 10)) = some (vS v10.r1) from (k28.keep fun b r _ q => x3 b r q).cell (j := 10) agg9 rfl), gtF 6 25 3 c31, evV 5 1 (vI ((k) + 1)) (show binA Tryd.prog .add 3 (vI k) (vI 1) = some (vI ((k) + 1)) from add_i64 (by omega) (by omega))] .normal h2 [(7, (vI k)), (8, (vL sa xs.length cp)), (9, (vI ((xs.length : Nat)))), (10, (vB true)), (13, (vL sa xs.length cp)), (14, (vI k)), (15, (vP b14 o15)), (16, (vP b14 (o15 + 1))), (17, (vS v10.key)), (18, (vI ((v10.key.size : Nat)))), (19, (vB false)), (20, (vB false)), (21, (vL sa xs.length cp)), (22, (vI k)), (23, (vP b20 o21)), (24, (vP b20 (o21 + 9))), (25, (vP b20 (o21 + 9))), (26, (vS v10.r0)), (27, (vI ((v10.r0.size : Nat)))), (28, (vB false)), (29, (vB false)), (30, (vB false)), (31, (vL sa xs.length cp)), (32, (vI k)), (33, (vP b26 o27)), (34, (vP b26 (o27 + 9))), (35, (vP b26 (o27 + 10))), (36, (vS v10.r1)), (37, (vI ((v10.r1.size : Nat)))), (38, (vB false)), (39, (vB false)), (11, (vI k)), (12, (vI ((k) + 1))), (3, (vI ((k) + 1)))] ?_
            exact ⟨xs.length - (k + 1).toNat, by omega, ⟨k + 1, (fun i => ([vU, vU, (g0 2), vU, vU, vU, vU, (vI k), (vL sa xs.length cp), (vI ((xs.length : Nat))), (vB true), (vI k), (vI ((k) + 1)), (vL sa xs.length cp), (vI k), (vP b14 o15), (vP b14 (o15 + 1)), (vS v10.key), (vI ((v10.key.size : Nat))), (vB false), (vB false), (vL sa xs.length cp), (vI k), (vP b20 o21), (vP b20 (o21 + 9)), (vP b20 (o21 + 9)), (vS v10.r0), (vI ((v10.r0.size : Nat))), (vB false), (vB false), (vB false), (vL sa xs.length cp), (vI k), (vP b26 o27), (vP b26 (o27 + 9)), (vP b26 (o27 + 10)), (vS v10.r1), (vI ((v10.r1.size : Nat))), (vB false), (vB false)] : List Value).getD i undef), by as_aux_lemma => kernel_rfl, x3, rfl, by omega, fun j x hj w => by
          rcases Int.lt_or_eq_of_le (Int.lt_add_one_iff.1 hj) with g | g
          · exact i6 j x g w
          · have e : j = i9 := by omega
            subst e; rw [w] at g13; cases g13; exact ⟨by omega, by omega, by omega⟩⟩⟩
    · refine wc_ev [ltF 4 3 3 c7] (.exit 0) h2 [(7, (vI k)), (8, (vL sa xs.length cp)), (9, (vI ((xs.length : Nat)))), (10, (vB false))] ?_
      refine wc_ev [] .ret h2 [(2, (vB true))] ?_
      exact end_ev [] (vB true) (hK _ _ (⟨true, rfl, fun _ => ⟨by omega, fun x hx => by obtain ⟨j, hj, e⟩ := List.getElem_of_mem hx; exact i6 j x (by omega) (List.getElem?_eq_some_iff.2 ⟨hj, e⟩)⟩, x3⟩))
theorem sl_step {h : Heap} {b : Nat} {x : StepA} {c : Array Value} {e : TypeId} (k : h[b]? = some (.cells c e (0, 0))) (e1 : c = scell x) : SliceAt h scell 11 [x] (.slice (some ⟨b, 0, none⟩) 1 1) := by
  subst e1
  exact .inr ⟨b, 0, 1, _, e, (0, 0), rfl, k, by decide, Nat.le_refl _, Nat.le_refl _, rfl⟩
set_option maxHeartbeats 4000000 in
theorem filled_ok (h : Heap) (xs : List StepA) (sa : Option Addr) (cp : Nat) (hl : SliceAt h scell 11 xs (.slice sa xs.length cp)) (hlen : xs.length ≤ 9223372036854775807) : WCall Tryd.prog 12 #[(Value.slice sa (xs.length) (cp))] h (fun v h1 => ∃ b O, v = .pointer (some ⟨b, 0, none⟩) ∧ StAt 50 h1 O b (fillM xs) ∧ Ext h h1 ∧ ∀ z, O z → h.size ≤ z) := by
  suffices H : ∀ K : Value → Heap → Prop, (∀ v h1, (fun v h1 => ∃ b O, v = .pointer (some ⟨b, 0, none⟩) ∧ StAt 50 h1 O b (fillM xs) ∧ Ext h h1 ∧ ∀ z, O z → h.size ≤ z) v h1 → K v h1) → WCall Tryd.prog 12 #[(Value.slice sa (xs.length) (cp))] h K from H _ fun _ _ q => q
  intro K hK
  refine wcall_at { tmps := #[(vL sa xs.length cp), vZ, vZ, vZ, vZ, vZ, vZ, vZ, vZ, vZ, vZ, vZ, vZ, vZ, vZ, vZ, vZ, vZ, vZ, vZ, vZ, vZ, vZ, vZ, vZ, vZ, vZ, vZ, vZ, vZ, vZ, vZ, vZ, vZ, vZ, vZ, vZ, vZ, vZ, vZ, vZ, vZ, vZ, vZ, vZ, vZ, vZ, vZ, vZ, vZ, vZ, vZ, vZ, vZ, vZ, vZ, vZ, vZ, vZ, vZ], defers := [] } (by kernel_rfl) ?_
  refine wc_seq' (subc (bodyOf Tryd.prog 12) [0]) (subc (bodyOf Tryd.prog 12) [1]) (by kernel_rfl) ?_
  refine wc_ev [] .normal h [(2, vN)] ?_
  refine wc_seq' (subc (bodyOf Tryd.prog 12) [1, 0]) (subc (bodyOf Tryd.prog 12) [1, 1]) (by kernel_rfl) ?_
  obtain ⟨_, h2, s3, b4, O2654, rfl, p5, x6, w7⟩ := new_ok h
  have x8 := (Ext.refl h).trans x6
  have z9 : h.size ≤ h.size := (Ext.refl h).size
  have o10 : ∀ zz, O2654 zz → h.size ≤ zz := fun zz hz => by have := w7 zz hz; omega
  refine wc_ev [evF 1 0 s3] .normal h2 [(5, (vP b4 0)), (3, (vP b4 0))] ?_
  refine wc_seq' (subc (bodyOf Tryd.prog 12) [1, 1, 0]) (subc (bodyOf Tryd.prog 12) [1, 1, 1]) (by kernel_rfl) ?_
  refine wc_seq' (subc (bodyOf Tryd.prog 12) [1, 1, 0, 0]) (subc (bodyOf Tryd.prog 12) [1, 1, 0, 1]) (by kernel_rfl) ?_
  refine wc_ev [] .normal h2 [(4, (vI 0))] ?_
  refine wc_block' 0 (subc (bodyOf Tryd.prog 12) [1, 1, 0, 1, 0]) (by kernel_rfl) ?_
  refine wc_loop' (subc (bodyOf Tryd.prog 12) [1, 1, 0, 1, 0, 0]) (by kernel_rfl) (fun n' a' h' => ∃ (k : Int) (O : Nat → Prop) (g0 : Nat → Value), a' = { tmps := #[(vL sa xs.length cp), vZ, vN, (vP b4 0), (vI k), (vP b4 0), (g0 6), (g0 7), (g0 8), (g0 9), (g0 10), (g0 11), (g0 12), (g0 13), (g0 14), (g0 15), (g0 16), (g0 17), (g0 18), (g0 19), (g0 20), (g0 21), (g0 22), (g0 23), (g0 24), (g0 25), (g0 26), (g0 27), (g0 28), (g0 29), (g0 30), (g0 31), (g0 32), (g0 33), (g0 34), (g0 35), (g0 36), (g0 37), (g0 38), (g0 39), (g0 40), (g0 41), (g0 42), (g0 43), (g0 44), (g0 45), (g0 46), (g0 47), (g0 48), (g0 49), (g0 50), (g0 51), (g0 52), (g0 53), (g0 54), (g0 55), (g0 56), (g0 57), (g0 58), vZ], defers := [] } ∧ Ext h h' ∧ n' = xs.length - k.toNat ∧ (0 ≤ k ∧ k ≤ (xs.length : Nat)) ∧ (∀ zz, O zz → h.size ≤ zz) ∧ StAt 50 h' O b4 (fillM (xs.take k.toNat))) ?_ (xs.length - (0 : Int).toNat) ⟨0, O2654, (fun i => ([vU, vU, vU, vU, vU, vU, vZ, vZ, vZ, vZ, vZ, vZ, vZ, vZ, vZ, vZ, vZ, vZ, vZ, vZ, vZ, vZ, vZ, vZ, vZ, vZ, vZ, vZ, vZ, vZ, vZ, vZ, vZ, vZ, vZ, vZ, vZ, vZ, vZ, vZ, vZ, vZ, vZ, vZ, vZ, vZ, vZ, vZ, vZ, vZ, vZ, vZ, vZ, vZ, vZ, vZ, vZ, vZ, vZ] : List Value).getD i undef), by as_aux_lemma => kernel_rfl, x8, rfl, by omega, o10, p5⟩
  rintro n' _ h11 ⟨k, O, g0, rfl, x12, m13, i14, i15, p16⟩
  by_cases c17 : ((k) : Int) < ((xs.length : Nat))
  · obtain ⟨i18, v19, e20, l21, g22⟩ := list_at xs (e := (k)) (by omega) (by first | omega | (simp only [List.length_set, List.length_append, List.length_singleton]; omega))
    obtain ⟨b23, o24, k25, q26, a27⟩ := hl.at scell_size g22
    by_cases c28 : ((v19.k) : Int) = 0
    · obtain ⟨b29, o30, k31, q32, a33⟩ := hl.at scell_size g22
      obtain ⟨b34, o35, k36, q37, a38⟩ := hl.at scell_size g22
      obtain ⟨_, h39, s40, rfl, x41, O2707, p42, o43⟩ := put_ok h11 p16 (fillM_wf (xs.take k.toNat)) v19.key v19.c
      have k44 := WfM.put (fillM_wf (xs.take k.toNat)) v19.key v19.c
      have q45 := put_facts (fillM (xs.take k.toNat)) v19.key v19.c
      have z46 : h.size ≤ h11.size := x12.size
      have x47 : Ext h _ := (Chg.then (O := fun _ => False) (Chg.ext x12) x41 (fun b hb => .inr (i15 b hb))).toExt'
      have z48 : h.size ≤ h11.size := x12.size
      have o49 : ∀ zz, O2707 zz → h.size ≤ zz := fun zz hz => by rcases o43 zz hz with g | g; (exact i15 zz g); omega
      refine wc_ev [ltT 3 3 3 c17, evV 5 2 (vP b23 o24) (show indexAddrA Tryd.prog 22 (vL sa xs.length cp) (vI k) = some (vP b23 o24) from a27 und22 size47 e20), evV 5 4 (vI v19.k) (show loadT Tryd.prog h11 3 (vP b23 o24) = some (vI v19.k) from (k25.keep fun b r _ q => x12 b r q).cell (j := 0) agg3 rfl), eqT 6 0 3 c28, evV 7 3 (vP b29 o30) (show indexAddrA Tryd.prog 22 (vL sa xs.length cp) (vI k) = some (vP b29 o30) from a33 und22 size47 e20), evV 7 5 (vS v19.key) (show loadT Tryd.prog h11 9 (vP b29 (o30 + 1)) = some (vS v19.key) from (k31.keep fun b r _ q => x12 b r q).cell (j := 1) agg9 rfl), evV 7 8 (vP b34 o35) (show indexAddrA Tryd.prog 22 (vL sa xs.length cp) (vI k) = some (vP b34 o35) from a38 und22 size47 e20), evV 7 10 (vA #[(vI v19.c.v), (vI v19.c.up), (vI v19.c.dn), (vI v19.c.lo), (vI v19.c.hi)]) (show loadT Tryd.prog h11 39 (vP b34 (o35 + 2)) = some (vA #[(vI v19.c.v), (vI v19.c.up), (vI v19.c.dn), (vI v19.c.lo), (vI v19.c.hi)]) from (k36.keep fun b r _ q => x12 b r q).agg (j := 2) agg39 size39 (show 2 + 5 ≤ 11 by decide) (by kernel_rfl)), evF 7 11 s40, evV 4 1 (vI ((k) + 1)) (show binA Tryd.prog .add 3 (vI k) (vI 1) = some (vI ((k) + 1)) from add_i64 (by omega) (by omega))] .normal h39 [(6, (vI k)), (7, (vL sa xs.length cp)), (8, (vI ((xs.length : Nat)))), (9, (vB true)), (12, (vL sa xs.length cp)), (13, (vI k)), (14, (vP b23 o24)), (15, (vP b23 o24)), (16, (vI v19.k)), (18, (vB true)), (17, (vB true)), (19, (vP b4 0)), (20, (vL sa xs.length cp)), (21, (vI k)), (22, (vP b29 o30)), (23, (vP b29 (o30 + 1))), (24, (vS v19.key)), (25, (vL sa xs.length cp)), (26, (vI k)), (27, (vP b34 o35)), (28, (vP b34 (o35 + 2))), (29, (vA #[(vI v19.c.v), (vI v19.c.up), (vI v19.c.dn), (vI v19.c.lo), (vI v19.c.hi)])), (30, (vI (putE (fillM (xs.take k.toNat)) v19.key v19.c))), (10, (vI k)), (11, (vI ((k) + 1))), (4, (vI ((k) + 1)))] ?_
      exact ⟨xs.length - (k + 1).toNat, by omega, ⟨k + 1, O2707, (fun i => ([vU, vU, vU, vU, vU, vU, (vI k), (vL sa xs.length cp), (vI ((xs.length : Nat))), (vB true), (vI k), (vI ((k) + 1)), (vL sa xs.length cp), (vI k), (vP b23 o24), (vP b23 o24), (vI v19.k), (vB true), (vB true), (vP b4 0), (vL sa xs.length cp), (vI k), (vP b29 o30), (vP b29 (o30 + 1)), (vS v19.key), (vL sa xs.length cp), (vI k), (vP b34 o35), (vP b34 (o35 + 2)), (vA #[(vI v19.c.v), (vI v19.c.up), (vI v19.c.dn), (vI v19.c.lo), (vI v19.c.hi)]), (vI (putE (fillM (xs.take k.toNat)) v19.key v19.c)), (g0 31), (g0 32), (g0 33), (g0 34), (g0 35), (g0 36), (g0 37), (g0 38), (g0 39), (g0 40), (g0 41), (g0 42), (g0 43), (g0 44), (g0 45), (g0 46), (g0 47), (g0 48), (g0 49), (g0 50), (g0 51), (g0 52), (g0 53), (g0 54), (g0 55), (g0 56), (g0 57), (g0 58)] : List Value).getD i undef), by as_aux_lemma => kernel_rfl, x47, rfl, by omega, o49, by rw [show (k + 1).toNat = i18 + 1 by omega, fill_next g22, stepM, if_pos c28, show i18 = k.toNat by omega]; exact p42⟩⟩
    · by_cases c50 : ((v19.k) : Int) = 1
      · obtain ⟨b51, o52, k53, q54, a55⟩ := hl.at scell_size g22
        obtain ⟨b56, o57, k58, q59, a60⟩ := hl.at scell_size g22
        obtain ⟨b61, o62, k63, q64, a65⟩ := hl.at scell_size g22
        obtain ⟨_, h66, s67, rfl, x68, O2754, p69, o70⟩ := sapply_ok h11 p16 (fillM_wf (xs.take k.toNat)) v19.key v19.ph v19.d
        have k71 := WfM.app (fillM_wf (xs.take k.toNat)) v19.key v19.ph v19.d
        have q72 := ap_facts (fillM (xs.take k.toNat)) v19.key v19.ph v19.d
        have q73 := apSM_len (fillM (xs.take k.toNat)) v19.key v19.ph v19.d
        have z74 : h.size ≤ h11.size := x12.size
        have x75 : Ext h _ := (Chg.then (O := fun _ => False) (Chg.ext x12) x68 (fun b hb => .inr (i15 b hb))).toExt'
        have z76 : h.size ≤ h11.size := x12.size
        have o77 : ∀ zz, O2754 zz → h.size ≤ zz := fun zz hz => by rcases o70 zz hz with g | g; (exact i15 zz g); omega
        refine wc_ev [ltT 3 3 3 c17, evV 5 2 (vP b23 o24) (show indexAddrA Tryd.prog 22 (vL sa xs.length cp) (vI k) = some (vP b23 o24) from a27 und22 size47 e20), evV 5 4 (vI v19.k) (show loadT Tryd.prog h11 3 (vP b23 o24) = some (vI v19.k) from (k25.keep fun b r _ q => x12 b r q).cell (j := 0) agg3 rfl), eqF 6 0 3 c28, eqT 8 0 3 c50, evV 9 3 (vP b51 o52) (show indexAddrA Tryd.prog 22 (vL sa xs.length cp) (vI k) = some (vP b51 o52) from a55 und22 size47 e20), evV 9 5 (vS v19.key) (show loadT Tryd.prog h11 9 (vP b51 (o52 + 1)) = some (vS v19.key) from (k53.keep fun b r _ q => x12 b r q).cell (j := 1) agg9 rfl), evV 9 8 (vP b56 o57) (show indexAddrA Tryd.prog 22 (vL sa xs.length cp) (vI k) = some (vP b56 o57) from a60 und22 size47 e20), evV 9 10 (vI v19.ph) (show loadT Tryd.prog h11 3 (vP b56 (o57 + 7)) = some (vI v19.ph) from (k58.keep fun b r _ q => x12 b r q).cell (j := 7) agg3 rfl), evV 9 13 (vP b61 o62) (show indexAddrA Tryd.prog 22 (vL sa xs.length cp) (vI k) = some (vP b61 o62) from a65 und22 size47 e20), evV 9 15 (vI v19.d) (show loadT Tryd.prog h11 2 (vP b61 (o62 + 8)) = some (vI v19.d) from (k63.keep fun b r _ q => x12 b r q).cell (j := 8) agg2 rfl), evF 9 16 s67, evV 4 1 (vI ((k) + 1)) (show binA Tryd.prog .add 3 (vI k) (vI 1) = some (vI ((k) + 1)) from add_i64 (by omega) (by omega))] .normal h66 [(6, (vI k)), (7, (vL sa xs.length cp)), (8, (vI ((xs.length : Nat)))), (9, (vB true)), (12, (vL sa xs.length cp)), (13, (vI k)), (14, (vP b23 o24)), (15, (vP b23 o24)), (16, (vI v19.k)), (18, (vB false)), (17, (vB false)), (32, (vB true)), (31, (vB true)), (33, (vP b4 0)), (34, (vL sa xs.length cp)), (35, (vI k)), (36, (vP b51 o52)), (37, (vP b51 (o52 + 1))), (38, (vS v19.key)), (39, (vL sa xs.length cp)), (40, (vI k)), (41, (vP b56 o57)), (42, (vP b56 (o57 + 7))), (43, (vI v19.ph)), (44, (vL sa xs.length cp)), (45, (vI k)), (46, (vP b61 o62)), (47, (vP b61 (o62 + 8))), (48, (vI v19.d)), (49, (vT #[(vI (apSV (fillM (xs.take k.toNat)) v19.key v19.ph v19.d)), (vI (apSE (fillM (xs.take k.toNat)) v19.key v19.ph v19.d))])), (10, (vI k)), (11, (vI ((k) + 1))), (4, (vI ((k) + 1)))] ?_
        exact ⟨xs.length - (k + 1).toNat, by omega, ⟨k + 1, O2754, (fun i => ([vU, vU, vU, vU, vU, vU, (vI k), (vL sa xs.length cp), (vI ((xs.length : Nat))), (vB true), (vI k), (vI ((k) + 1)), (vL sa xs.length cp), (vI k), (vP b23 o24), (vP b23 o24), (vI v19.k), (vB false), (vB false), (g0 19), (g0 20), (g0 21), (g0 22), (g0 23), (g0 24), (g0 25), (g0 26), (g0 27), (g0 28), (g0 29), (g0 30), (vB true), (vB true), (vP b4 0), (vL sa xs.length cp), (vI k), (vP b51 o52), (vP b51 (o52 + 1)), (vS v19.key), (vL sa xs.length cp), (vI k), (vP b56 o57), (vP b56 (o57 + 7)), (vI v19.ph), (vL sa xs.length cp), (vI k), (vP b61 o62), (vP b61 (o62 + 8)), (vI v19.d), (vT #[(vI (apSV (fillM (xs.take k.toNat)) v19.key v19.ph v19.d)), (vI (apSE (fillM (xs.take k.toNat)) v19.key v19.ph v19.d))]), (g0 50), (g0 51), (g0 52), (g0 53), (g0 54), (g0 55), (g0 56), (g0 57), (g0 58)] : List Value).getD i undef), by as_aux_lemma => kernel_rfl, x75, rfl, by omega, o77, by rw [show (k + 1).toNat = i18 + 1 by omega, fill_next g22, stepM, if_neg c28, if_pos c50, show i18 = k.toNat by omega]; exact p69⟩⟩
      · by_cases c78 : ((v19.k) : Int) = 2
        · obtain ⟨b79, o80, k81, q82, a83⟩ := hl.at scell_size g22
          obtain ⟨_, h84, s85, rfl, x86, O2778, p87, o88⟩ := remove_ok h11 p16 (fillM_wf (xs.take k.toNat)) v19.key
          have k89 := WfM.rem (fillM_wf (xs.take k.toNat)) v19.key
          have q90 := get_facts (fillM (xs.take k.toNat)) v19.key
          have z91 : h.size ≤ h11.size := x12.size
          have x92 : Ext h _ := (Chg.then (O := fun _ => False) (Chg.ext x12) x86 (fun b hb => .inr (i15 b hb))).toExt'
          have z93 : h.size ≤ h11.size := x12.size
          have o94 : ∀ zz, O2778 zz → h.size ≤ zz := fun zz hz => by rcases o88 zz hz with g | g; (exact i15 zz g); omega
          refine wc_ev [ltT 3 3 3 c17, evV 5 2 (vP b23 o24) (show indexAddrA Tryd.prog 22 (vL sa xs.length cp) (vI k) = some (vP b23 o24) from a27 und22 size47 e20), evV 5 4 (vI v19.k) (show loadT Tryd.prog h11 3 (vP b23 o24) = some (vI v19.k) from (k25.keep fun b r _ q => x12 b r q).cell (j := 0) agg3 rfl), eqF 6 0 3 c28, eqF 8 0 3 c50, eqT 10 0 3 c78, evV 11 3 (vP b79 o80) (show indexAddrA Tryd.prog 22 (vL sa xs.length cp) (vI k) = some (vP b79 o80) from a83 und22 size47 e20), evV 11 5 (vS v19.key) (show loadT Tryd.prog h11 9 (vP b79 (o80 + 1)) = some (vS v19.key) from (k81.keep fun b r _ q => x12 b r q).cell (j := 1) agg9 rfl), evF 11 6 s85, evV 4 1 (vI ((k) + 1)) (show binA Tryd.prog .add 3 (vI k) (vI 1) = some (vI ((k) + 1)) from add_i64 (by omega) (by omega))] .normal h84 [(6, (vI k)), (7, (vL sa xs.length cp)), (8, (vI ((xs.length : Nat)))), (9, (vB true)), (12, (vL sa xs.length cp)), (13, (vI k)), (14, (vP b23 o24)), (15, (vP b23 o24)), (16, (vI v19.k)), (18, (vB false)), (17, (vB false)), (32, (vB false)), (31, (vB false)), (51, (vB true)), (50, (vB true)), (52, (vP b4 0)), (53, (vL sa xs.length cp)), (54, (vI k)), (55, (vP b79 o80)), (56, (vP b79 (o80 + 1))), (57, (vS v19.key)), (58, (vI (getE (fillM (xs.take k.toNat)) v19.key))), (10, (vI k)), (11, (vI ((k) + 1))), (4, (vI ((k) + 1)))] ?_
          exact ⟨xs.length - (k + 1).toNat, by omega, ⟨k + 1, O2778, (fun i => ([vU, vU, vU, vU, vU, vU, (vI k), (vL sa xs.length cp), (vI ((xs.length : Nat))), (vB true), (vI k), (vI ((k) + 1)), (vL sa xs.length cp), (vI k), (vP b23 o24), (vP b23 o24), (vI v19.k), (vB false), (vB false), (g0 19), (g0 20), (g0 21), (g0 22), (g0 23), (g0 24), (g0 25), (g0 26), (g0 27), (g0 28), (g0 29), (g0 30), (vB false), (vB false), (g0 33), (g0 34), (g0 35), (g0 36), (g0 37), (g0 38), (g0 39), (g0 40), (g0 41), (g0 42), (g0 43), (g0 44), (g0 45), (g0 46), (g0 47), (g0 48), (g0 49), (vB true), (vB true), (vP b4 0), (vL sa xs.length cp), (vI k), (vP b79 o80), (vP b79 (o80 + 1)), (vS v19.key), (vI (getE (fillM (xs.take k.toNat)) v19.key))] : List Value).getD i undef), by as_aux_lemma => kernel_rfl, x92, rfl, by omega, o94, by rw [show (k + 1).toNat = i18 + 1 by omega, fill_next g22, stepM, if_neg c28, if_neg c50, if_pos c78, show i18 = k.toNat by omega]; exact p87⟩⟩
        · refine wc_ev [ltT 3 3 3 c17, evV 5 2 (vP b23 o24) (show indexAddrA Tryd.prog 22 (vL sa xs.length cp) (vI k) = some (vP b23 o24) from a27 und22 size47 e20), evV 5 4 (vI v19.k) (show loadT Tryd.prog h11 3 (vP b23 o24) = some (vI v19.k) from (k25.keep fun b r _ q => x12 b r q).cell (j := 0) agg3 rfl), eqF 6 0 3 c28, eqF 8 0 3 c50, eqF 10 0 3 c78, evV 4 1 (vI ((k) + 1)) (show binA Tryd.prog .add 3 (vI k) (vI 1) = some (vI ((k) + 1)) from add_i64 (by omega) (by omega))] .normal h11 [(6, (vI k)), (7, (vL sa xs.length cp)), (8, (vI ((xs.length : Nat)))), (9, (vB true)), (12, (vL sa xs.length cp)), (13, (vI k)), (14, (vP b23 o24)), (15, (vP b23 o24)), (16, (vI v19.k)), (18, (vB false)), (17, (vB false)), (32, (vB false)), (31, (vB false)), (51, (vB false)), (50, (vB false)), (10, (vI k)), (11, (vI ((k) + 1))), (4, (vI ((k) + 1)))] ?_
          exact ⟨xs.length - (k + 1).toNat, by omega, ⟨k + 1, O, (fun i => ([vU, vU, vU, vU, vU, vU, (vI k), (vL sa xs.length cp), (vI ((xs.length : Nat))), (vB true), (vI k), (vI ((k) + 1)), (vL sa xs.length cp), (vI k), (vP b23 o24), (vP b23 o24), (vI v19.k), (vB false), (vB false), (g0 19), (g0 20), (g0 21), (g0 22), (g0 23), (g0 24), (g0 25), (g0 26), (g0 27), (g0 28), (g0 29), (g0 30), (vB false), (vB false), (g0 33), (g0 34), (g0 35), (g0 36), (g0 37), (g0 38), (g0 39), (g0 40), (g0 41), (g0 42), (g0 43), (g0 44), (g0 45), (g0 46), (g0 47), (g0 48), (g0 49), (vB false), (vB false), (g0 52), (g0 53), (g0 54), (g0 55), (g0 56), (g0 57), (g0 58)] : List Value).getD i undef), by as_aux_lemma => kernel_rfl, x12, rfl, by omega, i15, by rw [show (k + 1).toNat = i18 + 1 by omega, fill_next g22, stepM, if_neg c28, if_neg c50, if_neg c78, show i18 = k.toNat by omega]; exact p16⟩⟩
  · refine wc_ev [ltF 3 3 3 c17] (.exit 0) h11 [(6, (vI k)), (7, (vL sa xs.length cp)), (8, (vI ((xs.length : Nat)))), (9, (vB false))] ?_
    refine wc_ev [] .ret h11 [(59, (vP b4 0)), (2, (vP b4 0))] ?_
    have ek : xs.take k.toNat = xs := List.take_of_length_le (by omega)
    have tb := p16
    rw [ek] at tb
    exact end_ev [] (vP b4 0) (hK _ _ (⟨_, O, rfl, tb, x12, i15⟩))
set_option maxHeartbeats 4000000 in
theorem equal_ok (h : Heap) {O1 O2 : Nat → Prop} {t1 t2 : Nat} {ms : Sto} (ht1 : StAt 50 h O1 t1 ms) (ht2 : StAt 50 h O2 t2 ms) (ok : WfM ms) : WCall Tryd.prog 27 #[(vP t1 0), (vP t2 0)] h (fun v h1 => v = .bool true ∧ Ext h h1) := by
  suffices H : ∀ K : Value → Heap → Prop, (∀ v h1, (fun v h1 => v = .bool true ∧ Ext h h1) v h1 → K v h1) → WCall Tryd.prog 27 #[(vP t1 0), (vP t2 0)] h K from H _ fun _ _ q => q
  intro K hK
  refine wcall_at { tmps := #[(vP t1 0), (vP t2 0), vZ, vZ, vZ, vZ, vZ, vZ, vZ, vZ, vZ, vZ, vZ, vZ, vZ, vZ, vZ, vZ, vZ, vZ, vZ, vZ, vZ, vZ, vZ, vZ, vZ, vZ, vZ, vZ, vZ, vZ, vZ, vZ, vZ, vZ, vZ, vZ, vZ, vZ, vZ, vZ, vZ, vZ, vZ, vZ, vZ, vZ, vZ, vZ, vZ, vZ, vZ, vZ, vZ, vZ, vZ, vZ, vZ, vZ, vZ, vZ, vZ, vZ, vZ, vZ, vZ, vZ, vZ, vZ, vZ, vZ, vZ, vZ, vZ, vZ, vZ, vZ, vZ, vZ, vZ], defers := [] } (by kernel_rfl) ?_
  refine wc_seq' (subc (bodyOf Tryd.prog 27) [0]) (subc (bodyOf Tryd.prog 27) [1]) (by kernel_rfl) ?_
  refine wc_ev [] .normal h [(4, (vB false))] ?_
  refine wc_seq' (subc (bodyOf Tryd.prog 27) [1, 0]) (subc (bodyOf Tryd.prog 27) [1, 1]) (by kernel_rfl) ?_
  obtain ⟨_, h2, s3, w4, c5, rfl, o6, x7, b8⟩ := keys_ok h (ht1.keep fun b r _ q => (Ext.refl h) b r q) ok 
  have l9 := ok.few
  have l9 := ok.few
  have l10 := keys_lens ms 
  have x11 := (Ext.refl h).trans x7
  have z12 : h.size ≤ h.size := (Ext.refl h).size
  have o13 : ∀ zz, blk (Value.slice w4 ((ksL ms).length) (c5)) zz → h.size ≤ zz := fun zz hz => by have := b8 zz hz; omega
  obtain ⟨_, h14, s15, w16, c17, rfl, o18, x19, b20⟩ := keys_ok h2 (ht2.keep fun b r _ q => x11 b r q) ok 
  have l21 := ok.few
  have l21 := ok.few
  have l22 := keys_lens ms 
  have p23 := o6.keep fun b r _ q => x19 b r q
  have x24 := x11.trans x19
  have z25 : h.size ≤ h2.size := x11.size
  have o26 : ∀ zz, blk (Value.slice w16 ((ksL ms).length) (c17)) zz → h.size ≤ zz := fun zz hz => by have := b20 zz hz; omega
  refine wc_ev [evF 1 1 s3, evF 1 3 s15] .normal h14 [(12, (vP t1 0)), (13, (vL w4 ((ksL ms).length) c5)), (14, (vP t2 0)), (15, (vL w16 ((ksL ms).length) c17)), (5, (vL w4 ((ksL ms).length) c5)), (6, (vL w16 ((ksL ms).length) c17))] ?_
  refine wc_seq' (subc (bodyOf Tryd.prog 27) [1, 1, 0]) (subc (bodyOf Tryd.prog 27) [1, 1, 1]) (by kernel_rfl) ?_
  have q27 := ok.few
  obtain ⟨_, _, sn28, rfl, rfl⟩ := len_ok h14 (ht1.keep fun b r _ q => x24 b r q) ok
  by_cases c29 : (((ms.length : Nat)) : Int) = (((ksL ms).length : Nat))
  · have q30 := ok.few
    obtain ⟨_, _, sn31, rfl, rfl⟩ := len_ok h14 (ht2.keep fun b r _ q => x24 b r q) ok
    refine wc_ev [neF 2 4 3 (Eq.refl ((((ksL ms).length : Nat)) : Int)), evF 2 7 sn28, neF 2 10 3 c29, evF 2 14 sn31, neF 2 17 3 c29] .normal h14 [(16, (vL w4 ((ksL ms).length) c5)), (17, (vI (((ksL ms).length : Nat)))), (18, (vL w16 ((ksL ms).length) c17)), (19, (vI (((ksL ms).length : Nat)))), (20, (vB false)), (21, (vB false)), (22, (vP t1 0)), (23, (vI ((ms.length : Nat)))), (24, (vL w4 ((ksL ms).length) c5)), (25, (vI (((ksL ms).length : Nat)))), (26, (vB false)), (27, (vB false)), (28, (vB false)), (29, (vP t2 0)), (30, (vI ((ms.length : Nat)))), (31, (vL w16 ((ksL ms).length) c17)), (32, (vI (((ksL ms).length : Nat)))), (33, (vB false)), (34, (vB false))] ?_
    refine wc_act { tmps := #[(vP t1 0), (vP t2 0), vZ, vZ, (vB false), (vL w4 ((ksL ms).length) c5), (vL w16 ((ksL ms).length) c17), vZ, vZ, vZ, vZ, vZ, (vP t1 0), (vL w4 ((ksL ms).length) c5), (vP t2 0), (vL w16 ((ksL ms).length) c17), (vL w4 ((ksL ms).length) c5), (vI (((ksL ms).length : Nat))), (vL w16 ((ksL ms).length) c17), (vI (((ksL ms).length : Nat))), (vB false), (vB false), (vP t1 0), (vI ((ms.length : Nat))), (vL w4 ((ksL ms).length) c5), (vI (((ksL ms).length : Nat))), (vB false), (vB false), (vB false), (vP t2 0), (vI ((ms.length : Nat))), (vL w16 ((ksL ms).length) c17), (vI (((ksL ms).length : Nat))), (vB false), (vB false), vZ, vZ, vZ, vZ, vZ, vZ, vZ, vZ, vZ, vZ, vZ, vZ, vZ, vZ, vZ, vZ, vZ, vZ, vZ, vZ, vZ, vZ, vZ, vZ, vZ, vZ, vZ, vZ, vZ, vZ, vZ, vZ, vZ, vZ, vZ, vZ, vZ, vZ, vZ, vZ, vZ, vZ, vZ, vZ, vZ, vZ], defers := [] } (by as_aux_lemma => kernel_rfl) ?_
    refine wc_seq' (subc (bodyOf Tryd.prog 27) [1, 1, 1, 0]) (subc (bodyOf Tryd.prog 27) [1, 1, 1, 1]) (by kernel_rfl) ?_
    refine wc_seq' (subc (bodyOf Tryd.prog 27) [1, 1, 1, 0, 0]) (subc (bodyOf Tryd.prog 27) [1, 1, 1, 0, 1]) (by kernel_rfl) ?_
    refine wc_ev [] .normal h14 [(7, (vI 0))] ?_
    refine wc_block' 0 (subc (bodyOf Tryd.prog 27) [1, 1, 1, 0, 1, 0]) (by kernel_rfl) ?_
    refine wc_loop' (subc (bodyOf Tryd.prog 27) [1, 1, 1, 0, 1, 0, 0]) (by kernel_rfl) (fun n' a' h' => ∃ (k : Int) (g0 : Nat → Value), a' = { tmps := #[(vP t1 0), (vP t2 0), vZ, vZ, (g0 4), (vL w4 ((ksL ms).length) c5), (vL w16 ((ksL ms).length) c17), (vI k), (g0 8), (g0 9), (g0 10), (g0 11), (vP t1 0), (vL w4 ((ksL ms).length) c5), (vP t2 0), (vL w16 ((ksL ms).length) c17), (vL w4 ((ksL ms).length) c5), (vI (((ksL ms).length : Nat))), (vL w16 ((ksL ms).length) c17), (vI (((ksL ms).length : Nat))), (vB false), (vB false), (vP t1 0), (vI ((ms.length : Nat))), (vL w4 ((ksL ms).length) c5), (vI (((ksL ms).length : Nat))), (vB false), (vB false), (vB false), (vP t2 0), (vI ((ms.length : Nat))), (vL w16 ((ksL ms).length) c17), (vI (((ksL ms).length : Nat))), (vB false), (vB false), (g0 35), (g0 36), (g0 37), (g0 38), (g0 39), (g0 40), (g0 41), (g0 42), (g0 43), (g0 44), (g0 45), (g0 46), (g0 47), (g0 48), (g0 49), (g0 50), (g0 51), (g0 52), (g0 53), (g0 54), (g0 55), (g0 56), (g0 57), (g0 58), (g0 59), (g0 60), (g0 61), (g0 62), (g0 63), (g0 64), (g0 65), (g0 66), (g0 67), (g0 68), (g0 69), (g0 70), (g0 71), (g0 72), (g0 73), (g0 74), (g0 75), (g0 76), (g0 77), (g0 78), (g0 79), (g0 80)], defers := [] } ∧ Ext h h' ∧ n' = (ksL ms).length + 0 - k.toNat ∧ (0 ≤ k ∧ k ≤ ((ksL ms).length : Nat) + 0) ∧ OwnAt h' 9 strc (ksL ms) (vL w4 ((ksL ms).length) c5) ∧ OwnAt h' 9 strc (ksL ms) (vL w16 ((ksL ms).length) c17)) ?_ ((ksL ms).length + 0 - (0 : Int).toNat) ⟨0, (fun i => ([vU, vU, vU, vU, (vB false), vU, vU, vU, vZ, vZ, vZ, vZ, vU, vU, vU, vU, vU, vU, vU, vU, vU, vU, vU, vU, vU, vU, vU, vU, vU, vU, vU, vU, vU, vU, vU, vZ, vZ, vZ, vZ, vZ, vZ, vZ, vZ, vZ, vZ, vZ, vZ, vZ, vZ, vZ, vZ, vZ, vZ, vZ, vZ, vZ, vZ, vZ, vZ, vZ, vZ, vZ, vZ, vZ, vZ, vZ, vZ, vZ, vZ, vZ, vZ, vZ, vZ, vZ, vZ, vZ, vZ, vZ, vZ, vZ, vZ] : List Value).getD i undef), by as_aux_lemma => kernel_rfl, x24, rfl, by omega, p23, o18⟩
    rintro n' _ h32 ⟨k, g0, rfl, x33, m34, i35, p36, p37⟩
    by_cases c38 : ((k) : Int) < (((ksL ms).length : Nat))
    · obtain ⟨i39, v40, e41, l42, g43⟩ := list_at (ksL ms) (e := (k)) (by omega) (by first | omega | (simp only [List.length_set, List.length_append, List.length_singleton]; omega))
      obtain ⟨b44, o45, q46, a47, k48, u49⟩ := p36.store strc_size g43
      have gv50 := key_get g43
      have q51 := get_facts ms v40
      obtain ⟨_, hh52, sn53, rfl, x54⟩ := get_ok h32 (ht1.keep fun b r _ q => x33 b r q) ok v40
      have p55 := p36.keep fun b r _ q => x54 b r q
      have p56 := p37.keep fun b r _ q => x54 b r q
      have x57 := x33.trans x54
      obtain ⟨b58, eb59⟩ : ∃ zq, zq = hh52.size := ⟨_, rfl⟩
      obtain ⟨h60, e61⟩ : ∃ zq, zq = hh52.push (.cells #[(vI 0), (vI 0), (vI 0), (vI 0), (vI 0)] 39 (0, 0)) := ⟨_, rfl⟩
      have f62 := push_new e61
      rw [← eb59] at f62
      have n63 : ∀ zz, (blk (Value.slice w4 ((ksL ms).length) (c5))) zz → ¬ zz = b58 := fun zz hz ez => by have := p55.blk_lt hz; omega
      have n64 : ∀ zz, (blk (Value.slice w16 ((ksL ms).length) (c17))) zz → ¬ zz = b58 := fun zz hz ez => by have := p56.blk_lt hz; omega
      have x65 : Ext hh52 h60 := by rw [e61]; exact Ext.push _ _
      have o66 : h.size ≤ b58 := by have := x57.size; omega
      have p67 := p55.keep fun b r _ q => x65 b r q
      have p68 := p56.keep fun b r _ q => x65 b r q
      have x69 := x57.trans x65
      obtain ⟨h70, e71⟩ : ∃ zq, zq = h60.setIfInBounds b58 (.cells #[(vI ((getC ms v40).v)), (vI ((getC ms v40).up)), (vI ((getC ms v40).dn)), (vI ((getC ms v40).lo)), (vI ((getC ms v40).hi))] 39 (0, 0)) := ⟨_, rfl⟩
      have f72 := set_same e71 f62
      have p73 := p67.keep fun b r hb q => (Chg.set e71).same b r q (n63 b hb)
      have p74 := p68.keep fun b r hb q => (Chg.set e71).same b r q (n64 b hb)
      have x75 := Ext.setNew x69 e71 o66
      obtain ⟨b76, o77, q78, a79, k80, u81⟩ := p74.store strc_size g43
      have gv50 := key_get g43
      have q82 := get_facts ms v40
      obtain ⟨_, hh83, sn84, rfl, x85⟩ := get_ok h70 (ht2.keep fun b r _ q => x75 b r q) ok v40
      have f86 := x85 _ _ f72
      have p87 := p73.keep fun b r _ q => x85 b r q
      have p88 := p74.keep fun b r _ q => x85 b r q
      have x89 := x75.trans x85
      obtain ⟨b90, eb91⟩ : ∃ zq, zq = hh83.size := ⟨_, rfl⟩
      obtain ⟨h92, e93⟩ : ∃ zq, zq = hh83.push (.cells #[(vI 0), (vI 0), (vI 0), (vI 0), (vI 0)] 39 (0, 0)) := ⟨_, rfl⟩
      have f94 := push_new e93
      rw [← eb91] at f94
      have n95 : b90 ≠ b58 := by have := row_lt f86; omega
      have n96 : ∀ zz, (blk (Value.slice w4 ((ksL ms).length) (c5))) zz → ¬ zz = b90 := fun zz hz ez => by have := p87.blk_lt hz; omega
      have n97 : ∀ zz, (blk (Value.slice w16 ((ksL ms).length) (c17))) zz → ¬ zz = b90 := fun zz hz ez => by have := p88.blk_lt hz; omega
      have x98 : Ext hh83 h92 := by rw [e93]; exact Ext.push _ _
      have o99 : h.size ≤ b90 := by have := x89.size; omega
      have f100 := x98 _ _ f86
      have p101 := p87.keep fun b r _ q => x98 b r q
      have p102 := p88.keep fun b r _ q => x98 b r q
      have x103 := x89.trans x98
      obtain ⟨h104, e105⟩ : ∃ zq, zq = h92.setIfInBounds b90 (.cells #[(vI ((getC ms v40).v)), (vI ((getC ms v40).up)), (vI ((getC ms v40).dn)), (vI ((getC ms v40).lo)), (vI ((getC ms v40).hi))] 39 (0, 0)) := ⟨_, rfl⟩
      have f106 := set_same e105 f94
      have f107 := set_other e105 f100 n95
      have p108 := p101.keep fun b r hb q => (Chg.set e105).same b r q (n96 b hb)
      have p109 := p102.keep fun b r hb q => (Chg.set e105).same b r q (n97 b hb)
      have x110 := Ext.setNew x103 e105 o99
      obtain ⟨b111, o112, q113, a114, k115, u116⟩ := p108.store strc_size g43
      have gv50 := key_get g43
      obtain ⟨b117, o118, q119, a120, k121, u122⟩ := p109.store strc_size g43
      have gv50 := key_get g43
      by_cases c123 : ((getE ms v40) : Int) = 0
      · refine wc_ev [ltT 5 3 3 c38, evV 7 3 (vP b44 o45) (show indexAddrA Tryd.prog 29 (vL w4 ((ksL ms).length) c5) (vI k) = some (vP b44 o45) from a47 und29 size9 e41), evV 7 4 (vS v40) (show loadT Tryd.prog h32 9 (vP b44 o45) = some (vS v40) from k48.cell (j := 0) agg9 rfl), evF 7 5 sn53, evA 7 9 eb59 e61, evUw 7 10 size39 f62 e71, evV 8 3 (vP b76 o77) (show indexAddrA Tryd.prog 29 (vL w16 ((ksL ms).length) c17) (vI k) = some (vP b76 o77) from a79 und29 size9 e41), evV 8 4 (vS v40) (show loadT Tryd.prog h70 9 (vP b76 o77) = some (vS v40) from k80.cell (j := 0) agg9 rfl), evF 8 5 sn84, evA 8 9 eb91 e93, evUw 8 10 size39 f94 e105, evV 9 2 (vP b111 o112) (show indexAddrA Tryd.prog 29 (vL w4 ((ksL ms).length) c5) (vI k) = some (vP b111 o112) from a114 und29 size9 e41), evV 9 3 (vS v40) (show loadT Tryd.prog h104 9 (vP b111 o112) = some (vS v40) from k115.cell (j := 0) agg9 rfl), evV 9 6 (vP b117 o118) (show indexAddrA Tryd.prog 29 (vL w16 ((ksL ms).length) c17) (vI k) = some (vP b117 o118) from a120 und29 size9 e41), evV 9 7 (vS v40) (show loadT Tryd.prog h104 9 (vP b117 o118) = some (vS v40) from k121.cell (j := 0) agg9 rfl), snF 9 8 9 (Eq.refl (v40 : ByteArray)), neF 9 11 31 c123, neF 9 15 31 c123, evLw 9 18 agg39 size39 f107, evLw 9 19 agg39 size39 f106, evV 9 20 (vB false) (show binA Tryd.prog .neq 39 (vA #[(vI ((getC ms v40).v)), (vI ((getC ms v40).up)), (vI ((getC ms v40).dn)), (vI ((getC ms v40).lo)), (vI ((getC ms v40).hi))]) (vA #[(vI ((getC ms v40).v)), (vI ((getC ms v40).up)), (vI ((getC ms v40).dn)), (vI ((getC ms v40).lo)), (vI ((getC ms v40).hi))]) = some (vB false) from cmp39_neq (decide_eq_false (not_not_intro ⟨rfl, rfl, rfl, rfl, rfl⟩))), evV 6 1 (vI ((k) + 1)) (show binA Tryd.prog .add 3 (vI k) (vI 1) = some (vI ((k) + 1)) from add_i64 (by omega) (by omega))] .normal h104 [(35, (vI k)), (36, (vL w4 ((ksL ms).length) c5)), (37, (vI (((ksL ms).length : Nat)))), (38, (vB true)), (42, (vP t1 0)), (43, (vL w4 ((ksL ms).length) c5)), (44, (vI k)), (45, (vP b44 o45)), (46, (vS v40)), (47, (vT #[(vA #[(vI ((getC ms v40).v)), (vI ((getC ms v40).up)), (vI ((getC ms v40).dn)), (vI ((getC ms v40).lo)), (vI ((getC ms v40).hi))]), (vI (getE ms v40))])), (41, (vT #[(vA #[(vI ((getC ms v40).v)), (vI ((getC ms v40).up)), (vI ((getC ms v40).dn)), (vI ((getC ms v40).lo)), (vI ((getC ms v40).hi))]), (vI (getE ms v40))])), (48, (vA #[(vI ((getC ms v40).v)), (vI ((getC ms v40).up)), (vI ((getC ms v40).dn)), (vI ((getC ms v40).lo)), (vI ((getC ms v40).hi))])), (49, (vI (getE ms v40))), (8, (vP b58 0)), (9, (vI (getE ms v40))), (51, (vP t2 0)), (52, (vL w16 ((ksL ms).length) c17)), (53, (vI k)), (54, (vP b76 o77)), (55, (vS v40)), (56, (vT #[(vA #[(vI ((getC ms v40).v)), (vI ((getC ms v40).up)), (vI ((getC ms v40).dn)), (vI ((getC ms v40).lo)), (vI ((getC ms v40).hi))]), (vI (getE ms v40))])), (50, (vT #[(vA #[(vI ((getC ms v40).v)), (vI ((getC ms v40).up)), (vI ((getC ms v40).dn)), (vI ((getC ms v40).lo)), (vI ((getC ms v40).hi))]), (vI (getE ms v40))])), (57, (vA #[(vI ((getC ms v40).v)), (vI ((getC ms v40).up)), (vI ((getC ms v40).dn)), (vI ((getC ms v40).lo)), (vI ((getC ms v40).hi))])), (58, (vI (getE ms v40))), (10, (vP b90 0)), (11, (vI (getE ms v40))), (59, (vL w4 ((ksL ms).length) c5)), (60, (vI k)), (61, (vP b111 o112)), (62, (vS v40)), (63, (vL w16 ((ksL ms).length) c17)), (64, (vI k)), (65, (vP b117 o118)), (66, (vS v40)), (67, (vB false)), (68, (vB false)), (69, (vI (getE ms v40))), (70, (vB false)), (71, (vB false)), (72, (vB false)), (73, (vI (getE ms v40))), (74, (vB false)), (75, (vB false)), (76, (vB false)), (77, (vA #[(vI ((getC ms v40).v)), (vI ((getC ms v40).up)), (vI ((getC ms v40).dn)), (vI ((getC ms v40).lo)), (vI ((getC ms v40).hi))])), (78, (vA #[(vI ((getC ms v40).v)), (vI ((getC ms v40).up)), (vI ((getC ms v40).dn)), (vI ((getC ms v40).lo)), (vI ((getC ms v40).hi))])), (79, (vB false)), (80, (vB false)), (39, (vI k)), (40, (vI ((k) + 1))), (7, (vI ((k) + 1)))] ?_
        exact ⟨(ksL ms).length + 0 - (k + 1).toNat, by omega, ⟨k + 1, (fun i => ([vU, vU, vU, vU, (g0 4), vU, vU, vU, (vP b58 0), (vI (getE ms v40)), (vP b90 0), (vI (getE ms v40)), vU, vU, vU, vU, vU, vU, vU, vU, vU, vU, vU, vU, vU, vU, vU, vU, vU, vU, vU, vU, vU, vU, vU, (vI k), (vL w4 ((ksL ms).length) c5), (vI (((ksL ms).length : Nat))), (vB true), (vI k), (vI ((k) + 1)), (vT #[(vA #[(vI ((getC ms v40).v)), (vI ((getC ms v40).up)), (vI ((getC ms v40).dn)), (vI ((getC ms v40).lo)), (vI ((getC ms v40).hi))]), (vI (getE ms v40))]), (vP t1 0), (vL w4 ((ksL ms).length) c5), (vI k), (vP b44 o45), (vS v40), (vT #[(vA #[(vI ((getC ms v40).v)), (vI ((getC ms v40).up)), (vI ((getC ms v40).dn)), (vI ((getC ms v40).lo)), (vI ((getC ms v40).hi))]), (vI (getE ms v40))]), (vA #[(vI ((getC ms v40).v)), (vI ((getC ms v40).up)), (vI ((getC ms v40).dn)), (vI ((getC ms v40).lo)), (vI ((getC ms v40).hi))]), (vI (getE ms v40)), (vT #[(vA #[(vI ((getC ms v40).v)), (vI ((getC ms v40).up)), (vI ((getC ms v40).dn)), (vI ((getC ms v40).lo)), (vI ((getC ms v40).hi))]), (vI (getE ms v40))]), (vP t2 0), (vL w16 ((ksL ms).length) c17), (vI k), (vP b76 o77), (vS v40), (vT #[(vA #[(vI ((getC ms v40).v)), (vI ((getC ms v40).up)), (vI ((getC ms v40).dn)), (vI ((getC ms v40).lo)), (vI ((getC ms v40).hi))]), (vI (getE ms v40))]), (vA #[(vI ((getC ms v40).v)), (vI ((getC ms v40).up)), (vI ((getC ms v40).dn)), (vI ((getC ms v40).lo)), (vI ((getC ms v40).hi))]), (vI (getE ms v40)), (vL w4 ((ksL ms).length) c5), (vI k), (vP b111 o112), (vS v40), (vL w16 ((ksL ms).length) c17), (vI k), (vP b117 o118), (vS v40), (vB false), (vB false), (vI (getE ms v40)), (vB false), (vB false), (vB false), (vI (getE ms v40)), (vB false), (vB false), (vB false), (vA #[(vI ((getC ms v40).v)), (vI ((getC ms v40).up)), (vI ((getC ms v40).dn)), (vI ((getC ms v40).lo)), (vI ((getC ms v40).hi))]), (vA #[(vI ((getC ms v40).v)), (vI ((getC ms v40).up)), (vI ((getC ms v40).dn)), (vI ((getC ms v40).lo)), (vI ((getC ms v40).hi))]), (vB false), (vB false)] : List Value).getD i undef), by as_aux_lemma => kernel_rfl, x110, rfl, by omega, p108, p109⟩⟩
      · refine wc_ev [ltT 5 3 3 c38, evV 7 3 (vP b44 o45) (show indexAddrA Tryd.prog 29 (vL w4 ((ksL ms).length) c5) (vI k) = some (vP b44 o45) from a47 und29 size9 e41), evV 7 4 (vS v40) (show loadT Tryd.prog h32 9 (vP b44 o45) = some (vS v40) from k48.cell (j := 0) agg9 rfl), evF 7 5 sn53, evA 7 9 eb59 e61, evUw 7 10 size39 f62 e71, evV 8 3 (vP b76 o77) (show indexAddrA Tryd.prog 29 (vL w16 ((ksL ms).length) c17) (vI k) = some (vP b76 o77) from a79 und29 size9 e41), evV 8 4 (vS v40) (show loadT Tryd.prog h70 9 (vP b76 o77) = some (vS v40) from k80.cell (j := 0) agg9 rfl), evF 8 5 sn84, evA 8 9 eb91 e93, evUw 8 10 size39 f94 e105, evV 9 2 (vP b111 o112) (show indexAddrA Tryd.prog 29 (vL w4 ((ksL ms).length) c5) (vI k) = some (vP b111 o112) from a114 und29 size9 e41), evV 9 3 (vS v40) (show loadT Tryd.prog h104 9 (vP b111 o112) = some (vS v40) from k115.cell (j := 0) agg9 rfl), evV 9 6 (vP b117 o118) (show indexAddrA Tryd.prog 29 (vL w16 ((ksL ms).length) c17) (vI k) = some (vP b117 o118) from a120 und29 size9 e41), evV 9 7 (vS v40) (show loadT Tryd.prog h104 9 (vP b117 o118) = some (vS v40) from k121.cell (j := 0) agg9 rfl), snF 9 8 9 (Eq.refl (v40 : ByteArray)), neT 9 11 31 c123] .ret h104 [(35, (vI k)), (36, (vL w4 ((ksL ms).length) c5)), (37, (vI (((ksL ms).length : Nat)))), (38, (vB true)), (42, (vP t1 0)), (43, (vL w4 ((ksL ms).length) c5)), (44, (vI k)), (45, (vP b44 o45)), (46, (vS v40)), (47, (vT #[(vA #[(vI ((getC ms v40).v)), (vI ((getC ms v40).up)), (vI ((getC ms v40).dn)), (vI ((getC ms v40).lo)), (vI ((getC ms v40).hi))]), (vI (getE ms v40))])), (41, (vT #[(vA #[(vI ((getC ms v40).v)), (vI ((getC ms v40).up)), (vI ((getC ms v40).dn)), (vI ((getC ms v40).lo)), (vI ((getC ms v40).hi))]), (vI (getE ms v40))])), (48, (vA #[(vI ((getC ms v40).v)), (vI ((getC ms v40).up)), (vI ((getC ms v40).dn)), (vI ((getC ms v40).lo)), (vI ((getC ms v40).hi))])), (49, (vI (getE ms v40))), (8, (vP b58 0)), (9, (vI (getE ms v40))), (51, (vP t2 0)), (52, (vL w16 ((ksL ms).length) c17)), (53, (vI k)), (54, (vP b76 o77)), (55, (vS v40)), (56, (vT #[(vA #[(vI ((getC ms v40).v)), (vI ((getC ms v40).up)), (vI ((getC ms v40).dn)), (vI ((getC ms v40).lo)), (vI ((getC ms v40).hi))]), (vI (getE ms v40))])), (50, (vT #[(vA #[(vI ((getC ms v40).v)), (vI ((getC ms v40).up)), (vI ((getC ms v40).dn)), (vI ((getC ms v40).lo)), (vI ((getC ms v40).hi))]), (vI (getE ms v40))])), (57, (vA #[(vI ((getC ms v40).v)), (vI ((getC ms v40).up)), (vI ((getC ms v40).dn)), (vI ((getC ms v40).lo)), (vI ((getC ms v40).hi))])), (58, (vI (getE ms v40))), (10, (vP b90 0)), (11, (vI (getE ms v40))), (59, (vL w4 ((ksL ms).length) c5)), (60, (vI k)), (61, (vP b111 o112)), (62, (vS v40)), (63, (vL w16 ((ksL ms).length) c17)), (64, (vI k)), (65, (vP b117 o118)), (66, (vS v40)), (67, (vB false)), (68, (vB false)), (69, (vI (getE ms v40))), (70, (vB true)), (71, (vB true)), (72, (vB true)), (73, vZ), (74, vZ), (75, (vB true)), (76, (vB true)), (77, vZ), (78, vZ), (79, vZ), (80, (vB true)), (4, (vB false))] ?_
        exfalso
        omega
    · refine wc_ev [ltF 5 3 3 c38] (.exit 0) h32 [(35, (vI k)), (36, (vL w4 ((ksL ms).length) c5)), (37, (vI (((ksL ms).length : Nat)))), (38, (vB false))] ?_
      refine wc_ev [] .ret h32 [(4, (vB true))] ?_
      exact end_ev [] (vB true) (hK _ _ (⟨rfl, x33⟩))
  · refine wc_ev [neF 2 4 3 (Eq.refl ((((ksL ms).length : Nat)) : Int)), evF 2 7 sn28, neT 2 10 3 c29] .ret h14 [(16, (vL w4 ((ksL ms).length) c5)), (17, (vI (((ksL ms).length : Nat)))), (18, (vL w16 ((ksL ms).length) c17)), (19, (vI (((ksL ms).length : Nat)))), (20, (vB false)), (21, (vB false)), (22, (vP t1 0)), (23, (vI ((ms.length : Nat)))), (24, (vL w4 ((ksL ms).length) c5)), (25, (vI (((ksL ms).length : Nat)))), (26, (vB true)), (27, (vB true)), (28, (vB true)), (29, vZ), (30, vZ), (31, vZ), (32, vZ), (33, vZ), (34, (vB true)), (4, (vB false))] ?_
    exfalso
    omega
end C08
