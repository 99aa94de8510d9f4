/- Scripts: which are looked at; the store behind one; stores are compared. -/
import Derived.Test.YtciigibbgklcjaaGreatDoorMf
import Derived.KernelRfl
open Go Go.AM Go.Proofs
namespace C08
theorem size34 : (Tryz.prog.info? 34).map (·.size) = some 11 := by kernel_rfl
theorem und22 : Tryz.prog.underlying 22 = some (.slice 34) := by kernel_rfl
/-- A step of a script. -/
structure StepA where
  k : Int
  key : ByteArray
  c : CntM
  ph : Int
  d : Int
  r0 : ByteArray
  r1 : ByteArray
def scell (x : StepA) : Array Value := #[.int .i64 x.k, .string x.key, .int .i64 x.c.v, .int .i64 x.c.up, .int .i64 x.c.dn, .int .i64 x.c.lo, .int .i64 x.c.hi, .int .i64 x.ph, .int .i64 x.d, .string x.r0, .string x.r1]
theorem scell_size (x : StepA) : (scell x).size = 11 := rfl
def stepM (m : Sto) (x : StepA) : Sto := if x.k = 0 then putM m x.key x.c else if x.k = 1 then apSM m x.key x.ph x.d else if x.k = 2 then remM m x.key else m
def fillM (xs : List StepA) : Sto := xs.foldl stepM []
theorem fill_next {xs : List StepA} {k : Nat} {x : StepA} (h : xs[k]? = some x) : fillM (xs.take (k + 1)) = stepM (fillM (xs.take k)) x := by
  unfold fillM; rw [take_next h, List.foldl_append]; rfl
theorem stepM_wf {m : Sto} (w : WfM m) (x : StepA) : WfM (stepM m x) := by
  unfold stepM
  repeat' split
  · exact w.put _ _
  · exact w.app _ _ _
  · exact w.rem _
  · exact w
theorem foldM_wf : ∀ (xs : List StepA) {m : Sto}, WfM m → WfM (xs.foldl stepM m)
  | [], _, w => w
  | x :: xs, _, w => foldM_wf xs (stepM_wf w x)
theorem fillM_wf (xs : List StepA) : WfM (fillM xs) := foldM_wf xs WfM.nil
set_option maxHeartbeats 4000000 in
theorem short_ok (h : Heap) (xs : List StepA) (sa : Option Addr) (cp : Nat) (hl : SliceAt h scell 11 xs (.slice sa xs.length cp)) (hlen : xs.length ≤ 9223372036854775807) : WCall Tryz.prog 4 #[(Value.slice sa (xs.length) (cp))] h (fun v h1 => ∃ b, v = .bool b ∧ (b = true → xs.length ≤ 120 ∧ ∀ x ∈ xs, x.key.size ≤ 40 ∧ x.r0.size ≤ 40 ∧ x.r1.size ≤ 40) ∧ Ext h h1) := by
  suffices H : ∀ K : Value → Heap → Prop, (∀ v h1, (fun v h1 => ∃ b, v = .bool b ∧ (b = true → xs.length ≤ 120 ∧ ∀ x ∈ xs, x.key.size ≤ 40 ∧ x.r0.size ≤ 40 ∧ x.r1.size ≤ 40) ∧ Ext h h1) v h1 → K v h1) → WCall Tryz.prog 4 #[(Value.slice sa (xs.length) (cp))] h K from H _ fun _ _ q => q
  intro K hK
  refine wcall_at { tmps := #[(vL sa xs.length cp), vZ, vZ, vZ, vZ, vZ, vZ, vZ, vZ, vZ, vZ, vZ, vZ, vZ, vZ, vZ, vZ, vZ, vZ, vZ, vZ, vZ, vZ, vZ, vZ, vZ, vZ, vZ, vZ, vZ, vZ, vZ, vZ, vZ, vZ, vZ, vZ, vZ, vZ, vZ], defers := [] } (by kernel_rfl) ?_
  refine wc_seq' (subc (bodyOf Tryz.prog 4) [0]) (subc (bodyOf Tryz.prog 4) [1]) (by kernel_rfl) ?_
  refine wc_ev [] .normal h [(2, (vB false))] ?_
  refine wc_seq' (subc (bodyOf Tryz.prog 4) [1, 0]) (subc (bodyOf Tryz.prog 4) [1, 1]) (by kernel_rfl) ?_
  by_cases c1 : (120 : Int) < ((xs.length : Nat))
  · refine wc_ev [gtT 1 2 3 c1] .ret h [(4, (vL sa xs.length cp)), (5, (vI ((xs.length : Nat)))), (6, (vB true)), (2, (vB false))] ?_
    exact end_ev [] (vB false) (hK _ _ (⟨false, rfl, fun q => (by cases q), (Ext.refl h)⟩))
  · refine wc_ev [gtF 1 2 3 c1] .normal h [(4, (vL sa xs.length cp)), (5, (vI ((xs.length : Nat)))), (6, (vB false))] ?_
    refine wc_seq' (subc (bodyOf Tryz.prog 4) [1, 1, 0]) (subc (bodyOf Tryz.prog 4) [1, 1, 1]) (by kernel_rfl) ?_
    refine wc_seq' (subc (bodyOf Tryz.prog 4) [1, 1, 0, 0]) (subc (bodyOf Tryz.prog 4) [1, 1, 0, 1]) (by kernel_rfl) ?_
    refine wc_ev [] .normal h [(3, (vI 0))] ?_
    refine wc_block' 0 (subc (bodyOf Tryz.prog 4) [1, 1, 0, 1, 0]) (by kernel_rfl) ?_
    refine wc_loop' (subc (bodyOf Tryz.prog 4) [1, 1, 0, 1, 0, 0]) (by kernel_rfl) (fun n' a' h' => ∃ (k : Int) (g0 : Nat → Value), a' = { tmps := #[(vL sa xs.length cp), vZ, (g0 2), (vI k), (vL sa xs.length cp), (vI ((xs.length : Nat))), (vB false), (g0 7), (g0 8), (g0 9), (g0 10), (g0 11), (g0 12), (g0 13), (g0 14), (g0 15), (g0 16), (g0 17), (g0 18), (g0 19), (g0 20), (g0 21), (g0 22), (g0 23), (g0 24), (g0 25), (g0 26), (g0 27), (g0 28), (g0 29), (g0 30), (g0 31), (g0 32), (g0 33), (g0 34), (g0 35), (g0 36), (g0 37), (g0 38), (g0 39)], defers := [] } ∧ Ext h h' ∧ n' = xs.length - k.toNat ∧ (0 ≤ k ∧ k ≤ (xs.length : Nat)) ∧ (∀ (j : Nat) (x : StepA), (j : Int) < k → xs[j]? = some x → x.key.size ≤ 40 ∧ x.r0.size ≤ 40 ∧ x.r1.size ≤ 40)) ?_ (xs.length - (0 : Int).toNat) ⟨0, (fun i => ([vU, vU, (vB false), vU, vU, vU, vU, vZ, vZ, vZ, vZ, vZ, vZ, vZ, vZ, vZ, vZ, vZ, vZ, vZ, vZ, vZ, vZ, vZ, vZ, vZ, vZ, vZ, vZ, vZ, vZ, vZ, vZ, vZ, vZ, vZ, vZ, vZ, vZ, vZ] : List Value).getD i undef), by as_aux_lemma => kernel_rfl, (Ext.refl h), rfl, by omega, fun j x hj => absurd hj (by omega)⟩
    rintro n' _ h2 ⟨k, g0, rfl, x3, m4, i5, i6⟩
    by_cases c7 : ((k) : Int) < ((xs.length : Nat))
    · obtain ⟨i9, v10, e11, l12, g13⟩ := list_at xs (e := (k)) (by omega) (by first | omega | (simp only [List.length_set, List.length_append, List.length_singleton]; omega))
      obtain ⟨b14, o15, k16, q17, a18⟩ := hl.at scell_size g13
      by_cases c19 : (40 : Int) < ((v10.key.size : Nat))
      · refine wc_ev [ltT 4 3 3 c7, evV 6 2 (vP b14 o15) (show indexAddrA Tryz.prog 22 (vL sa xs.length cp) (vI k) = some (vP b14 o15) from a18 und22 size34 e11), evV 6 4 (vS v10.key) (show loadT Tryz.prog h2 9 (vP b14 (o15 + 1)) = some (vS v10.key) from (k16.keep fun b r _ q => x3 b r q).cell (j := 1) agg9 rfl), gtT 6 6 3 c19] .ret h2 [(7, (vI k)), (8, (vL sa xs.length cp)), (9, (vI ((xs.length : Nat)))), (10, (vB true)), (13, (vL sa xs.length cp)), (14, (vI k)), (15, (vP b14 o15)), (16, (vP b14 (o15 + 1))), (17, (vS v10.key)), (18, (vI ((v10.key.size : Nat)))), (19, (vB true)), (20, (vB true)), (21, vZ), (22, vZ), (23, vZ), (24, vZ), (25, vZ), (26, vZ), (27, vZ), (28, vZ), (29, (vB true)), (30, (vB true)), (31, vZ), (32, vZ), (33, vZ), (34, vZ), (35, vZ), (36, vZ), (37, vZ), (38, vZ), (39, (vB true)), (2, (vB false))] ?_
        exact end_ev [] (vB false) (hK _ _ (⟨false, rfl, fun q => (by cases q), x3⟩))
      · obtain ⟨b20, o21, k22, q23, a24⟩ := hl.at scell_size g13
        by_cases c25 : (40 : Int) < ((v10.r0.size : Nat))
        · refine wc_ev [ltT 4 3 3 c7, evV 6 2 (vP b14 o15) (show indexAddrA Tryz.prog 22 (vL sa xs.length cp) (vI k) = some (vP b14 o15) from a18 und22 size34 e11), evV 6 4 (vS v10.key) (show loadT Tryz.prog h2 9 (vP b14 (o15 + 1)) = some (vS v10.key) from (k16.keep fun b r _ q => x3 b r q).cell (j := 1) agg9 rfl), gtF 6 6 3 c19, evV 6 10 (vP b20 o21) (show indexAddrA Tryz.prog 22 (vL sa xs.length cp) (vI k) = some (vP b20 o21) from a24 und22 size34 e11), evV 6 13 (vS v10.r0) (show loadT Tryz.prog h2 9 (vP b20 (o21 + 9)) = some (vS v10.r0) from (k22.keep fun b r _ q => x3 b r q).cell (j := 9) agg9 rfl), gtT 6 15 3 c25] .ret h2 [(7, (vI k)), (8, (vL sa xs.length cp)), (9, (vI ((xs.length : Nat)))), (10, (vB true)), (13, (vL sa xs.length cp)), (14, (vI k)), (15, (vP b14 o15)), (16, (vP b14 (o15 + 1))), (17, (vS v10.key)), (18, (vI ((v10.key.size : Nat)))), (19, (vB false)), (20, (vB false)), (21, (vL sa xs.length cp)), (22, (vI k)), (23, (vP b20 o21)), (24, (vP b20 (o21 + 9))), (25, (vP b20 (o21 + 9))), (26, (vS v10.r0)), (27, (vI ((v10.r0.size : Nat)))), (28, (vB true)), (29, (vB true)), (30, (vB true)), (31, vZ), (32, vZ), (33, vZ), (34, vZ), (35, vZ), (36, vZ), (37, vZ), (38, vZ), (39, (vB true)), (2, (vB false))] ?_
          exact end_ev [] (vB false) (hK _ _ (⟨false, rfl, fun q => (by cases q), x3⟩))
        · obtain ⟨b26, o27, k28, q29, a30⟩ := hl.at scell_size g13
          by_cases c31 : (40 : Int) < ((v10.r1.size : Nat))
          · refine wc_ev [ltT 4 3 3 c7, evV 6 2 (vP b14 o15) (show indexAddrA Tryz.prog 22 (vL sa xs.length cp) (vI k) = some (vP b14 o15) from a18 und22 size34 e11), evV 6 4 (vS v10.key) (show loadT Tryz.prog h2 9 (vP b14 (o15 + 1)) = some (vS v10.key) from (k16.keep fun b r _ q => x3 b r q).cell (j := 1) agg9 rfl), gtF 6 6 3 c19, evV 6 10 (vP b20 o21) (show indexAddrA Tryz.prog 22 (vL sa xs.length cp) (vI k) = some (vP b20 o21) from a24 und22 size34 e11), evV 6 13 (vS v10.r0) (show loadT Tryz.prog h2 9 (vP b20 (o21 + 9)) = some (vS v10.r0) from (k22.keep fun b r _ q => x3 b r q).cell (j := 9) agg9 rfl), gtF 6 15 3 c25, evV 6 20 (vP b26 o27) (show indexAddrA Tryz.prog 22 (vL sa xs.length cp) (vI k) = some (vP b26 o27) from a30 und22 size34 e11), evV 6 23 (vS v10.r1) (show loadT Tryz.prog h2 9 (vP b26 (o27 + 10)) = some (vS v10.r1) from (k28.keep fun b r _ q => x3 b r q).cell (j := 10) agg9 rfl), gtT 6 25 3 c31] .ret h2 [(7, (vI k)), (8, (vL sa xs.length cp)), (9, (vI ((xs.length : Nat)))), (10, (vB true)), (13, (vL sa xs.length cp)), (14, (vI k)), (15, (vP b14 o15)), (16, (vP b14 (o15 + 1))), (17, (vS v10.key)), (18, (vI ((v10.key.size : Nat)))), (19, (vB false)), (20, (vB false)), (21, (vL sa xs.length cp)), (22, (vI k)), (23, (vP b20 o21)), (24, (vP b20 (o21 + 9))), (25, (vP b20 (o21 + 9))), (26, (vS v10.r0)), (27, (vI ((v10.r0.size : Nat)))), (28, (vB false)), (29, (vB false)), (30, (vB false)), (31, (vL sa xs.length cp)), (32, (vI k)), (33, (vP b26 o27)), (34, (vP b26 (o27 + 9))), (35, (vP b26 (o27 + 10))), (36, (vS v10.r1)), (37, (vI ((v10.r1.size : Nat)))), (38, (vB true)), (39, (vB true)), (2, (vB false))] ?_
            exact end_ev [] (vB false) (hK _ _ (⟨false, rfl, fun q => (by cases q), x3⟩))
          · refine wc_ev [ltT 4 3 3 c7, evV 6 2 (vP b14 o15) (show indexAddrA Tryz.prog 22 (vL sa xs.length cp) (vI k) = some (vP b14 o15) from a18 und22 size34 e11), evV 6 4 (vS v10.key) (show loadT Tryz.prog h2 9 (vP b14 (o15 + 1)) = some (vS v10.key) from (k16.keep fun b r _ q => x3 b r q).cell (j := 1) agg9 rfl), gtF 6 6 3 c19, evV 6 10 (vP b20 o21) (show indexAddrA Tryz.prog 22 (vL sa xs.length cp) (vI k) = some (vP b20 o21) from a24 und22 size34 e11), evV 6 13 (vS v10.r0) (show loadT Tryz.prog h2 9 (vP b20 (o21 + 9)) = some (vS v10.r0) from (k22.keep fun b r _ q => x3 b r q).cell (j := 9) agg9 rfl), gtF 6 15 3 c25, evV 6 20 (vP b26 o27) (show indexAddrA Tryz.prog 22 (vL sa xs.length cp) (vI k) = some (vP b26 o27) from a30 und22 size34 e11), evV 6 23 (vS v10.r1) (show loadT Tryz.prog h2 9 (vP b26 (o27 + 10)) = some (vS v10.r1) from (k28.keep fun b r _ q => x3 b r q).cell (j := 10) agg9 rfl), gtF 6 25 3 c31, evV 5 1 (vI ((k) + 1)) (show binA Tryz.prog .add 3 (vI k) (vI 1) = some (vI ((k) + 1)) from add_i64 (by omega) (by omega))] .normal h2 [(7, (vI k)), (8, (vL sa xs.length cp)), (9, (vI ((xs.length : Nat)))), (10, (vB true)), (13, (vL sa xs.length cp)), (14, (vI k)), (15, (vP b14 o15)), (16, (vP b14 (o15 + 1))), (17, (vS v10.key)), (18, (vI ((v10.key.size : Nat)))), (19, (vB false)), (20, (vB false)), (21, (vL sa xs.length cp)), (22, (vI k)), (23, (vP b20 o21)), (24, (vP b20 (o21 + 9))), (25, (vP b20 (o21 + 9))), (26, (vS v10.r0)), (27, (vI ((v10.r0.size : Nat)))), (28, (vB false)), (29, (vB false)), (30, (vB false)), (31, (vL sa xs.length cp)), (32, (vI k)), (33, (vP b26 o27)), (34, (vP b26 (o27 + 9))), (35, (vP b26 (o27 + 10))), (36, (vS v10.r1)), (37, (vI ((v10.r1.size : Nat)))), (38, (vB false)), (39, (vB false)), (11, (vI k)), (12, (vI ((k) + 1))), (3, (vI ((k) + 1)))] ?_
            exact ⟨xs.length - (k + 1).toNat, by omega, ⟨k + 1, (fun i => ([vU, vU, (g0 2), vU, vU, vU, vU, (vI k), (vL sa xs.length cp), (vI ((xs.length : Nat))), (vB true), (vI k), (vI ((k) + 1)), (vL sa xs.length cp), (vI k), (vP b14 o15), (vP b14 (o15 + 1)), (vS v10.key), (vI ((v10.key.size : Nat))), (vB false), (vB false), (vL sa xs.length cp), (vI k), (vP b20 o21), (vP b20 (o21 + 9)), (vP b20 (o21 + 9)), (vS v10.r0), (vI ((v10.r0.size : Nat))), (vB false), (vB false), (vB false), (vL sa xs.length cp), (vI k), (vP b26 o27), (vP b26 (o27 + 9)), (vP b26 (o27 + 10)), (vS v10.r1), (vI ((v10.r1.size : Nat))), (vB false), (vB false)] : List Value).getD i undef), by as_aux_lemma => kernel_rfl, x3, rfl, by omega, fun j x hj w => by
          rcases Int.lt_or_eq_of_le (Int.lt_add_one_iff.1 hj) with g | g
          · exact i6 j x g w
          · have e : j = i9 := by omega
            subst e; rw [w] at g13; cases g13; exact ⟨by omega, by omega, by omega⟩⟩⟩
    · refine wc_ev [ltF 4 3 3 c7] (.exit 0) h2 [(7, (vI k)), (8, (vL sa xs.length cp)), (9, (vI ((xs.length : Nat)))), (10, (vB false))] ?_
      refine wc_ev [] .ret h2 [(2, (vB true))] ?_
      exact end_ev [] (vB true) (hK _ _ (⟨true, rfl, fun _ => ⟨by omega, fun x hx => by obtain ⟨j, hj, e⟩ := List.getElem_of_mem hx; exact i6 j x (by omega) (List.getElem?_eq_some_iff.2 ⟨hj, e⟩)⟩, x3⟩))
theorem sl_step {h : Heap} {b : Nat} {x : StepA} {c : Array Value} {e : TypeId} (k : h[b]? = some (.cells c e (0, 0))) (e1 : c = scell x) : SliceAt h scell 11 [x] (.slice (some ⟨b, 0, none⟩) 1 1) := by
  subst e1
  exact .inr ⟨b, 0, 1, _, e, (0, 0), rfl, k, by decide, Nat.le_refl _, Nat.le_refl _, rfl⟩
end C08
