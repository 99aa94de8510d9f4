/- The reference: nodes that two sets share. -/
import Derived.Test.YtbjehneffpbkeaaDoorKh
import Derived.KernelRfl
open Go Go.AM Go.Proofs
namespace C11
theorem head_fin : ∀ s : Fin 128, (decide (s.val = 0) && decide ((nodesI (s.val : Int)).length = 0)) = true ∨ (decide (s.val ≠ 0) && decide ((nodesI (s.val : Int))[0]? = some (tz (s.val : Int)))) = true := by decide +kernel
theorem uand_small {a b : Int} (ha : 0 ≤ a ∧ a < 128) (hb : 0 ≤ b ∧ b < 128) : 0 ≤ uand a b ∧ uand a b < 128 := by
  rw [show a = ((a.toNat : Nat) : Int) by omega, show b = ((b.toNat : Nat) : Int) by omega, uand_nat (by omega) (by omega)]
  have := Nat.and_le_left (n := a.toNat) (m := b.toNat)
  omega
theorem node_head {s : Int} (hs : 0 ≤ s ∧ s < 128) {i : Nat} {x : Int} (hi : i = 0) (hx : (nodesI s)[i]? = some x) : x = tz s ∧ ¬ s = 0 := by
  subst hi
  have h := head_fin ⟨s.toNat, by omega⟩
  simp only [Bool.and_eq_true, decide_eq_true_eq] at h
  rw [show ((s.toNat : Nat) : Int) = s by omega] at h
  rcases h with h | h
  · have := (List.getElem?_eq_some_iff.1 hx).1
    omega
  · rw [h.2] at hx
    cases hx
    exact ⟨rfl, by omega⟩
theorem node_none {s : Int} (hs : 0 ≤ s ∧ s < 128) (hl : (((nodesI s).length : Nat) : Int) = 0) : s = 0 := by
  have h := head_fin ⟨s.toNat, by omega⟩
  simp only [Bool.and_eq_true, decide_eq_true_eq] at h
  rw [show ((s.toNat : Nat) : Int) = s by omega] at h
  rcases h with h | h
  · omega
  · have := (List.getElem?_eq_some_iff.1 h.2).1
    omega
set_option maxHeartbeats 4000000 in
theorem rmeet_ok (h : Heap) (a : Int) (ha : 0 ≤ a ∧ a ≤ 18446744073709551615) (b : Int) (hb : 0 ≤ b ∧ b ≤ 18446744073709551615) (n : Int) : WCall Tryd.prog 20 #[(Value.int .u64 (a)), (Value.int .u64 (b)), (vI (n))] h (fun v h1 => v = .tuple #[.int .i64 (meV a b n), .bool (meB a b n), .int .i64 (chk2 n a b)] ∧ Ext h h1) := by
  suffices H : ∀ K : Value → Heap → Prop, (∀ v h1, (fun v h1 => v = .tuple #[.int .i64 (meV a b n), .bool (meB a b n), .int .i64 (chk2 n a b)] ∧ Ext h h1) v h1 → K v h1) → WCall Tryd.prog 20 #[(Value.int .u64 (a)), (Value.int .u64 (b)), (vI (n))] h K from H _ fun _ _ q => q
  intro K hK
  refine wcall_at { tmps := #[(Value.int .u64 (a)), (Value.int .u64 (b)), (vI (n)), (Value.tuple #[]), (Value.tuple #[]), (Value.tuple #[]), (Value.tuple #[]), (Value.tuple #[]), (Value.tuple #[]), (Value.tuple #[]), (Value.tuple #[]), (Value.tuple #[]), (Value.tuple #[]), (Value.tuple #[]), (Value.tuple #[]), (Value.tuple #[]), (Value.tuple #[]), (Value.tuple #[]), (Value.tuple #[]), (Value.tuple #[]), (Value.tuple #[]), (Value.tuple #[]), (Value.tuple #[]), (Value.tuple #[]), (Value.tuple #[]), (Value.tuple #[]), (Value.tuple #[]), (Value.tuple #[]), (Value.tuple #[]), (Value.tuple #[])], defers := [] } (by kernel_rfl) ?_
  obtain ⟨_, _, sn533, rfl, rfl⟩ := rcheck_ok h (a) (by omega) (n)
  by_cases c535 : ((chk1 (n) (a)) : Int) = 0
  · obtain ⟨_, _, sn537, rfl, rfl⟩ := rcheck_ok h (b) (by omega) (n)
    by_cases c539 : ((chk1 (n) (b)) : Int) = 0
    · obtain ⟨_, hh544, sn545, a540, c541, rfl, o542, x546, b543⟩ := rnodes_ok h (uand (a) (b)) (uand_range _ _)
      have x547 := (Ext.refl h).trans x546
      have := nodesI_len (uand (a) (b))
      have := pop_le (uand (a) (b)).toNat
      have z549 : h.size ≤ h.size := (Ext.refl h).size
      have o550 : ∀ zz, blk (Value.slice a540 ((nodesI (uand (a) (b))).length) (c541)) zz → h.size ≤ zz := fun zz hz => by have := b543 zz hz; omega
      by_cases c551 : ((((nodesI (uand (a) (b))).length : Nat)) : Int) = 0
      · refine wc_upd (n := 200) (T := ⟨fun r i => match r, i with | 1, 2 => some ((vI (chk1 (n) (a))), h) | 1, 3 => some ((vB false), h) | 1, 7 => some ((vI (chk1 (n) (b))), h) | 1, 8 => some ((vB false), h) | 3, 2 => some ((Value.int .u64 (uand (a) (b))), h) | 3, 3 => some ((Value.slice a540 ((nodesI (uand (a) (b))).length) (c541)), hh544) | 4, 2 => some ((vB true), hh544) | _, _ => none, fun _ => none, none⟩) (x := .ret) (h1 := hh544) [(6, (vI 0)), (7, (vB false)), (8, (vI 0)), (10, (Value.int .u64 (a))), (11, (vI (n))), (12, (vI (chk1 (n) (a)))), (13, (vB false)), (14, (vB false)), (15, (Value.int .u64 (b))), (16, (vI (n))), (17, (vI (chk1 (n) (b)))), (18, (vB false)), (19, (vB false)), (20, (Value.int .u64 (a))), (21, (Value.int .u64 (b))), (22, (Value.int .u64 (uand (a) (b)))), (23, (Value.slice a540 ((nodesI (uand (a) (b))).length) (c541))), (9, (Value.slice a540 ((nodesI (uand (a) (b))).length) (c541))), (24, (Value.slice a540 ((nodesI (uand (a) (b))).length) (c541))), (25, (vI (((nodesI (uand (a) (b))).length : Nat)))), (26, (vB true)), (6, (vI 0)), (7, (vB false)), (8, (vI 0))]
          (fun q => SoundCall Tryd.prog 35 #[(Value.int .u64 (a)), (vI (n))] h (vI (chk1 (n) (a))) h ∧ (binA Tryd.prog .neq 23 (vI (chk1 (n) (a))) (vI 0) = some (vB false) ∧ h = h) ∧ SoundCall Tryd.prog 35 #[(Value.int .u64 (b)), (vI (n))] h (vI (chk1 (n) (b))) h ∧ (binA Tryd.prog .neq 23 (vI (chk1 (n) (b))) (vI 0) = some (vB false) ∧ h = h) ∧ (binA Tryd.prog .and 22 (Value.int .u64 (a)) (Value.int .u64 (b)) = some (Value.int .u64 (uand (a) (b))) ∧ h = h) ∧ SoundCall Tryd.prog 30 #[(Value.int .u64 (uand (a) (b)))] h (Value.slice a540 ((nodesI (uand (a) (b))).length) (c541)) hh544 ∧ (binA Tryd.prog .eql 3 (vI (((nodesI (uand (a) (b))).length : Nat))) (vI 0) = some (vB true) ∧ hh544 = hh544) ∧ q) (by intro K'; kernel_rfl) (fun _ q => ⟨sn533, ⟨cmp_neq (decide_eq_false (not_not_intro c535)), rfl⟩, sn537, ⟨cmp_neq (decide_eq_false (not_not_intro c539)), rfl⟩, ⟨and_raw, rfl⟩, sn545, ⟨cmp_eql (decide_eq_true c551), rfl⟩, q⟩) ?_
        have hq : chk2 n a b = 0 := chk2_iff.2 ⟨c535, c539⟩
        have o1 := chk1_ok (by omega) c535
        have o2 := chk1_ok (by omega) c539
        have us := uand_small (a := a) (b := b) (by omega) (by omega)
        have nn := node_none us c551
        refine end_at (T := ⟨fun _ _ => none, fun _ => none, none⟩) (A := K (Value.tuple #[(vI 0), (vB false), (vI 0)]) hh544) (by kernel_rfl) ?_
        exact hK _ _ (⟨by rw [meV, meB, if_neg (fun w => w.2 nn), decide_eq_false (fun w => w.2 nn), hq], x547⟩)
      · obtain ⟨i552, v553, e554, l555, g556⟩ := list_at (nodesI (uand (a) (b))) (e := 0) (by omega) (by omega)
        obtain ⟨b557, o558, q560, a561, k559, u562⟩ := o542.store icell_size g556
        refine wc_upd (n := 200) (T := ⟨fun r i => match r, i with | 1, 2 => some ((vI (chk1 (n) (a))), h) | 1, 3 => some ((vB false), h) | 1, 7 => some ((vI (chk1 (n) (b))), h) | 1, 8 => some ((vB false), h) | 3, 2 => some ((Value.int .u64 (uand (a) (b))), h) | 3, 3 => some ((Value.slice a540 ((nodesI (uand (a) (b))).length) (c541)), hh544) | 4, 2 => some ((vB false), hh544) | 6, 1 => some ((vP b557 o558), hh544) | 6, 2 => some ((vI (v553)), hh544) | _, _ => none, fun _ => none, none⟩) (x := .ret) (h1 := hh544) [(6, (vI 0)), (7, (vB false)), (8, (vI 0)), (10, (Value.int .u64 (a))), (11, (vI (n))), (12, (vI (chk1 (n) (a)))), (13, (vB false)), (14, (vB false)), (15, (Value.int .u64 (b))), (16, (vI (n))), (17, (vI (chk1 (n) (b)))), (18, (vB false)), (19, (vB false)), (20, (Value.int .u64 (a))), (21, (Value.int .u64 (b))), (22, (Value.int .u64 (uand (a) (b)))), (23, (Value.slice a540 ((nodesI (uand (a) (b))).length) (c541))), (9, (Value.slice a540 ((nodesI (uand (a) (b))).length) (c541))), (24, (Value.slice a540 ((nodesI (uand (a) (b))).length) (c541))), (25, (vI (((nodesI (uand (a) (b))).length : Nat)))), (26, (vB false)), (27, (Value.slice a540 ((nodesI (uand (a) (b))).length) (c541))), (28, (vP b557 o558)), (29, (vI (v553))), (6, (vI (v553))), (7, (vB true)), (8, (vI 0))]
          (fun q => SoundCall Tryd.prog 35 #[(Value.int .u64 (a)), (vI (n))] h (vI (chk1 (n) (a))) h ∧ (binA Tryd.prog .neq 23 (vI (chk1 (n) (a))) (vI 0) = some (vB false) ∧ h = h) ∧ SoundCall Tryd.prog 35 #[(Value.int .u64 (b)), (vI (n))] h (vI (chk1 (n) (b))) h ∧ (binA Tryd.prog .neq 23 (vI (chk1 (n) (b))) (vI 0) = some (vB false) ∧ h = h) ∧ (binA Tryd.prog .and 22 (Value.int .u64 (a)) (Value.int .u64 (b)) = some (Value.int .u64 (uand (a) (b))) ∧ h = h) ∧ SoundCall Tryd.prog 30 #[(Value.int .u64 (uand (a) (b)))] h (Value.slice a540 ((nodesI (uand (a) (b))).length) (c541)) hh544 ∧ (binA Tryd.prog .eql 3 (vI (((nodesI (uand (a) (b))).length : Nat))) (vI 0) = some (vB false) ∧ hh544 = hh544) ∧ (indexAddrA Tryd.prog 41 (Value.slice a540 ((nodesI (uand (a) (b))).length) (c541)) (vI 0) = some (vP b557 o558) ∧ hh544 = hh544) ∧ (loadT Tryd.prog hh544 3 (vP b557 o558) = some (vI (v553)) ∧ hh544 = hh544) ∧ q) (by intro K'; kernel_rfl) (fun _ q => ⟨sn533, ⟨cmp_neq (decide_eq_false (not_not_intro c535)), rfl⟩, sn537, ⟨cmp_neq (decide_eq_false (not_not_intro c539)), rfl⟩, ⟨and_raw, rfl⟩, sn545, ⟨cmp_eql (decide_eq_false c551), rfl⟩, ⟨a561 und41 size3 e554, rfl⟩, ⟨k559.cell (j := 0) agg3 rfl, rfl⟩, q⟩) ?_
        have hq : chk2 n a b = 0 := chk2_iff.2 ⟨c535, c539⟩
        have o1 := chk1_ok (by omega) c535
        have o2 := chk1_ok (by omega) c539
        have us := uand_small (a := a) (b := b) (by omega) (by omega)
        have nh := node_head us (by omega) g556
        refine end_at (T := ⟨fun _ _ => none, fun _ => none, none⟩) (A := K (Value.tuple #[(vI (v553)), (vB true), (vI 0)]) hh544) (by kernel_rfl) ?_
        exact hK _ _ (⟨by rw [meV, meB, if_pos ⟨hq, nh.2⟩, decide_eq_true (⟨hq, nh.2⟩ : _ ∧ _), hq, nh.1], x547⟩)
    · refine wc_upd (n := 200) (T := ⟨fun r i => match r, i with | 1, 2 => some ((vI (chk1 (n) (a))), h) | 1, 3 => some ((vB false), h) | 1, 7 => some ((vI (chk1 (n) (b))), h) | 1, 8 => some ((vB true), h) | _, _ => none, fun _ => none, none⟩) (x := .ret) (h1 := h) [(6, (vI 0)), (7, (vB false)), (8, (vI 0)), (10, (Value.int .u64 (a))), (11, (vI (n))), (12, (vI (chk1 (n) (a)))), (13, (vB false)), (14, (vB false)), (15, (Value.int .u64 (b))), (16, (vI (n))), (17, (vI (chk1 (n) (b)))), (18, (vB true)), (19, (vB true)), (6, (vI 0)), (7, (vB false)), (8, (vI 2))]
        (fun q => SoundCall Tryd.prog 35 #[(Value.int .u64 (a)), (vI (n))] h (vI (chk1 (n) (a))) h ∧ (binA Tryd.prog .neq 23 (vI (chk1 (n) (a))) (vI 0) = some (vB false) ∧ h = h) ∧ SoundCall Tryd.prog 35 #[(Value.int .u64 (b)), (vI (n))] h (vI (chk1 (n) (b))) h ∧ (binA Tryd.prog .neq 23 (vI (chk1 (n) (b))) (vI 0) = some (vB true) ∧ h = h) ∧ q) (by intro K'; kernel_rfl) (fun _ q => ⟨sn533, ⟨cmp_neq (decide_eq_false (not_not_intro c535)), rfl⟩, sn537, ⟨cmp_neq (decide_eq_true c539), rfl⟩, q⟩) ?_
      have hq : ¬ chk2 n a b = 0 := fun w => c539 (chk2_iff.1 w).2
      refine end_at (T := ⟨fun _ _ => none, fun _ => none, none⟩) (A := K (Value.tuple #[(vI 0), (vB false), (vI 2)]) h) (by kernel_rfl) ?_
      exact hK _ _ (⟨by rw [meV, meB, if_neg (fun w => hq w.1), decide_eq_false (fun w => hq w.1), chk2_two hq], (Ext.refl h)⟩)
  · refine wc_upd (n := 200) (T := ⟨fun r i => match r, i with | 1, 2 => some ((vI (chk1 (n) (a))), h) | 1, 3 => some ((vB true), h) | _, _ => none, fun _ => none, none⟩) (x := .ret) (h1 := h) [(6, (vI 0)), (7, (vB false)), (8, (vI 0)), (10, (Value.int .u64 (a))), (11, (vI (n))), (12, (vI (chk1 (n) (a)))), (13, (vB true)), (14, (vB true)), (15, (Value.tuple #[])), (16, (Value.tuple #[])), (17, (Value.tuple #[])), (18, (Value.tuple #[])), (19, (vB true)), (6, (vI 0)), (7, (vB false)), (8, (vI 2))]
      (fun q => SoundCall Tryd.prog 35 #[(Value.int .u64 (a)), (vI (n))] h (vI (chk1 (n) (a))) h ∧ (binA Tryd.prog .neq 23 (vI (chk1 (n) (a))) (vI 0) = some (vB true) ∧ h = h) ∧ q) (by intro K'; kernel_rfl) (fun _ q => ⟨sn533, ⟨cmp_neq (decide_eq_true c535), rfl⟩, q⟩) ?_
    have hq : ¬ chk2 n a b = 0 := fun w => c535 (chk2_iff.1 w).1
    refine end_at (T := ⟨fun _ _ => none, fun _ => none, none⟩) (A := K (Value.tuple #[(vI 0), (vB false), (vI 2)]) h) (by kernel_rfl) ?_
    exact hK _ _ (⟨by rw [meV, meB, if_neg (fun w => hq w.1), decide_eq_false (fun w => hq w.1), chk2_two hq], (Ext.refl h)⟩)
end C11
