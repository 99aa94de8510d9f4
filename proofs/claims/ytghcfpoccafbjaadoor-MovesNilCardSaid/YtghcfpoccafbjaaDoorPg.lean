/- The run of MovesNil. -/
import Derived.Test.YtghcfpoccafbjaaDoorNd
import Derived.KernelRfl
open Go Go.AM Go.Proofs
namespace C32
theorem agg50 : isAggA Tryd.prog 50 = some true := by kernel_rfl
set_option maxHeartbeats 4000000 in
theorem it0_nil (h : Heap)  (bx : Nat) (hx : h[bx]? = some (.cells #[.pointer none] 25 (0, 0))) (l : Nat) (I : Nat → (Nat → Prop) → Heap → Prop) (E : Heap → Prop) (D0 : Nat → Prop)  (hX : ∀ k D h' h'', I k D h' → Ext h' h'' → I k D h'') (hy : ∀ k y D h', (([] : List (Int × MoveM)))[k]? = some y → I k D h' → ∃ b h'' D', SoundYield Tryd.prog l #[(vI (y.1)), (Value.agg #[(vS y.2.rf), (vS y.2.rt), (vI (y.2.f)), (vI (y.2.t)), (vI (y.2.st)), (vS y.2.d)])] h' (.bool b) h'' ∧ Chg D h' h'' ∧ (∀ z, D' z → D z ∨ h'.size ≤ z) ∧ (if b = true then I (k + 1) D' h'' else E h'')) (h0 : I 0 D0 h) : WCall Tryd.prog 51 #[(Value.func (.yield l) #[] #[]), (vP bx 0)] h (fun _ h1 => Chg D0 h h1 ∧ ((∃ D, I (([] : List (Int × MoveM))).length D h1 ∧ ∀ z, D z → D0 z ∨ h.size ≤ z) ∨ E h1)) := by
  suffices H : ∀ K : Value → Heap → Prop, (∀ v h1, (fun _ h1 => Chg D0 h h1 ∧ ((∃ D, I (([] : List (Int × MoveM))).length D h1 ∧ ∀ z, D z → D0 z ∨ h.size ≤ z) ∨ E h1)) v h1 → K v h1) → WCall Tryd.prog 51 #[(Value.func (.yield l) #[] #[]), (vP bx 0)] h K from H _ fun _ _ q => q
  intro K hK
  refine wcall_at { tmps := #[(Value.func (.yield l) #[] #[]), (vP bx 0), vZ, vZ, vZ, vZ, vZ, vZ, vZ, vZ, vZ, vZ, vZ, vZ, vZ, vZ, vZ, vZ, vZ, vZ, vZ, vZ, vZ, vZ, vZ, vZ, vZ, vZ, vZ, vZ], defers := [] } (by kernel_rfl) ?_
  refine wc_seq' (subc (bodyOf Tryd.prog 51) [0]) (subc (bodyOf Tryd.prog 51) [1]) (by kernel_rfl) ?_
  obtain ⟨_, _, sn5616, rfl, rfl⟩ := valid_nil h
  refine wc_upd (n := 200) (T := ⟨fun r i => match r, i with | 0, 0 => some (vN, h) | 0, 1 => some ((vB false), h) | _, _ => none, fun _ => none, none⟩) (x := .ret) (h1 := h) [(5, vN), (6, (vB false)), (7, (vB true))]
    (fun q => (loadT Tryd.prog h 25 (vP bx 0) = some vN ∧ h = h) ∧ SoundCall Tryd.prog 39 #[vN] h (vB false) h ∧ q) (by intro K'; as_aux_lemma => kernel_rfl) (fun _ q => ⟨⟨load_cell agg25 hx rfl, rfl⟩, sn5616, q⟩) ?_
  refine end_at (T := ⟨fun _ _ => none, fun _ => none, none⟩) (A := K vZ h) (by kernel_rfl) ?_
  exact hK _ _ (⟨(Chg.refl (O := D0) h), .inl ⟨D0, (hX _ _ _ _ h0 (Ext.refl h)), (fun z hz => .inl hz)⟩⟩)
set_option maxHeartbeats 4000000 in
theorem it0_bad (h : Heap) {t : Nat} {sa : Option Addr} {n c : Nat} {fr : Nat × Nat} (ht : h[t]? = some (.cells #[.bool false, .slice sa n c] 56 fr)) (bx : Nat) (hx : h[bx]? = some (.cells #[.pointer (some ⟨t, 0, none⟩)] 25 (0, 0))) (l : Nat) (I : Nat → (Nat → Prop) → Heap → Prop) (E : Heap → Prop) (D0 : Nat → Prop)  (hX : ∀ k D h' h'', I k D h' → Ext h' h'' → I k D h'') (hy : ∀ k y D h', (([] : List (Int × MoveM)))[k]? = some y → I k D h' → ∃ b h'' D', SoundYield Tryd.prog l #[(vI (y.1)), (Value.agg #[(vS y.2.rf), (vS y.2.rt), (vI (y.2.f)), (vI (y.2.t)), (vI (y.2.st)), (vS y.2.d)])] h' (.bool b) h'' ∧ Chg D h' h'' ∧ (∀ z, D' z → D z ∨ h'.size ≤ z) ∧ (if b = true then I (k + 1) D' h'' else E h'')) (h0 : I 0 D0 h) : WCall Tryd.prog 51 #[(Value.func (.yield l) #[] #[]), (vP bx 0)] h (fun _ h1 => Chg D0 h h1 ∧ ((∃ D, I (([] : List (Int × MoveM))).length D h1 ∧ ∀ z, D z → D0 z ∨ h.size ≤ z) ∨ E h1)) := by
  suffices H : ∀ K : Value → Heap → Prop, (∀ v h1, (fun _ h1 => Chg D0 h h1 ∧ ((∃ D, I (([] : List (Int × MoveM))).length D h1 ∧ ∀ z, D z → D0 z ∨ h.size ≤ z) ∨ E h1)) v h1 → K v h1) → WCall Tryd.prog 51 #[(Value.func (.yield l) #[] #[]), (vP bx 0)] h K from H _ fun _ _ q => q
  intro K hK
  refine wcall_at { tmps := #[(Value.func (.yield l) #[] #[]), (vP bx 0), vZ, vZ, vZ, vZ, vZ, vZ, vZ, vZ, vZ, vZ, vZ, vZ, vZ, vZ, vZ, vZ, vZ, vZ, vZ, vZ, vZ, vZ, vZ, vZ, vZ, vZ, vZ, vZ], defers := [] } (by kernel_rfl) ?_
  refine wc_seq' (subc (bodyOf Tryd.prog 51) [0]) (subc (bodyOf Tryd.prog 51) [1]) (by kernel_rfl) ?_
  obtain ⟨_, _, sn5619, rfl, rfl⟩ := valid_bad h ht
  refine wc_upd (n := 200) (T := ⟨fun r i => match r, i with | 0, 0 => some ((vP t 0), h) | 0, 1 => some ((vB false), h) | _, _ => none, fun _ => none, none⟩) (x := .ret) (h1 := h) [(5, (vP t 0)), (6, (vB false)), (7, (vB true))]
    (fun q => (loadT Tryd.prog h 25 (vP bx 0) = some (vP t 0) ∧ h = h) ∧ SoundCall Tryd.prog 39 #[(vP t 0)] h (vB false) h ∧ q) (by intro K'; as_aux_lemma => kernel_rfl) (fun _ q => ⟨⟨load_cell agg25 hx rfl, rfl⟩, sn5619, q⟩) ?_
  refine end_at (T := ⟨fun _ _ => none, fun _ => none, none⟩) (A := K vZ h) (by kernel_rfl) ?_
  exact hK _ _ (⟨(Chg.refl (O := D0) h), .inl ⟨D0, (hX _ _ _ _ h0 (Ext.refl h)), (fun z hz => .inl hz)⟩⟩)
set_option maxHeartbeats 4000000 in
theorem start_nil (h : Heap)  (r0 r1 : ByteArray) (f g : Int) : WCall Tryd.prog 21 #[(Value.pointer none), (Value.agg #[(vS r0), (vS r1)]), (vI (f)), (vI (g))] h (fun v h1 => v = .tuple #[.int .i64 0, .int .i64 1] ∧ Ext h h1) := by
  suffices H : ∀ K : Value → Heap → Prop, (∀ v h1, (fun v h1 => v = .tuple #[.int .i64 0, .int .i64 1] ∧ Ext h h1) v h1 → K v h1) → WCall Tryd.prog 21 #[(Value.pointer none), (Value.agg #[(vS r0), (vS r1)]), (vI (f)), (vI (g))] h K from H _ fun _ _ q => q
  intro K hK
  refine wcall_at { tmps := #[vN, (vA #[(vS r0), (vS r1)]), (vI f), (vI g), vZ, vZ, vZ, vZ, vZ, vZ, vZ, vZ, vZ, vZ, vZ, vZ, vZ, vZ, vZ, vZ, vZ, vZ, vZ, vZ, vZ, vZ, vZ, vZ, vZ, vZ, vZ, vZ, vZ, vZ, vZ, vZ, vZ, vZ, vZ, vZ, vZ, vZ, vZ, vZ, vZ, vZ, vZ, vZ, vZ, vZ, vZ, vZ, vZ, vZ, vZ, vZ, vZ, vZ, vZ, vZ, vZ, vZ, vZ, vZ, vZ, vZ, vZ, vZ, vZ, vZ, vZ, vZ, vZ, vZ, vZ], defers := [] } (by kernel_rfl) ?_
  refine wc_seq' (subc (bodyOf Tryd.prog 21) [0]) (subc (bodyOf Tryd.prog 21) [1]) (by kernel_rfl) ?_
  obtain ⟨b5623, eb5624⟩ : ∃ zq, zq = h.size := ⟨_, rfl⟩
  obtain ⟨h5621, e5622⟩ : ∃ zq, zq = h.push (.cells #[(vS r0), (vS r1)] 30 (0, 0)) := ⟨_, rfl⟩
  have f5625 := push_new e5622
  rw [← eb5624] at f5625
  have x5626 : Ext h h5621 := by rw [e5622]; exact Ext.push _ _
  have o5627 : h.size ≤ b5623 := by have := (Ext.refl h).size; omega
  have x5628 := (Ext.refl h).trans x5626
  obtain ⟨b5631, eb5632⟩ : ∃ zq, zq = h5621.size := ⟨_, rfl⟩
  obtain ⟨h5629, e5630⟩ : ∃ zq, zq = h5621.push (.cells #[(vI 0)] 3 (0, 0)) := ⟨_, rfl⟩
  have f5633 := push_new e5630
  rw [← eb5632] at f5633
  have x5635 : Ext h5621 h5629 := by rw [e5630]; exact Ext.push _ _
  have o5636 : h.size ≤ b5631 := by have := x5628.size; omega
  have x5638 := x5628.trans x5635
  obtain ⟨b5641, eb5642⟩ : ∃ zq, zq = h5629.size := ⟨_, rfl⟩
  obtain ⟨h5639, e5640⟩ : ∃ zq, zq = h5629.push (.cells #[(vI 0)] 33 (0, 0)) := ⟨_, rfl⟩
  have f5643 := push_new e5640
  rw [← eb5642] at f5643
  have n5645 : b5641 ≠ b5631 := by have := row_lt f5633; omega
  have x5646 : Ext h5629 h5639 := by rw [e5640]; exact Ext.push _ _
  have o5647 : h.size ≤ b5641 := by have := x5638.size; omega
  have f5649 := x5646 _ _ f5633
  have x5650 := x5638.trans x5646
  refine wc_upd (n := 200) (T := ⟨fun r i => match r, i with | 0, 0 => some ((vP b5623 0), h5621) | 0, 1 => some ((vP b5631 0), h5629) | 0, 2 => some ((vP b5641 0), h5639) | _, _ => none, fun _ => none, none⟩) (x := .normal) (h1 := h5639) [(5, (vP b5623 0)), (8, (vP b5631 0)), (9, (vP b5641 0))]
    (fun q => ((vP b5623 0) = (Value.pointer (some ⟨h.size, 0, none⟩)) ∧ h5621 = h.push (.cells #[(vS r0), (vS r1)] 30 (0, 0))) ∧ ((vP b5631 0) = (Value.pointer (some ⟨h5621.size, 0, none⟩)) ∧ h5629 = h5621.push (.cells #[(vI 0)] 3 (0, 0))) ∧ ((vP b5641 0) = (Value.pointer (some ⟨h5629.size, 0, none⟩)) ∧ h5639 = h5629.push (.cells #[(vI 0)] 33 (0, 0))) ∧ q) (by intro K'; as_aux_lemma => kernel_rfl) (fun _ q => ⟨⟨by rw [eb5624], e5622⟩, ⟨by rw [eb5632], e5630⟩, ⟨by rw [eb5642], e5640⟩, q⟩) ?_
  refine wc_seq' (subc (bodyOf Tryd.prog 21) [1, 0]) (subc (bodyOf Tryd.prog 21) [1, 1]) (by kernel_rfl) ?_
  obtain ⟨_, _, sn5652, rfl, rfl⟩ := valid_nil h5639
  obtain ⟨h5654, e5655⟩ : ∃ zq, zq = h5639.setIfInBounds b5631 (.cells #[(vI 0)] 3 (0, 0)) := ⟨_, rfl⟩
  have f5656 := set_same e5655 f5649
  have f5659 := set_other e5655 f5643 n5645.symm
  have x5660 := Ext.setNew x5650 e5655 o5636
  obtain ⟨h5661, e5662⟩ : ∃ zq, zq = h5654.setIfInBounds b5641 (.cells #[(vI 1)] 33 (0, 0)) := ⟨_, rfl⟩
  have f5663 := set_same e5662 f5659
  have f5665 := set_other e5662 f5656 n5645
  have x5667 := Ext.setNew x5660 e5662 o5647
  refine wc_upd (n := 200) (T := ⟨fun r i => match r, i with | 1, 1 => some ((vB false), h5639) | 2, 0 => some (undef, h5654) | 2, 1 => some (undef, h5661) | _, _ => none, fun _ => none, none⟩) (x := .ret) (h1 := h5661) [(16, vN), (17, (vB false)), (18, (vB true)), (15, (vB true))]
    (fun q => SoundCall Tryd.prog 39 #[vN] h5639 (vB false) h5639 ∧ (storeT Tryd.prog h5639 3 (vP b5631 0) (vI 0) = some h5654 ∧ (undef : Value) = undef) ∧ (storeT Tryd.prog h5654 33 (vP b5641 0) (vI 1) = some h5661 ∧ (undef : Value) = undef) ∧ q) (by intro K'; as_aux_lemma => kernel_rfl) (fun _ q => ⟨sn5652, ⟨by rw [e5655]; exact store_cells size3 rfl f5649 (by decide) (by simp) rfl (by kernel_rfl), rfl⟩, ⟨by rw [e5662]; exact store_cells size33 rfl f5659 (by decide) (by simp) rfl (by kernel_rfl), rfl⟩, q⟩) ?_
  refine end_at (T := ⟨fun _ _ => none, fun _ => none, some [(vI 0), (vI 1)]⟩) (A := (loadT Tryd.prog h5661 3 (vP b5631 0) = some (vI 0) ∧ loadT Tryd.prog h5661 33 (vP b5641 0) = some (vI 1) ∧ True) ∧ K (vT #[(vI 0), (vI 1)]) h5661) (by kernel_rfl) ?_
  exact ⟨⟨load_cell agg3 f5665 rfl, load_cell agg33 f5663 rfl, trivial⟩, hK _ _ (⟨rfl, x5667⟩)⟩
set_option maxHeartbeats 4000000 in
theorem get_nil (h : Heap)  (n : Int) : WCall Tryd.prog 15 #[(Value.pointer none), (vI (n))] h (fun v h1 => v = .tuple #[(Value.agg #[(vS .empty), (vS .empty), (vI 0), (vI 0), (vI 0), (vS .empty)]), .int .i64 1] ∧ Ext h h1) := by
  obtain ⟨b5670, eb5671⟩ : ∃ zq, zq = h.size := ⟨_, rfl⟩
  obtain ⟨h5668, e5669⟩ : ∃ zq, zq = h.push (.cells #[(vS .empty), (vS .empty), (vI 0), (vI 0), (vI 0), (vS .empty)] 32 (0, 0)) := ⟨_, rfl⟩
  have f5672 := push_new e5669
  rw [← eb5671] at f5672
  have x5673 : Ext h h5668 := by rw [e5669]; exact Ext.push _ _
  have o5674 : h.size ≤ b5670 := by have := (Ext.refl h).size; omega
  have x5675 := (Ext.refl h).trans x5673
  obtain ⟨_, _, s5676, rfl, rfl⟩ := find_nil h5668 (n)
  obtain ⟨h5677, e5678⟩ : ∃ zq, zq = h5668.setIfInBounds b5670 (.cells #[(vS .empty), (vS .empty), (vI 0), (vI 0), (vI 0), (vS .empty)] 32 (0, 0)) := ⟨_, rfl⟩
  have f5679 := set_same e5678 f5672
  have x5681 := Ext.setNew x5675 e5678 o5674
  exact hCall_of (n := 200) (T := ⟨fun r i => match r, i with | 0, 0 => some ((vP b5670 0), h5668) | 1, 2 => some ((vT #[vN, (vI 1)]), h5668) | 3, 2 => some (undef, h5677) | _, _ => none, fun _ => none, some [(vA #[(vS .empty), (vS .empty), (vI 0), (vI 0), (vI 0), (vS .empty)]), (vI 1)]⟩)
    (A := ((vP b5670 0) = (Value.pointer (some ⟨h.size, 0, none⟩)) ∧ h5668 = h.push (.cells #[(vS .empty), (vS .empty), (vI 0), (vI 0), (vI 0), (vS .empty)] 32 (0, 0))) ∧ SoundCall Tryd.prog 36 #[vN, (vI n)] h5668 (vT #[vN, (vI 1)]) h5668 ∧ (storeT Tryd.prog h5668 32 (vP b5670 0) (vA #[(vS .empty), (vS .empty), (vI 0), (vI 0), (vI 0), (vS .empty)]) = some h5677 ∧ (undef : Value) = undef) ∧ (loadT Tryd.prog h5677 32 (vP b5670 0) = some (vA #[(vS .empty), (vS .empty), (vI 0), (vI 0), (vI 0), (vS .empty)]) ∧ (vI 1) = (vI 1) ∧ True) ∧ (fun v h1 => v = .tuple #[(vA #[(vS .empty), (vS .empty), (vI 0), (vI 0), (vI 0), (vS .empty)]), .int .i64 1] ∧ Ext h h1) (vT #[(vA #[(vS .empty), (vS .empty), (vI 0), (vI 0), (vI 0), (vS .empty)]), (vI 1)]) h5677) (by kernel_rfl) ⟨⟨by rw [eb5671], e5669⟩, s5676, ⟨by rw [e5678]; exact store_cells size32 rfl f5672 (by decide) (by simp) rfl (by kernel_rfl), rfl⟩, ⟨load_agg agg32 size32 f5679 (by simp) (by kernel_rfl), rfl, trivial⟩, ⟨rfl, x5681⟩⟩
set_option maxHeartbeats 4000000 in
theorem given_nil (h : Heap)  (n : Int) (d : ByteArray) : WCall Tryd.prog 22 #[(Value.pointer none), (vI (n)), (vS d)] h (fun v h1 => v = .int .i64 1 ∧ Ext h h1) := by
  obtain ⟨_, _, s5682, rfl, rfl⟩ := find_nil h (n)
  exact hCall_of (n := 200) (T := ⟨fun r i => match r, i with | 1, 2 => some ((vT #[vN, (vI 1)]), h) | _, _ => none, fun _ => none, none⟩)
    (A := SoundCall Tryd.prog 36 #[vN, (vI n)] h (vT #[vN, (vI 1)]) h ∧ (fun v h1 => v = .int .i64 1 ∧ Ext h h1) (vI 1) h) (by kernel_rfl) ⟨s5682, ⟨rfl, (Ext.refl h)⟩⟩
set_option maxHeartbeats 4000000 in
theorem taken_nil (h : Heap)  (n : Int) : WCall Tryd.prog 23 #[(Value.pointer none), (vI (n))] h (fun v h1 => v = .int .i64 1 ∧ Ext h h1) := by
  obtain ⟨_, _, s5683, rfl, rfl⟩ := find_nil h (n)
  exact hCall_of (n := 200) (T := ⟨fun r i => match r, i with | 1, 2 => some ((vT #[vN, (vI 1)]), h) | _, _ => none, fun _ => none, none⟩)
    (A := SoundCall Tryd.prog 36 #[vN, (vI n)] h (vT #[vN, (vI 1)]) h ∧ (fun v h1 => v = .int .i64 1 ∧ Ext h h1) (vI 1) h) (by kernel_rfl) ⟨s5683, ⟨rfl, (Ext.refl h)⟩⟩
set_option maxHeartbeats 4000000 in
theorem len_nil (h : Heap)  : WCall Tryd.prog 24 #[(Value.pointer none)] h (fun v h1 => v = .int .i64 0 ∧ Ext h h1) := by
  obtain ⟨_, _, sn5685, rfl, rfl⟩ := valid_nil h
  exact hCall_of (n := 200) (T := ⟨fun r i => match r, i with | 1, 1 => some ((vB false), h) | _, _ => none, fun _ => none, none⟩)
    (A := SoundCall Tryd.prog 39 #[vN] h (vB false) h ∧ (fun v h1 => v = .int .i64 0 ∧ Ext h h1) (vI 0) h) (by kernel_rfl) ⟨sn5685, ⟨rfl, (Ext.refl h)⟩⟩
set_option maxHeartbeats 4000000 in
theorem copy_nil (h : Heap)  : WCall Tryd.prog 29 #[(Value.pointer none)] h (fun v h1 => v = .pointer none ∧ Ext h h1) := by
  obtain ⟨_, _, sn5688, rfl, rfl⟩ := valid_nil h
  exact hCall_of (n := 200) (T := ⟨fun r i => match r, i with | 1, 1 => some ((vB false), h) | _, _ => none, fun _ => none, none⟩)
    (A := SoundCall Tryd.prog 39 #[vN] h (vB false) h ∧ (fun v h1 => v = .pointer none ∧ Ext h h1) vN h) (by kernel_rfl) ⟨sn5688, ⟨rfl, (Ext.refl h)⟩⟩
set_option maxHeartbeats 4000000 in
theorem busy_nil (h : Heap)  (key : ByteArray) : WCall Tryd.prog 19 #[(Value.pointer none), (vS key)] h (fun v h1 => v = .bool false ∧ Ext h h1) := by
  suffices H : ∀ K : Value → Heap → Prop, (∀ v h1, (fun v h1 => v = .bool false ∧ Ext h h1) v h1 → K v h1) → WCall Tryd.prog 19 #[(Value.pointer none), (vS key)] h K from H _ fun _ _ q => q
  intro K hK
  refine wcall_at { tmps := #[vN, (vS key), vZ, vZ, vZ, vZ, vZ, vZ, vZ, vZ, vZ, vZ, vZ, vZ, vZ], defers := [] } (by kernel_rfl) ?_
  refine wc_seq' (subc (bodyOf Tryd.prog 19) [0]) (subc (bodyOf Tryd.prog 19) [1]) (by kernel_rfl) ?_
  obtain ⟨b5692, eb5693⟩ : ∃ zq, zq = h.size := ⟨_, rfl⟩
  obtain ⟨h5690, e5691⟩ : ∃ zq, zq = h.push (.cells #[(vS key)] 9 (0, 0)) := ⟨_, rfl⟩
  have f5694 := push_new e5691
  rw [← eb5693] at f5694
  have x5695 : Ext h h5690 := by rw [e5691]; exact Ext.push _ _
  have o5696 : h.size ≤ b5692 := by have := (Ext.refl h).size; omega
  have x5697 := (Ext.refl h).trans x5695
  obtain ⟨b5700, eb5701⟩ : ∃ zq, zq = h5690.size := ⟨_, rfl⟩
  obtain ⟨h5698, e5699⟩ : ∃ zq, zq = h5690.push (.cells #[(vB false)] 4 (0, 0)) := ⟨_, rfl⟩
  have f5702 := push_new e5699
  rw [← eb5701] at f5702
  have x5704 : Ext h5690 h5698 := by rw [e5699]; exact Ext.push _ _
  have o5705 : h.size ≤ b5700 := by have := x5697.size; omega
  have f5706 := x5704 _ _ f5694
  have x5707 := x5697.trans x5704
  refine wc_upd (n := 200) (T := ⟨fun r i => match r, i with | 0, 0 => some ((vP b5692 0), h5690) | 0, 1 => some ((vP b5700 0), h5698) | _, _ => none, fun _ => none, none⟩) (x := .normal) (h1 := h5698) [(3, (vP b5692 0)), (4, (vP b5700 0))]
    (fun q => ((vP b5692 0) = (Value.pointer (some ⟨h.size, 0, none⟩)) ∧ h5690 = h.push (.cells #[(vS key)] 9 (0, 0))) ∧ ((vP b5700 0) = (Value.pointer (some ⟨h5690.size, 0, none⟩)) ∧ h5698 = h5690.push (.cells #[(vB false)] 4 (0, 0))) ∧ q) (by intro K'; as_aux_lemma => kernel_rfl) (fun _ q => ⟨⟨by rw [eb5693], e5691⟩, ⟨by rw [eb5701], e5699⟩, q⟩) ?_
  refine wc_seq' (subc (bodyOf Tryd.prog 19) [1, 0]) (subc (bodyOf Tryd.prog 19) [1, 1]) (by kernel_rfl) ?_
  refine wc_seq' (subc (bodyOf Tryd.prog 19) [1, 0, 0]) (subc (bodyOf Tryd.prog 19) [1, 0, 1]) (by kernel_rfl) ?_
  obtain ⟨_, h5709, s5710, b5708, rfl, f5711, x5712, o5713⟩ := open_nil h5698
  have oo5713 : h.size ≤ b5708 := by have := x5707.size; omega
  have f5716 := x5712 _ _ f5706
  have f5717 := x5712 _ _ f5702
  have x5718 := x5707.trans x5712
  refine wc_upd (n := 200) (T := ⟨fun r i => match r, i with | 1, 1 => some ((Value.func (.func 51) #[] #[(vP b5708 0)]), h5709) | _, _ => none, fun _ => none, none⟩) (x := .normal) (h1 := h5709) [(7, vN), (8, (Value.func (.func 51) #[] #[(vP b5708 0)]))]
    (fun q => SoundCall Tryd.prog 35 #[vN] h5698 (Value.func (.func 51) #[] #[(vP b5708 0)]) h5709 ∧ q) (by intro K'; as_aux_lemma => kernel_rfl) (fun _ q => ⟨s5710, q⟩) ?_
  refine wc_block' 0 (subc (bodyOf Tryd.prog 19) [1, 0, 1, 0]) (by kernel_rfl) ?_
  refine wc_act { tmps := #[vN, (vS key), vZ, (vP b5692 0), (vP b5700 0), vZ, vZ, vN, (Value.func (.func 51) #[] #[(vP b5708 0)]), vZ, vZ, vZ, vZ, vZ, vZ], defers := [] } (by kernel_rfl) ?_
  obtain ⟨dv5719, edv5719⟩ : ∃ zq, zq = h5709.size := ⟨_, rfl⟩
  obtain ⟨lp5720, elp5720⟩ : ∃ zq, zq = h5709.size + 1 := ⟨_, rfl⟩
  obtain ⟨tm5721, etm5721⟩ : ∃ zq : Array Value, zq = #[(Value.pointer none), (vS key), (Value.tuple #[]), (vP b5692 0), (vP b5700 0), (Value.tuple #[]), (Value.tuple #[]), (Value.pointer none), (Value.func (.func 51) #[] #[(vP b5708 0)]), (Value.tuple #[]), (Value.tuple #[]), (Value.tuple #[]), (Value.tuple #[]), (Value.tuple #[]), (Value.tuple #[])] := ⟨_, rfl⟩
  obtain ⟨L5722, eL5722⟩ : ∃ zq : Loop, zq = { state := .ready, pending := none, fn := 0, tmps := tm5721, params := #[9, 10], assign := (subc (bodyOf Tryd.prog 19) [1, 0, 1, 0, 0]), body := (subc (bodyOf Tryd.prog 19) [1, 0, 1, 0, 1]), defers := dv5719 } := ⟨_, rfl⟩
  have hs5724 : L5722.state = .ready := by rw [eL5722]
  have hp5725 : L5722.pending = none := by rw [eL5722]
  obtain ⟨h5723, eh5723⟩ : ∃ zq, zq = (h5709.push (.deferred (some []))).push (.loop L5722) := ⟨_, rfl⟩
  have x5726 : Ext h5709 h5723 := by rw [eh5723]; exact (Ext.push _ _).trans (Ext.push _ _)
  have p5727 : At h5723 lp5720 (.loop L5722) := by rw [eh5723, elp5720, show h5709.size + 1 = (h5709.push (.deferred (some []))).size by simp]; exact push_new rfl
  have p5728 : At h5723 dv5719 (.deferred (some [])) := by rw [eh5723, edv5719]; exact push_old (b := h5709.size) rfl (push_new rfl)
  have sh5723 : lp5720 < h5723.size := p5727.blk_lt rfl
  have z5735 : h.size ≤ h5709.size := x5718.size
  have f5736 := x5726 _ _ f5716
  have f5737 := x5726 _ _ f5717
  have f5738 := x5726 _ _ f5711
  have x5739 := x5718.trans x5726
  have z5740 : h.size ≤ h5723.size := x5739.size
  obtain ⟨D5733, eD5734⟩ : ∃ zq : Nat → Prop, zq = (fun b => b = lp5720 ∨ b = b5700 ∨ False) := ⟨_, rfl⟩
  have hD5741 : ∀ b, D5733 b → h.size ≤ b := by
    rw [eD5734]; rintro b (w | w | w)
    · have w1 : b = lp5720 := w; omega
    · have w1 : b = b5700 := w; have := o5705; omega
    · exact w.elim
  have hd5742 : ¬ D5733 dv5719 := by
    rw [eD5734]; rintro (w | w | w)
    · have w1 : dv5719 = lp5720 := w; omega
    · have w1 : dv5719 = b5700 := w; have := row_lt f5717; omega
    · exact w.elim
  obtain ⟨I5730, eI5729⟩ : ∃ zq : Nat → (Nat → Prop) → Heap → Prop, zq = fun (kk : Nat) (Dv : Nat → Prop) (h' : Heap) => Dv = (fun b => b = lp5720 ∨ b = b5700 ∨ False) ∧ At h' lp5720 (.loop L5722) ∧ Chg D5733 h5723 h' ∧ (∀ z, Dv z → D5733 z ∨ h5723.size ≤ z) ∧ h'[b5692]? = some (.cells #[(vS key)] 9 (0, 0)) ∧ h'[b5700]? = some (.cells #[(vB false)] 4 (0, 0)) := ⟨_, rfl⟩
  obtain ⟨E5731, eE5732⟩ : ∃ zq : Heap → Prop, zq = fun (h' : Heap) => At h' lp5720 (.loop { ({ L5722 with state := .busy } : Loop) with state := .done, pending := some .ret }) ∧ Chg D5733 h5723 h' ∧ h'[b5700]? = some (.cells #[(vB true)] 4 (0, 0)) ∧ False := ⟨_, rfl⟩
  have hX5748 : ∀ k D h' h'', I5730 k D h' → Ext h' h'' → I5730 k D h'' := by
    rw [eI5729]
    rintro k _ h' h'' ⟨rfl, p5745, c5746, d5747, f5743, f5744⟩ xx
    exact ⟨rfl, xx _ _ p5745, c5746.trans (Chg.ext xx), d5747, xx _ _ f5743, xx _ _ f5744⟩
  have hy5749 : ∀ k y D h', (([] : List (Int × MoveM)))[k]? = some y → I5730 k D h' → ∃ b h'' D', SoundYield Tryd.prog lp5720 #[(vI (y.1)), (Value.agg #[(vS y.2.rf), (vS y.2.rt), (vI (y.2.f)), (vI (y.2.t)), (vI (y.2.st)), (vS y.2.d)])] h' (.bool b) h'' ∧ Chg D h' h'' ∧ (∀ z, D' z → D z ∨ h'.size ≤ z) ∧ (if b = true then I5730 (k + 1) D' h'' else E5731 h'') := by
    rw [eI5729]
    rintro k y _ hr hk ⟨rfl, p5745, c5746, d5747, f5743, f5744⟩
    obtain ⟨Dc, eDc⟩ : ∃ zq : Nat → Prop, zq = (fun b => b = lp5720 ∨ b = b5700 ∨ False) := ⟨_, rfl⟩
    rw [← eDc] at d5747
    rw [← eI5729]
    rw [← eDc]
    suffices hw : ∃ b h'', SoundYield Tryd.prog lp5720 #[(vI (y.1)), (Value.agg #[(vS y.2.rf), (vS y.2.rt), (vI (y.2.f)), (vI (y.2.t)), (vI (y.2.st)), (vS y.2.d)])] hr (.bool b) h'' ∧ (fun b h'' => ∃ D', Chg Dc hr h'' ∧ (∀ z, D' z → Dc z ∨ hr.size ≤ z) ∧ (if b = true then I5730 (k + 1) D' h'' else E5731 h'')) b h'' from by
      obtain ⟨b, h'', q1, D', q2, q3, q4⟩ := hw
      exact ⟨b, h'', D', q1, q2, q3, q4⟩
    refine w_round (args := #[(vI (y.1)), (Value.agg #[(vS y.2.rf), (vS y.2.rt), (vI (y.2.f)), (vI (y.2.t)), (vI (y.2.st)), (vS y.2.d)])]) (K := (fun b h'' => ∃ D', Chg Dc hr h'' ∧ (∀ z, D' z → Dc z ∨ hr.size ≤ z) ∧ (if b = true then I5730 (k + 1) D' h'' else E5731 h''))) p5745 hs5724 (by rw [eL5722]; rfl) { tmps := #[(Value.pointer none), (vS key), (Value.tuple #[]), (vP b5692 0), (vP b5700 0), (Value.tuple #[]), (Value.tuple #[]), (Value.pointer none), (Value.func (.func 51) #[] #[(vP b5708 0)]), (vI (y.1)), (Value.agg #[(vS y.2.rf), (vS y.2.rt), (vI (y.2.f)), (vI (y.2.t)), (vI (y.2.st)), (vS y.2.d)]), (Value.tuple #[]), (Value.tuple #[]), (Value.tuple #[]), (Value.tuple #[])], defers := [] } (by rw [eL5722, etm5721]; kernel_rfl) (subc (bodyOf Tryd.prog 19) [1, 0, 1, 0, 0]) (subc (bodyOf Tryd.prog 19) [1, 0, 1, 0, 1]) (by rw [eL5722]) (by rw [eL5722]) ?_
    obtain ⟨b5752, eb5753⟩ : ∃ zq, zq = hr.size := ⟨_, rfl⟩
    obtain ⟨h5750, e5751⟩ : ∃ zq, zq = hr.push (.cells #[(vS .empty), (vS .empty), (vI 0), (vI 0), (vI 0), (vS .empty)] 32 (0, 0)) := ⟨_, rfl⟩
    have f5754 := push_new e5751
    rw [← eb5753] at f5754
    have n5755 : b5752 ≠ b5692 := by have := row_lt f5743; omega
    have n5756 : b5752 ≠ b5700 := by have := row_lt f5744; omega
    have n5757 : ∀ zz, (fun q => q = lp5720) zz → ¬ zz = b5752 := fun zz hz ez => by have := p5745.blk_lt hz; omega
    have x5758 : Ext hr h5750 := by rw [e5751]; exact Ext.push _ _
    have o5759 : hr.size ≤ b5752 := by have := (Chg.refl (O := Dc) hr).size; omega
    have f5760 := x5758 _ _ f5743
    have f5761 := x5758 _ _ f5744
    have p5762 := p5745.keep fun b r _ q => x5758 b r q
    have x5763 := (Chg.refl (O := Dc) hr).trans (Chg.ext x5758)
    obtain ⟨h5764, e5765⟩ : ∃ zq, zq = h5750.setIfInBounds b5752 (.cells #[(vS y.2.rf), (vS y.2.rt), (vI (y.2.f)), (vI (y.2.t)), (vI (y.2.st)), (vS y.2.d)] 32 (0, 0)) := ⟨_, rfl⟩
    have f5766 := set_same e5765 f5754
    have f5767 := set_other e5765 f5760 n5755
    have f5768 := set_other e5765 f5761 n5756
    have p5770 := p5762.keep fun b r hb q => (Chg.set e5765).same b r q (n5757 b hb)
    have x5771 := x5763.then (Chg.set e5765) (fun b hb => by subst hb; exact (.inr o5759))
    refine wc_upd (n := 200) (T := ⟨fun r i => match r, i with | 2, 0 => some ((vP b5752 0), h5750) | 2, 1 => some (undef, h5764) | _, _ => none, fun _ => none, none⟩) (x := .normal) (h1 := h5764) [(6, (vP b5752 0))]
      (fun q => ((vP b5752 0) = (Value.pointer (some ⟨hr.size, 0, none⟩)) ∧ h5750 = hr.push (.cells #[(vS .empty), (vS .empty), (vI 0), (vI 0), (vI 0), (vS .empty)] 32 (0, 0))) ∧ (storeT Tryd.prog h5750 32 (vP b5752 0) (vA #[(vS y.2.rf), (vS y.2.rt), (vI y.2.f), (vI y.2.t), (vI y.2.st), (vS y.2.d)]) = some h5764 ∧ (undef : Value) = undef) ∧ q) (by intro K'; as_aux_lemma => kernel_rfl) (fun _ q => ⟨⟨by rw [eb5753], e5751⟩, ⟨by rw [e5765]; exact store_cells size32 rfl f5754 (by decide) (by simp) rfl (by kernel_rfl), rfl⟩, q⟩) ?_
    refine ⟨rfl, L5722, p5770, hs5724, ?_⟩
    obtain ⟨h5772, e5773⟩ : ∃ zq, zq = h5764.setIfInBounds lp5720 (.loop { L5722 with state := .busy }) := ⟨_, rfl⟩
    have p5774 : At h5772 lp5720 (.loop { L5722 with state := .busy }) := set_same e5773 p5770
    have f5775 := set_other e5773 f5767 (loop_ne p5770 f5767 rfl)
    have f5776 := set_other e5773 f5768 (loop_ne p5770 f5768 rfl)
    have f5777 := set_other e5773 f5766 (loop_ne p5770 f5766 rfl)
    have x5778 := x5771.then (Chg.set e5773) (fun b hb => .inl ((fun b hb => by rw [eDc]; exact .inl hb) b hb))
    rw [← e5773]
    obtain ⟨_, hh5779, sn5780, rfl, x5781⟩ := rhas_ok h5772 y.2.rf y.2.rt key 
    have f5782 := x5781 _ _ f5775
    have f5783 := x5781 _ _ f5776
    have p5785 := p5774.keep fun b r _ q => x5781 b r q
    have x5786 := x5778.trans (Chg.ext x5781)
    rcases Bool.eq_false_or_eq_true ((rhas y.2.rf y.2.rt key)) with c5787 | c5787
    · obtain ⟨h5788, e5789⟩ : ∃ zq, zq = hh5779.setIfInBounds b5700 (.cells #[(vB true)] 4 (0, 0)) := ⟨_, rfl⟩
      have f5790 := set_same e5789 f5783
      have p5794 := p5785.keep fun b r hb q => (Chg.set e5789).same b r q ((fun (b : Nat) hb => loop_ne p5785 f5783 hb) b hb)
      have x5795 := x5786.then (Chg.set e5789) (fun b hb => by subst hb; exact (.inl (by rw [eDc]; exact .inr (.inl rfl))))
      refine wc_upd (n := 200) (T := ⟨fun r i => match r, i with | 3, 1 => some ((vA #[(vS y.2.rf), (vS y.2.rt)]), h5772) | 3, 2 => some ((vS key), h5772) | 3, 3 => some ((vB true), hh5779) | 4, 0 => some (undef, h5788) | _, _ => none, fun _ => none, none⟩) (x := .ret) (h1 := h5788) [(11, (vP b5752 0)), (12, (vA #[(vS y.2.rf), (vS y.2.rt)])), (13, (vS key)), (14, (vB true))]
        (fun q => (loadT Tryd.prog h5772 30 (vP b5752 0) = some (vA #[(vS y.2.rf), (vS y.2.rt)]) ∧ h5772 = h5772) ∧ (loadT Tryd.prog h5772 9 (vP b5692 0) = some (vS key) ∧ h5772 = h5772) ∧ SoundCall Tryd.prog 17 #[(vA #[(vS y.2.rf), (vS y.2.rt)]), (vS key)] h5772 (vB true) hh5779 ∧ (storeT Tryd.prog hh5779 4 (vP b5700 0) (vB true) = some h5788 ∧ (undef : Value) = undef) ∧ q) (by intro K'; as_aux_lemma => kernel_rfl) (fun _ q => ⟨⟨load_agg agg30 size30 f5777 (by simp) (by kernel_rfl), rfl⟩, ⟨load_cell agg9 f5775 rfl, rfl⟩, (by rw [← c5787]; exact sn5780), ⟨by rw [e5789]; exact store_cells size4 rfl f5783 (by decide) (by simp) rfl (by kernel_rfl), rfl⟩, q⟩) ?_
      refine ⟨_, p5794, ?_⟩
      obtain ⟨h5796, e5797⟩ : ∃ zq, zq = h5788.setIfInBounds lp5720 (.loop { ({ L5722 with state := .busy } : Loop) with state := .done, pending := some .ret }) := ⟨_, rfl⟩
      have p5798 : At h5796 lp5720 (.loop { ({ L5722 with state := .busy } : Loop) with state := .done, pending := some .ret }) := set_same e5797 p5794
      have f5800 := set_other e5797 f5790 (loop_ne p5794 f5790 rfl)
      have x5802 := x5795.then (Chg.set e5797) (fun b hb => .inl ((fun b hb => by rw [eDc]; exact .inl hb) b hb))
      refine (show ∃ D', Chg Dc hr (h5796) ∧ (∀ z, D' z → Dc z ∨ hr.size ≤ z) ∧ (if false = true then I5730 (k + 1) D' h5796 else E5731 h5796) from ?_) |> (fun w => by rw [e5797] at w; exact w)
      refine ⟨fun _ => False, x5802, fun z hz => hz.elim, ?_⟩
      rw [if_neg (by decide)]
      rw [eE5732]
      exact ⟨p5798, c5746.then (x5802) d5747, f5800, absurd hk (by simp)⟩
    · refine wc_upd (n := 200) (T := ⟨fun r i => match r, i with | 3, 1 => some ((vA #[(vS y.2.rf), (vS y.2.rt)]), h5772) | 3, 2 => some ((vS key), h5772) | 3, 3 => some ((vB false), hh5779) | _, _ => none, fun _ => none, none⟩) (x := .normal) (h1 := hh5779) [(11, (vP b5752 0)), (12, (vA #[(vS y.2.rf), (vS y.2.rt)])), (13, (vS key)), (14, (vB false))]
        (fun q => (loadT Tryd.prog h5772 30 (vP b5752 0) = some (vA #[(vS y.2.rf), (vS y.2.rt)]) ∧ h5772 = h5772) ∧ (loadT Tryd.prog h5772 9 (vP b5692 0) = some (vS key) ∧ h5772 = h5772) ∧ SoundCall Tryd.prog 17 #[(vA #[(vS y.2.rf), (vS y.2.rt)]), (vS key)] h5772 (vB false) hh5779 ∧ q) (by intro K'; as_aux_lemma => kernel_rfl) (fun _ q => ⟨⟨load_agg agg30 size30 f5777 (by simp) (by kernel_rfl), rfl⟩, ⟨load_cell agg9 f5775 rfl, rfl⟩, (by rw [← c5787]; exact sn5780), q⟩) ?_
      refine ⟨_, p5785, ?_⟩
      obtain ⟨h5803, e5804⟩ : ∃ zq, zq = hh5779.setIfInBounds lp5720 (.loop { ({ L5722 with state := .busy } : Loop) with state := .ready, pending := none }) := ⟨_, rfl⟩
      have p5805 : At h5803 lp5720 (.loop { ({ L5722 with state := .busy } : Loop) with state := .ready, pending := none }) := set_same e5804 p5785
      have f5806 := set_other e5804 f5782 (loop_ne p5785 f5782 rfl)
      have f5807 := set_other e5804 f5783 (loop_ne p5785 f5783 rfl)
      have x5809 := x5786.then (Chg.set e5804) (fun b hb => .inl ((fun b hb => by rw [eDc]; exact .inl hb) b hb))
      have dnew : ∀ z, ((fun b => b = lp5720 ∨ b = b5700 ∨ False)) z → Dc z ∨ hr.size ≤ z := by
        intro z hz; rcases hz with w | w | w
        · exact .inl (by rw [eDc]; exact .inl w)
        · exact .inl (by rw [eDc]; exact .inr (.inl w))
        · exact w.elim
      refine (show ∃ D', Chg Dc hr (h5803) ∧ (∀ z, D' z → Dc z ∨ hr.size ≤ z) ∧ (if true = true then I5730 (k + 1) D' h5803 else E5731 h5803) from ?_) |> (fun w => by rw [e5804] at w; exact w)
      refine ⟨(fun b => b = lp5720 ∨ b = b5700 ∨ False), x5809, dnew, ?_⟩
      rw [if_pos rfl]
      rw [eI5729]
      exact ⟨rfl, (by have q := p5805; rw [loop_back hs5724 hp5725] at q; exact q), c5746.then (x5809) d5747, fun z hz => (dnew z hz).elim (d5747 z) (fun w => .inr (by have := c5746.size; omega)), f5806, f5807⟩
  have h05810 : I5730 0 D5733 h5723 := by rw [eI5729]; exact ⟨eD5734, p5727, Chg.refl h5723, fun z hz => .inl hz, f5736, f5737⟩
  refine wc_range_any (h1 := h5723) (c := (subc (bodyOf Tryd.prog 19) [1, 0, 1, 0])) (g := .tmp 8) (params := #[9, 10]) (assign := (subc (bodyOf Tryd.prog 19) [1, 0, 1, 0, 0])) (body := (subc (bodyOf Tryd.prog 19) [1, 0, 1, 0, 1])) (by kernel_rfl) 51 #[] #[(vP b5708 0)] lp5720 [{ target := .collected dv5719, args := #[] }] #[(Value.func (.yield lp5720) #[] #[]), (vP b5708 0)] (by rfl) rfl rfl (by kernel_rfl) (by rw [eh5723, elp5720, eL5722, etm5721, edv5719]; rfl) ?_
  refine (it0_nil h5723 b5708 f5738 lp5720 I5730 E5731 D5733  hX5748 hy5749 h05810).mono fun _ h8 q => ?_
  obtain ⟨q0, q⟩ := q
  rcases q with ⟨Dv, q, qD⟩ | q
  · rw [eI5729] at q
    obtain ⟨eDv, p5813, cgN, hdN, f5811, f5812⟩ := q
    refine ⟨_, p5813, ?_, leftBy_none hp5725 ?_⟩
    · exact fun w => by rw [hs5724] at w; cases w
    have p5814 : At h8 dv5719 (.deferred (some [])) := q0.same _ _ p5728 hd5742
    obtain ⟨h5815, e5816⟩ : ∃ zq, zq = h8.setIfInBounds lp5720 (.loop { L5722 with state := .exhausted }) := ⟨_, rfl⟩
    have f5819 := set_other e5816 f5812 (loop_ne p5813 f5812 rfl)
    have p5820 := p5814.keep fun b r hb q => (Chg.set e5816).same b r q ((fun b hb hb2 => (show ∀ b : Nat, b = lp5720 → b = dv5719 → False from fun b w1 w2 => by omega) b hb2 hb) b hb)
    rw [← e5816]
    have c5821 := q0.then (Chg.set e5816) (fun b hb => .inl (by rw [eD5734]; exact .inl hb))
    have x5822 : Ext h h5815 := (Chg.then (O := fun _ => False) (Chg.ext x5739) c5821 (fun b hb => .inr (hD5741 b hb))).toExt'
    obtain ⟨h5823, e5824⟩ : ∃ zq, zq = h5815.setIfInBounds b5700 (.cells #[(vB false)] 4 (0, 0)) := ⟨_, rfl⟩
    have f5825 := set_same e5824 f5819
    have p5829 := p5820.keep fun b r hb q => (Chg.set e5824).same b r q ((fun (b : Nat) hb => defer_ne p5820 f5819 hb) b hb)
    have x5830 := Ext.setNew x5822 e5824 o5705
    refine wc_upd (n := 200) (T := ⟨fun r i => match r, i with | 5, 0 => some (undef, h5823) | _, _ => none, fun _ => none, none⟩) (x := .ret) (h1 := h5823) []
      (fun q => (storeT Tryd.prog h5815 4 (vP b5700 0) (vB false) = some h5823 ∧ (undef : Value) = undef) ∧ q) (by intro K'; as_aux_lemma => kernel_rfl) (fun _ q => ⟨⟨by rw [e5824]; exact store_cells size4 rfl f5819 (by decide) (by simp) rfl (by kernel_rfl), rfl⟩, q⟩) ?_
    obtain ⟨h5831, e5832⟩ : ∃ zq, zq = h5823.setIfInBounds dv5719 (.deferred none) := ⟨_, rfl⟩
    have f5835 := set_other e5832 f5825 (defer_ne p5829 f5825 rfl)
    have x5833 : Ext h h5831 := Ext.setNew x5830 e5832 (by omega)
    refine end_mark3 (T := ⟨fun _ _ => none, fun _ => none, some [(vB false)]⟩) (dv := dv5719) { tmps := #[(Value.pointer none), (vS key), (Value.tuple #[]), (vP b5692 0), (vP b5700 0), (Value.tuple #[]), (Value.tuple #[]), (Value.pointer none), (Value.func (.func 51) #[] #[(vP b5708 0)]), (Value.tuple #[]), (Value.tuple #[]), (Value.tuple #[]), (Value.tuple #[]), (Value.tuple #[]), (Value.tuple #[])], defers := ([{ target := .collected dv5719, args := #[] }] ++ []) } (by kernel_rfl) (.inr rfl) rfl p5829 e5832 (A := (loadT Tryd.prog h5831 4 (vP b5700 0) = some (vB false) ∧ True) ∧ K (vB false) h5831) (by kernel_rfl) ?_
    exact ⟨⟨load_cell agg4 f5835 rfl, trivial⟩, hK _ _ (⟨rfl, x5833⟩)⟩
  · rw [eE5732] at q
    obtain ⟨p5838, cgN, f5837, i5836⟩ := q
    refine ⟨_, p5838, ?_, leftBy_ret rfl ?_⟩
    · exact fun w => by cases w
    obtain ⟨h5840, e5841⟩ : ∃ zq, zq = h8.setIfInBounds lp5720 (.loop { ({ ({ L5722 with state := .busy } : Loop) with state := .done, pending := some .ret } : Loop) with state := .exhausted }) := ⟨_, rfl⟩
    rw [← e5841]
    have c5845 := q0.then (Chg.set e5841) (fun b hb => .inl (by rw [eD5734]; exact .inl hb))
    obtain ⟨h5847, e5848⟩ : ∃ zq, zq = h5840.setIfInBounds dv5719 (.deferred none) := ⟨_, rfl⟩
    exfalso
    exact i5836
set_option maxHeartbeats 4000000 in
theorem openx_nil (h : Heap)  : WCall Tryd.prog 14 #[(Value.pointer none)] h (fun v h1 => ∃ oa oc, v = .slice oa 0 oc ∧ Ext h h1) := by
  suffices H : ∀ K : Value → Heap → Prop, (∀ v h1, (fun v h1 => ∃ oa oc, v = .slice oa 0 oc ∧ Ext h h1) v h1 → K v h1) → WCall Tryd.prog 14 #[(Value.pointer none)] h K from H _ fun _ _ q => q
  intro K hK
  refine wcall_at { tmps := #[vN, vZ, vZ, vZ, vZ, vZ, vZ, vZ, vZ, vZ, vZ, vZ, vZ, vZ], defers := [] } (by kernel_rfl) ?_
  refine wc_seq' (subc (bodyOf Tryd.prog 14) [0]) (subc (bodyOf Tryd.prog 14) [1]) (by kernel_rfl) ?_
  refine wc_upd (n := 200) (T := ⟨fun r i => match r, i with | _, _ => none, fun _ => none, none⟩) (x := .normal) (h1 := h) [(2, (vL none 0 0))]
    (fun q => q) (by intro K'; as_aux_lemma => kernel_rfl) (fun _ q => q) ?_
  refine wc_seq' (subc (bodyOf Tryd.prog 14) [1, 0]) (subc (bodyOf Tryd.prog 14) [1, 1]) (by kernel_rfl) ?_
  obtain ⟨b5853, eb5854⟩ : ∃ zq, zq = h.size := ⟨_, rfl⟩
  obtain ⟨h5851, e5852⟩ : ∃ zq, zq = h.push (.cells #[(Value.slice none 0 0)] 27 (0, 0)) := ⟨_, rfl⟩
  have f5855 := push_new e5852
  rw [← eb5854] at f5855
  have x5856 : Ext h h5851 := by rw [e5852]; exact Ext.push _ _
  have o5857 : h.size ≤ b5853 := by have := (Ext.refl h).size; omega
  have x5858 := (Ext.refl h).trans x5856
  refine wc_upd (n := 200) (T := ⟨fun r i => match r, i with | 1, 0 => some ((vP b5853 0), h5851) | _, _ => none, fun _ => none, none⟩) (x := .normal) (h1 := h5851) [(3, (vP b5853 0))]
    (fun q => ((vP b5853 0) = (Value.pointer (some ⟨h.size, 0, none⟩)) ∧ h5851 = h.push (.cells #[(vL none 0 0)] 27 (0, 0))) ∧ q) (by intro K'; as_aux_lemma => kernel_rfl) (fun _ q => ⟨⟨by rw [eb5854], e5852⟩, q⟩) ?_
  refine wc_seq' (subc (bodyOf Tryd.prog 14) [1, 1, 0]) (subc (bodyOf Tryd.prog 14) [1, 1, 1]) (by kernel_rfl) ?_
  refine wc_seq' (subc (bodyOf Tryd.prog 14) [1, 1, 0, 0]) (subc (bodyOf Tryd.prog 14) [1, 1, 0, 1]) (by kernel_rfl) ?_
  obtain ⟨_, h5860, s5861, b5859, rfl, f5862, x5863, o5864⟩ := open_nil h5851
  have oo5864 : h.size ≤ b5859 := by have := x5858.size; omega
  have f5866 := x5863 _ _ f5855
  have x5867 := x5858.trans x5863
  refine wc_upd (n := 200) (T := ⟨fun r i => match r, i with | 2, 1 => some ((Value.func (.func 51) #[] #[(vP b5859 0)]), h5860) | _, _ => none, fun _ => none, none⟩) (x := .normal) (h1 := h5860) [(5, vN), (6, (Value.func (.func 51) #[] #[(vP b5859 0)]))]
    (fun q => SoundCall Tryd.prog 35 #[vN] h5851 (Value.func (.func 51) #[] #[(vP b5859 0)]) h5860 ∧ q) (by intro K'; as_aux_lemma => kernel_rfl) (fun _ q => ⟨s5861, q⟩) ?_
  refine wc_block' 0 (subc (bodyOf Tryd.prog 14) [1, 1, 0, 1, 0]) (by kernel_rfl) ?_
  refine wc_act { tmps := #[vN, vZ, (vL none 0 0), (vP b5853 0), vZ, vN, (Value.func (.func 51) #[] #[(vP b5859 0)]), vZ, vZ, vZ, vZ, vZ, vZ, vZ], defers := [] } (by kernel_rfl) ?_
  obtain ⟨dv5868, edv5868⟩ : ∃ zq, zq = h5860.size := ⟨_, rfl⟩
  obtain ⟨lp5869, elp5869⟩ : ∃ zq, zq = h5860.size + 1 := ⟨_, rfl⟩
  obtain ⟨tm5870, etm5870⟩ : ∃ zq : Array Value, zq = #[(Value.pointer none), (Value.tuple #[]), (Value.slice none 0 0), (vP b5853 0), (Value.tuple #[]), (Value.pointer none), (Value.func (.func 51) #[] #[(vP b5859 0)]), (Value.tuple #[]), (Value.tuple #[]), (Value.tuple #[]), (Value.tuple #[]), (Value.tuple #[]), (Value.tuple #[]), (Value.tuple #[])] := ⟨_, rfl⟩
  obtain ⟨L5871, eL5871⟩ : ∃ zq : Loop, zq = { state := .ready, pending := none, fn := 0, tmps := tm5870, params := #[7, 8], assign := (subc (bodyOf Tryd.prog 14) [1, 1, 0, 1, 0, 0]), body := (subc (bodyOf Tryd.prog 14) [1, 1, 0, 1, 0, 1]), defers := dv5868 } := ⟨_, rfl⟩
  have hs5873 : L5871.state = .ready := by rw [eL5871]
  have hp5874 : L5871.pending = none := by rw [eL5871]
  obtain ⟨h5872, eh5872⟩ : ∃ zq, zq = (h5860.push (.deferred (some []))).push (.loop L5871) := ⟨_, rfl⟩
  have x5875 : Ext h5860 h5872 := by rw [eh5872]; exact (Ext.push _ _).trans (Ext.push _ _)
  have p5876 : At h5872 lp5869 (.loop L5871) := by rw [eh5872, elp5869, show h5860.size + 1 = (h5860.push (.deferred (some []))).size by simp]; exact push_new rfl
  have p5877 : At h5872 dv5868 (.deferred (some [])) := by rw [eh5872, edv5868]; exact push_old (b := h5860.size) rfl (push_new rfl)
  have sh5872 : lp5869 < h5872.size := p5876.blk_lt rfl
  have z5884 : h.size ≤ h5860.size := x5867.size
  have f5885 := x5875 _ _ f5866
  have f5886 := x5875 _ _ f5862
  have x5887 := x5867.trans x5875
  have z5888 : h.size ≤ h5872.size := x5887.size
  obtain ⟨D5882, eD5883⟩ : ∃ zq : Nat → Prop, zq = (fun (out : List Int) (oa : Option Addr) (oc : Nat) => (fun b => b = lp5869 ∨ b = b5853 ∨ (blk (Value.slice oa (out.length) (oc))) b ∨ False)) ([]) (none) (0) := ⟨_, rfl⟩
  have hD5889 : ∀ b, D5882 b → h.size ≤ b := by
    rw [eD5883]; rintro b (w | w | w | w)
    · have w1 : b = lp5869 := w; omega
    · have w1 : b = b5853 := w; have := o5857; omega
    · exact w.elim
    · exact w.elim
  have hd5890 : ¬ D5882 dv5868 := by
    rw [eD5883]; rintro (w | w | w | w)
    · have w1 : dv5868 = lp5869 := w; omega
    · have w1 : dv5868 = b5853 := w; have := row_lt f5866; omega
    · exact w.elim
    · exact w.elim
  obtain ⟨I5879, eI5878⟩ : ∃ zq : Nat → (Nat → Prop) → Heap → Prop, zq = fun (kk : Nat) (Dv : Nat → Prop) (h' : Heap) => ∃ (out : List Int), ∃ (oa : Option Addr), ∃ (oc : Nat), Dv = (fun b => b = lp5869 ∨ b = b5853 ∨ (blk (Value.slice oa (out.length) (oc))) b ∨ False) ∧ At h' lp5869 (.loop L5871) ∧ Chg D5882 h5872 h' ∧ (∀ z, Dv z → D5882 z ∨ h5872.size ≤ z) ∧ h'[b5853]? = some (.cells #[(Value.slice oa (out.length) (oc))] 27 (0, 0)) ∧ out = [] ∧ OwnAt h' 3 icell out (Value.slice oa (out.length) (oc)) := ⟨_, rfl⟩
  obtain ⟨E5880, eE5881⟩ : ∃ zq : Heap → Prop, zq = fun _ => False := ⟨_, rfl⟩
  have hX5897 : ∀ k D h' h'', I5879 k D h' → Ext h' h'' → I5879 k D h'' := by
    rw [eI5878]
    rintro k _ h' h'' ⟨out, oa, oc, rfl, p5894, c5895, d5896, f5891, i5892, p5893⟩ xx
    exact ⟨out, oa, oc, rfl, xx _ _ p5894, c5895.trans (Chg.ext xx), d5896, xx _ _ f5891, i5892, p5893.keep fun b r _ q => xx b r q⟩
  have hy5898 : ∀ k y D h', (([] : List (Int × MoveM)))[k]? = some y → I5879 k D h' → ∃ b h'' D', SoundYield Tryd.prog lp5869 #[(vI (y.1)), (Value.agg #[(vS y.2.rf), (vS y.2.rt), (vI (y.2.f)), (vI (y.2.t)), (vI (y.2.st)), (vS y.2.d)])] h' (.bool b) h'' ∧ Chg D h' h'' ∧ (∀ z, D' z → D z ∨ h'.size ≤ z) ∧ (if b = true then I5879 (k + 1) D' h'' else E5880 h'') := by
    rw [eI5878]
    rintro k y _ hr hk ⟨out, oa, oc, rfl, p5894, c5895, d5896, f5891, i5892, p5893⟩
    obtain ⟨Dc, eDc⟩ : ∃ zq : Nat → Prop, zq = (fun b => b = lp5869 ∨ b = b5853 ∨ (blk (Value.slice oa (out.length) (oc))) b ∨ False) := ⟨_, rfl⟩
    rw [← eDc] at d5896
    rw [← eI5878]
    rw [← eDc]
    have lo1 : out.length ≤ 64 := by rw [i5892]; decide
    suffices hw : ∃ b h'', SoundYield Tryd.prog lp5869 #[(vI (y.1)), (Value.agg #[(vS y.2.rf), (vS y.2.rt), (vI (y.2.f)), (vI (y.2.t)), (vI (y.2.st)), (vS y.2.d)])] hr (.bool b) h'' ∧ (fun b h'' => ∃ D', Chg Dc hr h'' ∧ (∀ z, D' z → Dc z ∨ hr.size ≤ z) ∧ (if b = true then I5879 (k + 1) D' h'' else E5880 h'')) b h'' from by
      obtain ⟨b, h'', q1, D', q2, q3, q4⟩ := hw
      exact ⟨b, h'', D', q1, q2, q3, q4⟩
    refine w_round (args := #[(vI (y.1)), (Value.agg #[(vS y.2.rf), (vS y.2.rt), (vI (y.2.f)), (vI (y.2.t)), (vI (y.2.st)), (vS y.2.d)])]) (K := (fun b h'' => ∃ D', Chg Dc hr h'' ∧ (∀ z, D' z → Dc z ∨ hr.size ≤ z) ∧ (if b = true then I5879 (k + 1) D' h'' else E5880 h''))) p5894 hs5873 (by rw [eL5871]; rfl) { tmps := #[(Value.pointer none), (Value.tuple #[]), (Value.slice none 0 0), (vP b5853 0), (Value.tuple #[]), (Value.pointer none), (Value.func (.func 51) #[] #[(vP b5859 0)]), (vI (y.1)), (Value.agg #[(vS y.2.rf), (vS y.2.rt), (vI (y.2.f)), (vI (y.2.t)), (vI (y.2.st)), (vS y.2.d)]), (Value.tuple #[]), (Value.tuple #[]), (Value.tuple #[]), (Value.tuple #[]), (Value.tuple #[])], defers := [] } (by rw [eL5871, etm5870]; kernel_rfl) (subc (bodyOf Tryd.prog 14) [1, 1, 0, 1, 0, 0]) (subc (bodyOf Tryd.prog 14) [1, 1, 0, 1, 0, 1]) (by rw [eL5871]) (by rw [eL5871]) ?_
    refine wc_upd (n := 200) (T := ⟨fun r i => match r, i with | _, _ => none, fun _ => none, none⟩) (x := .normal) (h1 := hr) [(4, (vI y.1))]
      (fun q => q) (by intro K'; as_aux_lemma => kernel_rfl) (fun _ q => q) ?_
    refine ⟨rfl, L5871, p5894, hs5873, ?_⟩
    obtain ⟨h5899, e5900⟩ : ∃ zq, zq = hr.setIfInBounds lp5869 (.loop { L5871 with state := .busy }) := ⟨_, rfl⟩
    have p5901 : At h5899 lp5869 (.loop { L5871 with state := .busy }) := set_same e5900 p5894
    have f5902 := set_other e5900 f5891 (loop_ne p5894 f5891 rfl)
    have p5903 := p5893.keep fun b r hb q => (Chg.set e5900).same b r q ((fun b hb hb2 => (p5893).celled.loop p5894 b hb hb2) b hb)
    have x5904 := (Chg.refl (O := Dc) hr).then (Chg.set e5900) (fun b hb => .inl ((fun b hb => by rw [eDc]; exact .inl hb) b hb))
    rw [← e5900]
    obtain ⟨b5907, eb5908⟩ : ∃ zq, zq = h5899.size := ⟨_, rfl⟩
    obtain ⟨h5905, e5906⟩ : ∃ zq, zq = h5899.push (.cells #[(vI (y.1))] 3 (0, 0)) := ⟨_, rfl⟩
    have f5909 := push_new e5906
    rw [← eb5908] at f5909
    have x5913 : Ext h5899 h5905 := by rw [e5906]; exact Ext.push _ _
    have o5914 : hr.size ≤ b5907 := by have := x5904.size; omega
    have f5915 := x5913 _ _ f5902
    have p5916 := p5903.keep fun b r _ q => x5913 b r q
    have p5917 := p5901.keep fun b r _ q => x5913 b r q
    have x5918 := x5904.trans (Chg.ext x5913)
    obtain ⟨w5919, h5920, e5921, p5922, c5923, n5924, z5925⟩ := own_append und27 sizeb3 zero3 rfl (by decide) icell_size (x := (y.1 : Int)) p5916 f5909 rfl (by omega) (by unfold maxLen; omega)
    obtain ⟨a5926, c5927, rfl⟩ := (p5922.slice icell_size).len
    have z5928 : hr.size ≤ h5905.size := x5918.size
    have x5929 := x5918.then c5923 (fun b hb => .inl ((show ∀ b, (blk (Value.slice oa (out.length) (oc))) b → Dc b from fun b hb => by rw [eDc]; exact .inr (.inr (.inl hb))) b hb))
    have f5930 := c5923.same _ _ f5915 (fun hb => p5916.ne f5915 (by decide) hb rfl)
    have p5932 := p5917.keep fun b r hb q => c5923.same b r q ((fun b hb hb2 => (p5916).celled.loop p5917 b hb2 hb) b hb)
    have n5934 : ∀ zz, blk (Value.slice a5926 ((out ++ [(y.1 : Int)]).length) (c5927)) zz → ¬ zz = b5853 := fun zz hz ez => by have := n5924 zz hz; have := row_lt f5915; omega
    have n5936 : ∀ zz, blk (Value.slice a5926 ((out ++ [(y.1 : Int)]).length) (c5927)) zz → ¬ (fun q => q = lp5869) zz := fun zz hz ez => by have := n5924 zz hz; have := p5917.blk_lt ez; omega
    have o5937 : ∀ zz, blk (Value.slice a5926 ((out ++ [(y.1 : Int)]).length) (c5927)) zz → hr.size ≤ zz := fun zz hz => by have := n5924 zz hz; have := z5928; omega
    obtain ⟨h5938, e5939⟩ : ∃ zq, zq = h5920.setIfInBounds b5853 (.cells #[(Value.slice a5926 ((out ++ [(y.1 : Int)]).length) (c5927))] 27 (0, 0)) := ⟨_, rfl⟩
    have f5940 := set_same e5939 f5930
    have p5943 := p5932.keep fun b r hb q => (Chg.set e5939).same b r q ((fun (b : Nat) hb => loop_ne p5932 f5930 hb) b hb)
    have p5944 := p5922.keep fun b r hb q => (Chg.set e5939).same b r q (n5934 b hb)
    have x5945 := x5929.then (Chg.set e5939) (fun b hb => by subst hb; exact (.inl (by rw [eDc]; exact .inr (.inl rfl))))
    refine wc_upd (n := 200) (T := ⟨fun r i => match r, i with | 4, 0 => some ((vL oa out.length oc), h5899) | 4, 2 => some ((vL (some ⟨b5907, 0, none⟩) 1 1), h5905) | 4, 3 => some ((Value.slice a5926 ((out ++ [(y.1 : Int)]).length) (c5927)), h5920) | 4, 4 => some (undef, h5938) | _, _ => none, fun _ => none, none⟩) (x := .normal) (h1 := h5938) [(9, (vL oa out.length oc)), (10, (vI y.1)), (11, (vL (some ⟨b5907, 0, none⟩) 1 1)), (12, (Value.slice a5926 ((out ++ [(y.1 : Int)]).length) (c5927)))]
      (fun q => (loadT Tryd.prog h5899 27 (vP b5853 0) = some (vL oa out.length oc) ∧ h5899 = h5899) ∧ ((vL (some ⟨b5907, 0, none⟩) 1 1) = (vL (some ⟨h5899.size, 0, none⟩) 1 1) ∧ h5905 = h5899.push (.cells #[(vI y.1)] 3 (0, 0))) ∧ appendA Tryd.prog h5905 #[27, 27] #[(vL oa out.length oc), (vL (some ⟨b5907, 0, none⟩) 1 1)] = some ((Value.slice a5926 ((out ++ [(y.1 : Int)]).length) (c5927)), h5920) ∧ (storeT Tryd.prog h5920 27 (vP b5853 0) (Value.slice a5926 ((out ++ [(y.1 : Int)]).length) (c5927)) = some h5938 ∧ (undef : Value) = undef) ∧ q) (by intro K'; as_aux_lemma => kernel_rfl) (fun _ q => ⟨⟨load_cell agg27 f5902 rfl, rfl⟩, ⟨by rw [eb5908], e5906⟩, e5921, ⟨by rw [e5939]; exact store_cells size27 rfl f5930 (by decide) (by simp) rfl (by kernel_rfl), rfl⟩, q⟩) ?_
    refine ⟨_, p5943, ?_⟩
    obtain ⟨h5946, e5947⟩ : ∃ zq, zq = h5938.setIfInBounds lp5869 (.loop { ({ L5871 with state := .busy } : Loop) with state := .ready, pending := none }) := ⟨_, rfl⟩
    have p5948 : At h5946 lp5869 (.loop { ({ L5871 with state := .busy } : Loop) with state := .ready, pending := none }) := set_same e5947 p5943
    have f5949 := set_other e5947 f5940 (loop_ne p5943 f5940 rfl)
    have p5951 := p5944.keep fun b r hb q => (Chg.set e5947).same b r q (n5936 b hb)
    have x5952 := x5945.then (Chg.set e5947) (fun b hb => .inl ((fun b hb => by rw [eDc]; exact .inl hb) b hb))
    have dnew : ∀ z, ((fun (out : List Int) (oa : Option Addr) (oc : Nat) => (fun b => b = lp5869 ∨ b = b5853 ∨ (blk (Value.slice oa (out.length) (oc))) b ∨ False)) ((out ++ [(y.1 : Int)])) (a5926) (c5927)) z → Dc z ∨ hr.size ≤ z := by
      intro z hz; rcases hz with w | w | w | w
      · exact .inl (by rw [eDc]; exact .inl w)
      · exact .inl (by rw [eDc]; exact .inr (.inl w))
      · exact .inr (o5937 z w)
      · exact w.elim
    refine (show ∃ D', Chg Dc hr (h5946) ∧ (∀ z, D' z → Dc z ∨ hr.size ≤ z) ∧ (if true = true then I5879 (k + 1) D' h5946 else E5880 h5946) from ?_) |> (fun w => by rw [e5947] at w; exact w)
    refine ⟨(fun (out : List Int) (oa : Option Addr) (oc : Nat) => (fun b => b = lp5869 ∨ b = b5853 ∨ (blk (Value.slice oa (out.length) (oc))) b ∨ False)) ((out ++ [(y.1 : Int)])) (a5926) (c5927), x5952, dnew, ?_⟩
    rw [if_pos rfl]
    rw [eI5878]
    exact ⟨(out ++ [(y.1 : Int)]), a5926, c5927, rfl, (by have q := p5948; rw [loop_back hs5873 hp5874] at q; exact q), c5895.then (x5952) d5896, fun z hz => (dnew z hz).elim (d5896 z) (fun w => .inr (by have := c5895.size; omega)), f5949, absurd hk (by simp), p5951⟩
  have h05953 : I5879 0 D5882 h5872 := by rw [eI5878]; exact ⟨[], none, 0, eD5883, p5876, Chg.refl h5872, fun z hz => .inl hz, f5885, rfl, .inl ⟨rfl, rfl⟩⟩
  refine wc_range_any (h1 := h5872) (c := (subc (bodyOf Tryd.prog 14) [1, 1, 0, 1, 0])) (g := .tmp 6) (params := #[7, 8]) (assign := (subc (bodyOf Tryd.prog 14) [1, 1, 0, 1, 0, 0])) (body := (subc (bodyOf Tryd.prog 14) [1, 1, 0, 1, 0, 1])) (by kernel_rfl) 51 #[] #[(vP b5859 0)] lp5869 [{ target := .collected dv5868, args := #[] }] #[(Value.func (.yield lp5869) #[] #[]), (vP b5859 0)] (by rfl) rfl rfl (by kernel_rfl) (by rw [eh5872, elp5869, eL5871, etm5870, edv5868]; rfl) ?_
  refine (it0_nil h5872 b5859 f5886 lp5869 I5879 E5880 D5882  hX5897 hy5898 h05953).mono fun _ h8 q => ?_
  obtain ⟨q0, q⟩ := q
  rcases q with ⟨Dv, q, qD⟩ | q
  · rw [eI5878] at q
    obtain ⟨out, oa, oc, eDv, p5957, cgN, hdN, f5954, i5955, p5956⟩ := q
    refine ⟨_, p5957, ?_, leftBy_none hp5874 ?_⟩
    · exact fun w => by rw [hs5873] at w; cases w
    have p5958 : At h8 dv5868 (.deferred (some [])) := q0.same _ _ p5877 hd5890
    obtain ⟨h5959, e5960⟩ : ∃ zq, zq = h8.setIfInBounds lp5869 (.loop { L5871 with state := .exhausted }) := ⟨_, rfl⟩
    have f5962 := set_other e5960 f5954 (loop_ne p5957 f5954 rfl)
    have p5964 := p5958.keep fun b r hb q => (Chg.set e5960).same b r q ((fun b hb hb2 => (show ∀ b : Nat, b = lp5869 → b = dv5868 → False from fun b w1 w2 => by omega) b hb2 hb) b hb)
    rw [← e5960]
    have c5965 := q0.then (Chg.set e5960) (fun b hb => .inl (by rw [eD5883]; exact .inl hb))
    have x5966 : Ext h h5959 := (Chg.then (O := fun _ => False) (Chg.ext x5887) c5965 (fun b hb => .inr (hD5889 b hb))).toExt'
    refine wc_upd (n := 200) (T := ⟨fun r i => match r, i with | 5, 0 => some ((vL oa out.length oc), h5959) | _, _ => none, fun _ => none, none⟩) (x := .ret) (h1 := h5959) [(13, (vL oa out.length oc)), (2, (vL oa out.length oc))]
      (fun q => (loadT Tryd.prog h5959 27 (vP b5853 0) = some (vL oa out.length oc) ∧ h5959 = h5959) ∧ q) (by intro K'; as_aux_lemma => kernel_rfl) (fun _ q => ⟨⟨load_cell agg27 f5962 rfl, rfl⟩, q⟩) ?_
    obtain ⟨h5967, e5968⟩ : ∃ zq, zq = h5959.setIfInBounds dv5868 (.deferred none) := ⟨_, rfl⟩
    have x5969 : Ext h h5967 := Ext.setNew x5966 e5968 (by omega)
    have eo := i5955
    refine end_mark3 (T := ⟨fun _ _ => none, fun _ => none, none⟩) (dv := dv5868) { tmps := #[(Value.pointer none), (Value.tuple #[]), (Value.slice oa (out.length) (oc)), (vP b5853 0), (Value.tuple #[]), (Value.pointer none), (Value.func (.func 51) #[] #[(vP b5859 0)]), (Value.tuple #[]), (Value.tuple #[]), (Value.tuple #[]), (Value.tuple #[]), (Value.tuple #[]), (Value.tuple #[]), (Value.slice oa (out.length) (oc))], defers := ([{ target := .collected dv5868, args := #[] }] ++ []) } (by kernel_rfl) (.inr rfl) rfl p5964 e5968 (A := K (Value.slice oa (out.length) (oc)) h5967) (by kernel_rfl) ?_
    exact hK _ _ (⟨oa, oc, by simp [eo], x5969⟩)
  · rw [eE5881] at q; exact q.elim
set_option maxHeartbeats 4000000 in
theorem start_bad (h : Heap) {t : Nat} {sa : Option Addr} {n c : Nat} {fr : Nat × Nat} (ht : h[t]? = some (.cells #[.bool false, .slice sa n c] 56 fr)) (r0 r1 : ByteArray) (f g : Int) : WCall Tryd.prog 21 #[(vP t 0), (Value.agg #[(vS r0), (vS r1)]), (vI (f)), (vI (g))] h (fun v h1 => v = .tuple #[.int .i64 0, .int .i64 1] ∧ Ext h h1) := by
  suffices H : ∀ K : Value → Heap → Prop, (∀ v h1, (fun v h1 => v = .tuple #[.int .i64 0, .int .i64 1] ∧ Ext h h1) v h1 → K v h1) → WCall Tryd.prog 21 #[(vP t 0), (Value.agg #[(vS r0), (vS r1)]), (vI (f)), (vI (g))] h K from H _ fun _ _ q => q
  intro K hK
  refine wcall_at { tmps := #[(vP t 0), (vA #[(vS r0), (vS r1)]), (vI f), (vI g), vZ, vZ, vZ, vZ, vZ, vZ, vZ, vZ, vZ, vZ, vZ, vZ, vZ, vZ, vZ, vZ, vZ, vZ, vZ, vZ, vZ, vZ, vZ, vZ, vZ, vZ, vZ, vZ, vZ, vZ, vZ, vZ, vZ, vZ, vZ, vZ, vZ, vZ, vZ, vZ, vZ, vZ, vZ, vZ, vZ, vZ, vZ, vZ, vZ, vZ, vZ, vZ, vZ, vZ, vZ, vZ, vZ, vZ, vZ, vZ, vZ, vZ, vZ, vZ, vZ, vZ, vZ, vZ, vZ, vZ, vZ], defers := [] } (by kernel_rfl) ?_
  refine wc_seq' (subc (bodyOf Tryd.prog 21) [0]) (subc (bodyOf Tryd.prog 21) [1]) (by kernel_rfl) ?_
  obtain ⟨b5974, eb5975⟩ : ∃ zq, zq = h.size := ⟨_, rfl⟩
  obtain ⟨h5972, e5973⟩ : ∃ zq, zq = h.push (.cells #[(vS r0), (vS r1)] 30 (0, 0)) := ⟨_, rfl⟩
  have f5976 := push_new e5973
  rw [← eb5975] at f5976
  have x5978 : Ext h h5972 := by rw [e5973]; exact Ext.push _ _
  have o5979 : h.size ≤ b5974 := by have := (Ext.refl h).size; omega
  have f5980 := x5978 _ _ ht
  have x5981 := (Ext.refl h).trans x5978
  obtain ⟨b5984, eb5985⟩ : ∃ zq, zq = h5972.size := ⟨_, rfl⟩
  obtain ⟨h5982, e5983⟩ : ∃ zq, zq = h5972.push (.cells #[(vI 0)] 3 (0, 0)) := ⟨_, rfl⟩
  have f5986 := push_new e5983
  rw [← eb5985] at f5986
  have x5989 : Ext h5972 h5982 := by rw [e5983]; exact Ext.push _ _
  have o5990 : h.size ≤ b5984 := by have := x5981.size; omega
  have f5991 := x5989 _ _ f5980
  have x5993 := x5981.trans x5989
  obtain ⟨b5996, eb5997⟩ : ∃ zq, zq = h5982.size := ⟨_, rfl⟩
  obtain ⟨h5994, e5995⟩ : ∃ zq, zq = h5982.push (.cells #[(vI 0)] 33 (0, 0)) := ⟨_, rfl⟩
  have f5998 := push_new e5995
  rw [← eb5997] at f5998
  have n6001 : b5996 ≠ b5984 := by have := row_lt f5986; omega
  have x6002 : Ext h5982 h5994 := by rw [e5995]; exact Ext.push _ _
  have o6003 : h.size ≤ b5996 := by have := x5993.size; omega
  have f6004 := x6002 _ _ f5991
  have f6006 := x6002 _ _ f5986
  have x6007 := x5993.trans x6002
  refine wc_upd (n := 200) (T := ⟨fun r i => match r, i with | 0, 0 => some ((vP b5974 0), h5972) | 0, 1 => some ((vP b5984 0), h5982) | 0, 2 => some ((vP b5996 0), h5994) | _, _ => none, fun _ => none, none⟩) (x := .normal) (h1 := h5994) [(5, (vP b5974 0)), (8, (vP b5984 0)), (9, (vP b5996 0))]
    (fun q => ((vP b5974 0) = (Value.pointer (some ⟨h.size, 0, none⟩)) ∧ h5972 = h.push (.cells #[(vS r0), (vS r1)] 30 (0, 0))) ∧ ((vP b5984 0) = (Value.pointer (some ⟨h5972.size, 0, none⟩)) ∧ h5982 = h5972.push (.cells #[(vI 0)] 3 (0, 0))) ∧ ((vP b5996 0) = (Value.pointer (some ⟨h5982.size, 0, none⟩)) ∧ h5994 = h5982.push (.cells #[(vI 0)] 33 (0, 0))) ∧ q) (by intro K'; as_aux_lemma => kernel_rfl) (fun _ q => ⟨⟨by rw [eb5975], e5973⟩, ⟨by rw [eb5985], e5983⟩, ⟨by rw [eb5997], e5995⟩, q⟩) ?_
  refine wc_seq' (subc (bodyOf Tryd.prog 21) [1, 0]) (subc (bodyOf Tryd.prog 21) [1, 1]) (by kernel_rfl) ?_
  obtain ⟨_, _, sn6009, rfl, rfl⟩ := valid_bad h5994 f6004
  obtain ⟨h6011, e6012⟩ : ∃ zq, zq = h5994.setIfInBounds b5984 (.cells #[(vI 0)] 3 (0, 0)) := ⟨_, rfl⟩
  have f6013 := set_same e6012 f6006
  have f6017 := set_other e6012 f5998 n6001.symm
  have x6018 := Ext.setNew x6007 e6012 o5990
  obtain ⟨h6019, e6020⟩ : ∃ zq, zq = h6011.setIfInBounds b5996 (.cells #[(vI 1)] 33 (0, 0)) := ⟨_, rfl⟩
  have f6021 := set_same e6020 f6017
  have f6024 := set_other e6020 f6013 n6001
  have x6026 := Ext.setNew x6018 e6020 o6003
  refine wc_upd (n := 200) (T := ⟨fun r i => match r, i with | 1, 1 => some ((vB false), h5994) | 2, 0 => some (undef, h6011) | 2, 1 => some (undef, h6019) | _, _ => none, fun _ => none, none⟩) (x := .ret) (h1 := h6019) [(16, (vP t 0)), (17, (vB false)), (18, (vB true)), (15, (vB true))]
    (fun q => SoundCall Tryd.prog 39 #[(vP t 0)] h5994 (vB false) h5994 ∧ (storeT Tryd.prog h5994 3 (vP b5984 0) (vI 0) = some h6011 ∧ (undef : Value) = undef) ∧ (storeT Tryd.prog h6011 33 (vP b5996 0) (vI 1) = some h6019 ∧ (undef : Value) = undef) ∧ q) (by intro K'; as_aux_lemma => kernel_rfl) (fun _ q => ⟨sn6009, ⟨by rw [e6012]; exact store_cells size3 rfl f6006 (by decide) (by simp) rfl (by kernel_rfl), rfl⟩, ⟨by rw [e6020]; exact store_cells size33 rfl f6017 (by decide) (by simp) rfl (by kernel_rfl), rfl⟩, q⟩) ?_
  refine end_at (T := ⟨fun _ _ => none, fun _ => none, some [(vI 0), (vI 1)]⟩) (A := (loadT Tryd.prog h6019 3 (vP b5984 0) = some (vI 0) ∧ loadT Tryd.prog h6019 33 (vP b5996 0) = some (vI 1) ∧ True) ∧ K (vT #[(vI 0), (vI 1)]) h6019) (by kernel_rfl) ?_
  exact ⟨⟨load_cell agg3 f6024 rfl, load_cell agg33 f6021 rfl, trivial⟩, hK _ _ (⟨rfl, x6026⟩)⟩
set_option maxHeartbeats 4000000 in
theorem get_bad (h : Heap) {t : Nat} {sa : Option Addr} {n c : Nat} {fr : Nat × Nat} (ht : h[t]? = some (.cells #[.bool false, .slice sa n c] 56 fr)) (n : Int) : WCall Tryd.prog 15 #[(vP t 0), (vI (n))] h (fun v h1 => v = .tuple #[(Value.agg #[(vS .empty), (vS .empty), (vI 0), (vI 0), (vI 0), (vS .empty)]), .int .i64 1] ∧ Ext h h1) := by
  obtain ⟨b6029, eb6030⟩ : ∃ zq, zq = h.size := ⟨_, rfl⟩
  obtain ⟨h6027, e6028⟩ : ∃ zq, zq = h.push (.cells #[(vS .empty), (vS .empty), (vI 0), (vI 0), (vI 0), (vS .empty)] 32 (0, 0)) := ⟨_, rfl⟩
  have f6031 := push_new e6028
  rw [← eb6030] at f6031
  have x6033 : Ext h h6027 := by rw [e6028]; exact Ext.push _ _
  have o6034 : h.size ≤ b6029 := by have := (Ext.refl h).size; omega
  have f6035 := x6033 _ _ ht
  have x6036 := (Ext.refl h).trans x6033
  obtain ⟨_, _, s6037, rfl, rfl⟩ := find_bad h6027 f6035 (n)
  obtain ⟨h6038, e6039⟩ : ∃ zq, zq = h6027.setIfInBounds b6029 (.cells #[(vS .empty), (vS .empty), (vI 0), (vI 0), (vI 0), (vS .empty)] 32 (0, 0)) := ⟨_, rfl⟩
  have f6040 := set_same e6039 f6031
  have x6043 := Ext.setNew x6036 e6039 o6034
  exact hCall_of (n := 200) (T := ⟨fun r i => match r, i with | 0, 0 => some ((vP b6029 0), h6027) | 1, 2 => some ((vT #[vN, (vI 1)]), h6027) | 3, 2 => some (undef, h6038) | _, _ => none, fun _ => none, some [(vA #[(vS .empty), (vS .empty), (vI 0), (vI 0), (vI 0), (vS .empty)]), (vI 1)]⟩)
    (A := ((vP b6029 0) = (Value.pointer (some ⟨h.size, 0, none⟩)) ∧ h6027 = h.push (.cells #[(vS .empty), (vS .empty), (vI 0), (vI 0), (vI 0), (vS .empty)] 32 (0, 0))) ∧ SoundCall Tryd.prog 36 #[(vP t 0), (vI n)] h6027 (vT #[vN, (vI 1)]) h6027 ∧ (storeT Tryd.prog h6027 32 (vP b6029 0) (vA #[(vS .empty), (vS .empty), (vI 0), (vI 0), (vI 0), (vS .empty)]) = some h6038 ∧ (undef : Value) = undef) ∧ (loadT Tryd.prog h6038 32 (vP b6029 0) = some (vA #[(vS .empty), (vS .empty), (vI 0), (vI 0), (vI 0), (vS .empty)]) ∧ (vI 1) = (vI 1) ∧ True) ∧ (fun v h1 => v = .tuple #[(vA #[(vS .empty), (vS .empty), (vI 0), (vI 0), (vI 0), (vS .empty)]), .int .i64 1] ∧ Ext h h1) (vT #[(vA #[(vS .empty), (vS .empty), (vI 0), (vI 0), (vI 0), (vS .empty)]), (vI 1)]) h6038) (by kernel_rfl) ⟨⟨by rw [eb6030], e6028⟩, s6037, ⟨by rw [e6039]; exact store_cells size32 rfl f6031 (by decide) (by simp) rfl (by kernel_rfl), rfl⟩, ⟨load_agg agg32 size32 f6040 (by simp) (by kernel_rfl), rfl, trivial⟩, ⟨rfl, x6043⟩⟩
set_option maxHeartbeats 4000000 in
theorem given_bad (h : Heap) {t : Nat} {sa : Option Addr} {n c : Nat} {fr : Nat × Nat} (ht : h[t]? = some (.cells #[.bool false, .slice sa n c] 56 fr)) (n : Int) (d : ByteArray) : WCall Tryd.prog 22 #[(vP t 0), (vI (n)), (vS d)] h (fun v h1 => v = .int .i64 1 ∧ Ext h h1) := by
  obtain ⟨_, _, s6044, rfl, rfl⟩ := find_bad h ht (n)
  exact hCall_of (n := 200) (T := ⟨fun r i => match r, i with | 1, 2 => some ((vT #[vN, (vI 1)]), h) | _, _ => none, fun _ => none, none⟩)
    (A := SoundCall Tryd.prog 36 #[(vP t 0), (vI n)] h (vT #[vN, (vI 1)]) h ∧ (fun v h1 => v = .int .i64 1 ∧ Ext h h1) (vI 1) h) (by kernel_rfl) ⟨s6044, ⟨rfl, (Ext.refl h)⟩⟩
set_option maxHeartbeats 4000000 in
theorem taken_bad (h : Heap) {t : Nat} {sa : Option Addr} {n c : Nat} {fr : Nat × Nat} (ht : h[t]? = some (.cells #[.bool false, .slice sa n c] 56 fr)) (n : Int) : WCall Tryd.prog 23 #[(vP t 0), (vI (n))] h (fun v h1 => v = .int .i64 1 ∧ Ext h h1) := by
  obtain ⟨_, _, s6045, rfl, rfl⟩ := find_bad h ht (n)
  exact hCall_of (n := 200) (T := ⟨fun r i => match r, i with | 1, 2 => some ((vT #[vN, (vI 1)]), h) | _, _ => none, fun _ => none, none⟩)
    (A := SoundCall Tryd.prog 36 #[(vP t 0), (vI n)] h (vT #[vN, (vI 1)]) h ∧ (fun v h1 => v = .int .i64 1 ∧ Ext h h1) (vI 1) h) (by kernel_rfl) ⟨s6045, ⟨rfl, (Ext.refl h)⟩⟩
set_option maxHeartbeats 4000000 in
theorem len_bad (h : Heap) {t : Nat} {sa : Option Addr} {n c : Nat} {fr : Nat × Nat} (ht : h[t]? = some (.cells #[.bool false, .slice sa n c] 56 fr)) : WCall Tryd.prog 24 #[(vP t 0)] h (fun v h1 => v = .int .i64 0 ∧ Ext h h1) := by
  obtain ⟨_, _, sn6047, rfl, rfl⟩ := valid_bad h ht
  exact hCall_of (n := 200) (T := ⟨fun r i => match r, i with | 1, 1 => some ((vB false), h) | _, _ => none, fun _ => none, none⟩)
    (A := SoundCall Tryd.prog 39 #[(vP t 0)] h (vB false) h ∧ (fun v h1 => v = .int .i64 0 ∧ Ext h h1) (vI 0) h) (by kernel_rfl) ⟨sn6047, ⟨rfl, (Ext.refl h)⟩⟩
set_option maxHeartbeats 4000000 in
theorem copy_bad (h : Heap) {t : Nat} {sa : Option Addr} {n c : Nat} {fr : Nat × Nat} (ht : h[t]? = some (.cells #[.bool false, .slice sa n c] 56 fr)) : WCall Tryd.prog 29 #[(vP t 0)] h (fun v h1 => v = .pointer none ∧ Ext h h1) := by
  obtain ⟨_, _, sn6050, rfl, rfl⟩ := valid_bad h ht
  exact hCall_of (n := 200) (T := ⟨fun r i => match r, i with | 1, 1 => some ((vB false), h) | _, _ => none, fun _ => none, none⟩)
    (A := SoundCall Tryd.prog 39 #[(vP t 0)] h (vB false) h ∧ (fun v h1 => v = .pointer none ∧ Ext h h1) vN h) (by kernel_rfl) ⟨sn6050, ⟨rfl, (Ext.refl h)⟩⟩
set_option maxHeartbeats 4000000 in
theorem busy_bad (h : Heap) {t : Nat} {sa : Option Addr} {n c : Nat} {fr : Nat × Nat} (ht : h[t]? = some (.cells #[.bool false, .slice sa n c] 56 fr)) (key : ByteArray) : WCall Tryd.prog 19 #[(vP t 0), (vS key)] h (fun v h1 => v = .bool false ∧ Ext h h1) := by
  suffices H : ∀ K : Value → Heap → Prop, (∀ v h1, (fun v h1 => v = .bool false ∧ Ext h h1) v h1 → K v h1) → WCall Tryd.prog 19 #[(vP t 0), (vS key)] h K from H _ fun _ _ q => q
  intro K hK
  refine wcall_at { tmps := #[(vP t 0), (vS key), vZ, vZ, vZ, vZ, vZ, vZ, vZ, vZ, vZ, vZ, vZ, vZ, vZ], defers := [] } (by kernel_rfl) ?_
  refine wc_seq' (subc (bodyOf Tryd.prog 19) [0]) (subc (bodyOf Tryd.prog 19) [1]) (by kernel_rfl) ?_
  obtain ⟨b6054, eb6055⟩ : ∃ zq, zq = h.size := ⟨_, rfl⟩
  obtain ⟨h6052, e6053⟩ : ∃ zq, zq = h.push (.cells #[(vS key)] 9 (0, 0)) := ⟨_, rfl⟩
  have f6056 := push_new e6053
  rw [← eb6055] at f6056
  have x6058 : Ext h h6052 := by rw [e6053]; exact Ext.push _ _
  have o6059 : h.size ≤ b6054 := by have := (Ext.refl h).size; omega
  have f6060 := x6058 _ _ ht
  have x6061 := (Ext.refl h).trans x6058
  obtain ⟨b6064, eb6065⟩ : ∃ zq, zq = h6052.size := ⟨_, rfl⟩
  obtain ⟨h6062, e6063⟩ : ∃ zq, zq = h6052.push (.cells #[(vB false)] 4 (0, 0)) := ⟨_, rfl⟩
  have f6066 := push_new e6063
  rw [← eb6065] at f6066
  have x6069 : Ext h6052 h6062 := by rw [e6063]; exact Ext.push _ _
  have o6070 : h.size ≤ b6064 := by have := x6061.size; omega
  have f6071 := x6069 _ _ f6060
  have f6072 := x6069 _ _ f6056
  have x6073 := x6061.trans x6069
  refine wc_upd (n := 200) (T := ⟨fun r i => match r, i with | 0, 0 => some ((vP b6054 0), h6052) | 0, 1 => some ((vP b6064 0), h6062) | _, _ => none, fun _ => none, none⟩) (x := .normal) (h1 := h6062) [(3, (vP b6054 0)), (4, (vP b6064 0))]
    (fun q => ((vP b6054 0) = (Value.pointer (some ⟨h.size, 0, none⟩)) ∧ h6052 = h.push (.cells #[(vS key)] 9 (0, 0))) ∧ ((vP b6064 0) = (Value.pointer (some ⟨h6052.size, 0, none⟩)) ∧ h6062 = h6052.push (.cells #[(vB false)] 4 (0, 0))) ∧ q) (by intro K'; as_aux_lemma => kernel_rfl) (fun _ q => ⟨⟨by rw [eb6055], e6053⟩, ⟨by rw [eb6065], e6063⟩, q⟩) ?_
  refine wc_seq' (subc (bodyOf Tryd.prog 19) [1, 0]) (subc (bodyOf Tryd.prog 19) [1, 1]) (by kernel_rfl) ?_
  refine wc_seq' (subc (bodyOf Tryd.prog 19) [1, 0, 0]) (subc (bodyOf Tryd.prog 19) [1, 0, 1]) (by kernel_rfl) ?_
  obtain ⟨_, h6075, s6076, b6074, rfl, f6077, x6078, o6079⟩ := open_fn h6062 t
  have oo6079 : h.size ≤ b6074 := by have := x6073.size; omega
  have f6083 := x6078 _ _ f6071
  have f6084 := x6078 _ _ f6072
  have f6085 := x6078 _ _ f6066
  have x6086 := x6073.trans x6078
  refine wc_upd (n := 200) (T := ⟨fun r i => match r, i with | 1, 1 => some ((Value.func (.func 51) #[] #[(vP b6074 0)]), h6075) | _, _ => none, fun _ => none, none⟩) (x := .normal) (h1 := h6075) [(7, (vP t 0)), (8, (Value.func (.func 51) #[] #[(vP b6074 0)]))]
    (fun q => SoundCall Tryd.prog 35 #[(vP t 0)] h6062 (Value.func (.func 51) #[] #[(vP b6074 0)]) h6075 ∧ q) (by intro K'; as_aux_lemma => kernel_rfl) (fun _ q => ⟨s6076, q⟩) ?_
  refine wc_block' 0 (subc (bodyOf Tryd.prog 19) [1, 0, 1, 0]) (by kernel_rfl) ?_
  refine wc_act { tmps := #[(vP t 0), (vS key), vZ, (vP b6054 0), (vP b6064 0), vZ, vZ, (vP t 0), (Value.func (.func 51) #[] #[(vP b6074 0)]), vZ, vZ, vZ, vZ, vZ, vZ], defers := [] } (by kernel_rfl) ?_
  obtain ⟨dv6087, edv6087⟩ : ∃ zq, zq = h6075.size := ⟨_, rfl⟩
  obtain ⟨lp6088, elp6088⟩ : ∃ zq, zq = h6075.size + 1 := ⟨_, rfl⟩
  obtain ⟨tm6089, etm6089⟩ : ∃ zq : Array Value, zq = #[(vP t 0), (vS key), (Value.tuple #[]), (vP b6054 0), (vP b6064 0), (Value.tuple #[]), (Value.tuple #[]), (vP t 0), (Value.func (.func 51) #[] #[(vP b6074 0)]), (Value.tuple #[]), (Value.tuple #[]), (Value.tuple #[]), (Value.tuple #[]), (Value.tuple #[]), (Value.tuple #[])] := ⟨_, rfl⟩
  obtain ⟨L6090, eL6090⟩ : ∃ zq : Loop, zq = { state := .ready, pending := none, fn := 0, tmps := tm6089, params := #[9, 10], assign := (subc (bodyOf Tryd.prog 19) [1, 0, 1, 0, 0]), body := (subc (bodyOf Tryd.prog 19) [1, 0, 1, 0, 1]), defers := dv6087 } := ⟨_, rfl⟩
  have hs6092 : L6090.state = .ready := by rw [eL6090]
  have hp6093 : L6090.pending = none := by rw [eL6090]
  obtain ⟨h6091, eh6091⟩ : ∃ zq, zq = (h6075.push (.deferred (some []))).push (.loop L6090) := ⟨_, rfl⟩
  have x6094 : Ext h6075 h6091 := by rw [eh6091]; exact (Ext.push _ _).trans (Ext.push _ _)
  have p6095 : At h6091 lp6088 (.loop L6090) := by rw [eh6091, elp6088, show h6075.size + 1 = (h6075.push (.deferred (some []))).size by simp]; exact push_new rfl
  have p6096 : At h6091 dv6087 (.deferred (some [])) := by rw [eh6091, edv6087]; exact push_old (b := h6075.size) rfl (push_new rfl)
  have sh6091 : lp6088 < h6091.size := p6095.blk_lt rfl
  have z6103 : h.size ≤ h6075.size := x6086.size
  have f6104 := x6094 _ _ f6083
  have f6105 := x6094 _ _ f6084
  have f6106 := x6094 _ _ f6085
  have f6107 := x6094 _ _ f6077
  have x6108 := x6086.trans x6094
  have z6109 : h.size ≤ h6091.size := x6108.size
  obtain ⟨D6101, eD6102⟩ : ∃ zq : Nat → Prop, zq = (fun b => b = lp6088 ∨ b = b6064 ∨ False) := ⟨_, rfl⟩
  have hD6110 : ∀ b, D6101 b → h.size ≤ b := by
    rw [eD6102]; rintro b (w | w | w)
    · have w1 : b = lp6088 := w; omega
    · have w1 : b = b6064 := w; have := o6070; omega
    · exact w.elim
  have hd6111 : ¬ D6101 dv6087 := by
    rw [eD6102]; rintro (w | w | w)
    · have w1 : dv6087 = lp6088 := w; omega
    · have w1 : dv6087 = b6064 := w; have := row_lt f6085; omega
    · exact w.elim
  obtain ⟨I6098, eI6097⟩ : ∃ zq : Nat → (Nat → Prop) → Heap → Prop, zq = fun (kk : Nat) (Dv : Nat → Prop) (h' : Heap) => Dv = (fun b => b = lp6088 ∨ b = b6064 ∨ False) ∧ At h' lp6088 (.loop L6090) ∧ Chg D6101 h6091 h' ∧ (∀ z, Dv z → D6101 z ∨ h6091.size ≤ z) ∧ h'[b6054]? = some (.cells #[(vS key)] 9 (0, 0)) ∧ h'[b6064]? = some (.cells #[(vB false)] 4 (0, 0)) := ⟨_, rfl⟩
  obtain ⟨E6099, eE6100⟩ : ∃ zq : Heap → Prop, zq = fun (h' : Heap) => At h' lp6088 (.loop { ({ L6090 with state := .busy } : Loop) with state := .done, pending := some .ret }) ∧ Chg D6101 h6091 h' ∧ h'[b6064]? = some (.cells #[(vB true)] 4 (0, 0)) ∧ False := ⟨_, rfl⟩
  have hX6117 : ∀ k D h' h'', I6098 k D h' → Ext h' h'' → I6098 k D h'' := by
    rw [eI6097]
    rintro k _ h' h'' ⟨rfl, p6114, c6115, d6116, f6112, f6113⟩ xx
    exact ⟨rfl, xx _ _ p6114, c6115.trans (Chg.ext xx), d6116, xx _ _ f6112, xx _ _ f6113⟩
  have hy6118 : ∀ k y D h', (([] : List (Int × MoveM)))[k]? = some y → I6098 k D h' → ∃ b h'' D', SoundYield Tryd.prog lp6088 #[(vI (y.1)), (Value.agg #[(vS y.2.rf), (vS y.2.rt), (vI (y.2.f)), (vI (y.2.t)), (vI (y.2.st)), (vS y.2.d)])] h' (.bool b) h'' ∧ Chg D h' h'' ∧ (∀ z, D' z → D z ∨ h'.size ≤ z) ∧ (if b = true then I6098 (k + 1) D' h'' else E6099 h'') := by
    rw [eI6097]
    rintro k y _ hr hk ⟨rfl, p6114, c6115, d6116, f6112, f6113⟩
    obtain ⟨Dc, eDc⟩ : ∃ zq : Nat → Prop, zq = (fun b => b = lp6088 ∨ b = b6064 ∨ False) := ⟨_, rfl⟩
    rw [← eDc] at d6116
    rw [← eI6097]
    rw [← eDc]
    suffices hw : ∃ b h'', SoundYield Tryd.prog lp6088 #[(vI (y.1)), (Value.agg #[(vS y.2.rf), (vS y.2.rt), (vI (y.2.f)), (vI (y.2.t)), (vI (y.2.st)), (vS y.2.d)])] hr (.bool b) h'' ∧ (fun b h'' => ∃ D', Chg Dc hr h'' ∧ (∀ z, D' z → Dc z ∨ hr.size ≤ z) ∧ (if b = true then I6098 (k + 1) D' h'' else E6099 h'')) b h'' from by
      obtain ⟨b, h'', q1, D', q2, q3, q4⟩ := hw
      exact ⟨b, h'', D', q1, q2, q3, q4⟩
    refine w_round (args := #[(vI (y.1)), (Value.agg #[(vS y.2.rf), (vS y.2.rt), (vI (y.2.f)), (vI (y.2.t)), (vI (y.2.st)), (vS y.2.d)])]) (K := (fun b h'' => ∃ D', Chg Dc hr h'' ∧ (∀ z, D' z → Dc z ∨ hr.size ≤ z) ∧ (if b = true then I6098 (k + 1) D' h'' else E6099 h''))) p6114 hs6092 (by rw [eL6090]; rfl) { tmps := #[(vP t 0), (vS key), (Value.tuple #[]), (vP b6054 0), (vP b6064 0), (Value.tuple #[]), (Value.tuple #[]), (vP t 0), (Value.func (.func 51) #[] #[(vP b6074 0)]), (vI (y.1)), (Value.agg #[(vS y.2.rf), (vS y.2.rt), (vI (y.2.f)), (vI (y.2.t)), (vI (y.2.st)), (vS y.2.d)]), (Value.tuple #[]), (Value.tuple #[]), (Value.tuple #[]), (Value.tuple #[])], defers := [] } (by rw [eL6090, etm6089]; kernel_rfl) (subc (bodyOf Tryd.prog 19) [1, 0, 1, 0, 0]) (subc (bodyOf Tryd.prog 19) [1, 0, 1, 0, 1]) (by rw [eL6090]) (by rw [eL6090]) ?_
    obtain ⟨b6121, eb6122⟩ : ∃ zq, zq = hr.size := ⟨_, rfl⟩
    obtain ⟨h6119, e6120⟩ : ∃ zq, zq = hr.push (.cells #[(vS .empty), (vS .empty), (vI 0), (vI 0), (vI 0), (vS .empty)] 32 (0, 0)) := ⟨_, rfl⟩
    have f6123 := push_new e6120
    rw [← eb6122] at f6123
    have n6124 : b6121 ≠ b6054 := by have := row_lt f6112; omega
    have n6125 : b6121 ≠ b6064 := by have := row_lt f6113; omega
    have n6126 : ∀ zz, (fun q => q = lp6088) zz → ¬ zz = b6121 := fun zz hz ez => by have := p6114.blk_lt hz; omega
    have x6127 : Ext hr h6119 := by rw [e6120]; exact Ext.push _ _
    have o6128 : hr.size ≤ b6121 := by have := (Chg.refl (O := Dc) hr).size; omega
    have f6129 := x6127 _ _ f6112
    have f6130 := x6127 _ _ f6113
    have p6131 := p6114.keep fun b r _ q => x6127 b r q
    have x6132 := (Chg.refl (O := Dc) hr).trans (Chg.ext x6127)
    obtain ⟨h6133, e6134⟩ : ∃ zq, zq = h6119.setIfInBounds b6121 (.cells #[(vS y.2.rf), (vS y.2.rt), (vI (y.2.f)), (vI (y.2.t)), (vI (y.2.st)), (vS y.2.d)] 32 (0, 0)) := ⟨_, rfl⟩
    have f6135 := set_same e6134 f6123
    have f6136 := set_other e6134 f6129 n6124
    have f6137 := set_other e6134 f6130 n6125
    have p6139 := p6131.keep fun b r hb q => (Chg.set e6134).same b r q (n6126 b hb)
    have x6140 := x6132.then (Chg.set e6134) (fun b hb => by subst hb; exact (.inr o6128))
    refine wc_upd (n := 200) (T := ⟨fun r i => match r, i with | 2, 0 => some ((vP b6121 0), h6119) | 2, 1 => some (undef, h6133) | _, _ => none, fun _ => none, none⟩) (x := .normal) (h1 := h6133) [(6, (vP b6121 0))]
      (fun q => ((vP b6121 0) = (Value.pointer (some ⟨hr.size, 0, none⟩)) ∧ h6119 = hr.push (.cells #[(vS .empty), (vS .empty), (vI 0), (vI 0), (vI 0), (vS .empty)] 32 (0, 0))) ∧ (storeT Tryd.prog h6119 32 (vP b6121 0) (vA #[(vS y.2.rf), (vS y.2.rt), (vI y.2.f), (vI y.2.t), (vI y.2.st), (vS y.2.d)]) = some h6133 ∧ (undef : Value) = undef) ∧ q) (by intro K'; as_aux_lemma => kernel_rfl) (fun _ q => ⟨⟨by rw [eb6122], e6120⟩, ⟨by rw [e6134]; exact store_cells size32 rfl f6123 (by decide) (by simp) rfl (by kernel_rfl), rfl⟩, q⟩) ?_
    refine ⟨rfl, L6090, p6139, hs6092, ?_⟩
    obtain ⟨h6141, e6142⟩ : ∃ zq, zq = h6133.setIfInBounds lp6088 (.loop { L6090 with state := .busy }) := ⟨_, rfl⟩
    have p6143 : At h6141 lp6088 (.loop { L6090 with state := .busy }) := set_same e6142 p6139
    have f6144 := set_other e6142 f6136 (loop_ne p6139 f6136 rfl)
    have f6145 := set_other e6142 f6137 (loop_ne p6139 f6137 rfl)
    have f6146 := set_other e6142 f6135 (loop_ne p6139 f6135 rfl)
    have x6147 := x6140.then (Chg.set e6142) (fun b hb => .inl ((fun b hb => by rw [eDc]; exact .inl hb) b hb))
    rw [← e6142]
    obtain ⟨_, hh6148, sn6149, rfl, x6150⟩ := rhas_ok h6141 y.2.rf y.2.rt key 
    have f6151 := x6150 _ _ f6144
    have f6152 := x6150 _ _ f6145
    have p6154 := p6143.keep fun b r _ q => x6150 b r q
    have x6155 := x6147.trans (Chg.ext x6150)
    rcases Bool.eq_false_or_eq_true ((rhas y.2.rf y.2.rt key)) with c6156 | c6156
    · obtain ⟨h6157, e6158⟩ : ∃ zq, zq = hh6148.setIfInBounds b6064 (.cells #[(vB true)] 4 (0, 0)) := ⟨_, rfl⟩
      have f6159 := set_same e6158 f6152
      have p6163 := p6154.keep fun b r hb q => (Chg.set e6158).same b r q ((fun (b : Nat) hb => loop_ne p6154 f6152 hb) b hb)
      have x6164 := x6155.then (Chg.set e6158) (fun b hb => by subst hb; exact (.inl (by rw [eDc]; exact .inr (.inl rfl))))
      refine wc_upd (n := 200) (T := ⟨fun r i => match r, i with | 3, 1 => some ((vA #[(vS y.2.rf), (vS y.2.rt)]), h6141) | 3, 2 => some ((vS key), h6141) | 3, 3 => some ((vB true), hh6148) | 4, 0 => some (undef, h6157) | _, _ => none, fun _ => none, none⟩) (x := .ret) (h1 := h6157) [(11, (vP b6121 0)), (12, (vA #[(vS y.2.rf), (vS y.2.rt)])), (13, (vS key)), (14, (vB true))]
        (fun q => (loadT Tryd.prog h6141 30 (vP b6121 0) = some (vA #[(vS y.2.rf), (vS y.2.rt)]) ∧ h6141 = h6141) ∧ (loadT Tryd.prog h6141 9 (vP b6054 0) = some (vS key) ∧ h6141 = h6141) ∧ SoundCall Tryd.prog 17 #[(vA #[(vS y.2.rf), (vS y.2.rt)]), (vS key)] h6141 (vB true) hh6148 ∧ (storeT Tryd.prog hh6148 4 (vP b6064 0) (vB true) = some h6157 ∧ (undef : Value) = undef) ∧ q) (by intro K'; as_aux_lemma => kernel_rfl) (fun _ q => ⟨⟨load_agg agg30 size30 f6146 (by simp) (by kernel_rfl), rfl⟩, ⟨load_cell agg9 f6144 rfl, rfl⟩, (by rw [← c6156]; exact sn6149), ⟨by rw [e6158]; exact store_cells size4 rfl f6152 (by decide) (by simp) rfl (by kernel_rfl), rfl⟩, q⟩) ?_
      refine ⟨_, p6163, ?_⟩
      obtain ⟨h6165, e6166⟩ : ∃ zq, zq = h6157.setIfInBounds lp6088 (.loop { ({ L6090 with state := .busy } : Loop) with state := .done, pending := some .ret }) := ⟨_, rfl⟩
      have p6167 : At h6165 lp6088 (.loop { ({ L6090 with state := .busy } : Loop) with state := .done, pending := some .ret }) := set_same e6166 p6163
      have f6169 := set_other e6166 f6159 (loop_ne p6163 f6159 rfl)
      have x6171 := x6164.then (Chg.set e6166) (fun b hb => .inl ((fun b hb => by rw [eDc]; exact .inl hb) b hb))
      refine (show ∃ D', Chg Dc hr (h6165) ∧ (∀ z, D' z → Dc z ∨ hr.size ≤ z) ∧ (if false = true then I6098 (k + 1) D' h6165 else E6099 h6165) from ?_) |> (fun w => by rw [e6166] at w; exact w)
      refine ⟨fun _ => False, x6171, fun z hz => hz.elim, ?_⟩
      rw [if_neg (by decide)]
      rw [eE6100]
      exact ⟨p6167, c6115.then (x6171) d6116, f6169, absurd hk (by simp)⟩
    · refine wc_upd (n := 200) (T := ⟨fun r i => match r, i with | 3, 1 => some ((vA #[(vS y.2.rf), (vS y.2.rt)]), h6141) | 3, 2 => some ((vS key), h6141) | 3, 3 => some ((vB false), hh6148) | _, _ => none, fun _ => none, none⟩) (x := .normal) (h1 := hh6148) [(11, (vP b6121 0)), (12, (vA #[(vS y.2.rf), (vS y.2.rt)])), (13, (vS key)), (14, (vB false))]
        (fun q => (loadT Tryd.prog h6141 30 (vP b6121 0) = some (vA #[(vS y.2.rf), (vS y.2.rt)]) ∧ h6141 = h6141) ∧ (loadT Tryd.prog h6141 9 (vP b6054 0) = some (vS key) ∧ h6141 = h6141) ∧ SoundCall Tryd.prog 17 #[(vA #[(vS y.2.rf), (vS y.2.rt)]), (vS key)] h6141 (vB false) hh6148 ∧ q) (by intro K'; as_aux_lemma => kernel_rfl) (fun _ q => ⟨⟨load_agg agg30 size30 f6146 (by simp) (by kernel_rfl), rfl⟩, ⟨load_cell agg9 f6144 rfl, rfl⟩, (by rw [← c6156]; exact sn6149), q⟩) ?_
      refine ⟨_, p6154, ?_⟩
      obtain ⟨h6172, e6173⟩ : ∃ zq, zq = hh6148.setIfInBounds lp6088 (.loop { ({ L6090 with state := .busy } : Loop) with state := .ready, pending := none }) := ⟨_, rfl⟩
      have p6174 : At h6172 lp6088 (.loop { ({ L6090 with state := .busy } : Loop) with state := .ready, pending := none }) := set_same e6173 p6154
      have f6175 := set_other e6173 f6151 (loop_ne p6154 f6151 rfl)
      have f6176 := set_other e6173 f6152 (loop_ne p6154 f6152 rfl)
      have x6178 := x6155.then (Chg.set e6173) (fun b hb => .inl ((fun b hb => by rw [eDc]; exact .inl hb) b hb))
      have dnew : ∀ z, ((fun b => b = lp6088 ∨ b = b6064 ∨ False)) z → Dc z ∨ hr.size ≤ z := by
        intro z hz; rcases hz with w | w | w
        · exact .inl (by rw [eDc]; exact .inl w)
        · exact .inl (by rw [eDc]; exact .inr (.inl w))
        · exact w.elim
      refine (show ∃ D', Chg Dc hr (h6172) ∧ (∀ z, D' z → Dc z ∨ hr.size ≤ z) ∧ (if true = true then I6098 (k + 1) D' h6172 else E6099 h6172) from ?_) |> (fun w => by rw [e6173] at w; exact w)
      refine ⟨(fun b => b = lp6088 ∨ b = b6064 ∨ False), x6178, dnew, ?_⟩
      rw [if_pos rfl]
      rw [eI6097]
      exact ⟨rfl, (by have q := p6174; rw [loop_back hs6092 hp6093] at q; exact q), c6115.then (x6178) d6116, fun z hz => (dnew z hz).elim (d6116 z) (fun w => .inr (by have := c6115.size; omega)), f6175, f6176⟩
  have h06179 : I6098 0 D6101 h6091 := by rw [eI6097]; exact ⟨eD6102, p6095, Chg.refl h6091, fun z hz => .inl hz, f6105, f6106⟩
  refine wc_range_any (h1 := h6091) (c := (subc (bodyOf Tryd.prog 19) [1, 0, 1, 0])) (g := .tmp 8) (params := #[9, 10]) (assign := (subc (bodyOf Tryd.prog 19) [1, 0, 1, 0, 0])) (body := (subc (bodyOf Tryd.prog 19) [1, 0, 1, 0, 1])) (by kernel_rfl) 51 #[] #[(vP b6074 0)] lp6088 [{ target := .collected dv6087, args := #[] }] #[(Value.func (.yield lp6088) #[] #[]), (vP b6074 0)] (by rfl) rfl rfl (by kernel_rfl) (by rw [eh6091, elp6088, eL6090, etm6089, edv6087]; rfl) ?_
  refine (it0_bad h6091 f6104 b6074 f6107 lp6088 I6098 E6099 D6101  hX6117 hy6118 h06179).mono fun _ h8 q => ?_
  obtain ⟨q0, q⟩ := q
  rcases q with ⟨Dv, q, qD⟩ | q
  · rw [eI6097] at q
    obtain ⟨eDv, p6182, cgN, hdN, f6180, f6181⟩ := q
    refine ⟨_, p6182, ?_, leftBy_none hp6093 ?_⟩
    · exact fun w => by rw [hs6092] at w; cases w
    have p6183 : At h8 dv6087 (.deferred (some [])) := q0.same _ _ p6096 hd6111
    obtain ⟨h6184, e6185⟩ : ∃ zq, zq = h8.setIfInBounds lp6088 (.loop { L6090 with state := .exhausted }) := ⟨_, rfl⟩
    have f6188 := set_other e6185 f6181 (loop_ne p6182 f6181 rfl)
    have p6189 := p6183.keep fun b r hb q => (Chg.set e6185).same b r q ((fun b hb hb2 => (show ∀ b : Nat, b = lp6088 → b = dv6087 → False from fun b w1 w2 => by omega) b hb2 hb) b hb)
    rw [← e6185]
    have c6190 := q0.then (Chg.set e6185) (fun b hb => .inl (by rw [eD6102]; exact .inl hb))
    have x6191 : Ext h h6184 := (Chg.then (O := fun _ => False) (Chg.ext x6108) c6190 (fun b hb => .inr (hD6110 b hb))).toExt'
    obtain ⟨h6192, e6193⟩ : ∃ zq, zq = h6184.setIfInBounds b6064 (.cells #[(vB false)] 4 (0, 0)) := ⟨_, rfl⟩
    have f6194 := set_same e6193 f6188
    have p6198 := p6189.keep fun b r hb q => (Chg.set e6193).same b r q ((fun (b : Nat) hb => defer_ne p6189 f6188 hb) b hb)
    have x6199 := Ext.setNew x6191 e6193 o6070
    refine wc_upd (n := 200) (T := ⟨fun r i => match r, i with | 5, 0 => some (undef, h6192) | _, _ => none, fun _ => none, none⟩) (x := .ret) (h1 := h6192) []
      (fun q => (storeT Tryd.prog h6184 4 (vP b6064 0) (vB false) = some h6192 ∧ (undef : Value) = undef) ∧ q) (by intro K'; as_aux_lemma => kernel_rfl) (fun _ q => ⟨⟨by rw [e6193]; exact store_cells size4 rfl f6188 (by decide) (by simp) rfl (by kernel_rfl), rfl⟩, q⟩) ?_
    obtain ⟨h6200, e6201⟩ : ∃ zq, zq = h6192.setIfInBounds dv6087 (.deferred none) := ⟨_, rfl⟩
    have f6204 := set_other e6201 f6194 (defer_ne p6198 f6194 rfl)
    have x6202 : Ext h h6200 := Ext.setNew x6199 e6201 (by omega)
    refine end_mark3 (T := ⟨fun _ _ => none, fun _ => none, some [(vB false)]⟩) (dv := dv6087) { tmps := #[(vP t 0), (vS key), (Value.tuple #[]), (vP b6054 0), (vP b6064 0), (Value.tuple #[]), (Value.tuple #[]), (vP t 0), (Value.func (.func 51) #[] #[(vP b6074 0)]), (Value.tuple #[]), (Value.tuple #[]), (Value.tuple #[]), (Value.tuple #[]), (Value.tuple #[]), (Value.tuple #[])], defers := ([{ target := .collected dv6087, args := #[] }] ++ []) } (by kernel_rfl) (.inr rfl) rfl p6198 e6201 (A := (loadT Tryd.prog h6200 4 (vP b6064 0) = some (vB false) ∧ True) ∧ K (vB false) h6200) (by kernel_rfl) ?_
    exact ⟨⟨load_cell agg4 f6204 rfl, trivial⟩, hK _ _ (⟨rfl, x6202⟩)⟩
  · rw [eE6100] at q
    obtain ⟨p6207, cgN, f6206, i6205⟩ := q
    refine ⟨_, p6207, ?_, leftBy_ret rfl ?_⟩
    · exact fun w => by cases w
    obtain ⟨h6209, e6210⟩ : ∃ zq, zq = h8.setIfInBounds lp6088 (.loop { ({ ({ L6090 with state := .busy } : Loop) with state := .done, pending := some .ret } : Loop) with state := .exhausted }) := ⟨_, rfl⟩
    rw [← e6210]
    have c6214 := q0.then (Chg.set e6210) (fun b hb => .inl (by rw [eD6102]; exact .inl hb))
    obtain ⟨h6216, e6217⟩ : ∃ zq, zq = h6209.setIfInBounds dv6087 (.deferred none) := ⟨_, rfl⟩
    exfalso
    exact i6205
set_option maxHeartbeats 4000000 in
theorem openx_bad (h : Heap) {t : Nat} {sa : Option Addr} {n c : Nat} {fr : Nat × Nat} (ht : h[t]? = some (.cells #[.bool false, .slice sa n c] 56 fr)) : WCall Tryd.prog 14 #[(vP t 0)] h (fun v h1 => ∃ oa oc, v = .slice oa 0 oc ∧ Ext h h1) := by
  suffices H : ∀ K : Value → Heap → Prop, (∀ v h1, (fun v h1 => ∃ oa oc, v = .slice oa 0 oc ∧ Ext h h1) v h1 → K v h1) → WCall Tryd.prog 14 #[(vP t 0)] h K from H _ fun _ _ q => q
  intro K hK
  refine wcall_at { tmps := #[(vP t 0), vZ, vZ, vZ, vZ, vZ, vZ, vZ, vZ, vZ, vZ, vZ, vZ, vZ], defers := [] } (by kernel_rfl) ?_
  refine wc_seq' (subc (bodyOf Tryd.prog 14) [0]) (subc (bodyOf Tryd.prog 14) [1]) (by kernel_rfl) ?_
  refine wc_upd (n := 200) (T := ⟨fun r i => match r, i with | _, _ => none, fun _ => none, none⟩) (x := .normal) (h1 := h) [(2, (vL none 0 0))]
    (fun q => q) (by intro K'; as_aux_lemma => kernel_rfl) (fun _ q => q) ?_
  refine wc_seq' (subc (bodyOf Tryd.prog 14) [1, 0]) (subc (bodyOf Tryd.prog 14) [1, 1]) (by kernel_rfl) ?_
  obtain ⟨b6222, eb6223⟩ : ∃ zq, zq = h.size := ⟨_, rfl⟩
  obtain ⟨h6220, e6221⟩ : ∃ zq, zq = h.push (.cells #[(Value.slice none 0 0)] 27 (0, 0)) := ⟨_, rfl⟩
  have f6224 := push_new e6221
  rw [← eb6223] at f6224
  have x6226 : Ext h h6220 := by rw [e6221]; exact Ext.push _ _
  have o6227 : h.size ≤ b6222 := by have := (Ext.refl h).size; omega
  have f6228 := x6226 _ _ ht
  have x6229 := (Ext.refl h).trans x6226
  refine wc_upd (n := 200) (T := ⟨fun r i => match r, i with | 1, 0 => some ((vP b6222 0), h6220) | _, _ => none, fun _ => none, none⟩) (x := .normal) (h1 := h6220) [(3, (vP b6222 0))]
    (fun q => ((vP b6222 0) = (Value.pointer (some ⟨h.size, 0, none⟩)) ∧ h6220 = h.push (.cells #[(vL none 0 0)] 27 (0, 0))) ∧ q) (by intro K'; as_aux_lemma => kernel_rfl) (fun _ q => ⟨⟨by rw [eb6223], e6221⟩, q⟩) ?_
  refine wc_seq' (subc (bodyOf Tryd.prog 14) [1, 1, 0]) (subc (bodyOf Tryd.prog 14) [1, 1, 1]) (by kernel_rfl) ?_
  refine wc_seq' (subc (bodyOf Tryd.prog 14) [1, 1, 0, 0]) (subc (bodyOf Tryd.prog 14) [1, 1, 0, 1]) (by kernel_rfl) ?_
  obtain ⟨_, h6231, s6232, b6230, rfl, f6233, x6234, o6235⟩ := open_fn h6220 t
  have oo6235 : h.size ≤ b6230 := by have := x6229.size; omega
  have f6238 := x6234 _ _ f6228
  have f6239 := x6234 _ _ f6224
  have x6240 := x6229.trans x6234
  refine wc_upd (n := 200) (T := ⟨fun r i => match r, i with | 2, 1 => some ((Value.func (.func 51) #[] #[(vP b6230 0)]), h6231) | _, _ => none, fun _ => none, none⟩) (x := .normal) (h1 := h6231) [(5, (vP t 0)), (6, (Value.func (.func 51) #[] #[(vP b6230 0)]))]
    (fun q => SoundCall Tryd.prog 35 #[(vP t 0)] h6220 (Value.func (.func 51) #[] #[(vP b6230 0)]) h6231 ∧ q) (by intro K'; as_aux_lemma => kernel_rfl) (fun _ q => ⟨s6232, q⟩) ?_
  refine wc_block' 0 (subc (bodyOf Tryd.prog 14) [1, 1, 0, 1, 0]) (by kernel_rfl) ?_
  refine wc_act { tmps := #[(vP t 0), vZ, (vL none 0 0), (vP b6222 0), vZ, (vP t 0), (Value.func (.func 51) #[] #[(vP b6230 0)]), vZ, vZ, vZ, vZ, vZ, vZ, vZ], defers := [] } (by kernel_rfl) ?_
  obtain ⟨dv6241, edv6241⟩ : ∃ zq, zq = h6231.size := ⟨_, rfl⟩
  obtain ⟨lp6242, elp6242⟩ : ∃ zq, zq = h6231.size + 1 := ⟨_, rfl⟩
  obtain ⟨tm6243, etm6243⟩ : ∃ zq : Array Value, zq = #[(vP t 0), (Value.tuple #[]), (Value.slice none 0 0), (vP b6222 0), (Value.tuple #[]), (vP t 0), (Value.func (.func 51) #[] #[(vP b6230 0)]), (Value.tuple #[]), (Value.tuple #[]), (Value.tuple #[]), (Value.tuple #[]), (Value.tuple #[]), (Value.tuple #[]), (Value.tuple #[])] := ⟨_, rfl⟩
  obtain ⟨L6244, eL6244⟩ : ∃ zq : Loop, zq = { state := .ready, pending := none, fn := 0, tmps := tm6243, params := #[7, 8], assign := (subc (bodyOf Tryd.prog 14) [1, 1, 0, 1, 0, 0]), body := (subc (bodyOf Tryd.prog 14) [1, 1, 0, 1, 0, 1]), defers := dv6241 } := ⟨_, rfl⟩
  have hs6246 : L6244.state = .ready := by rw [eL6244]
  have hp6247 : L6244.pending = none := by rw [eL6244]
  obtain ⟨h6245, eh6245⟩ : ∃ zq, zq = (h6231.push (.deferred (some []))).push (.loop L6244) := ⟨_, rfl⟩
  have x6248 : Ext h6231 h6245 := by rw [eh6245]; exact (Ext.push _ _).trans (Ext.push _ _)
  have p6249 : At h6245 lp6242 (.loop L6244) := by rw [eh6245, elp6242, show h6231.size + 1 = (h6231.push (.deferred (some []))).size by simp]; exact push_new rfl
  have p6250 : At h6245 dv6241 (.deferred (some [])) := by rw [eh6245, edv6241]; exact push_old (b := h6231.size) rfl (push_new rfl)
  have sh6245 : lp6242 < h6245.size := p6249.blk_lt rfl
  have z6257 : h.size ≤ h6231.size := x6240.size
  have f6258 := x6248 _ _ f6238
  have f6259 := x6248 _ _ f6239
  have f6260 := x6248 _ _ f6233
  have x6261 := x6240.trans x6248
  have z6262 : h.size ≤ h6245.size := x6261.size
  obtain ⟨D6255, eD6256⟩ : ∃ zq : Nat → Prop, zq = (fun (out : List Int) (oa : Option Addr) (oc : Nat) => (fun b => b = lp6242 ∨ b = b6222 ∨ (blk (Value.slice oa (out.length) (oc))) b ∨ False)) ([]) (none) (0) := ⟨_, rfl⟩
  have hD6263 : ∀ b, D6255 b → h.size ≤ b := by
    rw [eD6256]; rintro b (w | w | w | w)
    · have w1 : b = lp6242 := w; omega
    · have w1 : b = b6222 := w; have := o6227; omega
    · exact w.elim
    · exact w.elim
  have hd6264 : ¬ D6255 dv6241 := by
    rw [eD6256]; rintro (w | w | w | w)
    · have w1 : dv6241 = lp6242 := w; omega
    · have w1 : dv6241 = b6222 := w; have := row_lt f6239; omega
    · exact w.elim
    · exact w.elim
  obtain ⟨I6252, eI6251⟩ : ∃ zq : Nat → (Nat → Prop) → Heap → Prop, zq = fun (kk : Nat) (Dv : Nat → Prop) (h' : Heap) => ∃ (out : List Int), ∃ (oa : Option Addr), ∃ (oc : Nat), Dv = (fun b => b = lp6242 ∨ b = b6222 ∨ (blk (Value.slice oa (out.length) (oc))) b ∨ False) ∧ At h' lp6242 (.loop L6244) ∧ Chg D6255 h6245 h' ∧ (∀ z, Dv z → D6255 z ∨ h6245.size ≤ z) ∧ h'[b6222]? = some (.cells #[(Value.slice oa (out.length) (oc))] 27 (0, 0)) ∧ out = [] ∧ OwnAt h' 3 icell out (Value.slice oa (out.length) (oc)) := ⟨_, rfl⟩
  obtain ⟨E6253, eE6254⟩ : ∃ zq : Heap → Prop, zq = fun _ => False := ⟨_, rfl⟩
  have hX6271 : ∀ k D h' h'', I6252 k D h' → Ext h' h'' → I6252 k D h'' := by
    rw [eI6251]
    rintro k _ h' h'' ⟨out, oa, oc, rfl, p6268, c6269, d6270, f6265, i6266, p6267⟩ xx
    exact ⟨out, oa, oc, rfl, xx _ _ p6268, c6269.trans (Chg.ext xx), d6270, xx _ _ f6265, i6266, p6267.keep fun b r _ q => xx b r q⟩
  have hy6272 : ∀ k y D h', (([] : List (Int × MoveM)))[k]? = some y → I6252 k D h' → ∃ b h'' D', SoundYield Tryd.prog lp6242 #[(vI (y.1)), (Value.agg #[(vS y.2.rf), (vS y.2.rt), (vI (y.2.f)), (vI (y.2.t)), (vI (y.2.st)), (vS y.2.d)])] h' (.bool b) h'' ∧ Chg D h' h'' ∧ (∀ z, D' z → D z ∨ h'.size ≤ z) ∧ (if b = true then I6252 (k + 1) D' h'' else E6253 h'') := by
    rw [eI6251]
    rintro k y _ hr hk ⟨out, oa, oc, rfl, p6268, c6269, d6270, f6265, i6266, p6267⟩
    obtain ⟨Dc, eDc⟩ : ∃ zq : Nat → Prop, zq = (fun b => b = lp6242 ∨ b = b6222 ∨ (blk (Value.slice oa (out.length) (oc))) b ∨ False) := ⟨_, rfl⟩
    rw [← eDc] at d6270
    rw [← eI6251]
    rw [← eDc]
    have lo1 : out.length ≤ 64 := by rw [i6266]; decide
    suffices hw : ∃ b h'', SoundYield Tryd.prog lp6242 #[(vI (y.1)), (Value.agg #[(vS y.2.rf), (vS y.2.rt), (vI (y.2.f)), (vI (y.2.t)), (vI (y.2.st)), (vS y.2.d)])] hr (.bool b) h'' ∧ (fun b h'' => ∃ D', Chg Dc hr h'' ∧ (∀ z, D' z → Dc z ∨ hr.size ≤ z) ∧ (if b = true then I6252 (k + 1) D' h'' else E6253 h'')) b h'' from by
      obtain ⟨b, h'', q1, D', q2, q3, q4⟩ := hw
      exact ⟨b, h'', D', q1, q2, q3, q4⟩
    refine w_round (args := #[(vI (y.1)), (Value.agg #[(vS y.2.rf), (vS y.2.rt), (vI (y.2.f)), (vI (y.2.t)), (vI (y.2.st)), (vS y.2.d)])]) (K := (fun b h'' => ∃ D', Chg Dc hr h'' ∧ (∀ z, D' z → Dc z ∨ hr.size ≤ z) ∧ (if b = true then I6252 (k + 1) D' h'' else E6253 h''))) p6268 hs6246 (by rw [eL6244]; rfl) { tmps := #[(vP t 0), (Value.tuple #[]), (Value.slice none 0 0), (vP b6222 0), (Value.tuple #[]), (vP t 0), (Value.func (.func 51) #[] #[(vP b6230 0)]), (vI (y.1)), (Value.agg #[(vS y.2.rf), (vS y.2.rt), (vI (y.2.f)), (vI (y.2.t)), (vI (y.2.st)), (vS y.2.d)]), (Value.tuple #[]), (Value.tuple #[]), (Value.tuple #[]), (Value.tuple #[]), (Value.tuple #[])], defers := [] } (by rw [eL6244, etm6243]; kernel_rfl) (subc (bodyOf Tryd.prog 14) [1, 1, 0, 1, 0, 0]) (subc (bodyOf Tryd.prog 14) [1, 1, 0, 1, 0, 1]) (by rw [eL6244]) (by rw [eL6244]) ?_
    refine wc_upd (n := 200) (T := ⟨fun r i => match r, i with | _, _ => none, fun _ => none, none⟩) (x := .normal) (h1 := hr) [(4, (vI y.1))]
      (fun q => q) (by intro K'; as_aux_lemma => kernel_rfl) (fun _ q => q) ?_
    refine ⟨rfl, L6244, p6268, hs6246, ?_⟩
    obtain ⟨h6273, e6274⟩ : ∃ zq, zq = hr.setIfInBounds lp6242 (.loop { L6244 with state := .busy }) := ⟨_, rfl⟩
    have p6275 : At h6273 lp6242 (.loop { L6244 with state := .busy }) := set_same e6274 p6268
    have f6276 := set_other e6274 f6265 (loop_ne p6268 f6265 rfl)
    have p6277 := p6267.keep fun b r hb q => (Chg.set e6274).same b r q ((fun b hb hb2 => (p6267).celled.loop p6268 b hb hb2) b hb)
    have x6278 := (Chg.refl (O := Dc) hr).then (Chg.set e6274) (fun b hb => .inl ((fun b hb => by rw [eDc]; exact .inl hb) b hb))
    rw [← e6274]
    obtain ⟨b6281, eb6282⟩ : ∃ zq, zq = h6273.size := ⟨_, rfl⟩
    obtain ⟨h6279, e6280⟩ : ∃ zq, zq = h6273.push (.cells #[(vI (y.1))] 3 (0, 0)) := ⟨_, rfl⟩
    have f6283 := push_new e6280
    rw [← eb6282] at f6283
    have x6287 : Ext h6273 h6279 := by rw [e6280]; exact Ext.push _ _
    have o6288 : hr.size ≤ b6281 := by have := x6278.size; omega
    have f6289 := x6287 _ _ f6276
    have p6290 := p6277.keep fun b r _ q => x6287 b r q
    have p6291 := p6275.keep fun b r _ q => x6287 b r q
    have x6292 := x6278.trans (Chg.ext x6287)
    obtain ⟨w6293, h6294, e6295, p6296, c6297, n6298, z6299⟩ := own_append und27 sizeb3 zero3 rfl (by decide) icell_size (x := (y.1 : Int)) p6290 f6283 rfl (by omega) (by unfold maxLen; omega)
    obtain ⟨a6300, c6301, rfl⟩ := (p6296.slice icell_size).len
    have z6302 : hr.size ≤ h6279.size := x6292.size
    have x6303 := x6292.then c6297 (fun b hb => .inl ((show ∀ b, (blk (Value.slice oa (out.length) (oc))) b → Dc b from fun b hb => by rw [eDc]; exact .inr (.inr (.inl hb))) b hb))
    have f6304 := c6297.same _ _ f6289 (fun hb => p6290.ne f6289 (by decide) hb rfl)
    have p6306 := p6291.keep fun b r hb q => c6297.same b r q ((fun b hb hb2 => (p6290).celled.loop p6291 b hb2 hb) b hb)
    have n6308 : ∀ zz, blk (Value.slice a6300 ((out ++ [(y.1 : Int)]).length) (c6301)) zz → ¬ zz = b6222 := fun zz hz ez => by have := n6298 zz hz; have := row_lt f6289; omega
    have n6310 : ∀ zz, blk (Value.slice a6300 ((out ++ [(y.1 : Int)]).length) (c6301)) zz → ¬ (fun q => q = lp6242) zz := fun zz hz ez => by have := n6298 zz hz; have := p6291.blk_lt ez; omega
    have o6311 : ∀ zz, blk (Value.slice a6300 ((out ++ [(y.1 : Int)]).length) (c6301)) zz → hr.size ≤ zz := fun zz hz => by have := n6298 zz hz; have := z6302; omega
    obtain ⟨h6312, e6313⟩ : ∃ zq, zq = h6294.setIfInBounds b6222 (.cells #[(Value.slice a6300 ((out ++ [(y.1 : Int)]).length) (c6301))] 27 (0, 0)) := ⟨_, rfl⟩
    have f6314 := set_same e6313 f6304
    have p6317 := p6306.keep fun b r hb q => (Chg.set e6313).same b r q ((fun (b : Nat) hb => loop_ne p6306 f6304 hb) b hb)
    have p6318 := p6296.keep fun b r hb q => (Chg.set e6313).same b r q (n6308 b hb)
    have x6319 := x6303.then (Chg.set e6313) (fun b hb => by subst hb; exact (.inl (by rw [eDc]; exact .inr (.inl rfl))))
    refine wc_upd (n := 200) (T := ⟨fun r i => match r, i with | 4, 0 => some ((vL oa out.length oc), h6273) | 4, 2 => some ((vL (some ⟨b6281, 0, none⟩) 1 1), h6279) | 4, 3 => some ((Value.slice a6300 ((out ++ [(y.1 : Int)]).length) (c6301)), h6294) | 4, 4 => some (undef, h6312) | _, _ => none, fun _ => none, none⟩) (x := .normal) (h1 := h6312) [(9, (vL oa out.length oc)), (10, (vI y.1)), (11, (vL (some ⟨b6281, 0, none⟩) 1 1)), (12, (Value.slice a6300 ((out ++ [(y.1 : Int)]).length) (c6301)))]
      (fun q => (loadT Tryd.prog h6273 27 (vP b6222 0) = some (vL oa out.length oc) ∧ h6273 = h6273) ∧ ((vL (some ⟨b6281, 0, none⟩) 1 1) = (vL (some ⟨h6273.size, 0, none⟩) 1 1) ∧ h6279 = h6273.push (.cells #[(vI y.1)] 3 (0, 0))) ∧ appendA Tryd.prog h6279 #[27, 27] #[(vL oa out.length oc), (vL (some ⟨b6281, 0, none⟩) 1 1)] = some ((Value.slice a6300 ((out ++ [(y.1 : Int)]).length) (c6301)), h6294) ∧ (storeT Tryd.prog h6294 27 (vP b6222 0) (Value.slice a6300 ((out ++ [(y.1 : Int)]).length) (c6301)) = some h6312 ∧ (undef : Value) = undef) ∧ q) (by intro K'; as_aux_lemma => kernel_rfl) (fun _ q => ⟨⟨load_cell agg27 f6276 rfl, rfl⟩, ⟨by rw [eb6282], e6280⟩, e6295, ⟨by rw [e6313]; exact store_cells size27 rfl f6304 (by decide) (by simp) rfl (by kernel_rfl), rfl⟩, q⟩) ?_
    refine ⟨_, p6317, ?_⟩
    obtain ⟨h6320, e6321⟩ : ∃ zq, zq = h6312.setIfInBounds lp6242 (.loop { ({ L6244 with state := .busy } : Loop) with state := .ready, pending := none }) := ⟨_, rfl⟩
    have p6322 : At h6320 lp6242 (.loop { ({ L6244 with state := .busy } : Loop) with state := .ready, pending := none }) := set_same e6321 p6317
    have f6323 := set_other e6321 f6314 (loop_ne p6317 f6314 rfl)
    have p6325 := p6318.keep fun b r hb q => (Chg.set e6321).same b r q (n6310 b hb)
    have x6326 := x6319.then (Chg.set e6321) (fun b hb => .inl ((fun b hb => by rw [eDc]; exact .inl hb) b hb))
    have dnew : ∀ z, ((fun (out : List Int) (oa : Option Addr) (oc : Nat) => (fun b => b = lp6242 ∨ b = b6222 ∨ (blk (Value.slice oa (out.length) (oc))) b ∨ False)) ((out ++ [(y.1 : Int)])) (a6300) (c6301)) z → Dc z ∨ hr.size ≤ z := by
      intro z hz; rcases hz with w | w | w | w
      · exact .inl (by rw [eDc]; exact .inl w)
      · exact .inl (by rw [eDc]; exact .inr (.inl w))
      · exact .inr (o6311 z w)
      · exact w.elim
    refine (show ∃ D', Chg Dc hr (h6320) ∧ (∀ z, D' z → Dc z ∨ hr.size ≤ z) ∧ (if true = true then I6252 (k + 1) D' h6320 else E6253 h6320) from ?_) |> (fun w => by rw [e6321] at w; exact w)
    refine ⟨(fun (out : List Int) (oa : Option Addr) (oc : Nat) => (fun b => b = lp6242 ∨ b = b6222 ∨ (blk (Value.slice oa (out.length) (oc))) b ∨ False)) ((out ++ [(y.1 : Int)])) (a6300) (c6301), x6326, dnew, ?_⟩
    rw [if_pos rfl]
    rw [eI6251]
    exact ⟨(out ++ [(y.1 : Int)]), a6300, c6301, rfl, (by have q := p6322; rw [loop_back hs6246 hp6247] at q; exact q), c6269.then (x6326) d6270, fun z hz => (dnew z hz).elim (d6270 z) (fun w => .inr (by have := c6269.size; omega)), f6323, absurd hk (by simp), p6325⟩
  have h06327 : I6252 0 D6255 h6245 := by rw [eI6251]; exact ⟨[], none, 0, eD6256, p6249, Chg.refl h6245, fun z hz => .inl hz, f6259, rfl, .inl ⟨rfl, rfl⟩⟩
  refine wc_range_any (h1 := h6245) (c := (subc (bodyOf Tryd.prog 14) [1, 1, 0, 1, 0])) (g := .tmp 6) (params := #[7, 8]) (assign := (subc (bodyOf Tryd.prog 14) [1, 1, 0, 1, 0, 0])) (body := (subc (bodyOf Tryd.prog 14) [1, 1, 0, 1, 0, 1])) (by kernel_rfl) 51 #[] #[(vP b6230 0)] lp6242 [{ target := .collected dv6241, args := #[] }] #[(Value.func (.yield lp6242) #[] #[]), (vP b6230 0)] (by rfl) rfl rfl (by kernel_rfl) (by rw [eh6245, elp6242, eL6244, etm6243, edv6241]; rfl) ?_
  refine (it0_bad h6245 f6258 b6230 f6260 lp6242 I6252 E6253 D6255  hX6271 hy6272 h06327).mono fun _ h8 q => ?_
  obtain ⟨q0, q⟩ := q
  rcases q with ⟨Dv, q, qD⟩ | q
  · rw [eI6251] at q
    obtain ⟨out, oa, oc, eDv, p6331, cgN, hdN, f6328, i6329, p6330⟩ := q
    refine ⟨_, p6331, ?_, leftBy_none hp6247 ?_⟩
    · exact fun w => by rw [hs6246] at w; cases w
    have p6332 : At h8 dv6241 (.deferred (some [])) := q0.same _ _ p6250 hd6264
    obtain ⟨h6333, e6334⟩ : ∃ zq, zq = h8.setIfInBounds lp6242 (.loop { L6244 with state := .exhausted }) := ⟨_, rfl⟩
    have f6336 := set_other e6334 f6328 (loop_ne p6331 f6328 rfl)
    have p6338 := p6332.keep fun b r hb q => (Chg.set e6334).same b r q ((fun b hb hb2 => (show ∀ b : Nat, b = lp6242 → b = dv6241 → False from fun b w1 w2 => by omega) b hb2 hb) b hb)
    rw [← e6334]
    have c6339 := q0.then (Chg.set e6334) (fun b hb => .inl (by rw [eD6256]; exact .inl hb))
    have x6340 : Ext h h6333 := (Chg.then (O := fun _ => False) (Chg.ext x6261) c6339 (fun b hb => .inr (hD6263 b hb))).toExt'
    refine wc_upd (n := 200) (T := ⟨fun r i => match r, i with | 5, 0 => some ((vL oa out.length oc), h6333) | _, _ => none, fun _ => none, none⟩) (x := .ret) (h1 := h6333) [(13, (vL oa out.length oc)), (2, (vL oa out.length oc))]
      (fun q => (loadT Tryd.prog h6333 27 (vP b6222 0) = some (vL oa out.length oc) ∧ h6333 = h6333) ∧ q) (by intro K'; as_aux_lemma => kernel_rfl) (fun _ q => ⟨⟨load_cell agg27 f6336 rfl, rfl⟩, q⟩) ?_
    obtain ⟨h6341, e6342⟩ : ∃ zq, zq = h6333.setIfInBounds dv6241 (.deferred none) := ⟨_, rfl⟩
    have x6343 : Ext h h6341 := Ext.setNew x6340 e6342 (by omega)
    have eo := i6329
    refine end_mark3 (T := ⟨fun _ _ => none, fun _ => none, none⟩) (dv := dv6241) { tmps := #[(vP t 0), (Value.tuple #[]), (Value.slice oa (out.length) (oc)), (vP b6222 0), (Value.tuple #[]), (vP t 0), (Value.func (.func 51) #[] #[(vP b6230 0)]), (Value.tuple #[]), (Value.tuple #[]), (Value.tuple #[]), (Value.tuple #[]), (Value.tuple #[]), (Value.tuple #[]), (Value.slice oa (out.length) (oc))], defers := ([{ target := .collected dv6241, args := #[] }] ++ []) } (by kernel_rfl) (.inr rfl) rfl p6338 e6342 (A := K (Value.slice oa (out.length) (oc)) h6341) (by kernel_rfl) ?_
    exact hK _ _ (⟨oa, oc, by simp [eo], x6343⟩)
  · rw [eE6254] at q; exact q.elim
set_option maxRecDepth 10000 in
set_option maxHeartbeats 4000000 in
theorem law_nil (h : Heap) (k9 : Int) (hk9 : -9223372036854775808 ≤ k9 ∧ k9 ≤ 9223372036854775807) (s1 s2 : ByteArray) (f9 : Int) (hf9 : -9223372036854775808 ≤ f9 ∧ f9 ≤ 9223372036854775807) (g9 : Int) (hg9 : -9223372036854775808 ≤ g9 ∧ g9 ≤ 9223372036854775807) (n9 : Int) (hn9 : -9223372036854775808 ≤ n9 ∧ n9 ≤ 9223372036854775807) (s6 : ByteArray) : WCall Tryd.prog 8 #[(Value.agg #[(vI (k9)), (vS s1), (vS s2), (vI (f9)), (vI (g9)), (vI (n9)), (vS s6)])] h (fun v h1 => v = .bool true ∧ Ext h h1) := by
  suffices H : ∀ K : Value → Heap → Prop, (∀ v h1, (fun v h1 => v = .bool true ∧ Ext h h1) v h1 → K v h1) → WCall Tryd.prog 8 #[(Value.agg #[(vI (k9)), (vS s1), (vS s2), (vI (f9)), (vI (g9)), (vI (n9)), (vS s6)])] h K from H _ fun _ _ q => q
  intro K hK
  refine wcall_at { tmps := #[(vA #[(vI k9), (vS s1), (vS s2), (vI f9), (vI g9), (vI n9), (vS s6)]), vZ, vZ, vZ, vZ, vZ, vZ, vZ, vZ, vZ, vZ, vZ, vZ, vZ, vZ, vZ, vZ, vZ, vZ, vZ, vZ, vZ, vZ, vZ, vZ, vZ, vZ, vZ, vZ, vZ, vZ, vZ, vZ, vZ, vZ, vZ, vZ, vZ, vZ, vZ, vZ, vZ, vZ, vZ, vZ, vZ, vZ, vZ, vZ, vZ, vZ, vZ, vZ, vZ, vZ, vZ, vZ, vZ, vZ, vZ, vZ, vZ, vZ, vZ, vZ, vZ, vZ, vZ, vZ, vZ, vZ, vZ, vZ, vZ, vZ, vZ, vZ, vZ, vZ, vZ, vZ, vZ, vZ, vZ, vZ, vZ, vZ, vZ, vZ, vZ, vZ, vZ, vZ, vZ, vZ, vZ, vZ, vZ, vZ, vZ, vZ, vZ, vZ], defers := [] } (by kernel_rfl) ?_
  refine wc_seq' (subc (bodyOf Tryd.prog 8) [0]) (subc (bodyOf Tryd.prog 8) [1]) (by kernel_rfl) ?_
  obtain ⟨b6348, eb6349⟩ : ∃ zq, zq = h.size := ⟨_, rfl⟩
  obtain ⟨h6346, e6347⟩ : ∃ zq, zq = h.push (.cells #[(vI (k9)), (vS s1), (vS s2), (vI (f9)), (vI (g9)), (vI (n9)), (vS s6)] 50 (0, 0)) := ⟨_, rfl⟩
  have f6350 := push_new e6347
  rw [← eb6349] at f6350
  have x6351 : Ext h h6346 := by rw [e6347]; exact Ext.push _ _
  have o6352 : h.size ≤ b6348 := by have := (Ext.refl h).size; omega
  have x6353 := (Ext.refl h).trans x6351
  refine wc_upd (n := 200) (T := ⟨fun r i => match r, i with | 0, 0 => some ((vP b6348 0), h6346) | _, _ => none, fun _ => none, none⟩) (x := .normal) (h1 := h6346) [(1, (vP b6348 0)), (2, (vB false))]
    (fun q => ((vP b6348 0) = (Value.pointer (some ⟨h.size, 0, none⟩)) ∧ h6346 = h.push (.cells #[(vI k9), (vS s1), (vS s2), (vI f9), (vI g9), (vI n9), (vS s6)] 50 (0, 0))) ∧ q) (by intro K'; as_aux_lemma => kernel_rfl) (fun _ q => ⟨⟨by rw [eb6349], e6347⟩, q⟩) ?_
  refine wc_seq' (subc (bodyOf Tryd.prog 8) [1, 0]) (subc (bodyOf Tryd.prog 8) [1, 1]) (by kernel_rfl) ?_
  obtain ⟨b6356, eb6357⟩ : ∃ zq, zq = h6346.size := ⟨_, rfl⟩
  obtain ⟨h6354, e6355⟩ : ∃ zq, zq = h6346.push (.cells #[(vI (k9)), (vS s1), (vS s2), (vI (f9)), (vI (g9)), (vI (n9)), (vS s6)] 50 (0, 0)) := ⟨_, rfl⟩
  have f6358 := push_new e6355
  rw [← eb6357] at f6358
  have x6360 : Ext h6346 h6354 := by rw [e6355]; exact Ext.push _ _
  have o6361 : h.size ≤ b6356 := by have := x6353.size; omega
  have f6362 := x6360 _ _ f6350
  have x6363 := x6353.trans x6360
  have p6369 : SliceAt h6354 scell 7 ([StepA.mk (k9) s1 s2 (f9) (g9) (n9) s6] : List StepA) (Value.slice (some ⟨b6356, 0, none⟩) 1 1) := .inr ⟨b6356, 0, 1, _, _, _, rfl, ⟨f6358, by decide, by simp, by simp, rfl⟩⟩
  obtain ⟨_, h6366, s6367, b6364, rfl, q6365, x6368⟩ := short_ok h6354 ([StepA.mk (k9) s1 s2 (f9) (g9) (n9) s6] : List StepA) _ _ p6369 (show (1 : Nat) ≤ 9223372036854775807 by decide) (fun x hx => by rw [List.mem_singleton.1 hx]; exact hn9)
  have f6370 := x6368 _ _ f6362
  have x6372 := x6363.trans x6368
  rcases Bool.eq_false_or_eq_true (b6364) with c6373 | c6373
  · refine wc_upd (n := 200) (T := ⟨fun r i => match r, i with | 1, 0 => some ((vA #[(vI k9), (vS s1), (vS s2), (vI f9), (vI g9), (vI n9), (vS s6)]), h6346) | 1, 1 => some ((vL (some ⟨b6356, 0, none⟩) 1 1), h6354) | 1, 2 => some ((vB true), h6366) | _, _ => none, fun _ => none, none⟩) (x := .normal) (h1 := h6366) [(11, (vA #[(vI k9), (vS s1), (vS s2), (vI f9), (vI g9), (vI n9), (vS s6)])), (12, (vL (some ⟨b6356, 0, none⟩) 1 1)), (13, (vB true)), (14, (vB false))]
      (fun q => (loadT Tryd.prog h6346 50 (vP b6348 0) = some (vA #[(vI k9), (vS s1), (vS s2), (vI f9), (vI g9), (vI n9), (vS s6)]) ∧ h6346 = h6346) ∧ ((vL (some ⟨b6356, 0, none⟩) 1 1) = (vL (some ⟨h6346.size, 0, none⟩) 1 1) ∧ h6354 = h6346.push (.cells #[(vI k9), (vS s1), (vS s2), (vI f9), (vI g9), (vI n9), (vS s6)] 50 (0, 0))) ∧ SoundCall Tryd.prog 11 #[(vL (some ⟨b6356, 0, none⟩) 1 1)] h6354 (vB true) h6366 ∧ q) (by intro K'; as_aux_lemma => kernel_rfl) (fun _ q => ⟨⟨load_agg agg50 size50 f6350 (by simp) (by kernel_rfl), rfl⟩, ⟨by rw [eb6357], e6355⟩, (by rw [← c6373]; exact s6367), q⟩) ?_
    refine wc_seq' (subc (bodyOf Tryd.prog 8) [1, 1, 0]) (subc (bodyOf Tryd.prog 8) [1, 1, 1]) (by kernel_rfl) ?_
    refine wc_upd (n := 200) (T := ⟨fun r i => match r, i with | _, _ => none, fun _ => none, none⟩) (x := .normal) (h1 := h6366) [(3, vN)]
      (fun q => q) (by intro K'; as_aux_lemma => kernel_rfl) (fun _ q => q) ?_
    refine wc_seq' (subc (bodyOf Tryd.prog 8) [1, 1, 1, 0]) (subc (bodyOf Tryd.prog 8) [1, 1, 1, 1]) (by kernel_rfl) ?_
    obtain ⟨b6376, eb6377⟩ : ∃ zq, zq = h6366.size := ⟨_, rfl⟩
    obtain ⟨h6374, e6375⟩ : ∃ zq, zq = h6366.push (.cells #[(vB false), (Value.slice none 0 0)] 56 (0, 0)) := ⟨_, rfl⟩
    have f6378 := push_new e6375
    rw [← eb6377] at f6378
    have x6381 : Ext h6366 h6374 := by rw [e6375]; exact Ext.push _ _
    have o6382 : h.size ≤ b6376 := by have := x6372.size; omega
    have f6383 := x6381 _ _ f6370
    have x6385 := x6372.trans x6381
    obtain ⟨b6388, eb6389⟩ : ∃ zq, zq = h6374.size := ⟨_, rfl⟩
    obtain ⟨h6386, e6387⟩ : ∃ zq, zq = h6374.push (.cells #[(Value.pointer none), (vP b6376 0)] 25 (0, 0)) := ⟨_, rfl⟩
    have f6390 := push_new e6387
    rw [← eb6389] at f6390
    have x6394 : Ext h6374 h6386 := by rw [e6387]; exact Ext.push _ _
    have o6395 : h.size ≤ b6388 := by have := x6385.size; omega
    have f6396 := x6394 _ _ f6383
    have f6398 := x6394 _ _ f6378
    have x6399 := x6385.trans x6394
    refine wc_upd (n := 200) (T := ⟨fun r i => match r, i with | 4, 2 => some ((vP b6376 0), h6374) | 4, 3 => some ((vL (some ⟨b6388, 0, none⟩) 2 2), h6386) | _, _ => none, fun _ => none, none⟩) (x := .normal) (h1 := h6386) [(16, vN), (17, (vA #[(vB false), (vL none 0 0)])), (18, (vP b6376 0)), (19, (vL (some ⟨b6388, 0, none⟩) 2 2)), (4, (vL (some ⟨b6388, 0, none⟩) 2 2))]
      (fun q => ((vP b6376 0) = (Value.pointer (some ⟨h6366.size, 0, none⟩)) ∧ h6374 = h6366.push (.cells #[(vB false), (vL none 0 0)] 56 (0, 0))) ∧ ((vL (some ⟨b6388, 0, none⟩) 2 2) = (vL (some ⟨h6374.size, 0, none⟩) 2 2) ∧ h6386 = h6374.push (.cells #[vN, (vP b6376 0)] 25 (0, 0))) ∧ q) (by intro K'; as_aux_lemma => kernel_rfl) (fun _ q => ⟨⟨by rw [eb6377], e6375⟩, ⟨by rw [eb6389], e6387⟩, q⟩) ?_
    refine wc_seq' (subc (bodyOf Tryd.prog 8) [1, 1, 1, 1, 0]) (subc (bodyOf Tryd.prog 8) [1, 1, 1, 1, 1]) (by kernel_rfl) ?_
    refine wc_seq' (subc (bodyOf Tryd.prog 8) [1, 1, 1, 1, 0, 0]) (subc (bodyOf Tryd.prog 8) [1, 1, 1, 1, 0, 1]) (by kernel_rfl) ?_
    refine wc_upd (n := 200) (T := ⟨fun r i => match r, i with | _, _ => none, fun _ => none, none⟩) (x := .normal) (h1 := h6386) [(5, (vI 0))]
      (fun q => q) (by intro K'; as_aux_lemma => kernel_rfl) (fun _ q => q) ?_
    refine wc_block' 0 (subc (bodyOf Tryd.prog 8) [1, 1, 1, 1, 0, 1, 0]) (by kernel_rfl) ?_
    refine wc_once (subc (bodyOf Tryd.prog 8) [1, 1, 1, 1, 0, 1, 0, 0]) (by kernel_rfl) ?_
    obtain ⟨_, hh6400, sn6401, rfl, x6402⟩ := start_nil h6386 s1 s2 (f9) (g9)
    have f6403 := x6402 _ _ f6396
    have f6405 := x6402 _ _ f6398
    have f6406 := x6402 _ _ f6390
    have x6407 := x6399.trans x6402
    obtain ⟨_, hh6408, sn6409, rfl, x6410⟩ := get_nil hh6400 (n9)
    have f6411 := x6410 _ _ f6403
    have f6413 := x6410 _ _ f6405
    have f6414 := x6410 _ _ f6406
    have x6415 := x6407.trans x6410
    obtain ⟨b6418, eb6419⟩ : ∃ zq, zq = hh6408.size := ⟨_, rfl⟩
    obtain ⟨h6416, e6417⟩ : ∃ zq, zq = hh6408.push (.cells #[(vS .empty), (vS .empty), (vI 0), (vI 0), (vI 0), (vS .empty)] 32 (0, 0)) := ⟨_, rfl⟩
    have f6420 := push_new e6417
    rw [← eb6419] at f6420
    have n6421 : b6418 ≠ b6348 := by have := row_lt f6411; omega
    have n6423 : b6418 ≠ b6376 := by have := row_lt f6413; omega
    have n6424 : b6418 ≠ b6388 := by have := row_lt f6414; omega
    have x6425 : Ext hh6408 h6416 := by rw [e6417]; exact Ext.push _ _
    have o6426 : h.size ≤ b6418 := by have := x6415.size; omega
    have f6427 := x6425 _ _ f6411
    have f6429 := x6425 _ _ f6413
    have f6430 := x6425 _ _ f6414
    have x6431 := x6415.trans x6425
    obtain ⟨h6432, e6433⟩ : ∃ zq, zq = h6416.setIfInBounds b6418 (.cells #[(vS .empty), (vS .empty), (vI 0), (vI 0), (vI 0), (vS .empty)] 32 (0, 0)) := ⟨_, rfl⟩
    have f6434 := set_same e6433 f6420
    have f6435 := set_other e6433 f6427 n6421
    have f6437 := set_other e6433 f6429 n6423
    have f6438 := set_other e6433 f6430 n6424
    have x6440 := Ext.setNew x6431 e6433 o6426
    obtain ⟨_, hh6441, sn6442, rfl, x6443⟩ := given_nil h6432 (n9) s6
    have f6444 := x6443 _ _ f6435
    have f6446 := x6443 _ _ f6437
    have f6447 := x6443 _ _ f6438
    have x6449 := x6440.trans x6443
    obtain ⟨_, hh6450, sn6451, rfl, x6452⟩ := taken_nil hh6441 (n9)
    have f6453 := x6452 _ _ f6444
    have f6455 := x6452 _ _ f6446
    have f6456 := x6452 _ _ f6447
    have x6458 := x6449.trans x6452
    obtain ⟨_, hh6459, sn6460, rfl, x6461⟩ := busy_nil hh6450 s1
    have f6462 := x6461 _ _ f6453
    have f6464 := x6461 _ _ f6455
    have f6465 := x6461 _ _ f6456
    have x6467 := x6458.trans x6461
    obtain ⟨_, hh6470, sn6471, w6468, c6469, rfl, x6472⟩ := openx_nil hh6459
    have f6473 := x6472 _ _ f6462
    have f6475 := x6472 _ _ f6464
    have f6476 := x6472 _ _ f6465
    have x6478 := x6467.trans x6472
    obtain ⟨_, hh6479, sn6480, rfl, x6481⟩ := len_nil hh6470 
    have f6482 := x6481 _ _ f6473
    have f6484 := x6481 _ _ f6475
    have f6485 := x6481 _ _ f6476
    have x6487 := x6478.trans x6481
    obtain ⟨_, hh6488, sn6489, rfl, x6490⟩ := copy_nil hh6479 
    have f6491 := x6490 _ _ f6482
    have f6493 := x6490 _ _ f6484
    have f6494 := x6490 _ _ f6485
    have x6496 := x6487.trans x6490
    refine wc_upd (n := 200) (T := ⟨fun r i => match r, i with | 8, 3 => some (vN, h6386) | 9, 2 => some ((vA #[(vS s1), (vS s2)]), h6386) | 9, 4 => some ((vI f9), h6386) | 9, 6 => some ((vI g9), h6386) | 9, 7 => some ((vT #[(vI 0), (vI 1)]), hh6400) | 10, 2 => some ((vI n9), hh6400) | 10, 3 => some ((vT #[(vA #[(vS .empty), (vS .empty), (vI 0), (vI 0), (vI 0), (vS .empty)]), (vI 1)]), hh6408) | 10, 7 => some ((vP b6418 0), h6416) | 10, 8 => some (undef, h6432) | 11, 7 => some ((vA #[(vS .empty), (vS .empty), (vI 0), (vI 0), (vI 0), (vS .empty)]), h6432) | 11, 9 => some ((vB false), h6432) | 11, 18 => some ((vI n9), h6432) | 11, 20 => some ((vS s6), h6432) | 11, 21 => some ((vI 1), hh6441) | 11, 27 => some ((vI n9), hh6441) | 11, 28 => some ((vI 1), hh6450) | 11, 35 => some ((vS s1), hh6450) | 11, 36 => some ((vB false), hh6459) | 11, 40 => some ((vL w6468 0 c6469), hh6470) | 11, 46 => some ((vI 0), hh6479) | 11, 51 => some (vN, hh6488) | _, _ => none, fun _ => none, none⟩) (x := .normal) (h1 := hh6488) [(20, (vI 0)), (21, (vL (some ⟨b6388, 0, none⟩) 2 2)), (22, (vI 2)), (23, (vB true)), (26, (vL (some ⟨b6388, 0, none⟩) 2 2)), (27, (vI 0)), (28, (vP b6388 0)), (29, vN), (6, vN), (31, vN), (32, (vP b6348 1)), (33, (vA #[(vS s1), (vS s2)])), (34, (vP b6348 3)), (35, (vI f9)), (36, (vP b6348 4)), (37, (vI g9)), (38, (vT #[(vI 0), (vI 1)])), (30, (vT #[(vI 0), (vI 1)])), (39, (vI 0)), (40, (vI 1)), (7, (vI 0)), (8, (vI 1)), (42, vN), (43, (vP b6348 5)), (44, (vI n9)), (45, (vT #[(vA #[(vS .empty), (vS .empty), (vI 0), (vI 0), (vI 0), (vS .empty)]), (vI 1)])), (41, (vT #[(vA #[(vS .empty), (vS .empty), (vI 0), (vI 0), (vI 0), (vS .empty)]), (vI 1)])), (46, (vA #[(vS .empty), (vS .empty), (vI 0), (vI 0), (vI 0), (vS .empty)])), (47, (vI 1)), (9, (vP b6418 0)), (10, (vI 1)), (48, (vI 0)), (49, (vB false)), (50, (vB false)), (51, (vI 1)), (52, (vB false)), (53, (vB false)), (54, (vB false)), (55, (vA #[(vS .empty), (vS .empty), (vI 0), (vI 0), (vI 0), (vS .empty)])), (56, (vA #[(vS .empty), (vS .empty), (vI 0), (vI 0), (vI 0), (vS .empty)])), (57, (vB false)), (58, (vB false)), (59, (vB false)), (60, (vI 1)), (61, (vB false)), (62, (vB false)), (63, (vB false)), (64, vN), (65, (vP b6348 5)), (66, (vI n9)), (67, (vP b6348 6)), (68, (vS s6)), (69, (vI 1)), (70, (vB false)), (71, (vB false)), (72, (vB false)), (73, vN), (74, (vP b6348 5)), (75, (vI n9)), (76, (vI 1)), (77, (vB false)), (78, (vB false)), (79, (vB false)), (80, vN), (81, (vP b6348 1)), (82, (vP b6348 1)), (83, (vS s1)), (84, (vB false)), (85, (vB false)), (86, (vB false)), (87, vN), (88, (vL w6468 0 c6469)), (89, (vI 0)), (90, (vB false)), (91, (vB false)), (92, (vB false)), (93, vN), (94, (vI 0)), (95, (vB false)), (96, (vB false)), (97, (vB false)), (98, vN), (99, vN), (100, (vB false)), (101, (vB false)), (24, (vI 0)), (25, (vI 1)), (5, (vI 1))]
      (fun q => (loadT Tryd.prog h6386 25 (vP b6388 0) = some vN ∧ h6386 = h6386) ∧ (loadT Tryd.prog h6386 30 (vP b6348 1) = some (vA #[(vS s1), (vS s2)]) ∧ h6386 = h6386) ∧ (loadT Tryd.prog h6386 3 (vP b6348 3) = some (vI f9) ∧ h6386 = h6386) ∧ (loadT Tryd.prog h6386 3 (vP b6348 4) = some (vI g9) ∧ h6386 = h6386) ∧ SoundCall Tryd.prog 21 #[vN, (vA #[(vS s1), (vS s2)]), (vI f9), (vI g9)] h6386 (vT #[(vI 0), (vI 1)]) hh6400 ∧ (loadT Tryd.prog hh6400 3 (vP b6348 5) = some (vI n9) ∧ hh6400 = hh6400) ∧ SoundCall Tryd.prog 15 #[vN, (vI n9)] hh6400 (vT #[(vA #[(vS .empty), (vS .empty), (vI 0), (vI 0), (vI 0), (vS .empty)]), (vI 1)]) hh6408 ∧ ((vP b6418 0) = (Value.pointer (some ⟨hh6408.size, 0, none⟩)) ∧ h6416 = hh6408.push (.cells #[(vS .empty), (vS .empty), (vI 0), (vI 0), (vI 0), (vS .empty)] 32 (0, 0))) ∧ (storeT Tryd.prog h6416 32 (vP b6418 0) (vA #[(vS .empty), (vS .empty), (vI 0), (vI 0), (vI 0), (vS .empty)]) = some h6432 ∧ (undef : Value) = undef) ∧ (loadT Tryd.prog h6432 32 (vP b6418 0) = some (vA #[(vS .empty), (vS .empty), (vI 0), (vI 0), (vI 0), (vS .empty)]) ∧ h6432 = h6432) ∧ (binA Tryd.prog .neq 32 (vA #[(vS .empty), (vS .empty), (vI 0), (vI 0), (vI 0), (vS .empty)]) (vA #[(vS .empty), (vS .empty), (vI 0), (vI 0), (vI 0), (vS .empty)]) = some (vB false) ∧ h6432 = h6432) ∧ (loadT Tryd.prog h6432 3 (vP b6348 5) = some (vI n9) ∧ h6432 = h6432) ∧ (loadT Tryd.prog h6432 9 (vP b6348 6) = some (vS s6) ∧ h6432 = h6432) ∧ SoundCall Tryd.prog 22 #[vN, (vI n9), (vS s6)] h6432 (vI 1) hh6441 ∧ (loadT Tryd.prog hh6441 3 (vP b6348 5) = some (vI n9) ∧ hh6441 = hh6441) ∧ SoundCall Tryd.prog 23 #[vN, (vI n9)] hh6441 (vI 1) hh6450 ∧ (loadT Tryd.prog hh6450 9 (vP b6348 1) = some (vS s1) ∧ hh6450 = hh6450) ∧ SoundCall Tryd.prog 19 #[vN, (vS s1)] hh6450 (vB false) hh6459 ∧ SoundCall Tryd.prog 14 #[vN] hh6459 (vL w6468 0 c6469) hh6470 ∧ SoundCall Tryd.prog 24 #[vN] hh6470 (vI 0) hh6479 ∧ SoundCall Tryd.prog 29 #[vN] hh6479 vN hh6488 ∧ q) (by intro K'; as_aux_lemma => kernel_rfl) (fun _ q => ⟨⟨load_cell agg25 f6390 rfl, rfl⟩, ⟨load_agg agg30 size30 f6396 (by simp) (by kernel_rfl), rfl⟩, ⟨load_cell agg3 f6396 rfl, rfl⟩, ⟨load_cell agg3 f6396 rfl, rfl⟩, sn6401, ⟨load_cell agg3 f6403 rfl, rfl⟩, sn6409, ⟨by rw [eb6419], e6417⟩, ⟨by rw [e6433]; exact store_cells size32 rfl f6420 (by decide) (by simp) rfl (by kernel_rfl), rfl⟩, ⟨load_agg agg32 size32 f6434 (by simp) (by kernel_rfl), rfl⟩, ⟨cmp32_neq (decide_eq_false (not_not_intro ⟨rfl, rfl, rfl, rfl, rfl, rfl⟩)), rfl⟩, ⟨load_cell agg3 f6435 rfl, rfl⟩, ⟨load_cell agg9 f6435 rfl, rfl⟩, sn6442, ⟨load_cell agg3 f6444 rfl, rfl⟩, sn6451, ⟨load_cell agg9 f6453 rfl, rfl⟩, sn6460, sn6471, sn6480, sn6489, q⟩) ?_
    refine wc_once (subc (bodyOf Tryd.prog 8) [1, 1, 1, 1, 0, 1, 0, 0]) rfl ?_
    refine wc_act { tmps := #[(vA #[(vI k9), (vS s1), (vS s2), (vI f9), (vI g9), (vI n9), (vS s6)]), (vP b6348 0), (vB false), vN, (vL (some ⟨b6388, 0, none⟩) 2 2), (vI 1), vN, (vI 0), (vI 1), (vP b6418 0), (vI 1), (vA #[(vI k9), (vS s1), (vS s2), (vI f9), (vI g9), (vI n9), (vS s6)]), (vL (some ⟨b6356, 0, none⟩) 1 1), (vB true), (vB false), vZ, vN, (vA #[(vB false), (vL none 0 0)]), (vP b6376 0), (vL (some ⟨b6388, 0, none⟩) 2 2), (vI 0), (vL (some ⟨b6388, 0, none⟩) 2 2), (vI 2), (vB true), (vI 0), (vI 1), (vL (some ⟨b6388, 0, none⟩) 2 2), (vI 0), (vP b6388 0), vN, (vT #[(vI 0), (vI 1)]), vN, (vP b6348 1), (vA #[(vS s1), (vS s2)]), (vP b6348 3), (vI f9), (vP b6348 4), (vI g9), (vT #[(vI 0), (vI 1)]), (vI 0), (vI 1), (vT #[(vA #[(vS .empty), (vS .empty), (vI 0), (vI 0), (vI 0), (vS .empty)]), (vI 1)]), vN, (vP b6348 5), (vI n9), (vT #[(vA #[(vS .empty), (vS .empty), (vI 0), (vI 0), (vI 0), (vS .empty)]), (vI 1)]), (vA #[(vS .empty), (vS .empty), (vI 0), (vI 0), (vI 0), (vS .empty)]), (vI 1), (vI 0), (vB false), (vB false), (vI 1), (vB false), (vB false), (vB false), (vA #[(vS .empty), (vS .empty), (vI 0), (vI 0), (vI 0), (vS .empty)]), (vA #[(vS .empty), (vS .empty), (vI 0), (vI 0), (vI 0), (vS .empty)]), (vB false), (vB false), (vB false), (vI 1), (vB false), (vB false), (vB false), vN, (vP b6348 5), (vI n9), (vP b6348 6), (vS s6), (vI 1), (vB false), (vB false), (vB false), vN, (vP b6348 5), (vI n9), (vI 1), (vB false), (vB false), (vB false), vN, (vP b6348 1), (vP b6348 1), (vS s1), (vB false), (vB false), (vB false), vN, (vL w6468 0 c6469), (vI 0), (vB false), (vB false), (vB false), vN, (vI 0), (vB false), (vB false), (vB false), vN, vN, (vB false), (vB false), vZ], defers := [] } (by as_aux_lemma => kernel_rfl) ?_
    obtain ⟨_, hh6497, sn6498, rfl, x6499⟩ := start_bad hh6488 f6493 s1 s2 (f9) (g9)
    have f6500 := x6499 _ _ f6491
    have f6502 := x6499 _ _ f6493
    have x6505 := x6496.trans x6499
    obtain ⟨_, hh6506, sn6507, rfl, x6508⟩ := get_bad hh6497 f6502 (n9)
    have f6509 := x6508 _ _ f6500
    have f6511 := x6508 _ _ f6502
    have x6514 := x6505.trans x6508
    obtain ⟨b6517, eb6518⟩ : ∃ zq, zq = hh6506.size := ⟨_, rfl⟩
    obtain ⟨h6515, e6516⟩ : ∃ zq, zq = hh6506.push (.cells #[(vS .empty), (vS .empty), (vI 0), (vI 0), (vI 0), (vS .empty)] 32 (0, 0)) := ⟨_, rfl⟩
    have f6519 := push_new e6516
    rw [← eb6518] at f6519
    have n6520 : b6517 ≠ b6348 := by have := row_lt f6509; omega
    have n6522 : b6517 ≠ b6376 := by have := row_lt f6511; omega
    have x6525 : Ext hh6506 h6515 := by rw [e6516]; exact Ext.push _ _
    have o6526 : h.size ≤ b6517 := by have := x6514.size; omega
    have f6527 := x6525 _ _ f6509
    have f6529 := x6525 _ _ f6511
    have x6532 := x6514.trans x6525
    obtain ⟨h6533, e6534⟩ : ∃ zq, zq = h6515.setIfInBounds b6517 (.cells #[(vS .empty), (vS .empty), (vI 0), (vI 0), (vI 0), (vS .empty)] 32 (0, 0)) := ⟨_, rfl⟩
    have f6535 := set_same e6534 f6519
    have f6536 := set_other e6534 f6527 n6520
    have f6538 := set_other e6534 f6529 n6522
    have x6542 := Ext.setNew x6532 e6534 o6526
    obtain ⟨_, hh6543, sn6544, rfl, x6545⟩ := given_bad h6533 f6538 (n9) s6
    have f6546 := x6545 _ _ f6536
    have f6548 := x6545 _ _ f6538
    have x6552 := x6542.trans x6545
    obtain ⟨_, hh6553, sn6554, rfl, x6555⟩ := taken_bad hh6543 f6548 (n9)
    have f6556 := x6555 _ _ f6546
    have f6558 := x6555 _ _ f6548
    have x6562 := x6552.trans x6555
    obtain ⟨_, hh6563, sn6564, rfl, x6565⟩ := busy_bad hh6553 f6558 s1
    have f6568 := x6565 _ _ f6558
    have x6572 := x6562.trans x6565
    obtain ⟨_, hh6575, sn6576, w6573, c6574, rfl, x6577⟩ := openx_bad hh6563 f6568
    have f6580 := x6577 _ _ f6568
    have x6584 := x6572.trans x6577
    obtain ⟨_, hh6585, sn6586, rfl, x6587⟩ := len_bad hh6575 f6580 
    have f6590 := x6587 _ _ f6580
    have x6594 := x6584.trans x6587
    obtain ⟨_, hh6595, sn6596, rfl, x6597⟩ := copy_bad hh6585 f6590 
    have x6604 := x6594.trans x6597
    refine wc_upd (n := 200) (T := ⟨fun r i => match r, i with | 8, 3 => some ((vP b6376 0), hh6488) | 9, 2 => some ((vA #[(vS s1), (vS s2)]), hh6488) | 9, 4 => some ((vI f9), hh6488) | 9, 6 => some ((vI g9), hh6488) | 9, 7 => some ((vT #[(vI 0), (vI 1)]), hh6497) | 10, 2 => some ((vI n9), hh6497) | 10, 3 => some ((vT #[(vA #[(vS .empty), (vS .empty), (vI 0), (vI 0), (vI 0), (vS .empty)]), (vI 1)]), hh6506) | 10, 7 => some ((vP b6517 0), h6515) | 10, 8 => some (undef, h6533) | 11, 7 => some ((vA #[(vS .empty), (vS .empty), (vI 0), (vI 0), (vI 0), (vS .empty)]), h6533) | 11, 9 => some ((vB false), h6533) | 11, 18 => some ((vI n9), h6533) | 11, 20 => some ((vS s6), h6533) | 11, 21 => some ((vI 1), hh6543) | 11, 27 => some ((vI n9), hh6543) | 11, 28 => some ((vI 1), hh6553) | 11, 35 => some ((vS s1), hh6553) | 11, 36 => some ((vB false), hh6563) | 11, 40 => some ((vL w6573 0 c6574), hh6575) | 11, 46 => some ((vI 0), hh6585) | 11, 51 => some (vN, hh6595) | _, _ => none, fun _ => none, none⟩) (x := .normal) (h1 := hh6595) [(20, (vI 1)), (21, (vL (some ⟨b6388, 0, none⟩) 2 2)), (22, (vI 2)), (23, (vB true)), (26, (vL (some ⟨b6388, 0, none⟩) 2 2)), (27, (vI 1)), (28, (vP b6388 1)), (29, (vP b6376 0)), (6, (vP b6376 0)), (31, (vP b6376 0)), (32, (vP b6348 1)), (33, (vA #[(vS s1), (vS s2)])), (34, (vP b6348 3)), (35, (vI f9)), (36, (vP b6348 4)), (37, (vI g9)), (38, (vT #[(vI 0), (vI 1)])), (30, (vT #[(vI 0), (vI 1)])), (39, (vI 0)), (40, (vI 1)), (7, (vI 0)), (8, (vI 1)), (42, (vP b6376 0)), (43, (vP b6348 5)), (44, (vI n9)), (45, (vT #[(vA #[(vS .empty), (vS .empty), (vI 0), (vI 0), (vI 0), (vS .empty)]), (vI 1)])), (41, (vT #[(vA #[(vS .empty), (vS .empty), (vI 0), (vI 0), (vI 0), (vS .empty)]), (vI 1)])), (46, (vA #[(vS .empty), (vS .empty), (vI 0), (vI 0), (vI 0), (vS .empty)])), (47, (vI 1)), (9, (vP b6517 0)), (10, (vI 1)), (48, (vI 0)), (49, (vB false)), (50, (vB false)), (51, (vI 1)), (52, (vB false)), (53, (vB false)), (54, (vB false)), (55, (vA #[(vS .empty), (vS .empty), (vI 0), (vI 0), (vI 0), (vS .empty)])), (56, (vA #[(vS .empty), (vS .empty), (vI 0), (vI 0), (vI 0), (vS .empty)])), (57, (vB false)), (58, (vB false)), (59, (vB false)), (60, (vI 1)), (61, (vB false)), (62, (vB false)), (63, (vB false)), (64, (vP b6376 0)), (65, (vP b6348 5)), (66, (vI n9)), (67, (vP b6348 6)), (68, (vS s6)), (69, (vI 1)), (70, (vB false)), (71, (vB false)), (72, (vB false)), (73, (vP b6376 0)), (74, (vP b6348 5)), (75, (vI n9)), (76, (vI 1)), (77, (vB false)), (78, (vB false)), (79, (vB false)), (80, (vP b6376 0)), (81, (vP b6348 1)), (82, (vP b6348 1)), (83, (vS s1)), (84, (vB false)), (85, (vB false)), (86, (vB false)), (87, (vP b6376 0)), (88, (vL w6573 0 c6574)), (89, (vI 0)), (90, (vB false)), (91, (vB false)), (92, (vB false)), (93, (vP b6376 0)), (94, (vI 0)), (95, (vB false)), (96, (vB false)), (97, (vB false)), (98, (vP b6376 0)), (99, vN), (100, (vB false)), (101, (vB false)), (24, (vI 1)), (25, (vI 2)), (5, (vI 2))]
      (fun q => (loadT Tryd.prog hh6488 25 (vP b6388 1) = some (vP b6376 0) ∧ hh6488 = hh6488) ∧ (loadT Tryd.prog hh6488 30 (vP b6348 1) = some (vA #[(vS s1), (vS s2)]) ∧ hh6488 = hh6488) ∧ (loadT Tryd.prog hh6488 3 (vP b6348 3) = some (vI f9) ∧ hh6488 = hh6488) ∧ (loadT Tryd.prog hh6488 3 (vP b6348 4) = some (vI g9) ∧ hh6488 = hh6488) ∧ SoundCall Tryd.prog 21 #[(vP b6376 0), (vA #[(vS s1), (vS s2)]), (vI f9), (vI g9)] hh6488 (vT #[(vI 0), (vI 1)]) hh6497 ∧ (loadT Tryd.prog hh6497 3 (vP b6348 5) = some (vI n9) ∧ hh6497 = hh6497) ∧ SoundCall Tryd.prog 15 #[(vP b6376 0), (vI n9)] hh6497 (vT #[(vA #[(vS .empty), (vS .empty), (vI 0), (vI 0), (vI 0), (vS .empty)]), (vI 1)]) hh6506 ∧ ((vP b6517 0) = (Value.pointer (some ⟨hh6506.size, 0, none⟩)) ∧ h6515 = hh6506.push (.cells #[(vS .empty), (vS .empty), (vI 0), (vI 0), (vI 0), (vS .empty)] 32 (0, 0))) ∧ (storeT Tryd.prog h6515 32 (vP b6517 0) (vA #[(vS .empty), (vS .empty), (vI 0), (vI 0), (vI 0), (vS .empty)]) = some h6533 ∧ (undef : Value) = undef) ∧ (loadT Tryd.prog h6533 32 (vP b6517 0) = some (vA #[(vS .empty), (vS .empty), (vI 0), (vI 0), (vI 0), (vS .empty)]) ∧ h6533 = h6533) ∧ (binA Tryd.prog .neq 32 (vA #[(vS .empty), (vS .empty), (vI 0), (vI 0), (vI 0), (vS .empty)]) (vA #[(vS .empty), (vS .empty), (vI 0), (vI 0), (vI 0), (vS .empty)]) = some (vB false) ∧ h6533 = h6533) ∧ (loadT Tryd.prog h6533 3 (vP b6348 5) = some (vI n9) ∧ h6533 = h6533) ∧ (loadT Tryd.prog h6533 9 (vP b6348 6) = some (vS s6) ∧ h6533 = h6533) ∧ SoundCall Tryd.prog 22 #[(vP b6376 0), (vI n9), (vS s6)] h6533 (vI 1) hh6543 ∧ (loadT Tryd.prog hh6543 3 (vP b6348 5) = some (vI n9) ∧ hh6543 = hh6543) ∧ SoundCall Tryd.prog 23 #[(vP b6376 0), (vI n9)] hh6543 (vI 1) hh6553 ∧ (loadT Tryd.prog hh6553 9 (vP b6348 1) = some (vS s1) ∧ hh6553 = hh6553) ∧ SoundCall Tryd.prog 19 #[(vP b6376 0), (vS s1)] hh6553 (vB false) hh6563 ∧ SoundCall Tryd.prog 14 #[(vP b6376 0)] hh6563 (vL w6573 0 c6574) hh6575 ∧ SoundCall Tryd.prog 24 #[(vP b6376 0)] hh6575 (vI 0) hh6585 ∧ SoundCall Tryd.prog 29 #[(vP b6376 0)] hh6585 vN hh6595 ∧ q) (by intro K'; as_aux_lemma => kernel_rfl) (fun _ q => ⟨⟨load_cell agg25 f6494 rfl, rfl⟩, ⟨load_agg agg30 size30 f6491 (by simp) (by kernel_rfl), rfl⟩, ⟨load_cell agg3 f6491 rfl, rfl⟩, ⟨load_cell agg3 f6491 rfl, rfl⟩, sn6498, ⟨load_cell agg3 f6500 rfl, rfl⟩, sn6507, ⟨by rw [eb6518], e6516⟩, ⟨by rw [e6534]; exact store_cells size32 rfl f6519 (by decide) (by simp) rfl (by kernel_rfl), rfl⟩, ⟨load_agg agg32 size32 f6535 (by simp) (by kernel_rfl), rfl⟩, ⟨cmp32_neq (decide_eq_false (not_not_intro ⟨rfl, rfl, rfl, rfl, rfl, rfl⟩)), rfl⟩, ⟨load_cell agg3 f6536 rfl, rfl⟩, ⟨load_cell agg9 f6536 rfl, rfl⟩, sn6544, ⟨load_cell agg3 f6546 rfl, rfl⟩, sn6554, ⟨load_cell agg9 f6556 rfl, rfl⟩, sn6564, sn6576, sn6586, sn6596, q⟩) ?_
    refine wc_once (subc (bodyOf Tryd.prog 8) [1, 1, 1, 1, 0, 1, 0, 0]) rfl ?_
    refine wc_act { tmps := #[(vA #[(vI k9), (vS s1), (vS s2), (vI f9), (vI g9), (vI n9), (vS s6)]), (vP b6348 0), (vB false), vN, (vL (some ⟨b6388, 0, none⟩) 2 2), (vI 2), (vP b6376 0), (vI 0), (vI 1), (vP b6517 0), (vI 1), (vA #[(vI k9), (vS s1), (vS s2), (vI f9), (vI g9), (vI n9), (vS s6)]), (vL (some ⟨b6356, 0, none⟩) 1 1), (vB true), (vB false), vZ, vN, (vA #[(vB false), (vL none 0 0)]), (vP b6376 0), (vL (some ⟨b6388, 0, none⟩) 2 2), (vI 1), (vL (some ⟨b6388, 0, none⟩) 2 2), (vI 2), (vB true), (vI 1), (vI 2), (vL (some ⟨b6388, 0, none⟩) 2 2), (vI 1), (vP b6388 1), (vP b6376 0), (vT #[(vI 0), (vI 1)]), (vP b6376 0), (vP b6348 1), (vA #[(vS s1), (vS s2)]), (vP b6348 3), (vI f9), (vP b6348 4), (vI g9), (vT #[(vI 0), (vI 1)]), (vI 0), (vI 1), (vT #[(vA #[(vS .empty), (vS .empty), (vI 0), (vI 0), (vI 0), (vS .empty)]), (vI 1)]), (vP b6376 0), (vP b6348 5), (vI n9), (vT #[(vA #[(vS .empty), (vS .empty), (vI 0), (vI 0), (vI 0), (vS .empty)]), (vI 1)]), (vA #[(vS .empty), (vS .empty), (vI 0), (vI 0), (vI 0), (vS .empty)]), (vI 1), (vI 0), (vB false), (vB false), (vI 1), (vB false), (vB false), (vB false), (vA #[(vS .empty), (vS .empty), (vI 0), (vI 0), (vI 0), (vS .empty)]), (vA #[(vS .empty), (vS .empty), (vI 0), (vI 0), (vI 0), (vS .empty)]), (vB false), (vB false), (vB false), (vI 1), (vB false), (vB false), (vB false), (vP b6376 0), (vP b6348 5), (vI n9), (vP b6348 6), (vS s6), (vI 1), (vB false), (vB false), (vB false), (vP b6376 0), (vP b6348 5), (vI n9), (vI 1), (vB false), (vB false), (vB false), (vP b6376 0), (vP b6348 1), (vP b6348 1), (vS s1), (vB false), (vB false), (vB false), (vP b6376 0), (vL w6573 0 c6574), (vI 0), (vB false), (vB false), (vB false), (vP b6376 0), (vI 0), (vB false), (vB false), (vB false), (vP b6376 0), vN, (vB false), (vB false), vZ], defers := [] } (by as_aux_lemma => kernel_rfl) ?_
    refine wc_upd (n := 200) (T := ⟨fun r i => match r, i with | _, _ => none, fun _ => none, none⟩) (x := (.exit 0)) (h1 := hh6595) [(20, (vI 2)), (21, (vL (some ⟨b6388, 0, none⟩) 2 2)), (22, (vI 2)), (23, (vB false))]
      (fun q => q) (by intro K'; as_aux_lemma => kernel_rfl) (fun _ q => q) ?_
    obtain ⟨_, hh6605, sn6606, rfl, x6607⟩ := works_ok hh6595
    have x6614 := x6604.trans x6607
    refine wc_upd (n := 200) (T := ⟨fun r i => match r, i with | 13, 0 => some ((vB true), hh6605) | _, _ => none, fun _ => none, none⟩) (x := .ret) (h1 := hh6605) [(102, (vB true)), (2, (vB true))]
      (fun q => SoundCall Tryd.prog 12 #[] hh6595 (vB true) hh6605 ∧ q) (by intro K'; as_aux_lemma => kernel_rfl) (fun _ q => ⟨sn6606, q⟩) ?_
    refine end_at (T := ⟨fun _ _ => none, fun _ => none, none⟩) (A := K (vB true) hh6605) (by kernel_rfl) ?_
    exact hK _ _ (⟨rfl, x6614⟩)
  · obtain ⟨_, hh6615, sn6616, rfl, x6617⟩ := works_ok h6366
    have x6620 := x6372.trans x6617
    refine wc_upd (n := 200) (T := ⟨fun r i => match r, i with | 1, 0 => some ((vA #[(vI k9), (vS s1), (vS s2), (vI f9), (vI g9), (vI n9), (vS s6)]), h6346) | 1, 1 => some ((vL (some ⟨b6356, 0, none⟩) 1 1), h6354) | 1, 2 => some ((vB false), h6366) | 2, 0 => some ((vB true), hh6615) | _, _ => none, fun _ => none, none⟩) (x := .ret) (h1 := hh6615) [(11, (vA #[(vI k9), (vS s1), (vS s2), (vI f9), (vI g9), (vI n9), (vS s6)])), (12, (vL (some ⟨b6356, 0, none⟩) 1 1)), (13, (vB false)), (14, (vB true)), (15, (vB true)), (2, (vB true))]
      (fun q => (loadT Tryd.prog h6346 50 (vP b6348 0) = some (vA #[(vI k9), (vS s1), (vS s2), (vI f9), (vI g9), (vI n9), (vS s6)]) ∧ h6346 = h6346) ∧ ((vL (some ⟨b6356, 0, none⟩) 1 1) = (vL (some ⟨h6346.size, 0, none⟩) 1 1) ∧ h6354 = h6346.push (.cells #[(vI k9), (vS s1), (vS s2), (vI f9), (vI g9), (vI n9), (vS s6)] 50 (0, 0))) ∧ SoundCall Tryd.prog 11 #[(vL (some ⟨b6356, 0, none⟩) 1 1)] h6354 (vB false) h6366 ∧ SoundCall Tryd.prog 12 #[] h6366 (vB true) hh6615 ∧ q) (by intro K'; as_aux_lemma => kernel_rfl) (fun _ q => ⟨⟨load_agg agg50 size50 f6350 (by simp) (by kernel_rfl), rfl⟩, ⟨by rw [eb6357], e6355⟩, (by rw [← c6373]; exact s6367), sn6616, q⟩) ?_
    refine end_at (T := ⟨fun _ _ => none, fun _ => none, none⟩) (A := K (vB true) hh6615) (by kernel_rfl) ?_
    exact hK _ _ (⟨rfl, x6620⟩)
end C32
