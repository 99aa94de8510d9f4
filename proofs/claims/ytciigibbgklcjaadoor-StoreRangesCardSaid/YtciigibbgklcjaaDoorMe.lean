/- Stores that are nil, or were not made. -/
import Derived.Test.YtciigibbgklcjaaDoorMd
import Derived.KernelRfl
open Go Go.AM Go.Proofs
namespace C08
set_option maxHeartbeats 4000000 in
theorem it0_nil (h : Heap)  (bx : Nat) (hx : h[bx]? = some (.cells #[.pointer none] 27 (0, 0))) (l : Nat) (I : Nat → (Nat → Prop) → Heap → Prop) (E : Heap → Prop) (D0 : Nat → Prop)  (hX : ∀ k D h' h'', I k D h' → Ext h' h'' → I k D h'') (hy : ∀ k y D h', (([] : Sto))[k]? = some y → I k D h' → ∃ b h'' D', SoundYield Tryd.prog l #[(vS y.1), (Value.agg #[(vI (y.2.v)), (vI (y.2.up)), (vI (y.2.dn)), (vI (y.2.lo)), (vI (y.2.hi))])] h' (.bool b) h'' ∧ Chg D h' h'' ∧ (∀ z, D' z → D z ∨ h'.size ≤ z) ∧ (if b = true then I (k + 1) D' h'' else E h'')) (h0 : I 0 D0 h) : WCall Tryd.prog 46 #[(Value.func (.yield l) #[] #[]), (vP bx 0)] h (fun _ h1 => Chg D0 h h1 ∧ ((∃ D, I (([] : Sto)).length D h1 ∧ ∀ z, D z → D0 z ∨ h.size ≤ z) ∨ E h1)) := by
  suffices H : ∀ K : Value → Heap → Prop, (∀ v h1, (fun _ h1 => Chg D0 h h1 ∧ ((∃ D, I (([] : Sto)).length D h1 ∧ ∀ z, D z → D0 z ∨ h.size ≤ z) ∨ E h1)) v h1 → K v h1) → WCall Tryd.prog 46 #[(Value.func (.yield l) #[] #[]), (vP bx 0)] h K from H _ fun _ _ q => q
  intro K hK
  refine wcall_at { tmps := #[(Value.func (.yield l) #[] #[]), (vP bx 0), vZ, vZ, vZ, vZ, vZ, vZ, vZ, vZ, vZ, vZ, vZ, vZ, vZ, vZ, vZ, vZ, vZ, vZ, vZ, vZ, vZ, vZ, vZ, vZ, vZ, vZ, vZ, vZ], defers := [] } (by kernel_rfl) ?_
  refine wc_seq' (subc (bodyOf Tryd.prog 46) [0]) (subc (bodyOf Tryd.prog 46) [1]) (by kernel_rfl) ?_
  obtain ⟨_, _, sn1, rfl, rfl⟩ := valid_nil h
  refine wc_ev [evC 0 0 0 agg27 hx, evF 0 1 sn1] .ret h [(5, vN), (6, (vB false)), (7, (vB true))] ?_
  exact end_ev [] vZ (hK _ _ (⟨(Chg.refl (O := D0) h), .inl ⟨D0, (hX _ _ _ _ h0 (Ext.refl h)), (fun z hz => .inl hz)⟩⟩))
set_option maxHeartbeats 4000000 in
theorem it0_bad (h : Heap) {t : Nat} {fr : Nat × Nat} (ht : h[t]? = some (.cells #[.map none] 50 fr)) (bx : Nat) (hx : h[bx]? = some (.cells #[.pointer (some ⟨t, 0, none⟩)] 27 (0, 0))) (l : Nat) (I : Nat → (Nat → Prop) → Heap → Prop) (E : Heap → Prop) (D0 : Nat → Prop)  (hX : ∀ k D h' h'', I k D h' → Ext h' h'' → I k D h'') (hy : ∀ k y D h', (([] : Sto))[k]? = some y → I k D h' → ∃ b h'' D', SoundYield Tryd.prog l #[(vS y.1), (Value.agg #[(vI (y.2.v)), (vI (y.2.up)), (vI (y.2.dn)), (vI (y.2.lo)), (vI (y.2.hi))])] h' (.bool b) h'' ∧ Chg D h' h'' ∧ (∀ z, D' z → D z ∨ h'.size ≤ z) ∧ (if b = true then I (k + 1) D' h'' else E h'')) (h0 : I 0 D0 h) : WCall Tryd.prog 46 #[(Value.func (.yield l) #[] #[]), (vP bx 0)] h (fun _ h1 => Chg D0 h h1 ∧ ((∃ D, I (([] : Sto)).length D h1 ∧ ∀ z, D z → D0 z ∨ h.size ≤ z) ∨ E h1)) := by
  suffices H : ∀ K : Value → Heap → Prop, (∀ v h1, (fun _ h1 => Chg D0 h h1 ∧ ((∃ D, I (([] : Sto)).length D h1 ∧ ∀ z, D z → D0 z ∨ h.size ≤ z) ∨ E h1)) v h1 → K v h1) → WCall Tryd.prog 46 #[(Value.func (.yield l) #[] #[]), (vP bx 0)] h K from H _ fun _ _ q => q
  intro K hK
  refine wcall_at { tmps := #[(Value.func (.yield l) #[] #[]), (vP bx 0), vZ, vZ, vZ, vZ, vZ, vZ, vZ, vZ, vZ, vZ, vZ, vZ, vZ, vZ, vZ, vZ, vZ, vZ, vZ, vZ, vZ, vZ, vZ, vZ, vZ, vZ, vZ, vZ], defers := [] } (by kernel_rfl) ?_
  refine wc_seq' (subc (bodyOf Tryd.prog 46) [0]) (subc (bodyOf Tryd.prog 46) [1]) (by kernel_rfl) ?_
  obtain ⟨_, _, sn1, rfl, rfl⟩ := valid_bad h ht
  refine wc_ev [evC 0 0 0 agg27 hx, evF 0 1 sn1] .ret h [(5, (vP t 0)), (6, (vB false)), (7, (vB true))] ?_
  exact end_ev [] vZ (hK _ _ (⟨(Chg.refl (O := D0) h), .inl ⟨D0, (hX _ _ _ _ h0 (Ext.refl h)), (fun z hz => .inl hz)⟩⟩))
set_option maxHeartbeats 4000000 in
theorem get_nil (h : Heap)  (k : ByteArray) : WCall Tryd.prog 18 #[(Value.pointer none), (vS k)] h (fun v h1 => v = (Value.tuple #[(Value.agg #[(vI 0), (vI 0), (vI 0), (vI 0), (vI 0)]), (vI 1)]) ∧ Ext h h1) := by
  obtain ⟨b1, eb2⟩ : ∃ zq, zq = h.size := ⟨_, rfl⟩
  obtain ⟨h3, e4⟩ : ∃ zq, zq = h.push (.cells #[(vI 0), (vI 0), (vI 0), (vI 0), (vI 0)] 39 (0, 0)) := ⟨_, rfl⟩
  have f5 := push_new e4
  rw [← eb2] at f5
  have x6 : Ext h h3 := by rw [e4]; exact Ext.push _ _
  have o7 : h.size ≤ b1 := by have := (Ext.refl h).size; omega
  have x8 := (Ext.refl h).trans x6
  obtain ⟨_, hh9, sn10, rfl, x11⟩ := find_nil h3 k
  have f12 := x11 _ _ f5
  have x13 := x8.trans x11
  obtain ⟨h14, e15⟩ : ∃ zq, zq = hh9.setIfInBounds b1 (.cells #[(vI 0), (vI 0), (vI 0), (vI 0), (vI 0)] 39 (0, 0)) := ⟨_, rfl⟩
  have f17 := set_same e15 f12
  have x18 := Ext.setNew x13 e15 o7
  exact hCall_ev [evA 0 0 eb2 e4, evF 1 2 sn10, evUw 1 5 size39 f12 e15] [evLw 0 0 agg39 size39 f17, evR (vI 1)] (vT #[(vA #[(vI 0), (vI 0), (vI 0), (vI 0), (vI 0)]), (vI 1)]) h14 ⟨rfl, x18⟩
set_option maxHeartbeats 4000000 in
theorem put_nil (h : Heap)  (k : ByteArray) (c : CntM) : WCall Tryd.prog 23 #[(Value.pointer none), (vS k), (Value.agg #[(vI (c.v)), (vI (c.up)), (vI (c.dn)), (vI (c.lo)), (vI (c.hi))])] h (fun v h1 => v = .int .i64 1 ∧ Ext h h1) := by
  suffices H : ∀ K : Value → Heap → Prop, (∀ v h1, (fun v h1 => v = .int .i64 1 ∧ Ext h h1) v h1 → K v h1) → WCall Tryd.prog 23 #[(Value.pointer none), (vS k), (Value.agg #[(vI (c.v)), (vI (c.up)), (vI (c.dn)), (vI (c.lo)), (vI (c.hi))])] h K from H _ fun _ _ q => q
  intro K hK
  refine wcall_at { tmps := #[vN, (vS k), (vA #[(vI c.v), (vI c.up), (vI c.dn), (vI c.lo), (vI c.hi)]), vZ, vZ, vZ, vZ, vZ, vZ, vZ, vZ, vZ, vZ, vZ, vZ, vZ, vZ, vZ, vZ, vZ, vZ, vZ, vZ, vZ, vZ, vZ, vZ, vZ, vZ, vZ, vZ, vZ, vZ, vZ, vZ, vZ, vZ, vZ, vZ, vZ, vZ, vZ, vZ], defers := [] } (by kernel_rfl) ?_
  obtain ⟨b1, eb2⟩ : ∃ zq, zq = h.size := ⟨_, rfl⟩
  obtain ⟨h3, e4⟩ : ∃ zq, zq = h.push (.cells #[(vI (c.v)), (vI (c.up)), (vI (c.dn)), (vI (c.lo)), (vI (c.hi))] 39 (0, 0)) := ⟨_, rfl⟩
  have f5 := push_new e4
  rw [← eb2] at f5
  have x6 : Ext h h3 := by rw [e4]; exact Ext.push _ _
  have o7 : h.size ≤ b1 := by have := (Ext.refl h).size; omega
  have x8 := (Ext.refl h).trans x6
  obtain ⟨_, hh9, sn10, rfl, x11⟩ := find_nil h3 k
  have x12 := x8.trans x11
  obtain ⟨b13, eb14⟩ : ∃ zq, zq = hh9.size := ⟨_, rfl⟩
  obtain ⟨h15, e16⟩ : ∃ zq, zq = hh9.push (.cells #[(vI 0), (vI 0), (vI 0), (vI 0), (vI 0)] 39 (0, 0)) := ⟨_, rfl⟩
  have f17 := push_new e16
  rw [← eb14] at f17
  have x18 : Ext hh9 h15 := by rw [e16]; exact Ext.push _ _
  have o19 : h.size ≤ b13 := by have := x12.size; omega
  have x20 := x12.trans x18
  obtain ⟨h21, e22⟩ : ∃ zq, zq = h15.setIfInBounds b13 (.cells #[(vI 0), (vI 0), (vI 0), (vI 0), (vI 0)] 39 (0, 0)) := ⟨_, rfl⟩
  have x23 := Ext.setNew x20 e22 o19
  refine wc_ev [evA 0 0 eb2 e4, evF 1 2 sn10, evA 1 6 eb14 e16, evUw 1 7 size39 f17 e22] .ret h21 [(5, (vP b1 0)), (6, (vI 0)), (10, vN), (11, (vS k)), (12, (vT #[(vA #[(vI 0), (vI 0), (vI 0), (vI 0), (vI 0)]), (vI 1)])), (9, (vT #[(vA #[(vI 0), (vI 0), (vI 0), (vI 0), (vI 0)]), (vI 1)])), (13, (vA #[(vI 0), (vI 0), (vI 0), (vI 0), (vI 0)])), (14, (vI 1)), (7, (vP b13 0)), (8, (vI 1)), (16, (vI 1)), (17, (vB true)), (15, (vB true)), (18, (vI 1)), (6, (vI 1))] ?_
  exact end_ev [] (vI 1) (hK _ _ (⟨rfl, x23⟩))
set_option maxHeartbeats 4000000 in
theorem sapply_nil (h : Heap)  (k : ByteArray) (ph d : Int) : WCall Tryd.prog 22 #[(Value.pointer none), (vS k), (vI (ph)), (vI (d))] h (fun v h1 => v = .tuple #[.int .i64 0, .int .i64 1] ∧ Ext h h1) := by
  suffices H : ∀ K : Value → Heap → Prop, (∀ v h1, (fun v h1 => v = .tuple #[.int .i64 0, .int .i64 1] ∧ Ext h h1) v h1 → K v h1) → WCall Tryd.prog 22 #[(Value.pointer none), (vS k), (vI (ph)), (vI (d))] h K from H _ fun _ _ q => q
  intro K hK
  refine wcall_at { tmps := #[vN, (vS k), (vI ph), (vI d), vZ, vZ, vZ, vZ, vZ, vZ, vZ, vZ, vZ, vZ, vZ, vZ, vZ, vZ, vZ, vZ, vZ, vZ, vZ, vZ, vZ, vZ, vZ, vZ, vZ, vZ, vZ, vZ, vZ, vZ, vZ, vZ, vZ, vZ, vZ], defers := [] } (by kernel_rfl) ?_
  obtain ⟨_, hh1, sn2, rfl, x3⟩ := find_nil h k
  have x4 := (Ext.refl h).trans x3
  obtain ⟨b5, eb6⟩ : ∃ zq, zq = hh1.size := ⟨_, rfl⟩
  obtain ⟨h7, e8⟩ : ∃ zq, zq = hh1.push (.cells #[(vI 0), (vI 0), (vI 0), (vI 0), (vI 0)] 39 (0, 0)) := ⟨_, rfl⟩
  have f9 := push_new e8
  rw [← eb6] at f9
  have x10 : Ext hh1 h7 := by rw [e8]; exact Ext.push _ _
  have o11 : h.size ≤ b5 := by have := x4.size; omega
  have x12 := x4.trans x10
  obtain ⟨h13, e14⟩ : ∃ zq, zq = h7.setIfInBounds b5 (.cells #[(vI 0), (vI 0), (vI 0), (vI 0), (vI 0)] 39 (0, 0)) := ⟨_, rfl⟩
  have x15 := Ext.setNew x12 e14 o11
  refine wc_ev [evF 1 2 sn2, evA 1 6 eb6 e8, evUw 1 7 size39 f9 e14] .ret h13 [(8, (vI 0)), (9, (vI 0)), (13, vN), (14, (vS k)), (15, (vT #[(vA #[(vI 0), (vI 0), (vI 0), (vI 0), (vI 0)]), (vI 1)])), (12, (vT #[(vA #[(vI 0), (vI 0), (vI 0), (vI 0), (vI 0)]), (vI 1)])), (16, (vA #[(vI 0), (vI 0), (vI 0), (vI 0), (vI 0)])), (17, (vI 1)), (10, (vP b5 0)), (11, (vI 1)), (18, (vI 1)), (19, (vB true)), (20, (vI 1)), (8, (vI 0)), (9, (vI 1))] ?_
  exact end_ev [] (vT #[(vI 0), (vI 1)]) (hK _ _ (⟨rfl, x15⟩))
set_option maxHeartbeats 4000000 in
theorem remove_nil (h : Heap)  (k : ByteArray) : WCall Tryd.prog 24 #[(Value.pointer none), (vS k)] h (fun v h1 => v = .int .i64 1 ∧ Ext h h1) := by
  suffices H : ∀ K : Value → Heap → Prop, (∀ v h1, (fun v h1 => v = .int .i64 1 ∧ Ext h h1) v h1 → K v h1) → WCall Tryd.prog 24 #[(Value.pointer none), (vS k)] h K from H _ fun _ _ q => q
  intro K hK
  refine wcall_at { tmps := #[vN, (vS k), vZ, vZ, vZ, vZ, vZ, vZ, vZ, vZ, vZ, vZ, vZ, vZ, vZ, vZ, vZ, vZ, vZ, vZ, vZ], defers := [] } (by kernel_rfl) ?_
  obtain ⟨_, hh1, sn2, rfl, x3⟩ := find_nil h k
  have x4 := (Ext.refl h).trans x3
  obtain ⟨b5, eb6⟩ : ∃ zq, zq = hh1.size := ⟨_, rfl⟩
  obtain ⟨h7, e8⟩ : ∃ zq, zq = hh1.push (.cells #[(vI 0), (vI 0), (vI 0), (vI 0), (vI 0)] 39 (0, 0)) := ⟨_, rfl⟩
  have f9 := push_new e8
  rw [← eb6] at f9
  have x10 : Ext hh1 h7 := by rw [e8]; exact Ext.push _ _
  have o11 : h.size ≤ b5 := by have := x4.size; omega
  have x12 := x4.trans x10
  obtain ⟨h13, e14⟩ : ∃ zq, zq = h7.setIfInBounds b5 (.cells #[(vI 0), (vI 0), (vI 0), (vI 0), (vI 0)] 39 (0, 0)) := ⟨_, rfl⟩
  have x15 := Ext.setNew x12 e14 o11
  refine wc_ev [evF 1 2 sn2, evA 1 6 eb6 e8, evUw 1 7 size39 f9 e14] .ret h13 [(4, (vI 0)), (8, vN), (9, (vS k)), (10, (vT #[(vA #[(vI 0), (vI 0), (vI 0), (vI 0), (vI 0)]), (vI 1)])), (7, (vT #[(vA #[(vI 0), (vI 0), (vI 0), (vI 0), (vI 0)]), (vI 1)])), (11, (vA #[(vI 0), (vI 0), (vI 0), (vI 0), (vI 0)])), (12, (vI 1)), (5, (vP b5 0)), (6, (vI 1)), (13, (vI 1)), (14, (vB true)), (15, (vI 1)), (4, (vI 1))] ?_
  exact end_ev [] (vI 1) (hK _ _ (⟨rfl, x15⟩))
set_option maxHeartbeats 4000000 in
theorem len_nil (h : Heap)  : WCall Tryd.prog 25 #[(Value.pointer none)] h (fun v h1 => v = .int .i64 0 ∧ Ext h h1) := by
  obtain ⟨_, _, sn1, rfl, rfl⟩ := valid_nil h
  exact hCall_ev [evF 1 1 sn1] [] (vI 0) h ⟨rfl, (Ext.refl h)⟩
set_option maxHeartbeats 4000000 in
theorem copy_nil (h : Heap)  : WCall Tryd.prog 26 #[(Value.pointer none)] h (fun v h1 => v = .pointer none ∧ Ext h h1) := by
  obtain ⟨_, _, sn1, rfl, rfl⟩ := valid_nil h
  exact hCall_ev [evF 1 1 sn1] [] vN h ⟨rfl, (Ext.refl h)⟩
set_option maxHeartbeats 4000000 in
theorem quiet_nil (h : Heap)  : WCall Tryd.prog 21 #[(Value.pointer none)] h (fun v h1 => v = .bool false ∧ Ext h h1) := by
  obtain ⟨_, _, sn1, rfl, rfl⟩ := valid_nil h
  exact hCall_ev [evF 1 1 sn1] [] (vB false) h ⟨rfl, (Ext.refl h)⟩
set_option maxHeartbeats 4000000 in
theorem ssum_nil (h : Heap)  : WCall Tryd.prog 20 #[(Value.pointer none)] h (fun v h1 => v = .tuple #[.int .i64 0, .int .i64 1] ∧ Ext h h1) := by
  suffices H : ∀ K : Value → Heap → Prop, (∀ v h1, (fun v h1 => v = .tuple #[.int .i64 0, .int .i64 1] ∧ Ext h h1) v h1 → K v h1) → WCall Tryd.prog 20 #[(Value.pointer none)] h K from H _ fun _ _ q => q
  intro K hK
  refine wcall_at { tmps := #[vN, vZ, vZ, vZ, vZ, vZ, vZ, vZ, vZ, vZ, vZ, vZ, vZ, vZ, vZ, vZ, vZ, vZ, vZ, vZ, vZ, vZ, vZ], defers := [] } (by kernel_rfl) ?_
  refine wc_seq' (subc (bodyOf Tryd.prog 20) [0]) (subc (bodyOf Tryd.prog 20) [1]) (by kernel_rfl) ?_
  refine wc_ev [] .normal h [(2, (vI 0)), (3, (vI 0))] ?_
  refine wc_seq' (subc (bodyOf Tryd.prog 20) [1, 0]) (subc (bodyOf Tryd.prog 20) [1, 1]) (by kernel_rfl) ?_
  obtain ⟨_, _, sn1, rfl, rfl⟩ := valid_nil h
  refine wc_ev [evF 1 1 sn1] .ret h [(7, vN), (8, (vB false)), (9, (vB true)), (2, (vI 0)), (3, (vI 1))] ?_
  exact end_ev [] (vT #[(vI 0), (vI 1)]) (hK _ _ (⟨rfl, (Ext.refl h)⟩))
set_option maxHeartbeats 4000000 in
theorem in_nil (h : Heap)  (r0 r1 : ByteArray) : WCall Tryd.prog 14 #[(Value.pointer none), (Value.agg #[(vS r0), (vS r1)])] h (fun v h1 => v = .tuple #[.slice none 0 0, .int .i64 1] ∧ Ext h h1) := by
  suffices H : ∀ K : Value → Heap → Prop, (∀ v h1, (fun v h1 => v = .tuple #[.slice none 0 0, .int .i64 1] ∧ Ext h h1) v h1 → K v h1) → WCall Tryd.prog 14 #[(Value.pointer none), (Value.agg #[(vS r0), (vS r1)])] h K from H _ fun _ _ q => q
  intro K hK
  refine wcall_at { tmps := #[vN, (vA #[(vS r0), (vS r1)]), vZ, vZ, vZ, vZ, vZ, vZ, vZ, vZ, vZ, vZ, vZ, vZ, vZ, vZ, vZ, vZ, vZ, vZ, vZ, vZ, vZ, vZ, vZ, vZ], defers := [] } (by kernel_rfl) ?_
  refine wc_seq' (subc (bodyOf Tryd.prog 14) [0]) (subc (bodyOf Tryd.prog 14) [1]) (by kernel_rfl) ?_
  obtain ⟨b1, eb2⟩ : ∃ zq, zq = h.size := ⟨_, rfl⟩
  obtain ⟨h3, e4⟩ : ∃ zq, zq = h.push (.cells #[(vS r0), (vS r1)] 24 (0, 0)) := ⟨_, rfl⟩
  have f5 := push_new e4
  rw [← eb2] at f5
  have x6 : Ext h h3 := by rw [e4]; exact Ext.push _ _
  have o7 : h.size ≤ b1 := by have := (Ext.refl h).size; omega
  have x8 := (Ext.refl h).trans x6
  refine wc_ev [evA 0 0 eb2 e4] .normal h3 [(3, (vP b1 0)), (4, (vL none 0 0)), (5, (vI 0))] ?_
  refine wc_seq' (subc (bodyOf Tryd.prog 14) [1, 0]) (subc (bodyOf Tryd.prog 14) [1, 1]) (by kernel_rfl) ?_
  obtain ⟨_, _, sn9, rfl, rfl⟩ := valid_nil h3
  refine wc_ev [evF 1 1 sn9] .ret h3 [(8, vN), (9, (vB false)), (10, (vB true)), (4, (vL none 0 0)), (5, (vI 1))] ?_
  exact end_ev [] (vT #[(vL none 0 0), (vI 1)]) (hK _ _ (⟨rfl, x8⟩))
set_option maxHeartbeats 4000000 in
theorem keys_nil (h : Heap)  : WCall Tryd.prog 13 #[(Value.pointer none)] h (fun v h1 => ∃ oa oc, v = .slice oa 0 oc ∧ Ext h h1) := by
  suffices H : ∀ K : Value → Heap → Prop, (∀ v h1, (fun v h1 => ∃ oa oc, v = .slice oa 0 oc ∧ Ext h h1) v h1 → K v h1) → WCall Tryd.prog 13 #[(Value.pointer none)] h K from H _ fun _ _ q => q
  intro K hK
  refine wcall_at { tmps := #[vN, vZ, vZ, vZ, vZ, vZ, vZ, vZ, vZ, vZ, vZ, vZ, vZ, vZ], defers := [] } (by kernel_rfl) ?_
  refine wc_seq' (subc (bodyOf Tryd.prog 13) [0]) (subc (bodyOf Tryd.prog 13) [1]) (by kernel_rfl) ?_
  refine wc_ev [] .normal h [(2, (vL none 0 0))] ?_
  refine wc_seq' (subc (bodyOf Tryd.prog 13) [1, 0]) (subc (bodyOf Tryd.prog 13) [1, 1]) (by kernel_rfl) ?_
  obtain ⟨b1, eb2⟩ : ∃ zq, zq = h.size := ⟨_, rfl⟩
  obtain ⟨h3, e4⟩ : ∃ zq, zq = h.push (.cells #[(Value.slice none 0 0)] 29 (0, 0)) := ⟨_, rfl⟩
  have f5 := push_new e4
  rw [← eb2] at f5
  have x6 : Ext h h3 := by rw [e4]; exact Ext.push _ _
  have o7 : h.size ≤ b1 := by have := (Ext.refl h).size; omega
  have x8 := (Ext.refl h).trans x6
  refine wc_ev [evA 1 0 eb2 e4] .normal h3 [(3, (vP b1 0))] ?_
  refine wc_seq' (subc (bodyOf Tryd.prog 13) [1, 1, 0]) (subc (bodyOf Tryd.prog 13) [1, 1, 1]) (by kernel_rfl) ?_
  refine wc_seq' (subc (bodyOf Tryd.prog 13) [1, 1, 0, 0]) (subc (bodyOf Tryd.prog 13) [1, 1, 0, 1]) (by kernel_rfl) ?_
  obtain ⟨_, h9, s10, b11, rfl, f12, x13, o14⟩ := each_nil h3
  have oo15 : h.size ≤ b11 := by have := x8.size; omega
  have f17 := x13 _ _ f5
  have x18 := x8.trans x13
  refine wc_ev [evF 2 1 s10] .normal h9 [(5, vN), (6, (Value.func (.func 46) #[] #[(vP b11 0)]))] ?_
  refine wc_block' 0 (subc (bodyOf Tryd.prog 13) [1, 1, 0, 1, 0]) (by kernel_rfl) ?_
  refine wc_act { tmps := #[vN, vZ, (vL none 0 0), (vP b1 0), vZ, vN, (Value.func (.func 46) #[] #[(vP b11 0)]), vZ, vZ, vZ, vZ, vZ, vZ, vZ], defers := [] } (by kernel_rfl) ?_
  obtain ⟨dv19, edv20⟩ : ∃ zq, zq = h9.size := ⟨_, rfl⟩
  obtain ⟨lp21, elp22⟩ : ∃ zq, zq = h9.size + 1 := ⟨_, rfl⟩
  obtain ⟨tm23, etm24⟩ : ∃ zq : Array Value, zq = #[(Value.pointer none), (Value.tuple #[]), (Value.slice none 0 0), (vP b1 0), (Value.tuple #[]), (Value.pointer none), (Value.func (.func 46) #[] #[(vP b11 0)]), (Value.tuple #[]), (Value.tuple #[]), (Value.tuple #[]), (Value.tuple #[]), (Value.tuple #[]), (Value.tuple #[]), (Value.tuple #[])] := ⟨_, rfl⟩
  obtain ⟨L2088, eL2088⟩ : ∃ zq : Loop, zq = { state := .ready, pending := none, fn := 0, tmps := tm23, params := #[7, 8], assign := (subc (bodyOf Tryd.prog 13) [1, 1, 0, 1, 0, 0]), body := (subc (bodyOf Tryd.prog 13) [1, 1, 0, 1, 0, 1]), defers := dv19 } := ⟨_, rfl⟩
  have hs25 : L2088.state = .ready := by rw [eL2088]
  have hp26 : L2088.pending = none := by rw [eL2088]
  obtain ⟨h27, eh28⟩ : ∃ zq, zq = (h9.push (.deferred (some []))).push (.loop L2088) := ⟨_, rfl⟩
  have x29 : Ext h9 h27 := by rw [eh28]; exact (Ext.push _ _).trans (Ext.push _ _)
  have p30 : At h27 lp21 (.loop L2088) := by rw [eh28, elp22, show h9.size + 1 = (h9.push (.deferred (some []))).size by simp]; exact push_new rfl
  have p31 : At h27 dv19 (.deferred (some [])) := by rw [eh28, edv20]; exact push_old (b := h9.size) rfl (push_new rfl)
  have sh32 : lp21 < h27.size := p30.blk_lt rfl
  have z33 : h.size ≤ h9.size := x18.size
  have f34 := x29 _ _ f17
  have f35 := x29 _ _ f12
  have x36 := x18.trans x29
  have z37 : h.size ≤ h27.size := x36.size
  obtain ⟨D2099, eD2100⟩ : ∃ zq : Nat → Prop, zq = (fun (out : List ByteArray) (oa : Option Addr) (oc : Nat) => (fun b => b = lp21 ∨ b = b1 ∨ (blk (Value.slice oa (out.length) (oc))) b ∨ False)) ([]) (none) (0) := ⟨_, rfl⟩
  have hD2106 : ∀ b, D2099 b → h.size ≤ b := by
    rw [eD2100]; rintro b (w | w | w | w)
    · have w1 : b = lp21 := w; omega
    · have w1 : b = b1 := w; have := o7; omega
    · exact w.elim
    · exact w.elim
  have hd38 : ¬ D2099 dv19 := by
    rw [eD2100]; rintro (w | w | w | w)
    · have w1 : dv19 = lp21 := w; omega
    · have w1 : dv19 = b1 := w; have := row_lt f17; omega
    · exact w.elim
    · exact w.elim
  obtain ⟨I2096, eI2095⟩ : ∃ zq : Nat → (Nat → Prop) → Heap → Prop, zq = fun (kk : Nat) (Dv : Nat → Prop) (h' : Heap) => ∃ (out : List ByteArray), ∃ (oa : Option Addr), ∃ (oc : Nat), Dv = (fun b => b = lp21 ∨ b = b1 ∨ (blk (Value.slice oa (out.length) (oc))) b ∨ False) ∧ At h' lp21 (.loop L2088) ∧ Chg D2099 h27 h' ∧ (∀ z, Dv z → D2099 z ∨ h27.size ≤ z) ∧ h'[b1]? = some (.cells #[(Value.slice oa (out.length) (oc))] 29 (0, 0)) ∧ out = [] ∧ OwnAt h' 9 strc out (Value.slice oa (out.length) (oc)) := ⟨_, rfl⟩
  obtain ⟨E2097, eE2098⟩ : ∃ zq : Heap → Prop, zq = fun _ => False := ⟨_, rfl⟩
  have hX2114 : ∀ k D h' h'', I2096 k D h' → Ext h' h'' → I2096 k D h'' := by
    rw [eI2095]
    rintro k _ h' h'' ⟨out, oa, oc, rfl, p39, c40, d41, f42, i43, p44⟩ xx
    exact ⟨out, oa, oc, rfl, xx _ _ p39, c40.trans (Chg.ext xx), d41, xx _ _ f42, i43, p44.keep fun b r _ q => xx b r q⟩
  have hy45 : ∀ k y D h', (([] : Sto))[k]? = some y → I2096 k D h' → ∃ b h'' D', SoundYield Tryd.prog lp21 #[(vS y.1), (Value.agg #[(vI (y.2.v)), (vI (y.2.up)), (vI (y.2.dn)), (vI (y.2.lo)), (vI (y.2.hi))])] h' (.bool b) h'' ∧ Chg D h' h'' ∧ (∀ z, D' z → D z ∨ h'.size ≤ z) ∧ (if b = true then I2096 (k + 1) D' h'' else E2097 h'') := by
    rw [eI2095]
    rintro k y _ hr hk ⟨out, oa, oc, rfl, p39, c40, d41, f42, i43, p44⟩
    obtain ⟨Dc, eDc⟩ : ∃ zq : Nat → Prop, zq = (fun b => b = lp21 ∨ b = b1 ∨ (blk (Value.slice oa (out.length) (oc))) b ∨ False) := ⟨_, rfl⟩
    rw [← eDc] at d41
    rw [← eI2095]
    rw [← eDc]
    have lo1 : out.length ≤ 64 := by rw [i43]; decide
    suffices hw : ∃ b h'', SoundYield Tryd.prog lp21 #[(vS y.1), (Value.agg #[(vI (y.2.v)), (vI (y.2.up)), (vI (y.2.dn)), (vI (y.2.lo)), (vI (y.2.hi))])] hr (.bool b) h'' ∧ (fun b h'' => ∃ D', Chg Dc hr h'' ∧ (∀ z, D' z → Dc z ∨ hr.size ≤ z) ∧ (if b = true then I2096 (k + 1) D' h'' else E2097 h'')) b h'' from by
      obtain ⟨b, h'', q1, D', q2, q3, q4⟩ := hw
      exact ⟨b, h'', D', q1, q2, q3, q4⟩
    refine w_round (args := #[(vS y.1), (Value.agg #[(vI (y.2.v)), (vI (y.2.up)), (vI (y.2.dn)), (vI (y.2.lo)), (vI (y.2.hi))])]) (K := (fun b h'' => ∃ D', Chg Dc hr h'' ∧ (∀ z, D' z → Dc z ∨ hr.size ≤ z) ∧ (if b = true then I2096 (k + 1) D' h'' else E2097 h''))) p39 hs25 (by rw [eL2088]; rfl) { tmps := #[(Value.pointer none), (Value.tuple #[]), (Value.slice none 0 0), (vP b1 0), (Value.tuple #[]), (Value.pointer none), (Value.func (.func 46) #[] #[(vP b11 0)]), (vS y.1), (Value.agg #[(vI (y.2.v)), (vI (y.2.up)), (vI (y.2.dn)), (vI (y.2.lo)), (vI (y.2.hi))]), (Value.tuple #[]), (Value.tuple #[]), (Value.tuple #[]), (Value.tuple #[]), (Value.tuple #[])], defers := [] } (by rw [eL2088, etm24]; kernel_rfl) (subc (bodyOf Tryd.prog 13) [1, 1, 0, 1, 0, 0]) (subc (bodyOf Tryd.prog 13) [1, 1, 0, 1, 0, 1]) (by rw [eL2088]) (by rw [eL2088]) ?_
    refine wc_ev [] .normal hr [(4, (vS y.1))] ?_
    refine ⟨rfl, L2088, p39, hs25, ?_⟩
    obtain ⟨h46, e47⟩ : ∃ zq, zq = hr.setIfInBounds lp21 (.loop { L2088 with state := .busy }) := ⟨_, rfl⟩
    have p48 : At h46 lp21 (.loop { L2088 with state := .busy }) := set_same e47 p39
    have f49 := set_other e47 f42 (loop_ne p39 f42 rfl)
    have p50 := p44.keep fun b r hb q => (Chg.set e47).same b r q ((fun b hb hb2 => (p44).celled.loop p39 b hb hb2) b hb)
    have x51 := (Chg.refl (O := Dc) hr).then (Chg.set e47) (fun b hb => .inl ((fun b hb => by rw [eDc]; exact .inl hb) b hb))
    rw [← e47]
    obtain ⟨b52, eb53⟩ : ∃ zq, zq = h46.size := ⟨_, rfl⟩
    obtain ⟨h54, e55⟩ : ∃ zq, zq = h46.push (.cells #[(vS y.1)] 9 (0, 0)) := ⟨_, rfl⟩
    have f56 := push_new e55
    rw [← eb53] at f56
    have x57 : Ext h46 h54 := by rw [e55]; exact Ext.push _ _
    have o58 : hr.size ≤ b52 := by have := x51.size; omega
    have f59 := x57 _ _ f49
    have p60 := p50.keep fun b r _ q => x57 b r q
    have p61 := p48.keep fun b r _ q => x57 b r q
    have x62 := x51.trans (Chg.ext x57)
    obtain ⟨w63, h64, e65, p66, c67, n68, z69⟩ := own_append und29 sizeb9 zero9 rfl (by decide) strc_size (x := y.1) p60 f56 rfl (by omega) (by unfold maxLen; omega)
    obtain ⟨a70, c71, rfl⟩ := (p66.slice strc_size).len
    have z72 : hr.size ≤ h54.size := x62.size
    have x73 := x62.then c67 (fun b hb => .inl ((show ∀ b, (blk (Value.slice oa (out.length) (oc))) b → Dc b from fun b hb => by rw [eDc]; exact .inr (.inr (.inl hb))) b hb))
    have f74 := c67.same _ _ f59 (fun hb => p60.ne f59 (by decide) hb rfl)
    have p75 := p61.keep fun b r hb q => c67.same b r q ((fun b hb hb2 => (p60).celled.loop p61 b hb2 hb) b hb)
    have n76 : ∀ zz, blk (Value.slice a70 ((out ++ [y.1]).length) (c71)) zz → ¬ zz = b1 := fun zz hz ez => by have := n68 zz hz; have := row_lt f59; omega
    have n77 : ∀ zz, blk (Value.slice a70 ((out ++ [y.1]).length) (c71)) zz → ¬ (fun q => q = lp21) zz := fun zz hz ez => by have := n68 zz hz; have := p61.blk_lt ez; omega
    have o78 : ∀ zz, blk (Value.slice a70 ((out ++ [y.1]).length) (c71)) zz → hr.size ≤ zz := fun zz hz => by have := n68 zz hz; have := z72; omega
    obtain ⟨h79, e80⟩ : ∃ zq, zq = h64.setIfInBounds b1 (.cells #[(Value.slice a70 ((out ++ [y.1]).length) (c71))] 29 (0, 0)) := ⟨_, rfl⟩
    have f81 := set_same e80 f74
    have p82 := p75.keep fun b r hb q => (Chg.set e80).same b r q ((fun (b : Nat) hb => loop_ne p75 f74 hb) b hb)
    have p83 := p66.keep fun b r hb q => (Chg.set e80).same b r q (n76 b hb)
    have x84 := x73.then (Chg.set e80) (fun b hb => by subst hb; exact (.inl (by rw [eDc]; exact .inr (.inl rfl))))
    refine wc_ev [evC 4 0 0 agg29 f49, evS 4 2 1 eb53 e55, evP 4 3 e65, evT 4 4 0 size29 f74 e80] .normal h79 [(9, (vL oa out.length oc)), (10, (vS y.1)), (11, (vL (some ⟨b52, 0, none⟩) 1 1)), (12, (vL a70 ((out ++ [y.1]).length) c71))] ?_
    refine ⟨_, p82, ?_⟩
    obtain ⟨h85, e86⟩ : ∃ zq, zq = h79.setIfInBounds lp21 (.loop { ({ L2088 with state := .busy } : Loop) with state := .ready, pending := none }) := ⟨_, rfl⟩
    have p87 : At h85 lp21 (.loop { ({ L2088 with state := .busy } : Loop) with state := .ready, pending := none }) := set_same e86 p82
    have f88 := set_other e86 f81 (loop_ne p82 f81 rfl)
    have p89 := p83.keep fun b r hb q => (Chg.set e86).same b r q (n77 b hb)
    have x90 := x84.then (Chg.set e86) (fun b hb => .inl ((fun b hb => by rw [eDc]; exact .inl hb) b hb))
    have dnew : ∀ z, ((fun (out : List ByteArray) (oa : Option Addr) (oc : Nat) => (fun b => b = lp21 ∨ b = b1 ∨ (blk (Value.slice oa (out.length) (oc))) b ∨ False)) ((out ++ [y.1])) (a70) (c71)) z → Dc z ∨ hr.size ≤ z := by
      intro z hz; rcases hz with w | w | w | w
      · exact .inl (by rw [eDc]; exact .inl w)
      · exact .inl (by rw [eDc]; exact .inr (.inl w))
      · exact .inr (o78 z w)
      · exact w.elim
    refine (show ∃ D', Chg Dc hr (h85) ∧ (∀ z, D' z → Dc z ∨ hr.size ≤ z) ∧ (if true = true then I2096 (k + 1) D' h85 else E2097 h85) from ?_) |> (fun w => by rw [e86] at w; exact w)
    refine ⟨(fun (out : List ByteArray) (oa : Option Addr) (oc : Nat) => (fun b => b = lp21 ∨ b = b1 ∨ (blk (Value.slice oa (out.length) (oc))) b ∨ False)) ((out ++ [y.1])) (a70) (c71), x90, dnew, ?_⟩
    rw [if_pos rfl]
    rw [eI2095]
    exact ⟨(out ++ [y.1]), a70, c71, rfl, (by have q := p87; rw [loop_back hs25 hp26] at q; exact q), c40.then (x90) d41, fun z hz => (dnew z hz).elim (d41 z) (fun w => .inr (by have := c40.size; omega)), f88, absurd hk (by simp), p89⟩
  have h91 : I2096 0 D2099 h27 := by rw [eI2095]; exact ⟨[], none, 0, eD2100, p30, Chg.refl h27, fun z hz => .inl hz, f34, rfl, .inl ⟨rfl, rfl⟩⟩
  refine wc_range_any (h1 := h27) (c := (subc (bodyOf Tryd.prog 13) [1, 1, 0, 1, 0])) (g := .tmp 6) (params := #[7, 8]) (assign := (subc (bodyOf Tryd.prog 13) [1, 1, 0, 1, 0, 0])) (body := (subc (bodyOf Tryd.prog 13) [1, 1, 0, 1, 0, 1])) (by kernel_rfl) 46 #[] #[(vP b11 0)] lp21 [{ target := .collected dv19, args := #[] }] #[(Value.func (.yield lp21) #[] #[]), (vP b11 0)] (by rfl) rfl rfl (by kernel_rfl) (by rw [eh28, elp22, eL2088, etm24, edv20]; rfl) ?_
  refine (it0_nil h27 b11 f35 lp21 I2096 E2097 D2099  hX2114 hy45 h91).mono fun _ h8 q => ?_
  obtain ⟨q0, q⟩ := q
  rcases q with ⟨Dv, q, qD⟩ | q
  · rw [eI2095] at q
    obtain ⟨out, oa, oc, eDv, p92, cgN, hdN, f93, i94, p95⟩ := q
    refine ⟨_, p92, ?_, leftBy_none hp26 ?_⟩
    · exact fun w => by rw [hs25] at w; cases w
    have p96 : At h8 dv19 (.deferred (some [])) := q0.same _ _ p31 hd38
    obtain ⟨h97, e98⟩ : ∃ zq, zq = h8.setIfInBounds lp21 (.loop { L2088 with state := .exhausted }) := ⟨_, rfl⟩
    have f99 := set_other e98 f93 (loop_ne p92 f93 rfl)
    have p100 := p96.keep fun b r hb q => (Chg.set e98).same b r q ((fun b hb hb2 => (show ∀ b : Nat, b = lp21 → b = dv19 → False from fun b w1 w2 => by omega) b hb2 hb) b hb)
    rw [← e98]
    have c101 := q0.then (Chg.set e98) (fun b hb => .inl (by rw [eD2100]; exact .inl hb))
    have x102 : Ext h h97 := (Chg.then (O := fun _ => False) (Chg.ext x36) c101 (fun b hb => .inr (hD2106 b hb))).toExt'
    refine wc_ev [evC 5 0 0 agg29 f99] .ret h97 [(13, (vL oa out.length oc)), (2, (vL oa out.length oc))] ?_
    obtain ⟨h103, e104⟩ : ∃ zq, zq = h97.setIfInBounds dv19 (.deferred none) := ⟨_, rfl⟩
    have x105 : Ext h h103 := Ext.setNew x102 e104 (by omega)
    have eo := i94
    refine end_mark3 (T := hintsOf [] []) (dv := dv19) { tmps := #[(Value.pointer none), (Value.tuple #[]), (Value.slice oa (out.length) (oc)), (vP b1 0), (Value.tuple #[]), (Value.pointer none), (Value.func (.func 46) #[] #[(vP b11 0)]), (Value.tuple #[]), (Value.tuple #[]), (Value.tuple #[]), (Value.tuple #[]), (Value.tuple #[]), (Value.tuple #[]), (Value.slice oa (out.length) (oc))], defers := ([{ target := .collected dv19, args := #[] }] ++ []) } (by kernel_rfl) (.inr rfl) rfl p100 e104 (A := resQ [] (K (Value.slice oa (out.length) (oc)) h103)) (by kernel_rfl) ?_
    exact resQ_of _ (hK _ _ (⟨oa, oc, by simp [eo], x105⟩))
  · rw [eE2098] at q; exact q.elim
set_option maxHeartbeats 4000000 in
theorem get_bad (h : Heap) {t : Nat} {fr : Nat × Nat} (ht : h[t]? = some (.cells #[.map none] 50 fr)) (k : ByteArray) : WCall Tryd.prog 18 #[(vP t 0), (vS k)] h (fun v h1 => v = (Value.tuple #[(Value.agg #[(vI 0), (vI 0), (vI 0), (vI 0), (vI 0)]), (vI 1)]) ∧ Ext h h1) := by
  obtain ⟨b1, eb2⟩ : ∃ zq, zq = h.size := ⟨_, rfl⟩
  obtain ⟨h3, e4⟩ : ∃ zq, zq = h.push (.cells #[(vI 0), (vI 0), (vI 0), (vI 0), (vI 0)] 39 (0, 0)) := ⟨_, rfl⟩
  have f5 := push_new e4
  rw [← eb2] at f5
  have x6 : Ext h h3 := by rw [e4]; exact Ext.push _ _
  have o7 : h.size ≤ b1 := by have := (Ext.refl h).size; omega
  have f9 := x6 _ _ ht
  have x10 := (Ext.refl h).trans x6
  obtain ⟨_, hh11, sn12, rfl, x13⟩ := find_bad h3 f9 k
  have f14 := x13 _ _ f5
  have x15 := x10.trans x13
  obtain ⟨h16, e17⟩ : ∃ zq, zq = hh11.setIfInBounds b1 (.cells #[(vI 0), (vI 0), (vI 0), (vI 0), (vI 0)] 39 (0, 0)) := ⟨_, rfl⟩
  have f18 := set_same e17 f14
  have x19 := Ext.setNew x15 e17 o7
  exact hCall_ev [evA 0 0 eb2 e4, evF 1 2 sn12, evUw 1 5 size39 f14 e17] [evLw 0 0 agg39 size39 f18, evR (vI 1)] (vT #[(vA #[(vI 0), (vI 0), (vI 0), (vI 0), (vI 0)]), (vI 1)]) h16 ⟨rfl, x19⟩
set_option maxHeartbeats 4000000 in
theorem put_bad (h : Heap) {t : Nat} {fr : Nat × Nat} (ht : h[t]? = some (.cells #[.map none] 50 fr)) (k : ByteArray) (c : CntM) : WCall Tryd.prog 23 #[(vP t 0), (vS k), (Value.agg #[(vI (c.v)), (vI (c.up)), (vI (c.dn)), (vI (c.lo)), (vI (c.hi))])] h (fun v h1 => v = .int .i64 1 ∧ Ext h h1) := by
  suffices H : ∀ K : Value → Heap → Prop, (∀ v h1, (fun v h1 => v = .int .i64 1 ∧ Ext h h1) v h1 → K v h1) → WCall Tryd.prog 23 #[(vP t 0), (vS k), (Value.agg #[(vI (c.v)), (vI (c.up)), (vI (c.dn)), (vI (c.lo)), (vI (c.hi))])] h K from H _ fun _ _ q => q
  intro K hK
  refine wcall_at { tmps := #[(vP t 0), (vS k), (vA #[(vI c.v), (vI c.up), (vI c.dn), (vI c.lo), (vI c.hi)]), vZ, vZ, vZ, vZ, vZ, vZ, vZ, vZ, vZ, vZ, vZ, vZ, vZ, vZ, vZ, vZ, vZ, vZ, vZ, vZ, vZ, vZ, vZ, vZ, vZ, vZ, vZ, vZ, vZ, vZ, vZ, vZ, vZ, vZ, vZ, vZ, vZ, vZ, vZ, vZ], defers := [] } (by kernel_rfl) ?_
  obtain ⟨b1, eb2⟩ : ∃ zq, zq = h.size := ⟨_, rfl⟩
  obtain ⟨h3, e4⟩ : ∃ zq, zq = h.push (.cells #[(vI (c.v)), (vI (c.up)), (vI (c.dn)), (vI (c.lo)), (vI (c.hi))] 39 (0, 0)) := ⟨_, rfl⟩
  have f5 := push_new e4
  rw [← eb2] at f5
  have x6 : Ext h h3 := by rw [e4]; exact Ext.push _ _
  have o7 : h.size ≤ b1 := by have := (Ext.refl h).size; omega
  have f9 := x6 _ _ ht
  have x10 := (Ext.refl h).trans x6
  obtain ⟨_, hh11, sn12, rfl, x13⟩ := find_bad h3 f9 k
  have x14 := x10.trans x13
  obtain ⟨b15, eb16⟩ : ∃ zq, zq = hh11.size := ⟨_, rfl⟩
  obtain ⟨h17, e18⟩ : ∃ zq, zq = hh11.push (.cells #[(vI 0), (vI 0), (vI 0), (vI 0), (vI 0)] 39 (0, 0)) := ⟨_, rfl⟩
  have f19 := push_new e18
  rw [← eb16] at f19
  have x20 : Ext hh11 h17 := by rw [e18]; exact Ext.push _ _
  have o21 : h.size ≤ b15 := by have := x14.size; omega
  have x22 := x14.trans x20
  obtain ⟨h23, e24⟩ : ∃ zq, zq = h17.setIfInBounds b15 (.cells #[(vI 0), (vI 0), (vI 0), (vI 0), (vI 0)] 39 (0, 0)) := ⟨_, rfl⟩
  have x25 := Ext.setNew x22 e24 o21
  refine wc_ev [evA 0 0 eb2 e4, evF 1 2 sn12, evA 1 6 eb16 e18, evUw 1 7 size39 f19 e24] .ret h23 [(5, (vP b1 0)), (6, (vI 0)), (10, (vP t 0)), (11, (vS k)), (12, (vT #[(vA #[(vI 0), (vI 0), (vI 0), (vI 0), (vI 0)]), (vI 1)])), (9, (vT #[(vA #[(vI 0), (vI 0), (vI 0), (vI 0), (vI 0)]), (vI 1)])), (13, (vA #[(vI 0), (vI 0), (vI 0), (vI 0), (vI 0)])), (14, (vI 1)), (7, (vP b15 0)), (8, (vI 1)), (16, (vI 1)), (17, (vB true)), (15, (vB true)), (18, (vI 1)), (6, (vI 1))] ?_
  exact end_ev [] (vI 1) (hK _ _ (⟨rfl, x25⟩))
set_option maxHeartbeats 4000000 in
theorem sapply_bad (h : Heap) {t : Nat} {fr : Nat × Nat} (ht : h[t]? = some (.cells #[.map none] 50 fr)) (k : ByteArray) (ph d : Int) : WCall Tryd.prog 22 #[(vP t 0), (vS k), (vI (ph)), (vI (d))] h (fun v h1 => v = .tuple #[.int .i64 0, .int .i64 1] ∧ Ext h h1) := by
  suffices H : ∀ K : Value → Heap → Prop, (∀ v h1, (fun v h1 => v = .tuple #[.int .i64 0, .int .i64 1] ∧ Ext h h1) v h1 → K v h1) → WCall Tryd.prog 22 #[(vP t 0), (vS k), (vI (ph)), (vI (d))] h K from H _ fun _ _ q => q
  intro K hK
  refine wcall_at { tmps := #[(vP t 0), (vS k), (vI ph), (vI d), vZ, vZ, vZ, vZ, vZ, vZ, vZ, vZ, vZ, vZ, vZ, vZ, vZ, vZ, vZ, vZ, vZ, vZ, vZ, vZ, vZ, vZ, vZ, vZ, vZ, vZ, vZ, vZ, vZ, vZ, vZ, vZ, vZ, vZ, vZ], defers := [] } (by kernel_rfl) ?_
  obtain ⟨_, hh1, sn2, rfl, x3⟩ := find_bad h ht k
  have x4 := (Ext.refl h).trans x3
  obtain ⟨b5, eb6⟩ : ∃ zq, zq = hh1.size := ⟨_, rfl⟩
  obtain ⟨h7, e8⟩ : ∃ zq, zq = hh1.push (.cells #[(vI 0), (vI 0), (vI 0), (vI 0), (vI 0)] 39 (0, 0)) := ⟨_, rfl⟩
  have f9 := push_new e8
  rw [← eb6] at f9
  have x10 : Ext hh1 h7 := by rw [e8]; exact Ext.push _ _
  have o11 : h.size ≤ b5 := by have := x4.size; omega
  have x12 := x4.trans x10
  obtain ⟨h13, e14⟩ : ∃ zq, zq = h7.setIfInBounds b5 (.cells #[(vI 0), (vI 0), (vI 0), (vI 0), (vI 0)] 39 (0, 0)) := ⟨_, rfl⟩
  have x15 := Ext.setNew x12 e14 o11
  refine wc_ev [evF 1 2 sn2, evA 1 6 eb6 e8, evUw 1 7 size39 f9 e14] .ret h13 [(8, (vI 0)), (9, (vI 0)), (13, (vP t 0)), (14, (vS k)), (15, (vT #[(vA #[(vI 0), (vI 0), (vI 0), (vI 0), (vI 0)]), (vI 1)])), (12, (vT #[(vA #[(vI 0), (vI 0), (vI 0), (vI 0), (vI 0)]), (vI 1)])), (16, (vA #[(vI 0), (vI 0), (vI 0), (vI 0), (vI 0)])), (17, (vI 1)), (10, (vP b5 0)), (11, (vI 1)), (18, (vI 1)), (19, (vB true)), (20, (vI 1)), (8, (vI 0)), (9, (vI 1))] ?_
  exact end_ev [] (vT #[(vI 0), (vI 1)]) (hK _ _ (⟨rfl, x15⟩))
set_option maxHeartbeats 4000000 in
theorem remove_bad (h : Heap) {t : Nat} {fr : Nat × Nat} (ht : h[t]? = some (.cells #[.map none] 50 fr)) (k : ByteArray) : WCall Tryd.prog 24 #[(vP t 0), (vS k)] h (fun v h1 => v = .int .i64 1 ∧ Ext h h1) := by
  suffices H : ∀ K : Value → Heap → Prop, (∀ v h1, (fun v h1 => v = .int .i64 1 ∧ Ext h h1) v h1 → K v h1) → WCall Tryd.prog 24 #[(vP t 0), (vS k)] h K from H _ fun _ _ q => q
  intro K hK
  refine wcall_at { tmps := #[(vP t 0), (vS k), vZ, vZ, vZ, vZ, vZ, vZ, vZ, vZ, vZ, vZ, vZ, vZ, vZ, vZ, vZ, vZ, vZ, vZ, vZ], defers := [] } (by kernel_rfl) ?_
  obtain ⟨_, hh1, sn2, rfl, x3⟩ := find_bad h ht k
  have x4 := (Ext.refl h).trans x3
  obtain ⟨b5, eb6⟩ : ∃ zq, zq = hh1.size := ⟨_, rfl⟩
  obtain ⟨h7, e8⟩ : ∃ zq, zq = hh1.push (.cells #[(vI 0), (vI 0), (vI 0), (vI 0), (vI 0)] 39 (0, 0)) := ⟨_, rfl⟩
  have f9 := push_new e8
  rw [← eb6] at f9
  have x10 : Ext hh1 h7 := by rw [e8]; exact Ext.push _ _
  have o11 : h.size ≤ b5 := by have := x4.size; omega
  have x12 := x4.trans x10
  obtain ⟨h13, e14⟩ : ∃ zq, zq = h7.setIfInBounds b5 (.cells #[(vI 0), (vI 0), (vI 0), (vI 0), (vI 0)] 39 (0, 0)) := ⟨_, rfl⟩
  have x15 := Ext.setNew x12 e14 o11
  refine wc_ev [evF 1 2 sn2, evA 1 6 eb6 e8, evUw 1 7 size39 f9 e14] .ret h13 [(4, (vI 0)), (8, (vP t 0)), (9, (vS k)), (10, (vT #[(vA #[(vI 0), (vI 0), (vI 0), (vI 0), (vI 0)]), (vI 1)])), (7, (vT #[(vA #[(vI 0), (vI 0), (vI 0), (vI 0), (vI 0)]), (vI 1)])), (11, (vA #[(vI 0), (vI 0), (vI 0), (vI 0), (vI 0)])), (12, (vI 1)), (5, (vP b5 0)), (6, (vI 1)), (13, (vI 1)), (14, (vB true)), (15, (vI 1)), (4, (vI 1))] ?_
  exact end_ev [] (vI 1) (hK _ _ (⟨rfl, x15⟩))
set_option maxHeartbeats 4000000 in
theorem len_bad (h : Heap) {t : Nat} {fr : Nat × Nat} (ht : h[t]? = some (.cells #[.map none] 50 fr)) : WCall Tryd.prog 25 #[(vP t 0)] h (fun v h1 => v = .int .i64 0 ∧ Ext h h1) := by
  obtain ⟨_, _, sn1, rfl, rfl⟩ := valid_bad h ht
  exact hCall_ev [evF 1 1 sn1] [] (vI 0) h ⟨rfl, (Ext.refl h)⟩
set_option maxHeartbeats 4000000 in
theorem copy_bad (h : Heap) {t : Nat} {fr : Nat × Nat} (ht : h[t]? = some (.cells #[.map none] 50 fr)) : WCall Tryd.prog 26 #[(vP t 0)] h (fun v h1 => v = .pointer none ∧ Ext h h1) := by
  obtain ⟨_, _, sn1, rfl, rfl⟩ := valid_bad h ht
  exact hCall_ev [evF 1 1 sn1] [] vN h ⟨rfl, (Ext.refl h)⟩
set_option maxHeartbeats 4000000 in
theorem quiet_bad (h : Heap) {t : Nat} {fr : Nat × Nat} (ht : h[t]? = some (.cells #[.map none] 50 fr)) : WCall Tryd.prog 21 #[(vP t 0)] h (fun v h1 => v = .bool false ∧ Ext h h1) := by
  obtain ⟨_, _, sn1, rfl, rfl⟩ := valid_bad h ht
  exact hCall_ev [evF 1 1 sn1] [] (vB false) h ⟨rfl, (Ext.refl h)⟩
set_option maxHeartbeats 4000000 in
theorem ssum_bad (h : Heap) {t : Nat} {fr : Nat × Nat} (ht : h[t]? = some (.cells #[.map none] 50 fr)) : WCall Tryd.prog 20 #[(vP t 0)] h (fun v h1 => v = .tuple #[.int .i64 0, .int .i64 1] ∧ Ext h h1) := by
  suffices H : ∀ K : Value → Heap → Prop, (∀ v h1, (fun v h1 => v = .tuple #[.int .i64 0, .int .i64 1] ∧ Ext h h1) v h1 → K v h1) → WCall Tryd.prog 20 #[(vP t 0)] h K from H _ fun _ _ q => q
  intro K hK
  refine wcall_at { tmps := #[(vP t 0), vZ, vZ, vZ, vZ, vZ, vZ, vZ, vZ, vZ, vZ, vZ, vZ, vZ, vZ, vZ, vZ, vZ, vZ, vZ, vZ, vZ, vZ], defers := [] } (by kernel_rfl) ?_
  refine wc_seq' (subc (bodyOf Tryd.prog 20) [0]) (subc (bodyOf Tryd.prog 20) [1]) (by kernel_rfl) ?_
  refine wc_ev [] .normal h [(2, (vI 0)), (3, (vI 0))] ?_
  refine wc_seq' (subc (bodyOf Tryd.prog 20) [1, 0]) (subc (bodyOf Tryd.prog 20) [1, 1]) (by kernel_rfl) ?_
  obtain ⟨_, _, sn1, rfl, rfl⟩ := valid_bad h ht
  refine wc_ev [evF 1 1 sn1] .ret h [(7, (vP t 0)), (8, (vB false)), (9, (vB true)), (2, (vI 0)), (3, (vI 1))] ?_
  exact end_ev [] (vT #[(vI 0), (vI 1)]) (hK _ _ (⟨rfl, (Ext.refl h)⟩))
set_option maxHeartbeats 4000000 in
theorem in_bad (h : Heap) {t : Nat} {fr : Nat × Nat} (ht : h[t]? = some (.cells #[.map none] 50 fr)) (r0 r1 : ByteArray) : WCall Tryd.prog 14 #[(vP t 0), (Value.agg #[(vS r0), (vS r1)])] h (fun v h1 => v = .tuple #[.slice none 0 0, .int .i64 1] ∧ Ext h h1) := by
  suffices H : ∀ K : Value → Heap → Prop, (∀ v h1, (fun v h1 => v = .tuple #[.slice none 0 0, .int .i64 1] ∧ Ext h h1) v h1 → K v h1) → WCall Tryd.prog 14 #[(vP t 0), (Value.agg #[(vS r0), (vS r1)])] h K from H _ fun _ _ q => q
  intro K hK
  refine wcall_at { tmps := #[(vP t 0), (vA #[(vS r0), (vS r1)]), vZ, vZ, vZ, vZ, vZ, vZ, vZ, vZ, vZ, vZ, vZ, vZ, vZ, vZ, vZ, vZ, vZ, vZ, vZ, vZ, vZ, vZ, vZ, vZ], defers := [] } (by kernel_rfl) ?_
  refine wc_seq' (subc (bodyOf Tryd.prog 14) [0]) (subc (bodyOf Tryd.prog 14) [1]) (by kernel_rfl) ?_
  obtain ⟨b1, eb2⟩ : ∃ zq, zq = h.size := ⟨_, rfl⟩
  obtain ⟨h3, e4⟩ : ∃ zq, zq = h.push (.cells #[(vS r0), (vS r1)] 24 (0, 0)) := ⟨_, rfl⟩
  have f5 := push_new e4
  rw [← eb2] at f5
  have x6 : Ext h h3 := by rw [e4]; exact Ext.push _ _
  have o7 : h.size ≤ b1 := by have := (Ext.refl h).size; omega
  have f9 := x6 _ _ ht
  have x10 := (Ext.refl h).trans x6
  refine wc_ev [evA 0 0 eb2 e4] .normal h3 [(3, (vP b1 0)), (4, (vL none 0 0)), (5, (vI 0))] ?_
  refine wc_seq' (subc (bodyOf Tryd.prog 14) [1, 0]) (subc (bodyOf Tryd.prog 14) [1, 1]) (by kernel_rfl) ?_
  obtain ⟨_, _, sn11, rfl, rfl⟩ := valid_bad h3 f9
  refine wc_ev [evF 1 1 sn11] .ret h3 [(8, (vP t 0)), (9, (vB false)), (10, (vB true)), (4, (vL none 0 0)), (5, (vI 1))] ?_
  exact end_ev [] (vT #[(vL none 0 0), (vI 1)]) (hK _ _ (⟨rfl, x10⟩))
set_option maxHeartbeats 4000000 in
theorem keys_bad (h : Heap) {t : Nat} {fr : Nat × Nat} (ht : h[t]? = some (.cells #[.map none] 50 fr)) : WCall Tryd.prog 13 #[(vP t 0)] h (fun v h1 => ∃ oa oc, v = .slice oa 0 oc ∧ Ext h h1) := by
  suffices H : ∀ K : Value → Heap → Prop, (∀ v h1, (fun v h1 => ∃ oa oc, v = .slice oa 0 oc ∧ Ext h h1) v h1 → K v h1) → WCall Tryd.prog 13 #[(vP t 0)] h K from H _ fun _ _ q => q
  intro K hK
  refine wcall_at { tmps := #[(vP t 0), vZ, vZ, vZ, vZ, vZ, vZ, vZ, vZ, vZ, vZ, vZ, vZ, vZ], defers := [] } (by kernel_rfl) ?_
  refine wc_seq' (subc (bodyOf Tryd.prog 13) [0]) (subc (bodyOf Tryd.prog 13) [1]) (by kernel_rfl) ?_
  refine wc_ev [] .normal h [(2, (vL none 0 0))] ?_
  refine wc_seq' (subc (bodyOf Tryd.prog 13) [1, 0]) (subc (bodyOf Tryd.prog 13) [1, 1]) (by kernel_rfl) ?_
  obtain ⟨b1, eb2⟩ : ∃ zq, zq = h.size := ⟨_, rfl⟩
  obtain ⟨h3, e4⟩ : ∃ zq, zq = h.push (.cells #[(Value.slice none 0 0)] 29 (0, 0)) := ⟨_, rfl⟩
  have f5 := push_new e4
  rw [← eb2] at f5
  have x6 : Ext h h3 := by rw [e4]; exact Ext.push _ _
  have o7 : h.size ≤ b1 := by have := (Ext.refl h).size; omega
  have f9 := x6 _ _ ht
  have x10 := (Ext.refl h).trans x6
  refine wc_ev [evA 1 0 eb2 e4] .normal h3 [(3, (vP b1 0))] ?_
  refine wc_seq' (subc (bodyOf Tryd.prog 13) [1, 1, 0]) (subc (bodyOf Tryd.prog 13) [1, 1, 1]) (by kernel_rfl) ?_
  refine wc_seq' (subc (bodyOf Tryd.prog 13) [1, 1, 0, 0]) (subc (bodyOf Tryd.prog 13) [1, 1, 0, 1]) (by kernel_rfl) ?_
  obtain ⟨_, h11, s12, b13, rfl, f14, x15, o16⟩ := each_fn h3 t
  have oo17 : h.size ≤ b13 := by have := x10.size; omega
  have f18 := x15 _ _ f9
  have f19 := x15 _ _ f5
  have x20 := x10.trans x15
  refine wc_ev [evF 2 1 s12] .normal h11 [(5, (vP t 0)), (6, (Value.func (.func 46) #[] #[(vP b13 0)]))] ?_
  refine wc_block' 0 (subc (bodyOf Tryd.prog 13) [1, 1, 0, 1, 0]) (by kernel_rfl) ?_
  refine wc_act { tmps := #[(vP t 0), vZ, (vL none 0 0), (vP b1 0), vZ, (vP t 0), (Value.func (.func 46) #[] #[(vP b13 0)]), vZ, vZ, vZ, vZ, vZ, vZ, vZ], defers := [] } (by kernel_rfl) ?_
  obtain ⟨dv21, edv22⟩ : ∃ zq, zq = h11.size := ⟨_, rfl⟩
  obtain ⟨lp23, elp24⟩ : ∃ zq, zq = h11.size + 1 := ⟨_, rfl⟩
  obtain ⟨tm25, etm26⟩ : ∃ zq : Array Value, zq = #[(vP t 0), (Value.tuple #[]), (Value.slice none 0 0), (vP b1 0), (Value.tuple #[]), (vP t 0), (Value.func (.func 46) #[] #[(vP b13 0)]), (Value.tuple #[]), (Value.tuple #[]), (Value.tuple #[]), (Value.tuple #[]), (Value.tuple #[]), (Value.tuple #[]), (Value.tuple #[])] := ⟨_, rfl⟩
  obtain ⟨L2337, eL2337⟩ : ∃ zq : Loop, zq = { state := .ready, pending := none, fn := 0, tmps := tm25, params := #[7, 8], assign := (subc (bodyOf Tryd.prog 13) [1, 1, 0, 1, 0, 0]), body := (subc (bodyOf Tryd.prog 13) [1, 1, 0, 1, 0, 1]), defers := dv21 } := ⟨_, rfl⟩
  have hs27 : L2337.state = .ready := by rw [eL2337]
  have hp28 : L2337.pending = none := by rw [eL2337]
  obtain ⟨h29, eh30⟩ : ∃ zq, zq = (h11.push (.deferred (some []))).push (.loop L2337) := ⟨_, rfl⟩
  have x31 : Ext h11 h29 := by rw [eh30]; exact (Ext.push _ _).trans (Ext.push _ _)
  have p32 : At h29 lp23 (.loop L2337) := by rw [eh30, elp24, show h11.size + 1 = (h11.push (.deferred (some []))).size by simp]; exact push_new rfl
  have p33 : At h29 dv21 (.deferred (some [])) := by rw [eh30, edv22]; exact push_old (b := h11.size) rfl (push_new rfl)
  have sh34 : lp23 < h29.size := p32.blk_lt rfl
  have z35 : h.size ≤ h11.size := x20.size
  have f36 := x31 _ _ f18
  have f37 := x31 _ _ f19
  have f38 := x31 _ _ f14
  have x39 := x20.trans x31
  have z40 : h.size ≤ h29.size := x39.size
  obtain ⟨D2348, eD2349⟩ : ∃ zq : Nat → Prop, zq = (fun (out : List ByteArray) (oa : Option Addr) (oc : Nat) => (fun b => b = lp23 ∨ b = b1 ∨ (blk (Value.slice oa (out.length) (oc))) b ∨ False)) ([]) (none) (0) := ⟨_, rfl⟩
  have hD2356 : ∀ b, D2348 b → h.size ≤ b := by
    rw [eD2349]; rintro b (w | w | w | w)
    · have w1 : b = lp23 := w; omega
    · have w1 : b = b1 := w; have := o7; omega
    · exact w.elim
    · exact w.elim
  have hd41 : ¬ D2348 dv21 := by
    rw [eD2349]; rintro (w | w | w | w)
    · have w1 : dv21 = lp23 := w; omega
    · have w1 : dv21 = b1 := w; have := row_lt f19; omega
    · exact w.elim
    · exact w.elim
  obtain ⟨I2345, eI2344⟩ : ∃ zq : Nat → (Nat → Prop) → Heap → Prop, zq = fun (kk : Nat) (Dv : Nat → Prop) (h' : Heap) => ∃ (out : List ByteArray), ∃ (oa : Option Addr), ∃ (oc : Nat), Dv = (fun b => b = lp23 ∨ b = b1 ∨ (blk (Value.slice oa (out.length) (oc))) b ∨ False) ∧ At h' lp23 (.loop L2337) ∧ Chg D2348 h29 h' ∧ (∀ z, Dv z → D2348 z ∨ h29.size ≤ z) ∧ h'[b1]? = some (.cells #[(Value.slice oa (out.length) (oc))] 29 (0, 0)) ∧ out = [] ∧ OwnAt h' 9 strc out (Value.slice oa (out.length) (oc)) := ⟨_, rfl⟩
  obtain ⟨E2346, eE2347⟩ : ∃ zq : Heap → Prop, zq = fun _ => False := ⟨_, rfl⟩
  have hX2364 : ∀ k D h' h'', I2345 k D h' → Ext h' h'' → I2345 k D h'' := by
    rw [eI2344]
    rintro k _ h' h'' ⟨out, oa, oc, rfl, p42, c43, d44, f45, i46, p47⟩ xx
    exact ⟨out, oa, oc, rfl, xx _ _ p42, c43.trans (Chg.ext xx), d44, xx _ _ f45, i46, p47.keep fun b r _ q => xx b r q⟩
  have hy48 : ∀ k y D h', (([] : Sto))[k]? = some y → I2345 k D h' → ∃ b h'' D', SoundYield Tryd.prog lp23 #[(vS y.1), (Value.agg #[(vI (y.2.v)), (vI (y.2.up)), (vI (y.2.dn)), (vI (y.2.lo)), (vI (y.2.hi))])] h' (.bool b) h'' ∧ Chg D h' h'' ∧ (∀ z, D' z → D z ∨ h'.size ≤ z) ∧ (if b = true then I2345 (k + 1) D' h'' else E2346 h'') := by
    rw [eI2344]
    rintro k y _ hr hk ⟨out, oa, oc, rfl, p42, c43, d44, f45, i46, p47⟩
    obtain ⟨Dc, eDc⟩ : ∃ zq : Nat → Prop, zq = (fun b => b = lp23 ∨ b = b1 ∨ (blk (Value.slice oa (out.length) (oc))) b ∨ False) := ⟨_, rfl⟩
    rw [← eDc] at d44
    rw [← eI2344]
    rw [← eDc]
    have lo1 : out.length ≤ 64 := by rw [i46]; decide
    suffices hw : ∃ b h'', SoundYield Tryd.prog lp23 #[(vS y.1), (Value.agg #[(vI (y.2.v)), (vI (y.2.up)), (vI (y.2.dn)), (vI (y.2.lo)), (vI (y.2.hi))])] hr (.bool b) h'' ∧ (fun b h'' => ∃ D', Chg Dc hr h'' ∧ (∀ z, D' z → Dc z ∨ hr.size ≤ z) ∧ (if b = true then I2345 (k + 1) D' h'' else E2346 h'')) b h'' from by
      obtain ⟨b, h'', q1, D', q2, q3, q4⟩ := hw
      exact ⟨b, h'', D', q1, q2, q3, q4⟩
    refine w_round (args := #[(vS y.1), (Value.agg #[(vI (y.2.v)), (vI (y.2.up)), (vI (y.2.dn)), (vI (y.2.lo)), (vI (y.2.hi))])]) (K := (fun b h'' => ∃ D', Chg Dc hr h'' ∧ (∀ z, D' z → Dc z ∨ hr.size ≤ z) ∧ (if b = true then I2345 (k + 1) D' h'' else E2346 h''))) p42 hs27 (by rw [eL2337]; rfl) { tmps := #[(vP t 0), (Value.tuple #[]), (Value.slice none 0 0), (vP b1 0), (Value.tuple #[]), (vP t 0), (Value.func (.func 46) #[] #[(vP b13 0)]), (vS y.1), (Value.agg #[(vI (y.2.v)), (vI (y.2.up)), (vI (y.2.dn)), (vI (y.2.lo)), (vI (y.2.hi))]), (Value.tuple #[]), (Value.tuple #[]), (Value.tuple #[]), (Value.tuple #[]), (Value.tuple #[])], defers := [] } (by rw [eL2337, etm26]; kernel_rfl) (subc (bodyOf Tryd.prog 13) [1, 1, 0, 1, 0, 0]) (subc (bodyOf Tryd.prog 13) [1, 1, 0, 1, 0, 1]) (by rw [eL2337]) (by rw [eL2337]) ?_
    refine wc_ev [] .normal hr [(4, (vS y.1))] ?_
    refine ⟨rfl, L2337, p42, hs27, ?_⟩
    obtain ⟨h49, e50⟩ : ∃ zq, zq = hr.setIfInBounds lp23 (.loop { L2337 with state := .busy }) := ⟨_, rfl⟩
    have p51 : At h49 lp23 (.loop { L2337 with state := .busy }) := set_same e50 p42
    have f52 := set_other e50 f45 (loop_ne p42 f45 rfl)
    have p53 := p47.keep fun b r hb q => (Chg.set e50).same b r q ((fun b hb hb2 => (p47).celled.loop p42 b hb hb2) b hb)
    have x54 := (Chg.refl (O := Dc) hr).then (Chg.set e50) (fun b hb => .inl ((fun b hb => by rw [eDc]; exact .inl hb) b hb))
    rw [← e50]
    obtain ⟨b55, eb56⟩ : ∃ zq, zq = h49.size := ⟨_, rfl⟩
    obtain ⟨h57, e58⟩ : ∃ zq, zq = h49.push (.cells #[(vS y.1)] 9 (0, 0)) := ⟨_, rfl⟩
    have f59 := push_new e58
    rw [← eb56] at f59
    have x60 : Ext h49 h57 := by rw [e58]; exact Ext.push _ _
    have o61 : hr.size ≤ b55 := by have := x54.size; omega
    have f62 := x60 _ _ f52
    have p63 := p53.keep fun b r _ q => x60 b r q
    have p64 := p51.keep fun b r _ q => x60 b r q
    have x65 := x54.trans (Chg.ext x60)
    obtain ⟨w66, h67, e68, p69, c70, n71, z72⟩ := own_append und29 sizeb9 zero9 rfl (by decide) strc_size (x := y.1) p63 f59 rfl (by omega) (by unfold maxLen; omega)
    obtain ⟨a73, c74, rfl⟩ := (p69.slice strc_size).len
    have z75 : hr.size ≤ h57.size := x65.size
    have x76 := x65.then c70 (fun b hb => .inl ((show ∀ b, (blk (Value.slice oa (out.length) (oc))) b → Dc b from fun b hb => by rw [eDc]; exact .inr (.inr (.inl hb))) b hb))
    have f77 := c70.same _ _ f62 (fun hb => p63.ne f62 (by decide) hb rfl)
    have p78 := p64.keep fun b r hb q => c70.same b r q ((fun b hb hb2 => (p63).celled.loop p64 b hb2 hb) b hb)
    have n79 : ∀ zz, blk (Value.slice a73 ((out ++ [y.1]).length) (c74)) zz → ¬ zz = b1 := fun zz hz ez => by have := n71 zz hz; have := row_lt f62; omega
    have n80 : ∀ zz, blk (Value.slice a73 ((out ++ [y.1]).length) (c74)) zz → ¬ (fun q => q = lp23) zz := fun zz hz ez => by have := n71 zz hz; have := p64.blk_lt ez; omega
    have o81 : ∀ zz, blk (Value.slice a73 ((out ++ [y.1]).length) (c74)) zz → hr.size ≤ zz := fun zz hz => by have := n71 zz hz; have := z75; omega
    obtain ⟨h82, e83⟩ : ∃ zq, zq = h67.setIfInBounds b1 (.cells #[(Value.slice a73 ((out ++ [y.1]).length) (c74))] 29 (0, 0)) := ⟨_, rfl⟩
    have f84 := set_same e83 f77
    have p85 := p78.keep fun b r hb q => (Chg.set e83).same b r q ((fun (b : Nat) hb => loop_ne p78 f77 hb) b hb)
    have p86 := p69.keep fun b r hb q => (Chg.set e83).same b r q (n79 b hb)
    have x87 := x76.then (Chg.set e83) (fun b hb => by subst hb; exact (.inl (by rw [eDc]; exact .inr (.inl rfl))))
    refine wc_ev [evC 4 0 0 agg29 f52, evS 4 2 1 eb56 e58, evP 4 3 e68, evT 4 4 0 size29 f77 e83] .normal h82 [(9, (vL oa out.length oc)), (10, (vS y.1)), (11, (vL (some ⟨b55, 0, none⟩) 1 1)), (12, (vL a73 ((out ++ [y.1]).length) c74))] ?_
    refine ⟨_, p85, ?_⟩
    obtain ⟨h88, e89⟩ : ∃ zq, zq = h82.setIfInBounds lp23 (.loop { ({ L2337 with state := .busy } : Loop) with state := .ready, pending := none }) := ⟨_, rfl⟩
    have p90 : At h88 lp23 (.loop { ({ L2337 with state := .busy } : Loop) with state := .ready, pending := none }) := set_same e89 p85
    have f91 := set_other e89 f84 (loop_ne p85 f84 rfl)
    have p92 := p86.keep fun b r hb q => (Chg.set e89).same b r q (n80 b hb)
    have x93 := x87.then (Chg.set e89) (fun b hb => .inl ((fun b hb => by rw [eDc]; exact .inl hb) b hb))
    have dnew : ∀ z, ((fun (out : List ByteArray) (oa : Option Addr) (oc : Nat) => (fun b => b = lp23 ∨ b = b1 ∨ (blk (Value.slice oa (out.length) (oc))) b ∨ False)) ((out ++ [y.1])) (a73) (c74)) z → Dc z ∨ hr.size ≤ z := by
      intro z hz; rcases hz with w | w | w | w
      · exact .inl (by rw [eDc]; exact .inl w)
      · exact .inl (by rw [eDc]; exact .inr (.inl w))
      · exact .inr (o81 z w)
      · exact w.elim
    refine (show ∃ D', Chg Dc hr (h88) ∧ (∀ z, D' z → Dc z ∨ hr.size ≤ z) ∧ (if true = true then I2345 (k + 1) D' h88 else E2346 h88) from ?_) |> (fun w => by rw [e89] at w; exact w)
    refine ⟨(fun (out : List ByteArray) (oa : Option Addr) (oc : Nat) => (fun b => b = lp23 ∨ b = b1 ∨ (blk (Value.slice oa (out.length) (oc))) b ∨ False)) ((out ++ [y.1])) (a73) (c74), x93, dnew, ?_⟩
    rw [if_pos rfl]
    rw [eI2344]
    exact ⟨(out ++ [y.1]), a73, c74, rfl, (by have q := p90; rw [loop_back hs27 hp28] at q; exact q), c43.then (x93) d44, fun z hz => (dnew z hz).elim (d44 z) (fun w => .inr (by have := c43.size; omega)), f91, absurd hk (by simp), p92⟩
  have h94 : I2345 0 D2348 h29 := by rw [eI2344]; exact ⟨[], none, 0, eD2349, p32, Chg.refl h29, fun z hz => .inl hz, f37, rfl, .inl ⟨rfl, rfl⟩⟩
  refine wc_range_any (h1 := h29) (c := (subc (bodyOf Tryd.prog 13) [1, 1, 0, 1, 0])) (g := .tmp 6) (params := #[7, 8]) (assign := (subc (bodyOf Tryd.prog 13) [1, 1, 0, 1, 0, 0])) (body := (subc (bodyOf Tryd.prog 13) [1, 1, 0, 1, 0, 1])) (by kernel_rfl) 46 #[] #[(vP b13 0)] lp23 [{ target := .collected dv21, args := #[] }] #[(Value.func (.yield lp23) #[] #[]), (vP b13 0)] (by rfl) rfl rfl (by kernel_rfl) (by rw [eh30, elp24, eL2337, etm26, edv22]; rfl) ?_
  refine (it0_bad h29 f36 b13 f38 lp23 I2345 E2346 D2348  hX2364 hy48 h94).mono fun _ h8 q => ?_
  obtain ⟨q0, q⟩ := q
  rcases q with ⟨Dv, q, qD⟩ | q
  · rw [eI2344] at q
    obtain ⟨out, oa, oc, eDv, p95, cgN, hdN, f96, i97, p98⟩ := q
    refine ⟨_, p95, ?_, leftBy_none hp28 ?_⟩
    · exact fun w => by rw [hs27] at w; cases w
    have p99 : At h8 dv21 (.deferred (some [])) := q0.same _ _ p33 hd41
    obtain ⟨h100, e101⟩ : ∃ zq, zq = h8.setIfInBounds lp23 (.loop { L2337 with state := .exhausted }) := ⟨_, rfl⟩
    have f102 := set_other e101 f96 (loop_ne p95 f96 rfl)
    have p103 := p99.keep fun b r hb q => (Chg.set e101).same b r q ((fun b hb hb2 => (show ∀ b : Nat, b = lp23 → b = dv21 → False from fun b w1 w2 => by omega) b hb2 hb) b hb)
    rw [← e101]
    have c104 := q0.then (Chg.set e101) (fun b hb => .inl (by rw [eD2349]; exact .inl hb))
    have x105 : Ext h h100 := (Chg.then (O := fun _ => False) (Chg.ext x39) c104 (fun b hb => .inr (hD2356 b hb))).toExt'
    refine wc_ev [evC 5 0 0 agg29 f102] .ret h100 [(13, (vL oa out.length oc)), (2, (vL oa out.length oc))] ?_
    obtain ⟨h106, e107⟩ : ∃ zq, zq = h100.setIfInBounds dv21 (.deferred none) := ⟨_, rfl⟩
    have x108 : Ext h h106 := Ext.setNew x105 e107 (by omega)
    have eo := i97
    refine end_mark3 (T := hintsOf [] []) (dv := dv21) { tmps := #[(vP t 0), (Value.tuple #[]), (Value.slice oa (out.length) (oc)), (vP b1 0), (Value.tuple #[]), (vP t 0), (Value.func (.func 46) #[] #[(vP b13 0)]), (Value.tuple #[]), (Value.tuple #[]), (Value.tuple #[]), (Value.tuple #[]), (Value.tuple #[]), (Value.tuple #[]), (Value.slice oa (out.length) (oc))], defers := ([{ target := .collected dv21, args := #[] }] ++ []) } (by kernel_rfl) (.inr rfl) rfl p103 e107 (A := resQ [] (K (Value.slice oa (out.length) (oc)) h106)) (by kernel_rfl) ?_
    exact resQ_of _ (hK _ _ (⟨oa, oc, by simp [eo], x108⟩))
  · rw [eE2347] at q; exact q.elim
end C08
