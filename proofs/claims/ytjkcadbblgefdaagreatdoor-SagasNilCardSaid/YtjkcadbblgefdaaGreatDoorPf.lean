/- The run of SagasNil. -/
import Derived.Test.YtjkcadbblgefdaaGreatDoorTj
import Derived.Test.YtjkcadbblgefdaaGreatDoorXc
import Derived.KernelRfl
open Go Go.AM Go.Proofs
namespace C29
theorem size9 : (Tryz.prog.info? 9).map (·.size) = some 1 := by kernel_rfl
set_option maxHeartbeats 4000000 in
theorem open_fnn (h : Heap)  : WCall Tryz.prog 77 #[(Value.pointer none)] h (fun v h1 => ∃ b, v = .func (.func 103) #[] #[.pointer (some ⟨b, 0, none⟩)] ∧ h1[b]? = some (.cells #[.pointer none] 25 (0, 0)) ∧ Ext h h1 ∧ h.size ≤ b) := by
  obtain ⟨b1, eb2⟩ : ∃ zq, zq = h.size := ⟨_, rfl⟩
  obtain ⟨h3, e4⟩ : ∃ zq, zq = h.push (.cells #[(Value.pointer none)] 25 (0, 0)) := ⟨_, rfl⟩
  have f5 := push_new e4
  rw [← eb2] at f5
  have x6 : Ext h h3 := by rw [e4]; exact Ext.push _ _
  have o7 : h.size ≤ b1 := by have := (Ext.refl h).size; omega
  have x8 := (Ext.refl h).trans x6
  exact hCall_ev [evA 0 0 eb2 e4] [] (Value.func (.func 103) #[] #[(vP b1 0)]) h3 ⟨_, rfl, f5, x8, o7⟩
set_option maxHeartbeats 4000000 in
theorem chg_nil (h : Heap)  (k : Int) (f : Value) : WCall Tryz.prog 58 #[(Value.pointer none), (vI (k)), f] h (fun v h1 => v = .int .i64 1 ∧ Ext h h1) := by
  obtain ⟨_, _, sn1, rfl, rfl⟩ := made_nil h
  exact hCall_ev [evF 1 1 sn1] [] (vI 1) h ⟨rfl, (Ext.refl h)⟩
set_option maxHeartbeats 4000000 in
theorem tget_nil (h : Heap)  (k : Int) : WCall Tryz.prog 27 #[(Value.pointer none), (vI (k))] h (fun v h1 => v = (Value.tuple #[(Value.agg #[(vS .empty), (vI 0), (vI 0), (Value.slice none 0 0), (vI 0), (vI 0), (vB false), (vI 0), (vI 0), (vI 0)]), (vI 1)]) ∧ Ext h h1) := by
  obtain ⟨b1, eb2⟩ : ∃ zq, zq = h.size := ⟨_, rfl⟩
  obtain ⟨h3, e4⟩ : ∃ zq, zq = h.push (.cells #[(vS .empty), (vI 0), (vI 0), (Value.slice none 0 0), (vI 0), (vI 0), (vB false), (vI 0), (vI 0), (vI 0)] 38 (0, 0)) := ⟨_, rfl⟩
  have f5 := push_new e4
  rw [← eb2] at f5
  have x6 : Ext h h3 := by rw [e4]; exact Ext.push _ _
  have o7 : h.size ≤ b1 := by have := (Ext.refl h).size; omega
  have x8 := (Ext.refl h).trans x6
  obtain ⟨b9, eb10⟩ : ∃ zq, zq = h3.size := ⟨_, rfl⟩
  obtain ⟨h11, e12⟩ : ∃ zq, zq = h3.push (.cells #[(vS .empty), (vI 0), (vI 0), (Value.slice none 0 0), (vI 0), (vI 0), (vB false), (vI 0), (vI 0), (vI 0)] 38 (0, 0)) := ⟨_, rfl⟩
  have f13 := push_new e12
  rw [← eb10] at f13
  have x14 : Ext h3 h11 := by rw [e12]; exact Ext.push _ _
  have o15 : h.size ≤ b9 := by have := x8.size; omega
  have f17 := x14 _ _ f5
  have x18 := x8.trans x14
  obtain ⟨_, hh19, sn20, rfl, x21⟩ := chg_nil h11 (k) (Value.func (.func 73) #[] #[(vP b9 0)])
  have f22 := x21 _ _ f17
  have f23 := x21 _ _ f13
  have x24 := x18.trans x21
  obtain ⟨h25, e26⟩ : ∃ zq, zq = hh19.setIfInBounds b1 (.cells #[(vS .empty), (vI 0), (vI 0), (Value.slice none 0 0), (vI 0), (vI 0), (vB false), (vI 0), (vI 0), (vI 0)] 38 (0, 0)) := ⟨_, rfl⟩
  have f27 := set_same e26 f22
  have x28 := Ext.setNew x24 e26 o7
  exact hCall_ev [evA 0 0 eb2 e4, evA 1 0 eb10 e12, evF 2 3 sn20, evLw 3 0 agg38 size38 f23, evUw 3 2 size38 f22 e26] [evLw 0 0 agg38 size38 f27, evR (vI 1)] (vT #[(vA #[(vS .empty), (vI 0), (vI 0), (vL none 0 0), (vI 0), (vI 0), (vB false), (vI 0), (vI 0), (vI 0)]), (vI 1)]) h25 ⟨rfl, x28⟩
set_option maxHeartbeats 4000000 in
theorem tcancel_nil (h : Heap)  (k : Int) : WCall Tryz.prog 19 #[(Value.pointer none), (vI (k))] h (fun v h1 => v = .int .i64 1 ∧ Ext h h1) := by
  obtain ⟨_, hh1, sn2, rfl, x3⟩ := chg_nil h (k) (Value.func (.func 41) #[] #[])
  have x4 := (Ext.refl h).trans x3
  exact hCall_ev [evF 1 2 sn2] [] (vI 1) hh1 ⟨rfl, x4⟩
set_option maxHeartbeats 4000000 in
theorem tresult_nil (h : Heap)  (k e1 e2 e3 res now : Int) : WCall Tryz.prog 17 #[(Value.pointer none), (vI (k)), (Value.agg #[(vI (e1)), (vI (e2)), (vI (e3))]), (vI (res)), (vI (now))] h (fun v h1 => v = .int .i64 1 ∧ Ext h h1) := by
  obtain ⟨b1, eb2⟩ : ∃ zq, zq = h.size := ⟨_, rfl⟩
  obtain ⟨h3, e4⟩ : ∃ zq, zq = h.push (.cells #[(vI (e1)), (vI (e2)), (vI (e3))] 33 (0, 0)) := ⟨_, rfl⟩
  have f5 := push_new e4
  rw [← eb2] at f5
  have x6 : Ext h h3 := by rw [e4]; exact Ext.push _ _
  have o7 : h.size ≤ b1 := by have := (Ext.refl h).size; omega
  have x8 := (Ext.refl h).trans x6
  obtain ⟨b9, eb10⟩ : ∃ zq, zq = h3.size := ⟨_, rfl⟩
  obtain ⟨h11, e12⟩ : ∃ zq, zq = h3.push (.cells #[(vI (res))] 34 (0, 0)) := ⟨_, rfl⟩
  have f13 := push_new e12
  rw [← eb10] at f13
  have x14 : Ext h3 h11 := by rw [e12]; exact Ext.push _ _
  have o15 : h.size ≤ b9 := by have := x8.size; omega
  have f17 := x14 _ _ f5
  have x18 := x8.trans x14
  obtain ⟨b19, eb20⟩ : ∃ zq, zq = h11.size := ⟨_, rfl⟩
  obtain ⟨h21, e22⟩ : ∃ zq, zq = h11.push (.cells #[(vI (now))] 3 (0, 0)) := ⟨_, rfl⟩
  have f23 := push_new e22
  rw [← eb20] at f23
  have x24 : Ext h11 h21 := by rw [e22]; exact Ext.push _ _
  have o25 : h.size ≤ b19 := by have := x18.size; omega
  have f26 := x24 _ _ f17
  have x27 := x18.trans x24
  obtain ⟨h28, e29⟩ : ∃ zq, zq = h21.setIfInBounds b1 (.cells #[(vI (effD (e1) (k))), (vI (e2)), (vI (e3))] 33 (0, 0)) := ⟨_, rfl⟩
  have x30 := Ext.setNew x27 e29 o7
  obtain ⟨_, hh31, sn32, rfl, x33⟩ := chg_nil h28 (k) (Value.func (.func 59) #[] #[(vP b1 0), (vP b9 0), (vP b19 0)])
  have x34 := x30.trans x33
  exact hCall_ev [evA 0 0 eb2 e4, evA 0 1 eb10 e12, evA 0 2 eb20 e22, evC 1 1 0 agg3 f26, evV 1 3 (vI (effD (e1) (k))) (show binA Tryz.prog .sub 3 (vI e1) (vI k) = some (vI (effD (e1) (k))) from sub_wrap), evT 1 5 0 size3 f26 e29, evF 2 3 sn32] [] (vI 1) hh31 ⟨rfl, x34⟩
set_option maxHeartbeats 4000000 in
theorem tstart_nil (h : Heap)  (k : Int) (nm : ByteArray) (rt dl : Int) (sa : Option Addr) (ln cp : Nat) (n : Int) : WCall Tryz.prog 14 #[(Value.pointer none), (vI (k)), (Value.agg #[(vS nm), (vI (rt)), (vI (dl)), (Value.slice sa (ln) (cp))]), (vI (n))] h (fun v h1 => v = .int .i64 1 ∧ Ext h h1) := by
  obtain ⟨b1, eb2⟩ : ∃ zq, zq = h.size := ⟨_, rfl⟩
  obtain ⟨h3, e4⟩ : ∃ zq, zq = h.push (.cells #[(vS nm), (vI (rt)), (vI (dl)), (Value.slice sa (ln) (cp))] 31 (0, 0)) := ⟨_, rfl⟩
  have f5 := push_new e4
  rw [← eb2] at f5
  have x6 : Ext h h3 := by rw [e4]; exact Ext.push _ _
  have o7 : h.size ≤ b1 := by have := (Ext.refl h).size; omega
  have x8 := (Ext.refl h).trans x6
  obtain ⟨_, _, sn9, rfl, rfl⟩ := made_nil h3
  exact hCall_ev [evA 0 0 eb2 e4, evF 1 1 sn9] [] (vI 1) h3 ⟨rfl, x8⟩
set_option maxHeartbeats 4000000 in
theorem tput_nil (h : Heap)  (k : Int) (nm : ByteArray) (rt dl : Int) (sa : Option Addr) (ln cp : Nat) (st ix : Int) (cn : Bool) (tr bg er : Int) : WCall Tryz.prog 21 #[(Value.pointer none), (vI (k)), (Value.agg #[(vS nm), (vI (rt)), (vI (dl)), (Value.slice sa (ln) (cp)), (vI (st)), (vI (ix)), (vB cn), (vI (tr)), (vI (bg)), (vI (er))])] h (fun v h1 => v = .int .i64 1 ∧ Ext h h1) := by
  obtain ⟨b1, eb2⟩ : ∃ zq, zq = h.size := ⟨_, rfl⟩
  obtain ⟨h3, e4⟩ : ∃ zq, zq = h.push (.cells #[(vS nm), (vI (rt)), (vI (dl)), (Value.slice sa (ln) (cp)), (vI (st)), (vI (ix)), (vB cn), (vI (tr)), (vI (bg)), (vI (er))] 38 (0, 0)) := ⟨_, rfl⟩
  have f5 := push_new e4
  rw [← eb2] at f5
  have x6 : Ext h h3 := by rw [e4]; exact Ext.push _ _
  have o7 : h.size ≤ b1 := by have := (Ext.refl h).size; omega
  have x8 := (Ext.refl h).trans x6
  obtain ⟨_, _, sn9, rfl, rfl⟩ := made_nil h3
  exact hCall_ev [evA 0 0 eb2 e4, evF 1 1 sn9] [] (vI 1) h3 ⟨rfl, x8⟩
set_option maxHeartbeats 4000000 in
theorem ids_nil (h : Heap)  : WCall Tryz.prog 30 #[(Value.pointer none)] h (fun v h1 => v = .slice none 0 0 ∧ Ext h h1) := by
  obtain ⟨_, _, sn1, rfl, rfl⟩ := made_nil h
  exact hCall_ev [evF 1 1 sn1] [] (vL none 0 0) h ⟨rfl, (Ext.refl h)⟩
set_option maxHeartbeats 4000000 in
theorem len_nil (h : Heap)  : WCall Tryz.prog 33 #[(Value.pointer none)] h (fun v h1 => v = .int .i64 0 ∧ Ext h h1) := by
  obtain ⟨_, hh1, sn2, rfl, x3⟩ := ids_nil h 
  have x4 := (Ext.refl h).trans x3
  exact hCall_ev [evF 1 1 sn2] [] (vI 0) hh1 ⟨rfl, x4⟩
set_option maxHeartbeats 4000000 in
theorem quiet_nil (h : Heap)  : WCall Tryz.prog 34 #[(Value.pointer none)] h (fun v h1 => v = .bool false ∧ Ext h h1) := by
  obtain ⟨_, _, sn1, rfl, rfl⟩ := made_nil h
  exact hCall_ev [evF 1 1 sn1] [] (vB false) h ⟨rfl, (Ext.refl h)⟩
set_option maxHeartbeats 4000000 in
theorem tcopy_nil (h : Heap)  : WCall Tryz.prog 24 #[(Value.pointer none)] h (fun v h1 => v = .pointer none ∧ Ext h h1) := by
  obtain ⟨_, _, sn1, rfl, rfl⟩ := made_nil h
  exact hCall_ev [evF 1 1 sn1] [] vN h ⟨rfl, (Ext.refl h)⟩
set_option maxHeartbeats 4000000 in
theorem it0_nil (h : Heap)  (bx : Nat) (hx : h[bx]? = some (.cells #[.pointer none] 25 (0, 0))) (l : Nat) (I : Nat → (Nat → Prop) → Heap → Prop) (E : Heap → Prop) (D0 : Nat → Prop)  (hX : ∀ k D h' h'', I k D h' → Ext h' h'' → I k D h'') (hy : ∀ k y D h', (([] : Tab))[k]? = some y → I k D h' → ∃ b h'' D', SoundYield Tryz.prog l #[(vI (y.1)), (Value.agg #[(vI (y.1)), (vI (y.2.ix)), (vI (phS y.2.st))])] h' (.bool b) h'' ∧ Chg D h' h'' ∧ (∀ z, D' z → D z ∨ h'.size ≤ z) ∧ (if b = true then I (k + 1) D' h'' else E h'')) (h0 : I 0 D0 h) : WCall Tryz.prog 103 #[(Value.func (.yield l) #[] #[]), (vP bx 0)] h (fun _ h1 => Chg D0 h h1 ∧ ((∃ D, I (([] : Tab)).length D h1 ∧ ∀ z, D z → D0 z ∨ h.size ≤ z) ∨ E h1)) := by
  suffices H : ∀ K : Value → Heap → Prop, (∀ v h1, (fun _ h1 => Chg D0 h h1 ∧ ((∃ D, I (([] : Tab)).length D h1 ∧ ∀ z, D z → D0 z ∨ h.size ≤ z) ∨ E h1)) v h1 → K v h1) → WCall Tryz.prog 103 #[(Value.func (.yield l) #[] #[]), (vP bx 0)] h K from H _ fun _ _ q => q
  intro K hK
  refine wcall_at { tmps := #[(Value.func (.yield l) #[] #[]), (vP bx 0), vZ, vZ, vZ, vZ, vZ, vZ, vZ, vZ, vZ, vZ, vZ, vZ, vZ, vZ, vZ, vZ, vZ, vZ, vZ, vZ, vZ, vZ, vZ, vZ, vZ, vZ, vZ, vZ, vZ, vZ, vZ, vZ, vZ, vZ, vZ], defers := [] } (by kernel_rfl) ?_
  refine wc_seq' (subc (bodyOf Tryz.prog 103) [0]) (subc (bodyOf Tryz.prog 103) [1]) (by kernel_rfl) ?_
  obtain ⟨_, hh1, sn2, rfl, x3⟩ := ids_nil h 
  have x4 := (Chg.refl (O := D0) h).trans (Chg.ext x3)
  have sx5 := (Ext.refl h).trans x3
  refine wc_ev [evC 0 0 0 agg25 hx, evF 0 1 sn2] .normal hh1 [(8, vN), (9, (vL none 0 0)), (10, (vI 0)), (11, (vI 0))] ?_
  refine wc_block' 0 (subc (bodyOf Tryz.prog 103) [1, 0]) (by kernel_rfl) ?_
  refine wc_once (subc (bodyOf Tryz.prog 103) [1, 0, 0]) (by kernel_rfl) ?_
  refine wc_ev [] (.exit 0) hh1 [(12, (vB false))] ?_
  exact end_ev [] vZ (hK _ _ (⟨x4, .inl ⟨D0, (hX _ _ _ _ h0 sx5), (fun z hz => .inl hz)⟩⟩))
set_option maxHeartbeats 4000000 in
theorem chg_bad (h : Heap) {t : Nat} {fr : Nat × Nat} (ht : h[t]? = some (.cells #[.map none] 57 fr)) (k : Int) (f : Value) : WCall Tryz.prog 58 #[(vP t 0), (vI (k)), f] h (fun v h1 => v = .int .i64 1 ∧ Ext h h1) := by
  obtain ⟨_, _, sn1, rfl, rfl⟩ := made_bad h ht
  exact hCall_ev [evF 1 1 sn1] [] (vI 1) h ⟨rfl, (Ext.refl h)⟩
set_option maxHeartbeats 4000000 in
theorem tget_bad (h : Heap) {t : Nat} {fr : Nat × Nat} (ht : h[t]? = some (.cells #[.map none] 57 fr)) (k : Int) : WCall Tryz.prog 27 #[(vP t 0), (vI (k))] h (fun v h1 => v = (Value.tuple #[(Value.agg #[(vS .empty), (vI 0), (vI 0), (Value.slice none 0 0), (vI 0), (vI 0), (vB false), (vI 0), (vI 0), (vI 0)]), (vI 1)]) ∧ Ext h h1) := by
  obtain ⟨b1, eb2⟩ : ∃ zq, zq = h.size := ⟨_, rfl⟩
  obtain ⟨h3, e4⟩ : ∃ zq, zq = h.push (.cells #[(vS .empty), (vI 0), (vI 0), (Value.slice none 0 0), (vI 0), (vI 0), (vB false), (vI 0), (vI 0), (vI 0)] 38 (0, 0)) := ⟨_, rfl⟩
  have f5 := push_new e4
  rw [← eb2] at f5
  have x6 : Ext h h3 := by rw [e4]; exact Ext.push _ _
  have o7 : h.size ≤ b1 := by have := (Ext.refl h).size; omega
  have f9 := x6 _ _ ht
  have x10 := (Ext.refl h).trans x6
  obtain ⟨b11, eb12⟩ : ∃ zq, zq = h3.size := ⟨_, rfl⟩
  obtain ⟨h13, e14⟩ : ∃ zq, zq = h3.push (.cells #[(vS .empty), (vI 0), (vI 0), (Value.slice none 0 0), (vI 0), (vI 0), (vB false), (vI 0), (vI 0), (vI 0)] 38 (0, 0)) := ⟨_, rfl⟩
  have f15 := push_new e14
  rw [← eb12] at f15
  have x16 : Ext h3 h13 := by rw [e14]; exact Ext.push _ _
  have o17 : h.size ≤ b11 := by have := x10.size; omega
  have f18 := x16 _ _ f9
  have f19 := x16 _ _ f5
  have x20 := x10.trans x16
  obtain ⟨_, hh21, sn22, rfl, x23⟩ := chg_bad h13 f18 (k) (Value.func (.func 73) #[] #[(vP b11 0)])
  have f24 := x23 _ _ f19
  have f25 := x23 _ _ f15
  have x26 := x20.trans x23
  obtain ⟨h27, e28⟩ : ∃ zq, zq = hh21.setIfInBounds b1 (.cells #[(vS .empty), (vI 0), (vI 0), (Value.slice none 0 0), (vI 0), (vI 0), (vB false), (vI 0), (vI 0), (vI 0)] 38 (0, 0)) := ⟨_, rfl⟩
  have f29 := set_same e28 f24
  have x30 := Ext.setNew x26 e28 o7
  exact hCall_ev [evA 0 0 eb2 e4, evA 1 0 eb12 e14, evF 2 3 sn22, evLw 3 0 agg38 size38 f25, evUw 3 2 size38 f24 e28] [evLw 0 0 agg38 size38 f29, evR (vI 1)] (vT #[(vA #[(vS .empty), (vI 0), (vI 0), (vL none 0 0), (vI 0), (vI 0), (vB false), (vI 0), (vI 0), (vI 0)]), (vI 1)]) h27 ⟨rfl, x30⟩
set_option maxHeartbeats 4000000 in
theorem tcancel_bad (h : Heap) {t : Nat} {fr : Nat × Nat} (ht : h[t]? = some (.cells #[.map none] 57 fr)) (k : Int) : WCall Tryz.prog 19 #[(vP t 0), (vI (k))] h (fun v h1 => v = .int .i64 1 ∧ Ext h h1) := by
  obtain ⟨_, hh1, sn2, rfl, x3⟩ := chg_bad h ht (k) (Value.func (.func 41) #[] #[])
  have x4 := (Ext.refl h).trans x3
  exact hCall_ev [evF 1 2 sn2] [] (vI 1) hh1 ⟨rfl, x4⟩
set_option maxHeartbeats 4000000 in
theorem tresult_bad (h : Heap) {t : Nat} {fr : Nat × Nat} (ht : h[t]? = some (.cells #[.map none] 57 fr)) (k e1 e2 e3 res now : Int) : WCall Tryz.prog 17 #[(vP t 0), (vI (k)), (Value.agg #[(vI (e1)), (vI (e2)), (vI (e3))]), (vI (res)), (vI (now))] h (fun v h1 => v = .int .i64 1 ∧ Ext h h1) := by
  obtain ⟨b1, eb2⟩ : ∃ zq, zq = h.size := ⟨_, rfl⟩
  obtain ⟨h3, e4⟩ : ∃ zq, zq = h.push (.cells #[(vI (e1)), (vI (e2)), (vI (e3))] 33 (0, 0)) := ⟨_, rfl⟩
  have f5 := push_new e4
  rw [← eb2] at f5
  have n6 : b1 ≠ t := by have := row_lt ht; omega
  have x7 : Ext h h3 := by rw [e4]; exact Ext.push _ _
  have o8 : h.size ≤ b1 := by have := (Ext.refl h).size; omega
  have f9 := x7 _ _ ht
  have x10 := (Ext.refl h).trans x7
  obtain ⟨b11, eb12⟩ : ∃ zq, zq = h3.size := ⟨_, rfl⟩
  obtain ⟨h13, e14⟩ : ∃ zq, zq = h3.push (.cells #[(vI (res))] 34 (0, 0)) := ⟨_, rfl⟩
  have f15 := push_new e14
  rw [← eb12] at f15
  have x16 : Ext h3 h13 := by rw [e14]; exact Ext.push _ _
  have o17 : h.size ≤ b11 := by have := x10.size; omega
  have f18 := x16 _ _ f9
  have f19 := x16 _ _ f5
  have x20 := x10.trans x16
  obtain ⟨b21, eb22⟩ : ∃ zq, zq = h13.size := ⟨_, rfl⟩
  obtain ⟨h23, e24⟩ : ∃ zq, zq = h13.push (.cells #[(vI (now))] 3 (0, 0)) := ⟨_, rfl⟩
  have f25 := push_new e24
  rw [← eb22] at f25
  have x26 : Ext h13 h23 := by rw [e24]; exact Ext.push _ _
  have o27 : h.size ≤ b21 := by have := x20.size; omega
  have f28 := x26 _ _ f18
  have f29 := x26 _ _ f19
  have x30 := x20.trans x26
  obtain ⟨h31, e32⟩ : ∃ zq, zq = h23.setIfInBounds b1 (.cells #[(vI (effD (e1) (k))), (vI (e2)), (vI (e3))] 33 (0, 0)) := ⟨_, rfl⟩
  have f33 := set_other e32 f28 n6
  have x34 := Ext.setNew x30 e32 o8
  obtain ⟨_, hh35, sn36, rfl, x37⟩ := chg_bad h31 f33 (k) (Value.func (.func 59) #[] #[(vP b1 0), (vP b11 0), (vP b21 0)])
  have x38 := x34.trans x37
  exact hCall_ev [evA 0 0 eb2 e4, evA 0 1 eb12 e14, evA 0 2 eb22 e24, evC 1 1 0 agg3 f29, evV 1 3 (vI (effD (e1) (k))) (show binA Tryz.prog .sub 3 (vI e1) (vI k) = some (vI (effD (e1) (k))) from sub_wrap), evT 1 5 0 size3 f29 e32, evF 2 3 sn36] [] (vI 1) hh35 ⟨rfl, x38⟩
set_option maxHeartbeats 4000000 in
theorem tstart_bad (h : Heap) {t : Nat} {fr : Nat × Nat} (ht : h[t]? = some (.cells #[.map none] 57 fr)) (k : Int) (nm : ByteArray) (rt dl : Int) (sa : Option Addr) (ln cp : Nat) (n : Int) : WCall Tryz.prog 14 #[(vP t 0), (vI (k)), (Value.agg #[(vS nm), (vI (rt)), (vI (dl)), (Value.slice sa (ln) (cp))]), (vI (n))] h (fun v h1 => v = .int .i64 1 ∧ Ext h h1) := by
  obtain ⟨b1, eb2⟩ : ∃ zq, zq = h.size := ⟨_, rfl⟩
  obtain ⟨h3, e4⟩ : ∃ zq, zq = h.push (.cells #[(vS nm), (vI (rt)), (vI (dl)), (Value.slice sa (ln) (cp))] 31 (0, 0)) := ⟨_, rfl⟩
  have f5 := push_new e4
  rw [← eb2] at f5
  have x6 : Ext h h3 := by rw [e4]; exact Ext.push _ _
  have o7 : h.size ≤ b1 := by have := (Ext.refl h).size; omega
  have f9 := x6 _ _ ht
  have x10 := (Ext.refl h).trans x6
  obtain ⟨_, _, sn11, rfl, rfl⟩ := made_bad h3 f9
  exact hCall_ev [evA 0 0 eb2 e4, evF 1 1 sn11] [] (vI 1) h3 ⟨rfl, x10⟩
set_option maxHeartbeats 4000000 in
theorem tput_bad (h : Heap) {t : Nat} {fr : Nat × Nat} (ht : h[t]? = some (.cells #[.map none] 57 fr)) (k : Int) (nm : ByteArray) (rt dl : Int) (sa : Option Addr) (ln cp : Nat) (st ix : Int) (cn : Bool) (tr bg er : Int) : WCall Tryz.prog 21 #[(vP t 0), (vI (k)), (Value.agg #[(vS nm), (vI (rt)), (vI (dl)), (Value.slice sa (ln) (cp)), (vI (st)), (vI (ix)), (vB cn), (vI (tr)), (vI (bg)), (vI (er))])] h (fun v h1 => v = .int .i64 1 ∧ Ext h h1) := by
  obtain ⟨b1, eb2⟩ : ∃ zq, zq = h.size := ⟨_, rfl⟩
  obtain ⟨h3, e4⟩ : ∃ zq, zq = h.push (.cells #[(vS nm), (vI (rt)), (vI (dl)), (Value.slice sa (ln) (cp)), (vI (st)), (vI (ix)), (vB cn), (vI (tr)), (vI (bg)), (vI (er))] 38 (0, 0)) := ⟨_, rfl⟩
  have f5 := push_new e4
  rw [← eb2] at f5
  have x6 : Ext h h3 := by rw [e4]; exact Ext.push _ _
  have o7 : h.size ≤ b1 := by have := (Ext.refl h).size; omega
  have f9 := x6 _ _ ht
  have x10 := (Ext.refl h).trans x6
  obtain ⟨_, _, sn11, rfl, rfl⟩ := made_bad h3 f9
  exact hCall_ev [evA 0 0 eb2 e4, evF 1 1 sn11] [] (vI 1) h3 ⟨rfl, x10⟩
set_option maxHeartbeats 4000000 in
theorem ids_bad (h : Heap) {t : Nat} {fr : Nat × Nat} (ht : h[t]? = some (.cells #[.map none] 57 fr)) : WCall Tryz.prog 30 #[(vP t 0)] h (fun v h1 => v = .slice none 0 0 ∧ Ext h h1) := by
  obtain ⟨_, _, sn1, rfl, rfl⟩ := made_bad h ht
  exact hCall_ev [evF 1 1 sn1] [] (vL none 0 0) h ⟨rfl, (Ext.refl h)⟩
set_option maxHeartbeats 4000000 in
theorem len_bad (h : Heap) {t : Nat} {fr : Nat × Nat} (ht : h[t]? = some (.cells #[.map none] 57 fr)) : WCall Tryz.prog 33 #[(vP t 0)] h (fun v h1 => v = .int .i64 0 ∧ Ext h h1) := by
  obtain ⟨_, hh1, sn2, rfl, x3⟩ := ids_bad h ht 
  have x4 := (Ext.refl h).trans x3
  exact hCall_ev [evF 1 1 sn2] [] (vI 0) hh1 ⟨rfl, x4⟩
set_option maxHeartbeats 4000000 in
theorem quiet_bad (h : Heap) {t : Nat} {fr : Nat × Nat} (ht : h[t]? = some (.cells #[.map none] 57 fr)) : WCall Tryz.prog 34 #[(vP t 0)] h (fun v h1 => v = .bool false ∧ Ext h h1) := by
  obtain ⟨_, _, sn1, rfl, rfl⟩ := made_bad h ht
  exact hCall_ev [evF 1 1 sn1] [] (vB false) h ⟨rfl, (Ext.refl h)⟩
set_option maxHeartbeats 4000000 in
theorem tcopy_bad (h : Heap) {t : Nat} {fr : Nat × Nat} (ht : h[t]? = some (.cells #[.map none] 57 fr)) : WCall Tryz.prog 24 #[(vP t 0)] h (fun v h1 => v = .pointer none ∧ Ext h h1) := by
  obtain ⟨_, _, sn1, rfl, rfl⟩ := made_bad h ht
  exact hCall_ev [evF 1 1 sn1] [] vN h ⟨rfl, (Ext.refl h)⟩
set_option maxHeartbeats 4000000 in
theorem it0_bad (h : Heap) {t : Nat} {fr : Nat × Nat} (ht : h[t]? = some (.cells #[.map none] 57 fr)) (bx : Nat) (hx : h[bx]? = some (.cells #[.pointer (some ⟨t, 0, none⟩)] 25 (0, 0))) (l : Nat) (I : Nat → (Nat → Prop) → Heap → Prop) (E : Heap → Prop) (D0 : Nat → Prop)  (hX : ∀ k D h' h'', I k D h' → Ext h' h'' → I k D h'') (hy : ∀ k y D h', (([] : Tab))[k]? = some y → I k D h' → ∃ b h'' D', SoundYield Tryz.prog l #[(vI (y.1)), (Value.agg #[(vI (y.1)), (vI (y.2.ix)), (vI (phS y.2.st))])] h' (.bool b) h'' ∧ Chg D h' h'' ∧ (∀ z, D' z → D z ∨ h'.size ≤ z) ∧ (if b = true then I (k + 1) D' h'' else E h'')) (h0 : I 0 D0 h) : WCall Tryz.prog 103 #[(Value.func (.yield l) #[] #[]), (vP bx 0)] h (fun _ h1 => Chg D0 h h1 ∧ ((∃ D, I (([] : Tab)).length D h1 ∧ ∀ z, D z → D0 z ∨ h.size ≤ z) ∨ E h1)) := by
  suffices H : ∀ K : Value → Heap → Prop, (∀ v h1, (fun _ h1 => Chg D0 h h1 ∧ ((∃ D, I (([] : Tab)).length D h1 ∧ ∀ z, D z → D0 z ∨ h.size ≤ z) ∨ E h1)) v h1 → K v h1) → WCall Tryz.prog 103 #[(Value.func (.yield l) #[] #[]), (vP bx 0)] h K from H _ fun _ _ q => q
  intro K hK
  refine wcall_at { tmps := #[(Value.func (.yield l) #[] #[]), (vP bx 0), vZ, vZ, vZ, vZ, vZ, vZ, vZ, vZ, vZ, vZ, vZ, vZ, vZ, vZ, vZ, vZ, vZ, vZ, vZ, vZ, vZ, vZ, vZ, vZ, vZ, vZ, vZ, vZ, vZ, vZ, vZ, vZ, vZ, vZ, vZ], defers := [] } (by kernel_rfl) ?_
  refine wc_seq' (subc (bodyOf Tryz.prog 103) [0]) (subc (bodyOf Tryz.prog 103) [1]) (by kernel_rfl) ?_
  obtain ⟨_, hh1, sn2, rfl, x3⟩ := ids_bad h ht 
  have x4 := (Chg.refl (O := D0) h).trans (Chg.ext x3)
  have sx5 := (Ext.refl h).trans x3
  refine wc_ev [evC 0 0 0 agg25 hx, evF 0 1 sn2] .normal hh1 [(8, (vP t 0)), (9, (vL none 0 0)), (10, (vI 0)), (11, (vI 0))] ?_
  refine wc_block' 0 (subc (bodyOf Tryz.prog 103) [1, 0]) (by kernel_rfl) ?_
  refine wc_once (subc (bodyOf Tryz.prog 103) [1, 0, 0]) (by kernel_rfl) ?_
  refine wc_ev [] (.exit 0) hh1 [(12, (vB false))] ?_
  exact end_ev [] vZ (hK _ _ (⟨x4, .inl ⟨D0, (hX _ _ _ _ h0 sx5), (fun z hz => .inl hz)⟩⟩))
set_option maxHeartbeats 4000000 in
theorem open_nil (h : Heap)  : WCall Tryz.prog 31 #[(Value.pointer none)] h (fun v h1 => ∃ oa oc, v = .slice oa 0 oc ∧ Ext h h1) := by
  suffices H : ∀ K : Value → Heap → Prop, (∀ v h1, (fun v h1 => ∃ oa oc, v = .slice oa 0 oc ∧ Ext h h1) v h1 → K v h1) → WCall Tryz.prog 31 #[(Value.pointer none)] h K from H _ fun _ _ q => q
  intro K hK
  refine wcall_at { tmps := #[vN, vZ, vZ, vZ, vZ, vZ, vZ, vZ, vZ, vZ, vZ, vZ, vZ, vZ], defers := [] } (by kernel_rfl) ?_
  refine wc_seq' (subc (bodyOf Tryz.prog 31) [0]) (subc (bodyOf Tryz.prog 31) [1]) (by kernel_rfl) ?_
  refine wc_ev [] .normal h [(2, (vL none 0 0))] ?_
  refine wc_seq' (subc (bodyOf Tryz.prog 31) [1, 0]) (subc (bodyOf Tryz.prog 31) [1, 1]) (by kernel_rfl) ?_
  obtain ⟨b1, eb2⟩ : ∃ zq, zq = h.size := ⟨_, rfl⟩
  obtain ⟨h3, e4⟩ : ∃ zq, zq = h.push (.cells #[(Value.slice none 0 0)] 63 (0, 0)) := ⟨_, rfl⟩
  have f5 := push_new e4
  rw [← eb2] at f5
  have x6 : Ext h h3 := by rw [e4]; exact Ext.push _ _
  have o7 : h.size ≤ b1 := by have := (Ext.refl h).size; omega
  have x8 := (Ext.refl h).trans x6
  refine wc_ev [evA 1 0 eb2 e4] .normal h3 [(3, (vP b1 0))] ?_
  refine wc_seq' (subc (bodyOf Tryz.prog 31) [1, 1, 0]) (subc (bodyOf Tryz.prog 31) [1, 1, 1]) (by kernel_rfl) ?_
  refine wc_seq' (subc (bodyOf Tryz.prog 31) [1, 1, 0, 0]) (subc (bodyOf Tryz.prog 31) [1, 1, 0, 1]) (by kernel_rfl) ?_
  obtain ⟨_, h9, s10, b11, rfl, f12, x13, o14⟩ := open_fnn h3
  have oo15 : h.size ≤ b11 := by have := x8.size; omega
  have f17 := x13 _ _ f5
  have x18 := x8.trans x13
  refine wc_ev [evF 2 1 s10] .normal h9 [(5, vN), (6, (Value.func (.func 103) #[] #[(vP b11 0)]))] ?_
  refine wc_block' 0 (subc (bodyOf Tryz.prog 31) [1, 1, 0, 1, 0]) (by kernel_rfl) ?_
  refine wc_act { tmps := #[vN, vZ, (vL none 0 0), (vP b1 0), vZ, vN, (Value.func (.func 103) #[] #[(vP b11 0)]), vZ, vZ, vZ, vZ, vZ, vZ, vZ], defers := [] } (by kernel_rfl) ?_
  obtain ⟨dv19, edv20⟩ : ∃ zq, zq = h9.size := ⟨_, rfl⟩
  obtain ⟨lp21, elp22⟩ : ∃ zq, zq = h9.size + 1 := ⟨_, rfl⟩
  obtain ⟨tm23, etm24⟩ : ∃ zq : Array Value, zq = #[(Value.pointer none), (Value.tuple #[]), (Value.slice none 0 0), (vP b1 0), (Value.tuple #[]), (Value.pointer none), (Value.func (.func 103) #[] #[(vP b11 0)]), (Value.tuple #[]), (Value.tuple #[]), (Value.tuple #[]), (Value.tuple #[]), (Value.tuple #[]), (Value.tuple #[]), (Value.tuple #[])] := ⟨_, rfl⟩
  obtain ⟨L11340, eL11340⟩ : ∃ zq : Loop, zq = { state := .ready, pending := none, fn := 0, tmps := tm23, params := #[7, 8], assign := (subc (bodyOf Tryz.prog 31) [1, 1, 0, 1, 0, 0]), body := (subc (bodyOf Tryz.prog 31) [1, 1, 0, 1, 0, 1]), defers := dv19 } := ⟨_, rfl⟩
  have hs25 : L11340.state = .ready := by rw [eL11340]
  have hp26 : L11340.pending = none := by rw [eL11340]
  obtain ⟨h27, eh28⟩ : ∃ zq, zq = (h9.push (.deferred (some []))).push (.loop L11340) := ⟨_, rfl⟩
  have x29 : Ext h9 h27 := by rw [eh28]; exact (Ext.push _ _).trans (Ext.push _ _)
  have p30 : At h27 lp21 (.loop L11340) := by rw [eh28, elp22, show h9.size + 1 = (h9.push (.deferred (some []))).size by simp]; exact push_new rfl
  have p31 : At h27 dv19 (.deferred (some [])) := by rw [eh28, edv20]; exact push_old (b := h9.size) rfl (push_new rfl)
  have sh32 : lp21 < h27.size := p30.blk_lt rfl
  have z33 : h.size ≤ h9.size := x18.size
  have f34 := x29 _ _ f17
  have f35 := x29 _ _ f12
  have x36 := x18.trans x29
  have z37 : h.size ≤ h27.size := x36.size
  obtain ⟨D11351, eD11352⟩ : ∃ zq : Nat → Prop, zq = (fun (out : List Int) (oa : Option Addr) (oc : Nat) => (fun b => b = lp21 ∨ b = b1 ∨ (blk (Value.slice oa (out.length) (oc))) b ∨ False)) ([]) (none) (0) := ⟨_, rfl⟩
  have hD11358 : ∀ b, D11351 b → h.size ≤ b := by
    rw [eD11352]; rintro b (w | w | w | w)
    · have w1 : b = lp21 := w; omega
    · have w1 : b = b1 := w; have := o7; omega
    · exact w.elim
    · exact w.elim
  have hd38 : ¬ D11351 dv19 := by
    rw [eD11352]; rintro (w | w | w | w)
    · have w1 : dv19 = lp21 := w; omega
    · have w1 : dv19 = b1 := w; have := row_lt f17; omega
    · exact w.elim
    · exact w.elim
  obtain ⟨I11348, eI11347⟩ : ∃ zq : Nat → (Nat → Prop) → Heap → Prop, zq = fun (kk : Nat) (Dv : Nat → Prop) (h' : Heap) => ∃ (out : List Int), ∃ (oa : Option Addr), ∃ (oc : Nat), Dv = (fun b => b = lp21 ∨ b = b1 ∨ (blk (Value.slice oa (out.length) (oc))) b ∨ False) ∧ At h' lp21 (.loop L11340) ∧ Chg D11351 h27 h' ∧ (∀ z, Dv z → D11351 z ∨ h27.size ≤ z) ∧ h'[b1]? = some (.cells #[(Value.slice oa (out.length) (oc))] 63 (0, 0)) ∧ out = [] ∧ OwnAt h' 3 zc out (Value.slice oa (out.length) (oc)) := ⟨_, rfl⟩
  obtain ⟨E11349, eE11350⟩ : ∃ zq : Heap → Prop, zq = fun _ => False := ⟨_, rfl⟩
  have hX11366 : ∀ k D h' h'', I11348 k D h' → Ext h' h'' → I11348 k D h'' := by
    rw [eI11347]
    rintro k _ h' h'' ⟨out, oa, oc, rfl, p39, c40, d41, f42, i43, p44⟩ xx
    exact ⟨out, oa, oc, rfl, xx _ _ p39, c40.trans (Chg.ext xx), d41, xx _ _ f42, i43, p44.keep fun b r _ q => xx b r q⟩
  have hy45 : ∀ k y D h', (([] : Tab))[k]? = some y → I11348 k D h' → ∃ b h'' D', SoundYield Tryz.prog lp21 #[(vI (y.1)), (Value.agg #[(vI (y.1)), (vI (y.2.ix)), (vI (phS y.2.st))])] h' (.bool b) h'' ∧ Chg D h' h'' ∧ (∀ z, D' z → D z ∨ h'.size ≤ z) ∧ (if b = true then I11348 (k + 1) D' h'' else E11349 h'') := by
    rw [eI11347]
    rintro k y _ hr hk ⟨out, oa, oc, rfl, p39, c40, d41, f42, i43, p44⟩
    obtain ⟨Dc, eDc⟩ : ∃ zq : Nat → Prop, zq = (fun b => b = lp21 ∨ b = b1 ∨ (blk (Value.slice oa (out.length) (oc))) b ∨ False) := ⟨_, rfl⟩
    rw [← eDc] at d41
    rw [← eI11347]
    rw [← eDc]
    have lo1 : out.length ≤ 64 := by rw [i43]; decide
    suffices hw : ∃ b h'', SoundYield Tryz.prog lp21 #[(vI (y.1)), (Value.agg #[(vI (y.1)), (vI (y.2.ix)), (vI (phS y.2.st))])] hr (.bool b) h'' ∧ (fun b h'' => ∃ D', Chg Dc hr h'' ∧ (∀ z, D' z → Dc z ∨ hr.size ≤ z) ∧ (if b = true then I11348 (k + 1) D' h'' else E11349 h'')) b h'' from by
      obtain ⟨b, h'', q1, D', q2, q3, q4⟩ := hw
      exact ⟨b, h'', D', q1, q2, q3, q4⟩
    refine w_round (args := #[(vI (y.1)), (Value.agg #[(vI (y.1)), (vI (y.2.ix)), (vI (phS y.2.st))])]) (K := (fun b h'' => ∃ D', Chg Dc hr h'' ∧ (∀ z, D' z → Dc z ∨ hr.size ≤ z) ∧ (if b = true then I11348 (k + 1) D' h'' else E11349 h''))) p39 hs25 (by rw [eL11340]; rfl) { tmps := #[(Value.pointer none), (Value.tuple #[]), (Value.slice none 0 0), (vP b1 0), (Value.tuple #[]), (Value.pointer none), (Value.func (.func 103) #[] #[(vP b11 0)]), (vI (y.1)), (Value.agg #[(vI (y.1)), (vI (y.2.ix)), (vI (phS y.2.st))]), (Value.tuple #[]), (Value.tuple #[]), (Value.tuple #[]), (Value.tuple #[]), (Value.tuple #[])], defers := [] } (by rw [eL11340, etm24]; kernel_rfl) (subc (bodyOf Tryz.prog 31) [1, 1, 0, 1, 0, 0]) (subc (bodyOf Tryz.prog 31) [1, 1, 0, 1, 0, 1]) (by rw [eL11340]) (by rw [eL11340]) ?_
    refine wc_ev [] .normal hr [(4, (vI y.1))] ?_
    refine ⟨rfl, L11340, p39, hs25, ?_⟩
    obtain ⟨h46, e47⟩ : ∃ zq, zq = hr.setIfInBounds lp21 (.loop { L11340 with state := .busy }) := ⟨_, rfl⟩
    have p48 : At h46 lp21 (.loop { L11340 with state := .busy }) := set_same e47 p39
    have f49 := set_other e47 f42 (loop_ne p39 f42 rfl)
    have p50 := p44.keep fun b r hb q => (Chg.set e47).same b r q ((fun b hb hb2 => (p44).celled.loop p39 b hb hb2) b hb)
    have x51 := (Chg.refl (O := Dc) hr).then (Chg.set e47) (fun b hb => .inl ((fun b hb => by rw [eDc]; exact .inl hb) b hb))
    rw [← e47]
    obtain ⟨b52, eb53⟩ : ∃ zq, zq = h46.size := ⟨_, rfl⟩
    obtain ⟨h54, e55⟩ : ∃ zq, zq = h46.push (.cells #[(vI (y.1))] 3 (0, 0)) := ⟨_, rfl⟩
    have f56 := push_new e55
    rw [← eb53] at f56
    have x57 : Ext h46 h54 := by rw [e55]; exact Ext.push _ _
    have o58 : hr.size ≤ b52 := by have := x51.size; omega
    have f59 := x57 _ _ f49
    have p60 := p50.keep fun b r _ q => x57 b r q
    have p61 := p48.keep fun b r _ q => x57 b r q
    have x62 := x51.trans (Chg.ext x57)
    obtain ⟨w63, h64, e65, p66, c67, n68, z69⟩ := own_append und63 sizeb3 zero3 rfl (by decide) zc_size (x := y.1) p60 f56 rfl (by omega) (by unfold maxLen; omega)
    obtain ⟨a70, c71, rfl⟩ := (p66.slice zc_size).len
    have z72 : hr.size ≤ h54.size := x62.size
    have x73 := x62.then c67 (fun b hb => .inl ((show ∀ b, (blk (Value.slice oa (out.length) (oc))) b → Dc b from fun b hb => by rw [eDc]; exact .inr (.inr (.inl hb))) b hb))
    have f74 := c67.same _ _ f59 (fun hb => p60.ne f59 (by decide) hb rfl)
    have p75 := p61.keep fun b r hb q => c67.same b r q ((fun b hb hb2 => (p60).celled.loop p61 b hb2 hb) b hb)
    have n76 : ∀ zz, blk (Value.slice a70 ((out ++ [y.1]).length) (c71)) zz → ¬ zz = b1 := fun zz hz ez => by have := n68 zz hz; have := row_lt f59; omega
    have n77 : ∀ zz, blk (Value.slice a70 ((out ++ [y.1]).length) (c71)) zz → ¬ (fun q => q = lp21) zz := fun zz hz ez => by have := n68 zz hz; have := p61.blk_lt ez; omega
    have o78 : ∀ zz, blk (Value.slice a70 ((out ++ [y.1]).length) (c71)) zz → hr.size ≤ zz := fun zz hz => by have := n68 zz hz; have := z72; omega
    obtain ⟨h79, e80⟩ : ∃ zq, zq = h64.setIfInBounds b1 (.cells #[(Value.slice a70 ((out ++ [y.1]).length) (c71))] 63 (0, 0)) := ⟨_, rfl⟩
    have f81 := set_same e80 f74
    have p82 := p75.keep fun b r hb q => (Chg.set e80).same b r q ((fun (b : Nat) hb => loop_ne p75 f74 hb) b hb)
    have p83 := p66.keep fun b r hb q => (Chg.set e80).same b r q (n76 b hb)
    have x84 := x73.then (Chg.set e80) (fun b hb => by subst hb; exact (.inl (by rw [eDc]; exact .inr (.inl rfl))))
    refine wc_ev [evC 4 0 0 agg63 f49, evS 4 2 1 eb53 e55, evP 4 3 e65, evT 4 4 0 size63 f74 e80] .normal h79 [(9, (vL oa out.length oc)), (10, (vI y.1)), (11, (vL (some ⟨b52, 0, none⟩) 1 1)), (12, (vL a70 ((out ++ [y.1]).length) c71))] ?_
    refine ⟨_, p82, ?_⟩
    obtain ⟨h85, e86⟩ : ∃ zq, zq = h79.setIfInBounds lp21 (.loop { ({ L11340 with state := .busy } : Loop) with state := .ready, pending := none }) := ⟨_, rfl⟩
    have p87 : At h85 lp21 (.loop { ({ L11340 with state := .busy } : Loop) with state := .ready, pending := none }) := set_same e86 p82
    have f88 := set_other e86 f81 (loop_ne p82 f81 rfl)
    have p89 := p83.keep fun b r hb q => (Chg.set e86).same b r q (n77 b hb)
    have x90 := x84.then (Chg.set e86) (fun b hb => .inl ((fun b hb => by rw [eDc]; exact .inl hb) b hb))
    have dnew : ∀ z, ((fun (out : List Int) (oa : Option Addr) (oc : Nat) => (fun b => b = lp21 ∨ b = b1 ∨ (blk (Value.slice oa (out.length) (oc))) b ∨ False)) ((out ++ [y.1])) (a70) (c71)) z → Dc z ∨ hr.size ≤ z := by
      intro z hz; rcases hz with w | w | w | w
      · exact .inl (by rw [eDc]; exact .inl w)
      · exact .inl (by rw [eDc]; exact .inr (.inl w))
      · exact .inr (o78 z w)
      · exact w.elim
    refine (show ∃ D', Chg Dc hr (h85) ∧ (∀ z, D' z → Dc z ∨ hr.size ≤ z) ∧ (if true = true then I11348 (k + 1) D' h85 else E11349 h85) from ?_) |> (fun w => by rw [e86] at w; exact w)
    refine ⟨(fun (out : List Int) (oa : Option Addr) (oc : Nat) => (fun b => b = lp21 ∨ b = b1 ∨ (blk (Value.slice oa (out.length) (oc))) b ∨ False)) ((out ++ [y.1])) (a70) (c71), x90, dnew, ?_⟩
    rw [if_pos rfl]
    rw [eI11347]
    exact ⟨(out ++ [y.1]), a70, c71, rfl, (by have q := p87; rw [loop_back hs25 hp26] at q; exact q), c40.then (x90) d41, fun z hz => (dnew z hz).elim (d41 z) (fun w => .inr (by have := c40.size; omega)), f88, absurd hk (by simp), p89⟩
  have h91 : I11348 0 D11351 h27 := by rw [eI11347]; exact ⟨[], none, 0, eD11352, p30, Chg.refl h27, fun z hz => .inl hz, f34, rfl, .inl ⟨rfl, rfl⟩⟩
  refine wc_range_any (h1 := h27) (c := (subc (bodyOf Tryz.prog 31) [1, 1, 0, 1, 0])) (g := .tmp 6) (params := #[7, 8]) (assign := (subc (bodyOf Tryz.prog 31) [1, 1, 0, 1, 0, 0])) (body := (subc (bodyOf Tryz.prog 31) [1, 1, 0, 1, 0, 1])) (by kernel_rfl) 103 #[] #[(vP b11 0)] lp21 [{ target := .collected dv19, args := #[] }] #[(Value.func (.yield lp21) #[] #[]), (vP b11 0)] (by rfl) rfl rfl (by kernel_rfl) (by rw [eh28, elp22, eL11340, etm24, edv20]; rfl) ?_
  refine (it0_nil h27 b11 f35 lp21 I11348 E11349 D11351  hX11366 hy45 h91).mono fun _ h8 q => ?_
  obtain ⟨q0, q⟩ := q
  rcases q with ⟨Dv, q, qD⟩ | q
  · rw [eI11347] at q
    obtain ⟨out, oa, oc, eDv, p92, cgN, hdN, f93, i94, p95⟩ := q
    refine ⟨_, p92, ?_, leftBy_none hp26 ?_⟩
    · exact fun w => by rw [hs25] at w; cases w
    have p96 : At h8 dv19 (.deferred (some [])) := q0.same _ _ p31 hd38
    obtain ⟨h97, e98⟩ : ∃ zq, zq = h8.setIfInBounds lp21 (.loop { L11340 with state := .exhausted }) := ⟨_, rfl⟩
    have f99 := set_other e98 f93 (loop_ne p92 f93 rfl)
    have p100 := p96.keep fun b r hb q => (Chg.set e98).same b r q ((fun b hb hb2 => (show ∀ b : Nat, b = lp21 → b = dv19 → False from fun b w1 w2 => by omega) b hb2 hb) b hb)
    rw [← e98]
    have c101 := q0.then (Chg.set e98) (fun b hb => .inl (by rw [eD11352]; exact .inl hb))
    have x102 : Ext h h97 := (Chg.then (O := fun _ => False) (Chg.ext x36) c101 (fun b hb => .inr (hD11358 b hb))).toExt'
    refine wc_ev [evC 5 0 0 agg63 f99] .ret h97 [(13, (vL oa out.length oc)), (2, (vL oa out.length oc))] ?_
    obtain ⟨h103, e104⟩ : ∃ zq, zq = h97.setIfInBounds dv19 (.deferred none) := ⟨_, rfl⟩
    have x105 : Ext h h103 := Ext.setNew x102 e104 (by omega)
    have eo := i94
    refine end_mark3 (T := hintsOf [] []) (dv := dv19) { tmps := #[(Value.pointer none), (Value.tuple #[]), (Value.slice oa (out.length) (oc)), (vP b1 0), (Value.tuple #[]), (Value.pointer none), (Value.func (.func 103) #[] #[(vP b11 0)]), (Value.tuple #[]), (Value.tuple #[]), (Value.tuple #[]), (Value.tuple #[]), (Value.tuple #[]), (Value.tuple #[]), (Value.slice oa (out.length) (oc))], defers := ([{ target := .collected dv19, args := #[] }] ++ []) } (by kernel_rfl) (.inr rfl) rfl p100 e104 (A := resQ [] (K (Value.slice oa (out.length) (oc)) h103)) (by kernel_rfl) ?_
    exact resQ_of _ (hK _ _ (⟨oa, oc, by simp [eo], x105⟩))
  · rw [eE11350] at q; exact q.elim
set_option maxHeartbeats 4000000 in
theorem tnext_nil (h : Heap)  : WCall Tryz.prog 32 #[(Value.pointer none)] h (fun v h1 => ∃ oa oc, v = .slice oa 0 oc ∧ Ext h h1) := by
  suffices H : ∀ K : Value → Heap → Prop, (∀ v h1, (fun v h1 => ∃ oa oc, v = .slice oa 0 oc ∧ Ext h h1) v h1 → K v h1) → WCall Tryz.prog 32 #[(Value.pointer none)] h K from H _ fun _ _ q => q
  intro K hK
  refine wcall_at { tmps := #[vN, vZ, vZ, vZ, vZ, vZ, vZ, vZ, vZ, vZ, vZ, vZ, vZ, vZ, vZ], defers := [] } (by kernel_rfl) ?_
  refine wc_seq' (subc (bodyOf Tryz.prog 32) [0]) (subc (bodyOf Tryz.prog 32) [1]) (by kernel_rfl) ?_
  refine wc_ev [] .normal h [(2, (vL none 0 0))] ?_
  refine wc_seq' (subc (bodyOf Tryz.prog 32) [1, 0]) (subc (bodyOf Tryz.prog 32) [1, 1]) (by kernel_rfl) ?_
  obtain ⟨b1, eb2⟩ : ∃ zq, zq = h.size := ⟨_, rfl⟩
  obtain ⟨h3, e4⟩ : ∃ zq, zq = h.push (.cells #[(Value.slice none 0 0)] 42 (0, 0)) := ⟨_, rfl⟩
  have f5 := push_new e4
  rw [← eb2] at f5
  have x6 : Ext h h3 := by rw [e4]; exact Ext.push _ _
  have o7 : h.size ≤ b1 := by have := (Ext.refl h).size; omega
  have x8 := (Ext.refl h).trans x6
  refine wc_ev [evA 1 0 eb2 e4] .normal h3 [(3, (vP b1 0))] ?_
  refine wc_seq' (subc (bodyOf Tryz.prog 32) [1, 1, 0]) (subc (bodyOf Tryz.prog 32) [1, 1, 1]) (by kernel_rfl) ?_
  refine wc_seq' (subc (bodyOf Tryz.prog 32) [1, 1, 0, 0]) (subc (bodyOf Tryz.prog 32) [1, 1, 0, 1]) (by kernel_rfl) ?_
  obtain ⟨_, h9, s10, b11, rfl, f12, x13, o14⟩ := open_fnn h3
  have oo15 : h.size ≤ b11 := by have := x8.size; omega
  have f17 := x13 _ _ f5
  have x18 := x8.trans x13
  refine wc_ev [evF 2 1 s10] .normal h9 [(6, vN), (7, (Value.func (.func 103) #[] #[(vP b11 0)]))] ?_
  refine wc_block' 0 (subc (bodyOf Tryz.prog 32) [1, 1, 0, 1, 0]) (by kernel_rfl) ?_
  refine wc_act { tmps := #[vN, vZ, (vL none 0 0), (vP b1 0), vZ, vZ, vN, (Value.func (.func 103) #[] #[(vP b11 0)]), vZ, vZ, vZ, vZ, vZ, vZ, vZ], defers := [] } (by kernel_rfl) ?_
  obtain ⟨dv19, edv20⟩ : ∃ zq, zq = h9.size := ⟨_, rfl⟩
  obtain ⟨lp21, elp22⟩ : ∃ zq, zq = h9.size + 1 := ⟨_, rfl⟩
  obtain ⟨tm23, etm24⟩ : ∃ zq : Array Value, zq = #[(Value.pointer none), (Value.tuple #[]), (Value.slice none 0 0), (vP b1 0), (Value.tuple #[]), (Value.tuple #[]), (Value.pointer none), (Value.func (.func 103) #[] #[(vP b11 0)]), (Value.tuple #[]), (Value.tuple #[]), (Value.tuple #[]), (Value.tuple #[]), (Value.tuple #[]), (Value.tuple #[]), (Value.tuple #[])] := ⟨_, rfl⟩
  obtain ⟨L11461, eL11461⟩ : ∃ zq : Loop, zq = { state := .ready, pending := none, fn := 0, tmps := tm23, params := #[8, 9], assign := (subc (bodyOf Tryz.prog 32) [1, 1, 0, 1, 0, 0]), body := (subc (bodyOf Tryz.prog 32) [1, 1, 0, 1, 0, 1]), defers := dv19 } := ⟨_, rfl⟩
  have hs25 : L11461.state = .ready := by rw [eL11461]
  have hp26 : L11461.pending = none := by rw [eL11461]
  obtain ⟨h27, eh28⟩ : ∃ zq, zq = (h9.push (.deferred (some []))).push (.loop L11461) := ⟨_, rfl⟩
  have x29 : Ext h9 h27 := by rw [eh28]; exact (Ext.push _ _).trans (Ext.push _ _)
  have p30 : At h27 lp21 (.loop L11461) := by rw [eh28, elp22, show h9.size + 1 = (h9.push (.deferred (some []))).size by simp]; exact push_new rfl
  have p31 : At h27 dv19 (.deferred (some [])) := by rw [eh28, edv20]; exact push_old (b := h9.size) rfl (push_new rfl)
  have sh32 : lp21 < h27.size := p30.blk_lt rfl
  have z33 : h.size ≤ h9.size := x18.size
  have f34 := x29 _ _ f17
  have f35 := x29 _ _ f12
  have x36 := x18.trans x29
  have z37 : h.size ≤ h27.size := x36.size
  obtain ⟨D11472, eD11473⟩ : ∃ zq : Nat → Prop, zq = (fun (out : List EffM) (oa : Option Addr) (oc : Nat) => (fun b => b = lp21 ∨ b = b1 ∨ (blk (Value.slice oa (out.length) (oc))) b ∨ False)) ([]) (none) (0) := ⟨_, rfl⟩
  have hD11479 : ∀ b, D11472 b → h.size ≤ b := by
    rw [eD11473]; rintro b (w | w | w | w)
    · have w1 : b = lp21 := w; omega
    · have w1 : b = b1 := w; have := o7; omega
    · exact w.elim
    · exact w.elim
  have hd38 : ¬ D11472 dv19 := by
    rw [eD11473]; rintro (w | w | w | w)
    · have w1 : dv19 = lp21 := w; omega
    · have w1 : dv19 = b1 := w; have := row_lt f17; omega
    · exact w.elim
    · exact w.elim
  obtain ⟨I11469, eI11468⟩ : ∃ zq : Nat → (Nat → Prop) → Heap → Prop, zq = fun (kk : Nat) (Dv : Nat → Prop) (h' : Heap) => ∃ (out : List EffM), ∃ (oa : Option Addr), ∃ (oc : Nat), Dv = (fun b => b = lp21 ∨ b = b1 ∨ (blk (Value.slice oa (out.length) (oc))) b ∨ False) ∧ At h' lp21 (.loop L11461) ∧ Chg D11472 h27 h' ∧ (∀ z, Dv z → D11472 z ∨ h27.size ≤ z) ∧ h'[b1]? = some (.cells #[(Value.slice oa (out.length) (oc))] 42 (0, 0)) ∧ out = [] ∧ OwnAt h' 33 effc out (Value.slice oa (out.length) (oc)) := ⟨_, rfl⟩
  obtain ⟨E11470, eE11471⟩ : ∃ zq : Heap → Prop, zq = fun _ => False := ⟨_, rfl⟩
  have hX11487 : ∀ k D h' h'', I11469 k D h' → Ext h' h'' → I11469 k D h'' := by
    rw [eI11468]
    rintro k _ h' h'' ⟨out, oa, oc, rfl, p39, c40, d41, f42, i43, p44⟩ xx
    exact ⟨out, oa, oc, rfl, xx _ _ p39, c40.trans (Chg.ext xx), d41, xx _ _ f42, i43, p44.keep fun b r _ q => xx b r q⟩
  have hy45 : ∀ k y D h', (([] : Tab))[k]? = some y → I11469 k D h' → ∃ b h'' D', SoundYield Tryz.prog lp21 #[(vI (y.1)), (Value.agg #[(vI (y.1)), (vI (y.2.ix)), (vI (phS y.2.st))])] h' (.bool b) h'' ∧ Chg D h' h'' ∧ (∀ z, D' z → D z ∨ h'.size ≤ z) ∧ (if b = true then I11469 (k + 1) D' h'' else E11470 h'') := by
    rw [eI11468]
    rintro k y _ hr hk ⟨out, oa, oc, rfl, p39, c40, d41, f42, i43, p44⟩
    obtain ⟨Dc, eDc⟩ : ∃ zq : Nat → Prop, zq = (fun b => b = lp21 ∨ b = b1 ∨ (blk (Value.slice oa (out.length) (oc))) b ∨ False) := ⟨_, rfl⟩
    rw [← eDc] at d41
    rw [← eI11468]
    rw [← eDc]
    have lo1 : out.length ≤ 64 := by rw [i43]; decide
    suffices hw : ∃ b h'', SoundYield Tryz.prog lp21 #[(vI (y.1)), (Value.agg #[(vI (y.1)), (vI (y.2.ix)), (vI (phS y.2.st))])] hr (.bool b) h'' ∧ (fun b h'' => ∃ D', Chg Dc hr h'' ∧ (∀ z, D' z → Dc z ∨ hr.size ≤ z) ∧ (if b = true then I11469 (k + 1) D' h'' else E11470 h'')) b h'' from by
      obtain ⟨b, h'', q1, D', q2, q3, q4⟩ := hw
      exact ⟨b, h'', D', q1, q2, q3, q4⟩
    refine w_round (args := #[(vI (y.1)), (Value.agg #[(vI (y.1)), (vI (y.2.ix)), (vI (phS y.2.st))])]) (K := (fun b h'' => ∃ D', Chg Dc hr h'' ∧ (∀ z, D' z → Dc z ∨ hr.size ≤ z) ∧ (if b = true then I11469 (k + 1) D' h'' else E11470 h''))) p39 hs25 (by rw [eL11461]; rfl) { tmps := #[(Value.pointer none), (Value.tuple #[]), (Value.slice none 0 0), (vP b1 0), (Value.tuple #[]), (Value.tuple #[]), (Value.pointer none), (Value.func (.func 103) #[] #[(vP b11 0)]), (vI (y.1)), (Value.agg #[(vI (y.1)), (vI (y.2.ix)), (vI (phS y.2.st))]), (Value.tuple #[]), (Value.tuple #[]), (Value.tuple #[]), (Value.tuple #[]), (Value.tuple #[])], defers := [] } (by rw [eL11461, etm24]; kernel_rfl) (subc (bodyOf Tryz.prog 32) [1, 1, 0, 1, 0, 0]) (subc (bodyOf Tryz.prog 32) [1, 1, 0, 1, 0, 1]) (by rw [eL11461]) (by rw [eL11461]) ?_
    obtain ⟨b46, eb47⟩ : ∃ zq, zq = hr.size := ⟨_, rfl⟩
    obtain ⟨h48, e49⟩ : ∃ zq, zq = hr.push (.cells #[(vI 0), (vI 0), (vI 0)] 33 (0, 0)) := ⟨_, rfl⟩
    have f50 := push_new e49
    rw [← eb47] at f50
    have n51 : b46 ≠ b1 := by have := row_lt f42; omega
    have n52 : ∀ zz, (blk (Value.slice oa (out.length) (oc))) zz → ¬ zz = b46 := fun zz hz ez => by have := p44.blk_lt hz; omega
    have n53 : ∀ zz, (fun q => q = lp21) zz → ¬ zz = b46 := fun zz hz ez => by have := p39.blk_lt hz; omega
    have x54 : Ext hr h48 := by rw [e49]; exact Ext.push _ _
    have o55 : hr.size ≤ b46 := by have := (Chg.refl (O := Dc) hr).size; omega
    have f56 := x54 _ _ f42
    have p57 := p44.keep fun b r _ q => x54 b r q
    have p58 := p39.keep fun b r _ q => x54 b r q
    have x59 := (Chg.refl (O := Dc) hr).trans (Chg.ext x54)
    obtain ⟨h60, e61⟩ : ∃ zq, zq = h48.setIfInBounds b46 (.cells #[(vI (y.1)), (vI (y.2.ix)), (vI (phS y.2.st))] 33 (0, 0)) := ⟨_, rfl⟩
    have f62 := set_same e61 f50
    have f63 := set_other e61 f56 n51
    have p64 := p57.keep fun b r hb q => (Chg.set e61).same b r q (n52 b hb)
    have p65 := p58.keep fun b r hb q => (Chg.set e61).same b r q (n53 b hb)
    have x66 := x59.then (Chg.set e61) (fun b hb => by subst hb; exact (.inr o55))
    refine wc_ev [evA 3 0 eb47 e49, evUw 3 1 size33 f50 e61] .normal h60 [(5, (vP b46 0))] ?_
    refine ⟨rfl, L11461, p65, hs25, ?_⟩
    obtain ⟨h67, e68⟩ : ∃ zq, zq = h60.setIfInBounds lp21 (.loop { L11461 with state := .busy }) := ⟨_, rfl⟩
    have p69 : At h67 lp21 (.loop { L11461 with state := .busy }) := set_same e68 p65
    have f70 := set_other e68 f63 (loop_ne p65 f63 rfl)
    have f71 := set_other e68 f62 (loop_ne p65 f62 rfl)
    have p72 := p64.keep fun b r hb q => (Chg.set e68).same b r q ((fun b hb hb2 => (p64).celled.loop p65 b hb hb2) b hb)
    have x73 := x66.then (Chg.set e68) (fun b hb => .inl ((fun b hb => by rw [eDc]; exact .inl hb) b hb))
    rw [← e68]
    obtain ⟨b74, eb75⟩ : ∃ zq, zq = h67.size := ⟨_, rfl⟩
    obtain ⟨h76, e77⟩ : ∃ zq, zq = h67.push (.cells #[(vI (y.1)), (vI (y.2.ix)), (vI (phS y.2.st))] 33 (0, 0)) := ⟨_, rfl⟩
    have f78 := push_new e77
    rw [← eb75] at f78
    have x79 : Ext h67 h76 := by rw [e77]; exact Ext.push _ _
    have o80 : hr.size ≤ b74 := by have := x73.size; omega
    have f81 := x79 _ _ f70
    have p82 := p72.keep fun b r _ q => x79 b r q
    have p83 := p69.keep fun b r _ q => x79 b r q
    have x84 := x73.trans (Chg.ext x79)
    obtain ⟨w85, h86, e87, p88, c89, n90, z91⟩ := own_append und42 sizeb33 zero33 rfl (by decide) effc_size (x := (EffM.mk (y.1) (y.2.ix) (phS y.2.st))) p82 f78 rfl (by omega) (by unfold maxLen; omega)
    obtain ⟨a92, c93, rfl⟩ := (p88.slice effc_size).len
    have z94 : hr.size ≤ h76.size := x84.size
    have x95 := x84.then c89 (fun b hb => .inl ((show ∀ b, (blk (Value.slice oa (out.length) (oc))) b → Dc b from fun b hb => by rw [eDc]; exact .inr (.inr (.inl hb))) b hb))
    have f96 := c89.same _ _ f81 (fun hb => p82.ne f81 (by decide) hb rfl)
    have p97 := p83.keep fun b r hb q => c89.same b r q ((fun b hb hb2 => (p82).celled.loop p83 b hb2 hb) b hb)
    have n98 : ∀ zz, blk (Value.slice a92 ((out ++ [(EffM.mk (y.1) (y.2.ix) (phS y.2.st))]).length) (c93)) zz → ¬ zz = b1 := fun zz hz ez => by have := n90 zz hz; have := row_lt f81; omega
    have n99 : ∀ zz, blk (Value.slice a92 ((out ++ [(EffM.mk (y.1) (y.2.ix) (phS y.2.st))]).length) (c93)) zz → ¬ (fun q => q = lp21) zz := fun zz hz ez => by have := n90 zz hz; have := p83.blk_lt ez; omega
    have o100 : ∀ zz, blk (Value.slice a92 ((out ++ [(EffM.mk (y.1) (y.2.ix) (phS y.2.st))]).length) (c93)) zz → hr.size ≤ zz := fun zz hz => by have := n90 zz hz; have := z94; omega
    obtain ⟨h101, e102⟩ : ∃ zq, zq = h86.setIfInBounds b1 (.cells #[(Value.slice a92 ((out ++ [(EffM.mk (y.1) (y.2.ix) (phS y.2.st))]).length) (c93))] 42 (0, 0)) := ⟨_, rfl⟩
    have f103 := set_same e102 f96
    have p104 := p97.keep fun b r hb q => (Chg.set e102).same b r q ((fun (b : Nat) hb => loop_ne p97 f96 hb) b hb)
    have p105 := p88.keep fun b r hb q => (Chg.set e102).same b r q (n98 b hb)
    have x106 := x95.then (Chg.set e102) (fun b hb => by subst hb; exact (.inl (by rw [eDc]; exact .inr (.inl rfl))))
    refine wc_ev [evC 4 0 0 agg42 f70, evLw 4 1 agg33 size33 f71, evS 4 2 1 eb75 e77, evP 4 3 e87, evT 4 4 0 size42 f96 e102] .normal h101 [(10, (vL oa out.length oc)), (11, (vA #[(vI y.1), (vI y.2.ix), (vI (phS y.2.st))])), (12, (vL (some ⟨b74, 0, none⟩) 1 1)), (13, (Value.slice a92 ((out ++ [(EffM.mk (y.1) (y.2.ix) (phS y.2.st))]).length) (c93)))] ?_
    refine ⟨_, p104, ?_⟩
    obtain ⟨h107, e108⟩ : ∃ zq, zq = h101.setIfInBounds lp21 (.loop { ({ L11461 with state := .busy } : Loop) with state := .ready, pending := none }) := ⟨_, rfl⟩
    have p109 : At h107 lp21 (.loop { ({ L11461 with state := .busy } : Loop) with state := .ready, pending := none }) := set_same e108 p104
    have f110 := set_other e108 f103 (loop_ne p104 f103 rfl)
    have p111 := p105.keep fun b r hb q => (Chg.set e108).same b r q (n99 b hb)
    have x112 := x106.then (Chg.set e108) (fun b hb => .inl ((fun b hb => by rw [eDc]; exact .inl hb) b hb))
    have dnew : ∀ z, ((fun (out : List EffM) (oa : Option Addr) (oc : Nat) => (fun b => b = lp21 ∨ b = b1 ∨ (blk (Value.slice oa (out.length) (oc))) b ∨ False)) ((out ++ [(EffM.mk (y.1) (y.2.ix) (phS y.2.st))])) (a92) (c93)) z → Dc z ∨ hr.size ≤ z := by
      intro z hz; rcases hz with w | w | w | w
      · exact .inl (by rw [eDc]; exact .inl w)
      · exact .inl (by rw [eDc]; exact .inr (.inl w))
      · exact .inr (o100 z w)
      · exact w.elim
    refine (show ∃ D', Chg Dc hr (h107) ∧ (∀ z, D' z → Dc z ∨ hr.size ≤ z) ∧ (if true = true then I11469 (k + 1) D' h107 else E11470 h107) from ?_) |> (fun w => by rw [e108] at w; exact w)
    refine ⟨(fun (out : List EffM) (oa : Option Addr) (oc : Nat) => (fun b => b = lp21 ∨ b = b1 ∨ (blk (Value.slice oa (out.length) (oc))) b ∨ False)) ((out ++ [(EffM.mk (y.1) (y.2.ix) (phS y.2.st))])) (a92) (c93), x112, dnew, ?_⟩
    rw [if_pos rfl]
    rw [eI11468]
    exact ⟨(out ++ [(EffM.mk (y.1) (y.2.ix) (phS y.2.st))]), a92, c93, rfl, (by have q := p109; rw [loop_back hs25 hp26] at q; exact q), c40.then (x112) d41, fun z hz => (dnew z hz).elim (d41 z) (fun w => .inr (by have := c40.size; omega)), f110, absurd hk (by simp), p111⟩
  have h113 : I11469 0 D11472 h27 := by rw [eI11468]; exact ⟨[], none, 0, eD11473, p30, Chg.refl h27, fun z hz => .inl hz, f34, rfl, .inl ⟨rfl, rfl⟩⟩
  refine wc_range_any (h1 := h27) (c := (subc (bodyOf Tryz.prog 32) [1, 1, 0, 1, 0])) (g := .tmp 7) (params := #[8, 9]) (assign := (subc (bodyOf Tryz.prog 32) [1, 1, 0, 1, 0, 0])) (body := (subc (bodyOf Tryz.prog 32) [1, 1, 0, 1, 0, 1])) (by kernel_rfl) 103 #[] #[(vP b11 0)] lp21 [{ target := .collected dv19, args := #[] }] #[(Value.func (.yield lp21) #[] #[]), (vP b11 0)] (by rfl) rfl rfl (by kernel_rfl) (by rw [eh28, elp22, eL11461, etm24, edv20]; rfl) ?_
  refine (it0_nil h27 b11 f35 lp21 I11469 E11470 D11472  hX11487 hy45 h113).mono fun _ h8 q => ?_
  obtain ⟨q0, q⟩ := q
  rcases q with ⟨Dv, q, qD⟩ | q
  · rw [eI11468] at q
    obtain ⟨out, oa, oc, eDv, p114, cgN, hdN, f115, i116, p117⟩ := q
    refine ⟨_, p114, ?_, leftBy_none hp26 ?_⟩
    · exact fun w => by rw [hs25] at w; cases w
    have p118 : At h8 dv19 (.deferred (some [])) := q0.same _ _ p31 hd38
    obtain ⟨h119, e120⟩ : ∃ zq, zq = h8.setIfInBounds lp21 (.loop { L11461 with state := .exhausted }) := ⟨_, rfl⟩
    have f121 := set_other e120 f115 (loop_ne p114 f115 rfl)
    have p122 := p118.keep fun b r hb q => (Chg.set e120).same b r q ((fun b hb hb2 => (show ∀ b : Nat, b = lp21 → b = dv19 → False from fun b w1 w2 => by omega) b hb2 hb) b hb)
    rw [← e120]
    have c123 := q0.then (Chg.set e120) (fun b hb => .inl (by rw [eD11473]; exact .inl hb))
    have x124 : Ext h h119 := (Chg.then (O := fun _ => False) (Chg.ext x36) c123 (fun b hb => .inr (hD11479 b hb))).toExt'
    refine wc_ev [evC 5 0 0 agg42 f121] .ret h119 [(14, (vL oa out.length oc)), (2, (vL oa out.length oc))] ?_
    obtain ⟨h125, e126⟩ : ∃ zq, zq = h119.setIfInBounds dv19 (.deferred none) := ⟨_, rfl⟩
    have x127 : Ext h h125 := Ext.setNew x124 e126 (by omega)
    have eo := i116
    refine end_mark3 (T := hintsOf [] []) (dv := dv19) { tmps := #[(Value.pointer none), (Value.tuple #[]), (Value.slice oa (out.length) (oc)), (vP b1 0), (Value.tuple #[]), (Value.tuple #[]), (Value.pointer none), (Value.func (.func 103) #[] #[(vP b11 0)]), (Value.tuple #[]), (Value.tuple #[]), (Value.tuple #[]), (Value.tuple #[]), (Value.tuple #[]), (Value.tuple #[]), (Value.slice oa (out.length) (oc))], defers := ([{ target := .collected dv19, args := #[] }] ++ []) } (by kernel_rfl) (.inr rfl) rfl p122 e126 (A := resQ [] (K (Value.slice oa (out.length) (oc)) h125)) (by kernel_rfl) ?_
    exact resQ_of _ (hK _ _ (⟨oa, oc, by simp [eo], x127⟩))
  · rw [eE11471] at q; exact q.elim
set_option maxHeartbeats 4000000 in
theorem open_bad (h : Heap) {t : Nat} {fr : Nat × Nat} (ht : h[t]? = some (.cells #[.map none] 57 fr)) : WCall Tryz.prog 31 #[(vP t 0)] h (fun v h1 => ∃ oa oc, v = .slice oa 0 oc ∧ Ext h h1) := by
  suffices H : ∀ K : Value → Heap → Prop, (∀ v h1, (fun v h1 => ∃ oa oc, v = .slice oa 0 oc ∧ Ext h h1) v h1 → K v h1) → WCall Tryz.prog 31 #[(vP t 0)] h K from H _ fun _ _ q => q
  intro K hK
  refine wcall_at { tmps := #[(vP t 0), vZ, vZ, vZ, vZ, vZ, vZ, vZ, vZ, vZ, vZ, vZ, vZ, vZ], defers := [] } (by kernel_rfl) ?_
  refine wc_seq' (subc (bodyOf Tryz.prog 31) [0]) (subc (bodyOf Tryz.prog 31) [1]) (by kernel_rfl) ?_
  refine wc_ev [] .normal h [(2, (vL none 0 0))] ?_
  refine wc_seq' (subc (bodyOf Tryz.prog 31) [1, 0]) (subc (bodyOf Tryz.prog 31) [1, 1]) (by kernel_rfl) ?_
  obtain ⟨b1, eb2⟩ : ∃ zq, zq = h.size := ⟨_, rfl⟩
  obtain ⟨h3, e4⟩ : ∃ zq, zq = h.push (.cells #[(Value.slice none 0 0)] 63 (0, 0)) := ⟨_, rfl⟩
  have f5 := push_new e4
  rw [← eb2] at f5
  have x6 : Ext h h3 := by rw [e4]; exact Ext.push _ _
  have o7 : h.size ≤ b1 := by have := (Ext.refl h).size; omega
  have f9 := x6 _ _ ht
  have x10 := (Ext.refl h).trans x6
  refine wc_ev [evA 1 0 eb2 e4] .normal h3 [(3, (vP b1 0))] ?_
  refine wc_seq' (subc (bodyOf Tryz.prog 31) [1, 1, 0]) (subc (bodyOf Tryz.prog 31) [1, 1, 1]) (by kernel_rfl) ?_
  refine wc_seq' (subc (bodyOf Tryz.prog 31) [1, 1, 0, 0]) (subc (bodyOf Tryz.prog 31) [1, 1, 0, 1]) (by kernel_rfl) ?_
  obtain ⟨_, h11, s12, b13, rfl, f14, x15, o16⟩ := open_fn h3 t
  have oo17 : h.size ≤ b13 := by have := x10.size; omega
  have f18 := x15 _ _ f9
  have f19 := x15 _ _ f5
  have x20 := x10.trans x15
  refine wc_ev [evF 2 1 s12] .normal h11 [(5, (vP t 0)), (6, (Value.func (.func 103) #[] #[(vP b13 0)]))] ?_
  refine wc_block' 0 (subc (bodyOf Tryz.prog 31) [1, 1, 0, 1, 0]) (by kernel_rfl) ?_
  refine wc_act { tmps := #[(vP t 0), vZ, (vL none 0 0), (vP b1 0), vZ, (vP t 0), (Value.func (.func 103) #[] #[(vP b13 0)]), vZ, vZ, vZ, vZ, vZ, vZ, vZ], defers := [] } (by kernel_rfl) ?_
  obtain ⟨dv21, edv22⟩ : ∃ zq, zq = h11.size := ⟨_, rfl⟩
  obtain ⟨lp23, elp24⟩ : ∃ zq, zq = h11.size + 1 := ⟨_, rfl⟩
  obtain ⟨tm25, etm26⟩ : ∃ zq : Array Value, zq = #[(vP t 0), (Value.tuple #[]), (Value.slice none 0 0), (vP b1 0), (Value.tuple #[]), (vP t 0), (Value.func (.func 103) #[] #[(vP b13 0)]), (Value.tuple #[]), (Value.tuple #[]), (Value.tuple #[]), (Value.tuple #[]), (Value.tuple #[]), (Value.tuple #[]), (Value.tuple #[])] := ⟨_, rfl⟩
  obtain ⟨L11615, eL11615⟩ : ∃ zq : Loop, zq = { state := .ready, pending := none, fn := 0, tmps := tm25, params := #[7, 8], assign := (subc (bodyOf Tryz.prog 31) [1, 1, 0, 1, 0, 0]), body := (subc (bodyOf Tryz.prog 31) [1, 1, 0, 1, 0, 1]), defers := dv21 } := ⟨_, rfl⟩
  have hs27 : L11615.state = .ready := by rw [eL11615]
  have hp28 : L11615.pending = none := by rw [eL11615]
  obtain ⟨h29, eh30⟩ : ∃ zq, zq = (h11.push (.deferred (some []))).push (.loop L11615) := ⟨_, rfl⟩
  have x31 : Ext h11 h29 := by rw [eh30]; exact (Ext.push _ _).trans (Ext.push _ _)
  have p32 : At h29 lp23 (.loop L11615) := by rw [eh30, elp24, show h11.size + 1 = (h11.push (.deferred (some []))).size by simp]; exact push_new rfl
  have p33 : At h29 dv21 (.deferred (some [])) := by rw [eh30, edv22]; exact push_old (b := h11.size) rfl (push_new rfl)
  have sh34 : lp23 < h29.size := p32.blk_lt rfl
  have z35 : h.size ≤ h11.size := x20.size
  have f36 := x31 _ _ f18
  have f37 := x31 _ _ f19
  have f38 := x31 _ _ f14
  have x39 := x20.trans x31
  have z40 : h.size ≤ h29.size := x39.size
  obtain ⟨D11626, eD11627⟩ : ∃ zq : Nat → Prop, zq = (fun (out : List Int) (oa : Option Addr) (oc : Nat) => (fun b => b = lp23 ∨ b = b1 ∨ (blk (Value.slice oa (out.length) (oc))) b ∨ False)) ([]) (none) (0) := ⟨_, rfl⟩
  have hD11634 : ∀ b, D11626 b → h.size ≤ b := by
    rw [eD11627]; rintro b (w | w | w | w)
    · have w1 : b = lp23 := w; omega
    · have w1 : b = b1 := w; have := o7; omega
    · exact w.elim
    · exact w.elim
  have hd41 : ¬ D11626 dv21 := by
    rw [eD11627]; rintro (w | w | w | w)
    · have w1 : dv21 = lp23 := w; omega
    · have w1 : dv21 = b1 := w; have := row_lt f19; omega
    · exact w.elim
    · exact w.elim
  obtain ⟨I11623, eI11622⟩ : ∃ zq : Nat → (Nat → Prop) → Heap → Prop, zq = fun (kk : Nat) (Dv : Nat → Prop) (h' : Heap) => ∃ (out : List Int), ∃ (oa : Option Addr), ∃ (oc : Nat), Dv = (fun b => b = lp23 ∨ b = b1 ∨ (blk (Value.slice oa (out.length) (oc))) b ∨ False) ∧ At h' lp23 (.loop L11615) ∧ Chg D11626 h29 h' ∧ (∀ z, Dv z → D11626 z ∨ h29.size ≤ z) ∧ h'[b1]? = some (.cells #[(Value.slice oa (out.length) (oc))] 63 (0, 0)) ∧ out = [] ∧ OwnAt h' 3 zc out (Value.slice oa (out.length) (oc)) := ⟨_, rfl⟩
  obtain ⟨E11624, eE11625⟩ : ∃ zq : Heap → Prop, zq = fun _ => False := ⟨_, rfl⟩
  have hX11642 : ∀ k D h' h'', I11623 k D h' → Ext h' h'' → I11623 k D h'' := by
    rw [eI11622]
    rintro k _ h' h'' ⟨out, oa, oc, rfl, p42, c43, d44, f45, i46, p47⟩ xx
    exact ⟨out, oa, oc, rfl, xx _ _ p42, c43.trans (Chg.ext xx), d44, xx _ _ f45, i46, p47.keep fun b r _ q => xx b r q⟩
  have hy48 : ∀ k y D h', (([] : Tab))[k]? = some y → I11623 k D h' → ∃ b h'' D', SoundYield Tryz.prog lp23 #[(vI (y.1)), (Value.agg #[(vI (y.1)), (vI (y.2.ix)), (vI (phS y.2.st))])] h' (.bool b) h'' ∧ Chg D h' h'' ∧ (∀ z, D' z → D z ∨ h'.size ≤ z) ∧ (if b = true then I11623 (k + 1) D' h'' else E11624 h'') := by
    rw [eI11622]
    rintro k y _ hr hk ⟨out, oa, oc, rfl, p42, c43, d44, f45, i46, p47⟩
    obtain ⟨Dc, eDc⟩ : ∃ zq : Nat → Prop, zq = (fun b => b = lp23 ∨ b = b1 ∨ (blk (Value.slice oa (out.length) (oc))) b ∨ False) := ⟨_, rfl⟩
    rw [← eDc] at d44
    rw [← eI11622]
    rw [← eDc]
    have lo1 : out.length ≤ 64 := by rw [i46]; decide
    suffices hw : ∃ b h'', SoundYield Tryz.prog lp23 #[(vI (y.1)), (Value.agg #[(vI (y.1)), (vI (y.2.ix)), (vI (phS y.2.st))])] hr (.bool b) h'' ∧ (fun b h'' => ∃ D', Chg Dc hr h'' ∧ (∀ z, D' z → Dc z ∨ hr.size ≤ z) ∧ (if b = true then I11623 (k + 1) D' h'' else E11624 h'')) b h'' from by
      obtain ⟨b, h'', q1, D', q2, q3, q4⟩ := hw
      exact ⟨b, h'', D', q1, q2, q3, q4⟩
    refine w_round (args := #[(vI (y.1)), (Value.agg #[(vI (y.1)), (vI (y.2.ix)), (vI (phS y.2.st))])]) (K := (fun b h'' => ∃ D', Chg Dc hr h'' ∧ (∀ z, D' z → Dc z ∨ hr.size ≤ z) ∧ (if b = true then I11623 (k + 1) D' h'' else E11624 h''))) p42 hs27 (by rw [eL11615]; rfl) { tmps := #[(vP t 0), (Value.tuple #[]), (Value.slice none 0 0), (vP b1 0), (Value.tuple #[]), (vP t 0), (Value.func (.func 103) #[] #[(vP b13 0)]), (vI (y.1)), (Value.agg #[(vI (y.1)), (vI (y.2.ix)), (vI (phS y.2.st))]), (Value.tuple #[]), (Value.tuple #[]), (Value.tuple #[]), (Value.tuple #[]), (Value.tuple #[])], defers := [] } (by rw [eL11615, etm26]; kernel_rfl) (subc (bodyOf Tryz.prog 31) [1, 1, 0, 1, 0, 0]) (subc (bodyOf Tryz.prog 31) [1, 1, 0, 1, 0, 1]) (by rw [eL11615]) (by rw [eL11615]) ?_
    refine wc_ev [] .normal hr [(4, (vI y.1))] ?_
    refine ⟨rfl, L11615, p42, hs27, ?_⟩
    obtain ⟨h49, e50⟩ : ∃ zq, zq = hr.setIfInBounds lp23 (.loop { L11615 with state := .busy }) := ⟨_, rfl⟩
    have p51 : At h49 lp23 (.loop { L11615 with state := .busy }) := set_same e50 p42
    have f52 := set_other e50 f45 (loop_ne p42 f45 rfl)
    have p53 := p47.keep fun b r hb q => (Chg.set e50).same b r q ((fun b hb hb2 => (p47).celled.loop p42 b hb hb2) b hb)
    have x54 := (Chg.refl (O := Dc) hr).then (Chg.set e50) (fun b hb => .inl ((fun b hb => by rw [eDc]; exact .inl hb) b hb))
    rw [← e50]
    obtain ⟨b55, eb56⟩ : ∃ zq, zq = h49.size := ⟨_, rfl⟩
    obtain ⟨h57, e58⟩ : ∃ zq, zq = h49.push (.cells #[(vI (y.1))] 3 (0, 0)) := ⟨_, rfl⟩
    have f59 := push_new e58
    rw [← eb56] at f59
    have x60 : Ext h49 h57 := by rw [e58]; exact Ext.push _ _
    have o61 : hr.size ≤ b55 := by have := x54.size; omega
    have f62 := x60 _ _ f52
    have p63 := p53.keep fun b r _ q => x60 b r q
    have p64 := p51.keep fun b r _ q => x60 b r q
    have x65 := x54.trans (Chg.ext x60)
    obtain ⟨w66, h67, e68, p69, c70, n71, z72⟩ := own_append und63 sizeb3 zero3 rfl (by decide) zc_size (x := y.1) p63 f59 rfl (by omega) (by unfold maxLen; omega)
    obtain ⟨a73, c74, rfl⟩ := (p69.slice zc_size).len
    have z75 : hr.size ≤ h57.size := x65.size
    have x76 := x65.then c70 (fun b hb => .inl ((show ∀ b, (blk (Value.slice oa (out.length) (oc))) b → Dc b from fun b hb => by rw [eDc]; exact .inr (.inr (.inl hb))) b hb))
    have f77 := c70.same _ _ f62 (fun hb => p63.ne f62 (by decide) hb rfl)
    have p78 := p64.keep fun b r hb q => c70.same b r q ((fun b hb hb2 => (p63).celled.loop p64 b hb2 hb) b hb)
    have n79 : ∀ zz, blk (Value.slice a73 ((out ++ [y.1]).length) (c74)) zz → ¬ zz = b1 := fun zz hz ez => by have := n71 zz hz; have := row_lt f62; omega
    have n80 : ∀ zz, blk (Value.slice a73 ((out ++ [y.1]).length) (c74)) zz → ¬ (fun q => q = lp23) zz := fun zz hz ez => by have := n71 zz hz; have := p64.blk_lt ez; omega
    have o81 : ∀ zz, blk (Value.slice a73 ((out ++ [y.1]).length) (c74)) zz → hr.size ≤ zz := fun zz hz => by have := n71 zz hz; have := z75; omega
    obtain ⟨h82, e83⟩ : ∃ zq, zq = h67.setIfInBounds b1 (.cells #[(Value.slice a73 ((out ++ [y.1]).length) (c74))] 63 (0, 0)) := ⟨_, rfl⟩
    have f84 := set_same e83 f77
    have p85 := p78.keep fun b r hb q => (Chg.set e83).same b r q ((fun (b : Nat) hb => loop_ne p78 f77 hb) b hb)
    have p86 := p69.keep fun b r hb q => (Chg.set e83).same b r q (n79 b hb)
    have x87 := x76.then (Chg.set e83) (fun b hb => by subst hb; exact (.inl (by rw [eDc]; exact .inr (.inl rfl))))
    refine wc_ev [evC 4 0 0 agg63 f52, evS 4 2 1 eb56 e58, evP 4 3 e68, evT 4 4 0 size63 f77 e83] .normal h82 [(9, (vL oa out.length oc)), (10, (vI y.1)), (11, (vL (some ⟨b55, 0, none⟩) 1 1)), (12, (vL a73 ((out ++ [y.1]).length) c74))] ?_
    refine ⟨_, p85, ?_⟩
    obtain ⟨h88, e89⟩ : ∃ zq, zq = h82.setIfInBounds lp23 (.loop { ({ L11615 with state := .busy } : Loop) with state := .ready, pending := none }) := ⟨_, rfl⟩
    have p90 : At h88 lp23 (.loop { ({ L11615 with state := .busy } : Loop) with state := .ready, pending := none }) := set_same e89 p85
    have f91 := set_other e89 f84 (loop_ne p85 f84 rfl)
    have p92 := p86.keep fun b r hb q => (Chg.set e89).same b r q (n80 b hb)
    have x93 := x87.then (Chg.set e89) (fun b hb => .inl ((fun b hb => by rw [eDc]; exact .inl hb) b hb))
    have dnew : ∀ z, ((fun (out : List Int) (oa : Option Addr) (oc : Nat) => (fun b => b = lp23 ∨ b = b1 ∨ (blk (Value.slice oa (out.length) (oc))) b ∨ False)) ((out ++ [y.1])) (a73) (c74)) z → Dc z ∨ hr.size ≤ z := by
      intro z hz; rcases hz with w | w | w | w
      · exact .inl (by rw [eDc]; exact .inl w)
      · exact .inl (by rw [eDc]; exact .inr (.inl w))
      · exact .inr (o81 z w)
      · exact w.elim
    refine (show ∃ D', Chg Dc hr (h88) ∧ (∀ z, D' z → Dc z ∨ hr.size ≤ z) ∧ (if true = true then I11623 (k + 1) D' h88 else E11624 h88) from ?_) |> (fun w => by rw [e89] at w; exact w)
    refine ⟨(fun (out : List Int) (oa : Option Addr) (oc : Nat) => (fun b => b = lp23 ∨ b = b1 ∨ (blk (Value.slice oa (out.length) (oc))) b ∨ False)) ((out ++ [y.1])) (a73) (c74), x93, dnew, ?_⟩
    rw [if_pos rfl]
    rw [eI11622]
    exact ⟨(out ++ [y.1]), a73, c74, rfl, (by have q := p90; rw [loop_back hs27 hp28] at q; exact q), c43.then (x93) d44, fun z hz => (dnew z hz).elim (d44 z) (fun w => .inr (by have := c43.size; omega)), f91, absurd hk (by simp), p92⟩
  have h94 : I11623 0 D11626 h29 := by rw [eI11622]; exact ⟨[], none, 0, eD11627, p32, Chg.refl h29, fun z hz => .inl hz, f37, rfl, .inl ⟨rfl, rfl⟩⟩
  refine wc_range_any (h1 := h29) (c := (subc (bodyOf Tryz.prog 31) [1, 1, 0, 1, 0])) (g := .tmp 6) (params := #[7, 8]) (assign := (subc (bodyOf Tryz.prog 31) [1, 1, 0, 1, 0, 0])) (body := (subc (bodyOf Tryz.prog 31) [1, 1, 0, 1, 0, 1])) (by kernel_rfl) 103 #[] #[(vP b13 0)] lp23 [{ target := .collected dv21, args := #[] }] #[(Value.func (.yield lp23) #[] #[]), (vP b13 0)] (by rfl) rfl rfl (by kernel_rfl) (by rw [eh30, elp24, eL11615, etm26, edv22]; rfl) ?_
  refine (it0_bad h29 f36 b13 f38 lp23 I11623 E11624 D11626  hX11642 hy48 h94).mono fun _ h8 q => ?_
  obtain ⟨q0, q⟩ := q
  rcases q with ⟨Dv, q, qD⟩ | q
  · rw [eI11622] at q
    obtain ⟨out, oa, oc, eDv, p95, cgN, hdN, f96, i97, p98⟩ := q
    refine ⟨_, p95, ?_, leftBy_none hp28 ?_⟩
    · exact fun w => by rw [hs27] at w; cases w
    have p99 : At h8 dv21 (.deferred (some [])) := q0.same _ _ p33 hd41
    obtain ⟨h100, e101⟩ : ∃ zq, zq = h8.setIfInBounds lp23 (.loop { L11615 with state := .exhausted }) := ⟨_, rfl⟩
    have f102 := set_other e101 f96 (loop_ne p95 f96 rfl)
    have p103 := p99.keep fun b r hb q => (Chg.set e101).same b r q ((fun b hb hb2 => (show ∀ b : Nat, b = lp23 → b = dv21 → False from fun b w1 w2 => by omega) b hb2 hb) b hb)
    rw [← e101]
    have c104 := q0.then (Chg.set e101) (fun b hb => .inl (by rw [eD11627]; exact .inl hb))
    have x105 : Ext h h100 := (Chg.then (O := fun _ => False) (Chg.ext x39) c104 (fun b hb => .inr (hD11634 b hb))).toExt'
    refine wc_ev [evC 5 0 0 agg63 f102] .ret h100 [(13, (vL oa out.length oc)), (2, (vL oa out.length oc))] ?_
    obtain ⟨h106, e107⟩ : ∃ zq, zq = h100.setIfInBounds dv21 (.deferred none) := ⟨_, rfl⟩
    have x108 : Ext h h106 := Ext.setNew x105 e107 (by omega)
    have eo := i97
    refine end_mark3 (T := hintsOf [] []) (dv := dv21) { tmps := #[(vP t 0), (Value.tuple #[]), (Value.slice oa (out.length) (oc)), (vP b1 0), (Value.tuple #[]), (vP t 0), (Value.func (.func 103) #[] #[(vP b13 0)]), (Value.tuple #[]), (Value.tuple #[]), (Value.tuple #[]), (Value.tuple #[]), (Value.tuple #[]), (Value.tuple #[]), (Value.slice oa (out.length) (oc))], defers := ([{ target := .collected dv21, args := #[] }] ++ []) } (by kernel_rfl) (.inr rfl) rfl p103 e107 (A := resQ [] (K (Value.slice oa (out.length) (oc)) h106)) (by kernel_rfl) ?_
    exact resQ_of _ (hK _ _ (⟨oa, oc, by simp [eo], x108⟩))
  · rw [eE11625] at q; exact q.elim
set_option maxHeartbeats 4000000 in
theorem tnext_bad (h : Heap) {t : Nat} {fr : Nat × Nat} (ht : h[t]? = some (.cells #[.map none] 57 fr)) : WCall Tryz.prog 32 #[(vP t 0)] h (fun v h1 => ∃ oa oc, v = .slice oa 0 oc ∧ Ext h h1) := by
  suffices H : ∀ K : Value → Heap → Prop, (∀ v h1, (fun v h1 => ∃ oa oc, v = .slice oa 0 oc ∧ Ext h h1) v h1 → K v h1) → WCall Tryz.prog 32 #[(vP t 0)] h K from H _ fun _ _ q => q
  intro K hK
  refine wcall_at { tmps := #[(vP t 0), vZ, vZ, vZ, vZ, vZ, vZ, vZ, vZ, vZ, vZ, vZ, vZ, vZ, vZ], defers := [] } (by kernel_rfl) ?_
  refine wc_seq' (subc (bodyOf Tryz.prog 32) [0]) (subc (bodyOf Tryz.prog 32) [1]) (by kernel_rfl) ?_
  refine wc_ev [] .normal h [(2, (vL none 0 0))] ?_
  refine wc_seq' (subc (bodyOf Tryz.prog 32) [1, 0]) (subc (bodyOf Tryz.prog 32) [1, 1]) (by kernel_rfl) ?_
  obtain ⟨b1, eb2⟩ : ∃ zq, zq = h.size := ⟨_, rfl⟩
  obtain ⟨h3, e4⟩ : ∃ zq, zq = h.push (.cells #[(Value.slice none 0 0)] 42 (0, 0)) := ⟨_, rfl⟩
  have f5 := push_new e4
  rw [← eb2] at f5
  have x6 : Ext h h3 := by rw [e4]; exact Ext.push _ _
  have o7 : h.size ≤ b1 := by have := (Ext.refl h).size; omega
  have f9 := x6 _ _ ht
  have x10 := (Ext.refl h).trans x6
  refine wc_ev [evA 1 0 eb2 e4] .normal h3 [(3, (vP b1 0))] ?_
  refine wc_seq' (subc (bodyOf Tryz.prog 32) [1, 1, 0]) (subc (bodyOf Tryz.prog 32) [1, 1, 1]) (by kernel_rfl) ?_
  refine wc_seq' (subc (bodyOf Tryz.prog 32) [1, 1, 0, 0]) (subc (bodyOf Tryz.prog 32) [1, 1, 0, 1]) (by kernel_rfl) ?_
  obtain ⟨_, h11, s12, b13, rfl, f14, x15, o16⟩ := open_fn h3 t
  have oo17 : h.size ≤ b13 := by have := x10.size; omega
  have f18 := x15 _ _ f9
  have f19 := x15 _ _ f5
  have x20 := x10.trans x15
  refine wc_ev [evF 2 1 s12] .normal h11 [(6, (vP t 0)), (7, (Value.func (.func 103) #[] #[(vP b13 0)]))] ?_
  refine wc_block' 0 (subc (bodyOf Tryz.prog 32) [1, 1, 0, 1, 0]) (by kernel_rfl) ?_
  refine wc_act { tmps := #[(vP t 0), vZ, (vL none 0 0), (vP b1 0), vZ, vZ, (vP t 0), (Value.func (.func 103) #[] #[(vP b13 0)]), vZ, vZ, vZ, vZ, vZ, vZ, vZ], defers := [] } (by kernel_rfl) ?_
  obtain ⟨dv21, edv22⟩ : ∃ zq, zq = h11.size := ⟨_, rfl⟩
  obtain ⟨lp23, elp24⟩ : ∃ zq, zq = h11.size + 1 := ⟨_, rfl⟩
  obtain ⟨tm25, etm26⟩ : ∃ zq : Array Value, zq = #[(vP t 0), (Value.tuple #[]), (Value.slice none 0 0), (vP b1 0), (Value.tuple #[]), (Value.tuple #[]), (vP t 0), (Value.func (.func 103) #[] #[(vP b13 0)]), (Value.tuple #[]), (Value.tuple #[]), (Value.tuple #[]), (Value.tuple #[]), (Value.tuple #[]), (Value.tuple #[]), (Value.tuple #[])] := ⟨_, rfl⟩
  obtain ⟨L11741, eL11741⟩ : ∃ zq : Loop, zq = { state := .ready, pending := none, fn := 0, tmps := tm25, params := #[8, 9], assign := (subc (bodyOf Tryz.prog 32) [1, 1, 0, 1, 0, 0]), body := (subc (bodyOf Tryz.prog 32) [1, 1, 0, 1, 0, 1]), defers := dv21 } := ⟨_, rfl⟩
  have hs27 : L11741.state = .ready := by rw [eL11741]
  have hp28 : L11741.pending = none := by rw [eL11741]
  obtain ⟨h29, eh30⟩ : ∃ zq, zq = (h11.push (.deferred (some []))).push (.loop L11741) := ⟨_, rfl⟩
  have x31 : Ext h11 h29 := by rw [eh30]; exact (Ext.push _ _).trans (Ext.push _ _)
  have p32 : At h29 lp23 (.loop L11741) := by rw [eh30, elp24, show h11.size + 1 = (h11.push (.deferred (some []))).size by simp]; exact push_new rfl
  have p33 : At h29 dv21 (.deferred (some [])) := by rw [eh30, edv22]; exact push_old (b := h11.size) rfl (push_new rfl)
  have sh34 : lp23 < h29.size := p32.blk_lt rfl
  have z35 : h.size ≤ h11.size := x20.size
  have f36 := x31 _ _ f18
  have f37 := x31 _ _ f19
  have f38 := x31 _ _ f14
  have x39 := x20.trans x31
  have z40 : h.size ≤ h29.size := x39.size
  obtain ⟨D11752, eD11753⟩ : ∃ zq : Nat → Prop, zq = (fun (out : List EffM) (oa : Option Addr) (oc : Nat) => (fun b => b = lp23 ∨ b = b1 ∨ (blk (Value.slice oa (out.length) (oc))) b ∨ False)) ([]) (none) (0) := ⟨_, rfl⟩
  have hD11760 : ∀ b, D11752 b → h.size ≤ b := by
    rw [eD11753]; rintro b (w | w | w | w)
    · have w1 : b = lp23 := w; omega
    · have w1 : b = b1 := w; have := o7; omega
    · exact w.elim
    · exact w.elim
  have hd41 : ¬ D11752 dv21 := by
    rw [eD11753]; rintro (w | w | w | w)
    · have w1 : dv21 = lp23 := w; omega
    · have w1 : dv21 = b1 := w; have := row_lt f19; omega
    · exact w.elim
    · exact w.elim
  obtain ⟨I11749, eI11748⟩ : ∃ zq : Nat → (Nat → Prop) → Heap → Prop, zq = fun (kk : Nat) (Dv : Nat → Prop) (h' : Heap) => ∃ (out : List EffM), ∃ (oa : Option Addr), ∃ (oc : Nat), Dv = (fun b => b = lp23 ∨ b = b1 ∨ (blk (Value.slice oa (out.length) (oc))) b ∨ False) ∧ At h' lp23 (.loop L11741) ∧ Chg D11752 h29 h' ∧ (∀ z, Dv z → D11752 z ∨ h29.size ≤ z) ∧ h'[b1]? = some (.cells #[(Value.slice oa (out.length) (oc))] 42 (0, 0)) ∧ out = [] ∧ OwnAt h' 33 effc out (Value.slice oa (out.length) (oc)) := ⟨_, rfl⟩
  obtain ⟨E11750, eE11751⟩ : ∃ zq : Heap → Prop, zq = fun _ => False := ⟨_, rfl⟩
  have hX11768 : ∀ k D h' h'', I11749 k D h' → Ext h' h'' → I11749 k D h'' := by
    rw [eI11748]
    rintro k _ h' h'' ⟨out, oa, oc, rfl, p42, c43, d44, f45, i46, p47⟩ xx
    exact ⟨out, oa, oc, rfl, xx _ _ p42, c43.trans (Chg.ext xx), d44, xx _ _ f45, i46, p47.keep fun b r _ q => xx b r q⟩
  have hy48 : ∀ k y D h', (([] : Tab))[k]? = some y → I11749 k D h' → ∃ b h'' D', SoundYield Tryz.prog lp23 #[(vI (y.1)), (Value.agg #[(vI (y.1)), (vI (y.2.ix)), (vI (phS y.2.st))])] h' (.bool b) h'' ∧ Chg D h' h'' ∧ (∀ z, D' z → D z ∨ h'.size ≤ z) ∧ (if b = true then I11749 (k + 1) D' h'' else E11750 h'') := by
    rw [eI11748]
    rintro k y _ hr hk ⟨out, oa, oc, rfl, p42, c43, d44, f45, i46, p47⟩
    obtain ⟨Dc, eDc⟩ : ∃ zq : Nat → Prop, zq = (fun b => b = lp23 ∨ b = b1 ∨ (blk (Value.slice oa (out.length) (oc))) b ∨ False) := ⟨_, rfl⟩
    rw [← eDc] at d44
    rw [← eI11748]
    rw [← eDc]
    have lo1 : out.length ≤ 64 := by rw [i46]; decide
    suffices hw : ∃ b h'', SoundYield Tryz.prog lp23 #[(vI (y.1)), (Value.agg #[(vI (y.1)), (vI (y.2.ix)), (vI (phS y.2.st))])] hr (.bool b) h'' ∧ (fun b h'' => ∃ D', Chg Dc hr h'' ∧ (∀ z, D' z → Dc z ∨ hr.size ≤ z) ∧ (if b = true then I11749 (k + 1) D' h'' else E11750 h'')) b h'' from by
      obtain ⟨b, h'', q1, D', q2, q3, q4⟩ := hw
      exact ⟨b, h'', D', q1, q2, q3, q4⟩
    refine w_round (args := #[(vI (y.1)), (Value.agg #[(vI (y.1)), (vI (y.2.ix)), (vI (phS y.2.st))])]) (K := (fun b h'' => ∃ D', Chg Dc hr h'' ∧ (∀ z, D' z → Dc z ∨ hr.size ≤ z) ∧ (if b = true then I11749 (k + 1) D' h'' else E11750 h''))) p42 hs27 (by rw [eL11741]; rfl) { tmps := #[(vP t 0), (Value.tuple #[]), (Value.slice none 0 0), (vP b1 0), (Value.tuple #[]), (Value.tuple #[]), (vP t 0), (Value.func (.func 103) #[] #[(vP b13 0)]), (vI (y.1)), (Value.agg #[(vI (y.1)), (vI (y.2.ix)), (vI (phS y.2.st))]), (Value.tuple #[]), (Value.tuple #[]), (Value.tuple #[]), (Value.tuple #[]), (Value.tuple #[])], defers := [] } (by rw [eL11741, etm26]; kernel_rfl) (subc (bodyOf Tryz.prog 32) [1, 1, 0, 1, 0, 0]) (subc (bodyOf Tryz.prog 32) [1, 1, 0, 1, 0, 1]) (by rw [eL11741]) (by rw [eL11741]) ?_
    obtain ⟨b49, eb50⟩ : ∃ zq, zq = hr.size := ⟨_, rfl⟩
    obtain ⟨h51, e52⟩ : ∃ zq, zq = hr.push (.cells #[(vI 0), (vI 0), (vI 0)] 33 (0, 0)) := ⟨_, rfl⟩
    have f53 := push_new e52
    rw [← eb50] at f53
    have n54 : b49 ≠ b1 := by have := row_lt f45; omega
    have n55 : ∀ zz, (blk (Value.slice oa (out.length) (oc))) zz → ¬ zz = b49 := fun zz hz ez => by have := p47.blk_lt hz; omega
    have n56 : ∀ zz, (fun q => q = lp23) zz → ¬ zz = b49 := fun zz hz ez => by have := p42.blk_lt hz; omega
    have x57 : Ext hr h51 := by rw [e52]; exact Ext.push _ _
    have o58 : hr.size ≤ b49 := by have := (Chg.refl (O := Dc) hr).size; omega
    have f59 := x57 _ _ f45
    have p60 := p47.keep fun b r _ q => x57 b r q
    have p61 := p42.keep fun b r _ q => x57 b r q
    have x62 := (Chg.refl (O := Dc) hr).trans (Chg.ext x57)
    obtain ⟨h63, e64⟩ : ∃ zq, zq = h51.setIfInBounds b49 (.cells #[(vI (y.1)), (vI (y.2.ix)), (vI (phS y.2.st))] 33 (0, 0)) := ⟨_, rfl⟩
    have f65 := set_same e64 f53
    have f66 := set_other e64 f59 n54
    have p67 := p60.keep fun b r hb q => (Chg.set e64).same b r q (n55 b hb)
    have p68 := p61.keep fun b r hb q => (Chg.set e64).same b r q (n56 b hb)
    have x69 := x62.then (Chg.set e64) (fun b hb => by subst hb; exact (.inr o58))
    refine wc_ev [evA 3 0 eb50 e52, evUw 3 1 size33 f53 e64] .normal h63 [(5, (vP b49 0))] ?_
    refine ⟨rfl, L11741, p68, hs27, ?_⟩
    obtain ⟨h70, e71⟩ : ∃ zq, zq = h63.setIfInBounds lp23 (.loop { L11741 with state := .busy }) := ⟨_, rfl⟩
    have p72 : At h70 lp23 (.loop { L11741 with state := .busy }) := set_same e71 p68
    have f73 := set_other e71 f66 (loop_ne p68 f66 rfl)
    have f74 := set_other e71 f65 (loop_ne p68 f65 rfl)
    have p75 := p67.keep fun b r hb q => (Chg.set e71).same b r q ((fun b hb hb2 => (p67).celled.loop p68 b hb hb2) b hb)
    have x76 := x69.then (Chg.set e71) (fun b hb => .inl ((fun b hb => by rw [eDc]; exact .inl hb) b hb))
    rw [← e71]
    obtain ⟨b77, eb78⟩ : ∃ zq, zq = h70.size := ⟨_, rfl⟩
    obtain ⟨h79, e80⟩ : ∃ zq, zq = h70.push (.cells #[(vI (y.1)), (vI (y.2.ix)), (vI (phS y.2.st))] 33 (0, 0)) := ⟨_, rfl⟩
    have f81 := push_new e80
    rw [← eb78] at f81
    have x82 : Ext h70 h79 := by rw [e80]; exact Ext.push _ _
    have o83 : hr.size ≤ b77 := by have := x76.size; omega
    have f84 := x82 _ _ f73
    have p85 := p75.keep fun b r _ q => x82 b r q
    have p86 := p72.keep fun b r _ q => x82 b r q
    have x87 := x76.trans (Chg.ext x82)
    obtain ⟨w88, h89, e90, p91, c92, n93, z94⟩ := own_append und42 sizeb33 zero33 rfl (by decide) effc_size (x := (EffM.mk (y.1) (y.2.ix) (phS y.2.st))) p85 f81 rfl (by omega) (by unfold maxLen; omega)
    obtain ⟨a95, c96, rfl⟩ := (p91.slice effc_size).len
    have z97 : hr.size ≤ h79.size := x87.size
    have x98 := x87.then c92 (fun b hb => .inl ((show ∀ b, (blk (Value.slice oa (out.length) (oc))) b → Dc b from fun b hb => by rw [eDc]; exact .inr (.inr (.inl hb))) b hb))
    have f99 := c92.same _ _ f84 (fun hb => p85.ne f84 (by decide) hb rfl)
    have p100 := p86.keep fun b r hb q => c92.same b r q ((fun b hb hb2 => (p85).celled.loop p86 b hb2 hb) b hb)
    have n101 : ∀ zz, blk (Value.slice a95 ((out ++ [(EffM.mk (y.1) (y.2.ix) (phS y.2.st))]).length) (c96)) zz → ¬ zz = b1 := fun zz hz ez => by have := n93 zz hz; have := row_lt f84; omega
    have n102 : ∀ zz, blk (Value.slice a95 ((out ++ [(EffM.mk (y.1) (y.2.ix) (phS y.2.st))]).length) (c96)) zz → ¬ (fun q => q = lp23) zz := fun zz hz ez => by have := n93 zz hz; have := p86.blk_lt ez; omega
    have o103 : ∀ zz, blk (Value.slice a95 ((out ++ [(EffM.mk (y.1) (y.2.ix) (phS y.2.st))]).length) (c96)) zz → hr.size ≤ zz := fun zz hz => by have := n93 zz hz; have := z97; omega
    obtain ⟨h104, e105⟩ : ∃ zq, zq = h89.setIfInBounds b1 (.cells #[(Value.slice a95 ((out ++ [(EffM.mk (y.1) (y.2.ix) (phS y.2.st))]).length) (c96))] 42 (0, 0)) := ⟨_, rfl⟩
    have f106 := set_same e105 f99
    have p107 := p100.keep fun b r hb q => (Chg.set e105).same b r q ((fun (b : Nat) hb => loop_ne p100 f99 hb) b hb)
    have p108 := p91.keep fun b r hb q => (Chg.set e105).same b r q (n101 b hb)
    have x109 := x98.then (Chg.set e105) (fun b hb => by subst hb; exact (.inl (by rw [eDc]; exact .inr (.inl rfl))))
    refine wc_ev [evC 4 0 0 agg42 f73, evLw 4 1 agg33 size33 f74, evS 4 2 1 eb78 e80, evP 4 3 e90, evT 4 4 0 size42 f99 e105] .normal h104 [(10, (vL oa out.length oc)), (11, (vA #[(vI y.1), (vI y.2.ix), (vI (phS y.2.st))])), (12, (vL (some ⟨b77, 0, none⟩) 1 1)), (13, (Value.slice a95 ((out ++ [(EffM.mk (y.1) (y.2.ix) (phS y.2.st))]).length) (c96)))] ?_
    refine ⟨_, p107, ?_⟩
    obtain ⟨h110, e111⟩ : ∃ zq, zq = h104.setIfInBounds lp23 (.loop { ({ L11741 with state := .busy } : Loop) with state := .ready, pending := none }) := ⟨_, rfl⟩
    have p112 : At h110 lp23 (.loop { ({ L11741 with state := .busy } : Loop) with state := .ready, pending := none }) := set_same e111 p107
    have f113 := set_other e111 f106 (loop_ne p107 f106 rfl)
    have p114 := p108.keep fun b r hb q => (Chg.set e111).same b r q (n102 b hb)
    have x115 := x109.then (Chg.set e111) (fun b hb => .inl ((fun b hb => by rw [eDc]; exact .inl hb) b hb))
    have dnew : ∀ z, ((fun (out : List EffM) (oa : Option Addr) (oc : Nat) => (fun b => b = lp23 ∨ b = b1 ∨ (blk (Value.slice oa (out.length) (oc))) b ∨ False)) ((out ++ [(EffM.mk (y.1) (y.2.ix) (phS y.2.st))])) (a95) (c96)) z → Dc z ∨ hr.size ≤ z := by
      intro z hz; rcases hz with w | w | w | w
      · exact .inl (by rw [eDc]; exact .inl w)
      · exact .inl (by rw [eDc]; exact .inr (.inl w))
      · exact .inr (o103 z w)
      · exact w.elim
    refine (show ∃ D', Chg Dc hr (h110) ∧ (∀ z, D' z → Dc z ∨ hr.size ≤ z) ∧ (if true = true then I11749 (k + 1) D' h110 else E11750 h110) from ?_) |> (fun w => by rw [e111] at w; exact w)
    refine ⟨(fun (out : List EffM) (oa : Option Addr) (oc : Nat) => (fun b => b = lp23 ∨ b = b1 ∨ (blk (Value.slice oa (out.length) (oc))) b ∨ False)) ((out ++ [(EffM.mk (y.1) (y.2.ix) (phS y.2.st))])) (a95) (c96), x115, dnew, ?_⟩
    rw [if_pos rfl]
    rw [eI11748]
    exact ⟨(out ++ [(EffM.mk (y.1) (y.2.ix) (phS y.2.st))]), a95, c96, rfl, (by have q := p112; rw [loop_back hs27 hp28] at q; exact q), c43.then (x115) d44, fun z hz => (dnew z hz).elim (d44 z) (fun w => .inr (by have := c43.size; omega)), f113, absurd hk (by simp), p114⟩
  have h116 : I11749 0 D11752 h29 := by rw [eI11748]; exact ⟨[], none, 0, eD11753, p32, Chg.refl h29, fun z hz => .inl hz, f37, rfl, .inl ⟨rfl, rfl⟩⟩
  refine wc_range_any (h1 := h29) (c := (subc (bodyOf Tryz.prog 32) [1, 1, 0, 1, 0])) (g := .tmp 7) (params := #[8, 9]) (assign := (subc (bodyOf Tryz.prog 32) [1, 1, 0, 1, 0, 0])) (body := (subc (bodyOf Tryz.prog 32) [1, 1, 0, 1, 0, 1])) (by kernel_rfl) 103 #[] #[(vP b13 0)] lp23 [{ target := .collected dv21, args := #[] }] #[(Value.func (.yield lp23) #[] #[]), (vP b13 0)] (by rfl) rfl rfl (by kernel_rfl) (by rw [eh30, elp24, eL11741, etm26, edv22]; rfl) ?_
  refine (it0_bad h29 f36 b13 f38 lp23 I11749 E11750 D11752  hX11768 hy48 h116).mono fun _ h8 q => ?_
  obtain ⟨q0, q⟩ := q
  rcases q with ⟨Dv, q, qD⟩ | q
  · rw [eI11748] at q
    obtain ⟨out, oa, oc, eDv, p117, cgN, hdN, f118, i119, p120⟩ := q
    refine ⟨_, p117, ?_, leftBy_none hp28 ?_⟩
    · exact fun w => by rw [hs27] at w; cases w
    have p121 : At h8 dv21 (.deferred (some [])) := q0.same _ _ p33 hd41
    obtain ⟨h122, e123⟩ : ∃ zq, zq = h8.setIfInBounds lp23 (.loop { L11741 with state := .exhausted }) := ⟨_, rfl⟩
    have f124 := set_other e123 f118 (loop_ne p117 f118 rfl)
    have p125 := p121.keep fun b r hb q => (Chg.set e123).same b r q ((fun b hb hb2 => (show ∀ b : Nat, b = lp23 → b = dv21 → False from fun b w1 w2 => by omega) b hb2 hb) b hb)
    rw [← e123]
    have c126 := q0.then (Chg.set e123) (fun b hb => .inl (by rw [eD11753]; exact .inl hb))
    have x127 : Ext h h122 := (Chg.then (O := fun _ => False) (Chg.ext x39) c126 (fun b hb => .inr (hD11760 b hb))).toExt'
    refine wc_ev [evC 5 0 0 agg42 f124] .ret h122 [(14, (vL oa out.length oc)), (2, (vL oa out.length oc))] ?_
    obtain ⟨h128, e129⟩ : ∃ zq, zq = h122.setIfInBounds dv21 (.deferred none) := ⟨_, rfl⟩
    have x130 : Ext h h128 := Ext.setNew x127 e129 (by omega)
    have eo := i119
    refine end_mark3 (T := hintsOf [] []) (dv := dv21) { tmps := #[(vP t 0), (Value.tuple #[]), (Value.slice oa (out.length) (oc)), (vP b1 0), (Value.tuple #[]), (Value.tuple #[]), (vP t 0), (Value.func (.func 103) #[] #[(vP b13 0)]), (Value.tuple #[]), (Value.tuple #[]), (Value.tuple #[]), (Value.tuple #[]), (Value.tuple #[]), (Value.tuple #[]), (Value.slice oa (out.length) (oc))], defers := ([{ target := .collected dv21, args := #[] }] ++ []) } (by kernel_rfl) (.inr rfl) rfl p125 e129 (A := resQ [] (K (Value.slice oa (out.length) (oc)) h128)) (by kernel_rfl) ?_
    exact resQ_of _ (hK _ _ (⟨oa, oc, by simp [eo], x130⟩))
  · rw [eE11751] at q; exact q.elim
theorem exa_first {j : Nat} {y : StepM} (h : exaX[j]? = some y) (hj : j = 0) : y.key = ⟨#[97]⟩ := by subst hj; cases h; rfl
set_option maxRecDepth 10000 in
set_option maxHeartbeats 4000000 in
theorem law_nil (h : Heap) (id : Int) (_hid : -9223372036854775808 ≤ id ∧ id ≤ 9223372036854775807) (hg0 : h[0]? = some (.cells #[(vI 0), (vI 1), (vI 3), (vI 2)] 128 (0, 0))) (hg1 : h[1]? = some (.cells #[Value.nilFunc, (Value.func (.func 178) #[] #[]), (Value.func (.func 179) #[] #[]), (Value.func (.func 180) #[] #[])] 130 (0, 0))) : WCall Tryz.prog 4 #[(vI (id))] h (fun v h1 => v = .bool true ∧ Ext h h1) := by
  suffices H : ∀ K : Value → Heap → Prop, (∀ v h1, (fun v h1 => v = .bool true ∧ Ext h h1) v h1 → K v h1) → WCall Tryz.prog 4 #[(vI (id))] h K from H _ fun _ _ q => q
  intro K hK
  refine wcall_at { tmps := #[(vI id), vZ, vZ, vZ, vZ, vZ, vZ, vZ, vZ, vZ, vZ, vZ, vZ, vZ, vZ, vZ, vZ, vZ, vZ, vZ, vZ, vZ, vZ, vZ, vZ, vZ, vZ, vZ, vZ, vZ, vZ, vZ, vZ, vZ, vZ, vZ, vZ, vZ, vZ, vZ, vZ, vZ, vZ, vZ, vZ, vZ, vZ, vZ, vZ, vZ, vZ, vZ, vZ, vZ, vZ, vZ, vZ, vZ, vZ, vZ, vZ, vZ, vZ, vZ, vZ, vZ, vZ, vZ, vZ, vZ, vZ, vZ, vZ, vZ, vZ, vZ, vZ, vZ, vZ, vZ, vZ, vZ, vZ, vZ, vZ, vZ, vZ, vZ, vZ, vZ, vZ, vZ, vZ, vZ, vZ, vZ, vZ, vZ, vZ, vZ, vZ, vZ, vZ, vZ, vZ, vZ, vZ, vZ, vZ, vZ, vZ, vZ, vZ, vZ, vZ, vZ, vZ, vZ, vZ, vZ, vZ, vZ, vZ, vZ, vZ, vZ, vZ, vZ, vZ, vZ, vZ, vZ, vZ, vZ, vZ, vZ, vZ, vZ, vZ, vZ, vZ, vZ, vZ, vZ, vZ, vZ, vZ, vZ, vZ, vZ, vZ, vZ, vZ, vZ, vZ, vZ, vZ, vZ, vZ, vZ, vZ, vZ, vZ, vZ, vZ, vZ, vZ, vZ, vZ, vZ, vZ, vZ, vZ, vZ, vZ, vZ, vZ, vZ, vZ, vZ, vZ, vZ, vZ, vZ, vZ, vZ, vZ, vZ], defers := [] } (by kernel_rfl) ?_
  refine wc_seq' (subc (bodyOf Tryz.prog 4) [0]) (subc (bodyOf Tryz.prog 4) [1]) (by kernel_rfl) ?_
  refine wc_ev [] .normal h [(2, (vB false))] ?_
  refine wc_seq' (subc (bodyOf Tryz.prog 4) [1, 0]) (subc (bodyOf Tryz.prog 4) [1, 1]) (by kernel_rfl) ?_
  refine wc_ev [] .normal h [(3, vN)] ?_
  refine wc_seq' (subc (bodyOf Tryz.prog 4) [1, 1, 0]) (subc (bodyOf Tryz.prog 4) [1, 1, 1]) (by kernel_rfl) ?_
  refine wc_seq' (subc (bodyOf Tryz.prog 4) [1, 1, 0, 0]) (subc (bodyOf Tryz.prog 4) [1, 1, 0, 1]) (by kernel_rfl) ?_
  obtain ⟨b1, eb2⟩ : ∃ zq, zq = h.size := ⟨_, rfl⟩
  obtain ⟨h3, e4⟩ : ∃ zq, zq = h.push (.cells #[(Value.map none)] 57 (0, 0)) := ⟨_, rfl⟩
  have f5 := push_new e4
  rw [← eb2] at f5
  have x6 : Ext h h3 := by rw [e4]; exact Ext.push _ _
  have o7 : h.size ≤ b1 := by have := (Ext.refl h).size; omega
  have x8 := (Ext.refl h).trans x6
  obtain ⟨b9, eb10⟩ : ∃ zq, zq = h3.size := ⟨_, rfl⟩
  obtain ⟨h11, e12⟩ : ∃ zq, zq = h3.push (.cells #[(Value.pointer none), (vP b1 0)] 25 (0, 0)) := ⟨_, rfl⟩
  have f13 := push_new e12
  rw [← eb10] at f13
  have x14 : Ext h3 h11 := by rw [e12]; exact Ext.push _ _
  have o15 : h.size ≤ b9 := by have := x8.size; omega
  have f17 := x14 _ _ f5
  have x18 := x8.trans x14
  refine wc_ev [evA 2 2 eb2 e4, evS 2 3 2 eb10 e12] .normal h11 [(16, vN), (17, (vA #[(Value.map none)])), (18, (vP b1 0)), (19, (vL (some ⟨b9, 0, none⟩) 2 2)), (20, (vI 2)), (21, (vI 0))] ?_
  refine wc_block' 0 (subc (bodyOf Tryz.prog 4) [1, 1, 0, 1, 0]) (by kernel_rfl) ?_
  refine wc_once (subc (bodyOf Tryz.prog 4) [1, 1, 0, 1, 0, 0]) (by kernel_rfl) ?_
  obtain ⟨_, hh19, sn20, rfl, x21⟩ := tget_nil h11 (id)
  have f22 := x21 _ _ f17
  have f23 := x21 _ _ f13
  have x24 := x18.trans x21
  obtain ⟨b25, eb26⟩ : ∃ zq, zq = hh19.size := ⟨_, rfl⟩
  obtain ⟨h27, e28⟩ : ∃ zq, zq = hh19.push (.cells #[(vS .empty), (vI 0), (vI 0), (Value.slice none 0 0), (vI 0), (vI 0), (vB false), (vI 0), (vI 0), (vI 0)] 38 (0, 0)) := ⟨_, rfl⟩
  have f29 := push_new e28
  rw [← eb26] at f29
  have n30 : b25 ≠ b1 := by have := row_lt f22; omega
  have n31 : b25 ≠ b9 := by have := row_lt f23; omega
  have x32 : Ext hh19 h27 := by rw [e28]; exact Ext.push _ _
  have o33 : h.size ≤ b25 := by have := x24.size; omega
  have f34 := x32 _ _ f22
  have f35 := x32 _ _ f23
  have x36 := x24.trans x32
  obtain ⟨h37, e38⟩ : ∃ zq, zq = h27.setIfInBounds b25 (.cells #[(vS .empty), (vI 0), (vI 0), (Value.slice none 0 0), (vI 0), (vI 0), (vB false), (vI 0), (vI 0), (vI 0)] 38 (0, 0)) := ⟨_, rfl⟩
  have f39 := set_same e38 f29
  have f40 := set_other e38 f34 n30
  have f41 := set_other e38 f35 n31
  have x42 := Ext.setNew x36 e38 o33
  obtain ⟨_, hh43, sn44, rfl, x45⟩ := lsame_ok h37 (SagaM.mk (DefM.mk .empty 0 0 ([] : List StepM)) 0 0 false 0 0 0) _ _ lat_none (by exact Nat.zero_le _) _ _ lat_none
  have f46 := x45 _ _ f40
  have f47 := x45 _ _ f41
  have x48 := x42.trans x45
  obtain ⟨_, h49, s50, b51, rfl, f52, x53, o54⟩ := exa_ok hh43
  have : exaD.xs.length = 2 := rfl
  have oo55 : h.size ≤ b51 := by have := x48.size; omega
  have f56 := x53 _ _ f46
  have f57 := x53 _ _ f47
  have x58 := x48.trans x53
  obtain ⟨_, hh59, sn60, rfl, x61⟩ := tstart_nil h49 (id) exaD.name (exaD.rt) (exaD.dl) (some ⟨b51, 0, none⟩) (2) (2) 0
  have f62 := x61 _ _ f56
  have f63 := x61 _ _ f57
  have x64 := x58.trans x61
  obtain ⟨_, hh65, sn66, rfl, x67⟩ := tput_nil hh59 (id) .empty 0 0 none (0) (0) 0 0 false 0 0 0
  have f68 := x67 _ _ f62
  have f69 := x67 _ _ f63
  have x70 := x64.trans x67
  obtain ⟨_, hh71, sn72, rfl, x73⟩ := tcancel_nil hh65 (id)
  have f74 := x73 _ _ f68
  have f75 := x73 _ _ f69
  have x76 := x70.trans x73
  obtain ⟨_, hh77, sn78, rfl, x79⟩ := tresult_nil hh71 (id) 0 0 0 0 0
  have f80 := x79 _ _ f74
  have f81 := x79 _ _ f75
  have x82 := x76.trans x79
  obtain ⟨_, hh83, sn84, rfl, x85⟩ := ids_nil hh77 
  have f86 := x85 _ _ f80
  have f87 := x85 _ _ f81
  have x88 := x82.trans x85
  obtain ⟨_, hh89, sn90, w91, c92, rfl, x93⟩ := open_nil hh83
  have f94 := x93 _ _ f86
  have f95 := x93 _ _ f87
  have x96 := x88.trans x93
  obtain ⟨_, hh97, sn98, w99, c100, rfl, x101⟩ := tnext_nil hh89
  have f102 := x101 _ _ f94
  have f103 := x101 _ _ f95
  have x104 := x96.trans x101
  obtain ⟨_, hh105, sn106, rfl, x107⟩ := len_nil hh97 
  have f108 := x107 _ _ f102
  have f109 := x107 _ _ f103
  have x110 := x104.trans x107
  obtain ⟨_, hh111, sn112, rfl, x113⟩ := quiet_nil hh105 
  have f114 := x113 _ _ f108
  have f115 := x113 _ _ f109
  have x116 := x110.trans x113
  obtain ⟨_, hh117, sn118, rfl, x119⟩ := tcopy_nil hh111 
  have f120 := x119 _ _ f114
  have f121 := x119 _ _ f115
  have x122 := x116.trans x119
  refine wc_ev [evC 4 1 0 agg25 f13, evF 5 2 sn20, evA 5 6 eb26 e28, evUw 5 7 size38 f29 e38, evLw 6 3 agg38 size38 f39, evF 6 5 sn44, evF 6 11 s50, evF 6 12 sn60, evF 6 19 sn66, evF 6 25 sn72, evF 6 32 sn78, evF 6 37 sn84, evF 6 43 sn90, evF 6 49 sn98, evF 6 55 sn106, evF 6 60 sn112, evF 6 64 sn118] .normal hh117 [(22, (vB true)), (23, (vP b9 0)), (24, vN), (5, vN), (26, vN), (27, (vI id)), (28, (vT #[(vA #[(vS .empty), (vI 0), (vI 0), (vL none 0 0), (vI 0), (vI 0), (vB false), (vI 0), (vI 0), (vI 0)]), (vI 1)])), (25, (vT #[(vA #[(vS .empty), (vI 0), (vI 0), (vL none 0 0), (vI 0), (vI 0), (vB false), (vI 0), (vI 0), (vI 0)]), (vI 1)])), (29, (vA #[(vS .empty), (vI 0), (vI 0), (vL none 0 0), (vI 0), (vI 0), (vB false), (vI 0), (vI 0), (vI 0)])), (30, (vI 1)), (6, (vP b25 0)), (7, (vI 1)), (31, (vI 1)), (32, (vB false)), (33, (vB false)), (34, (vA #[(vS .empty), (vI 0), (vI 0), (vL none 0 0), (vI 0), (vI 0), (vB false), (vI 0), (vI 0), (vI 0)])), (35, (vA #[(vS .empty), (vI 0), (vI 0), (vL none 0 0), (vI 0), (vI 0), (vB false), (vI 0), (vI 0), (vI 0)])), (36, (vB true)), (37, (vB false)), (38, (vB false)), (39, (vB false)), (40, vN), (41, (vI id)), (42, (vA #[(vS exaD.name), (vI exaD.rt), (vI exaD.dl), (vL (some ⟨b51, 0, none⟩) 2 2)])), (43, (vI 1)), (44, (vB false)), (45, (vB false)), (46, (vB false)), (47, vN), (48, (vI id)), (49, (vA #[(vS .empty), (vI 0), (vI 0), (vL none 0 0), (vI 0), (vI 0), (vB false), (vI 0), (vI 0), (vI 0)])), (50, (vI 1)), (51, (vB false)), (52, (vB false)), (53, (vB false)), (54, vN), (55, (vI id)), (56, (vI 1)), (57, (vB false)), (58, (vB false)), (59, (vB false)), (60, vN), (61, (vI id)), (62, (vA #[(vI 0), (vI 0), (vI 0)])), (63, (vI 1)), (64, (vB false)), (65, (vB false)), (66, (vB false)), (67, vN), (68, (vL none 0 0)), (69, (vI 0)), (70, (vB false)), (71, (vB false)), (72, (vB false)), (73, vN), (74, (vL w91 0 c92)), (75, (vI 0)), (76, (vB false)), (77, (vB false)), (78, (vB false)), (79, vN), (80, (vL w99 0 c100)), (81, (vI 0)), (82, (vB false)), (83, (vB false)), (84, (vB false)), (85, vN), (86, (vI 0)), (87, (vB false)), (88, (vB false)), (89, (vB false)), (90, vN), (91, (vB false)), (92, (vB false)), (93, (vB false)), (94, vN), (95, vN), (96, (vB false)), (97, (vB false)), (98, (vI 1)), (21, (vI 1))] ?_
  refine wc_once (subc (bodyOf Tryz.prog 4) [1, 1, 0, 1, 0, 0]) rfl ?_
  refine wc_act { tmps := #[(vI id), vZ, (vB false), vN, vZ, vN, (vP b25 0), (vI 1), vZ, vZ, vZ, vZ, vZ, vZ, vZ, vZ, vN, (vA #[(Value.map none)]), (vP b1 0), (vL (some ⟨b9, 0, none⟩) 2 2), (vI 2), (vI 1), (vB true), (vP b9 0), vN, (vT #[(vA #[(vS .empty), (vI 0), (vI 0), (vL none 0 0), (vI 0), (vI 0), (vB false), (vI 0), (vI 0), (vI 0)]), (vI 1)]), vN, (vI id), (vT #[(vA #[(vS .empty), (vI 0), (vI 0), (vL none 0 0), (vI 0), (vI 0), (vB false), (vI 0), (vI 0), (vI 0)]), (vI 1)]), (vA #[(vS .empty), (vI 0), (vI 0), (vL none 0 0), (vI 0), (vI 0), (vB false), (vI 0), (vI 0), (vI 0)]), (vI 1), (vI 1), (vB false), (vB false), (vA #[(vS .empty), (vI 0), (vI 0), (vL none 0 0), (vI 0), (vI 0), (vB false), (vI 0), (vI 0), (vI 0)]), (vA #[(vS .empty), (vI 0), (vI 0), (vL none 0 0), (vI 0), (vI 0), (vB false), (vI 0), (vI 0), (vI 0)]), (vB true), (vB false), (vB false), (vB false), vN, (vI id), (vA #[(vS exaD.name), (vI exaD.rt), (vI exaD.dl), (vL (some ⟨b51, 0, none⟩) 2 2)]), (vI 1), (vB false), (vB false), (vB false), vN, (vI id), (vA #[(vS .empty), (vI 0), (vI 0), (vL none 0 0), (vI 0), (vI 0), (vB false), (vI 0), (vI 0), (vI 0)]), (vI 1), (vB false), (vB false), (vB false), vN, (vI id), (vI 1), (vB false), (vB false), (vB false), vN, (vI id), (vA #[(vI 0), (vI 0), (vI 0)]), (vI 1), (vB false), (vB false), (vB false), vN, (vL none 0 0), (vI 0), (vB false), (vB false), (vB false), vN, (vL w91 0 c92), (vI 0), (vB false), (vB false), (vB false), vN, (vL w99 0 c100), (vI 0), (vB false), (vB false), (vB false), vN, (vI 0), (vB false), (vB false), (vB false), vN, (vB false), (vB false), (vB false), vN, vN, (vB false), (vB false), (vI 1), vZ, vZ, vZ, vZ, vZ, vZ, vZ, vZ, vZ, vZ, vZ, vZ, vZ, vZ, vZ, vZ, vZ, vZ, vZ, vZ, vZ, vZ, vZ, vZ, vZ, vZ, vZ, vZ, vZ, vZ, vZ, vZ, vZ, vZ, vZ, vZ, vZ, vZ, vZ, vZ, vZ, vZ, vZ, vZ, vZ, vZ, vZ, vZ, vZ, vZ, vZ, vZ, vZ, vZ, vZ, vZ, vZ, vZ, vZ, vZ, vZ, vZ, vZ, vZ, vZ, vZ, vZ, vZ, vZ, vZ, vZ, vZ, vZ, vZ, vZ, vZ, vZ, vZ, vZ, vZ, vZ, vZ, vZ, vZ, vZ, vZ, vZ, vZ, vZ], defers := [] } (by as_aux_lemma => kernel_rfl) ?_
  obtain ⟨_, hh123, sn124, rfl, x125⟩ := tget_bad hh117 f120 (id)
  have f126 := x125 _ _ f120
  have x127 := x122.trans x125
  obtain ⟨b128, eb129⟩ : ∃ zq, zq = hh123.size := ⟨_, rfl⟩
  obtain ⟨h130, e131⟩ : ∃ zq, zq = hh123.push (.cells #[(vS .empty), (vI 0), (vI 0), (Value.slice none 0 0), (vI 0), (vI 0), (vB false), (vI 0), (vI 0), (vI 0)] 38 (0, 0)) := ⟨_, rfl⟩
  have f132 := push_new e131
  rw [← eb129] at f132
  have n133 : b128 ≠ b1 := by have := row_lt f126; omega
  have x134 : Ext hh123 h130 := by rw [e131]; exact Ext.push _ _
  have o135 : h.size ≤ b128 := by have := x127.size; omega
  have f136 := x134 _ _ f126
  have x137 := x127.trans x134
  obtain ⟨h138, e139⟩ : ∃ zq, zq = h130.setIfInBounds b128 (.cells #[(vS .empty), (vI 0), (vI 0), (Value.slice none 0 0), (vI 0), (vI 0), (vB false), (vI 0), (vI 0), (vI 0)] 38 (0, 0)) := ⟨_, rfl⟩
  have f140 := set_same e139 f132
  have f141 := set_other e139 f136 n133
  have x142 := Ext.setNew x137 e139 o135
  obtain ⟨_, hh143, sn144, rfl, x145⟩ := lsame_ok h138 (SagaM.mk (DefM.mk .empty 0 0 ([] : List StepM)) 0 0 false 0 0 0) _ _ lat_none (by exact Nat.zero_le _) _ _ lat_none
  have f146 := x145 _ _ f141
  have x147 := x142.trans x145
  obtain ⟨_, h148, s149, b150, rfl, f151, x152, o153⟩ := exa_ok hh143
  have : exaD.xs.length = 2 := rfl
  have oo154 : h.size ≤ b150 := by have := x147.size; omega
  have f155 := x152 _ _ f146
  have x156 := x147.trans x152
  obtain ⟨_, hh157, sn158, rfl, x159⟩ := tstart_bad h148 f155 (id) exaD.name (exaD.rt) (exaD.dl) (some ⟨b150, 0, none⟩) (2) (2) 0
  have f160 := x159 _ _ f155
  have x161 := x156.trans x159
  obtain ⟨_, hh162, sn163, rfl, x164⟩ := tput_bad hh157 f160 (id) .empty 0 0 none (0) (0) 0 0 false 0 0 0
  have f165 := x164 _ _ f160
  have x166 := x161.trans x164
  obtain ⟨_, hh167, sn168, rfl, x169⟩ := tcancel_bad hh162 f165 (id)
  have f170 := x169 _ _ f165
  have x171 := x166.trans x169
  obtain ⟨_, hh172, sn173, rfl, x174⟩ := tresult_bad hh167 f170 (id) 0 0 0 0 0
  have f175 := x174 _ _ f170
  have x176 := x171.trans x174
  obtain ⟨_, hh177, sn178, rfl, x179⟩ := ids_bad hh172 f175 
  have f180 := x179 _ _ f175
  have x181 := x176.trans x179
  obtain ⟨_, hh182, sn183, w184, c185, rfl, x186⟩ := open_bad hh177 f180
  have f187 := x186 _ _ f180
  have x188 := x181.trans x186
  obtain ⟨_, hh189, sn190, w191, c192, rfl, x193⟩ := tnext_bad hh182 f187
  have f194 := x193 _ _ f187
  have x195 := x188.trans x193
  obtain ⟨_, hh196, sn197, rfl, x198⟩ := len_bad hh189 f194 
  have f199 := x198 _ _ f194
  have x200 := x195.trans x198
  obtain ⟨_, hh201, sn202, rfl, x203⟩ := quiet_bad hh196 f199 
  have f204 := x203 _ _ f199
  have x205 := x200.trans x203
  obtain ⟨_, hh206, sn207, rfl, x208⟩ := tcopy_bad hh201 f204 
  have x209 := x205.trans x208
  refine wc_ev [evC 4 1 1 agg25 f121, evF 5 2 sn124, evA 5 6 eb129 e131, evUw 5 7 size38 f132 e139, evLw 6 3 agg38 size38 f140, evF 6 5 sn144, evF 6 11 s149, evF 6 12 sn158, evF 6 19 sn163, evF 6 25 sn168, evF 6 32 sn173, evF 6 37 sn178, evF 6 43 sn183, evF 6 49 sn190, evF 6 55 sn197, evF 6 60 sn202, evF 6 64 sn207] .normal hh206 [(22, (vB true)), (23, (vP b9 1)), (24, (vP b1 0)), (5, (vP b1 0)), (26, (vP b1 0)), (27, (vI id)), (28, (vT #[(vA #[(vS .empty), (vI 0), (vI 0), (vL none 0 0), (vI 0), (vI 0), (vB false), (vI 0), (vI 0), (vI 0)]), (vI 1)])), (25, (vT #[(vA #[(vS .empty), (vI 0), (vI 0), (vL none 0 0), (vI 0), (vI 0), (vB false), (vI 0), (vI 0), (vI 0)]), (vI 1)])), (29, (vA #[(vS .empty), (vI 0), (vI 0), (vL none 0 0), (vI 0), (vI 0), (vB false), (vI 0), (vI 0), (vI 0)])), (30, (vI 1)), (6, (vP b128 0)), (7, (vI 1)), (31, (vI 1)), (32, (vB false)), (33, (vB false)), (34, (vA #[(vS .empty), (vI 0), (vI 0), (vL none 0 0), (vI 0), (vI 0), (vB false), (vI 0), (vI 0), (vI 0)])), (35, (vA #[(vS .empty), (vI 0), (vI 0), (vL none 0 0), (vI 0), (vI 0), (vB false), (vI 0), (vI 0), (vI 0)])), (36, (vB true)), (37, (vB false)), (38, (vB false)), (39, (vB false)), (40, (vP b1 0)), (41, (vI id)), (42, (vA #[(vS exaD.name), (vI exaD.rt), (vI exaD.dl), (vL (some ⟨b150, 0, none⟩) 2 2)])), (43, (vI 1)), (44, (vB false)), (45, (vB false)), (46, (vB false)), (47, (vP b1 0)), (48, (vI id)), (49, (vA #[(vS .empty), (vI 0), (vI 0), (vL none 0 0), (vI 0), (vI 0), (vB false), (vI 0), (vI 0), (vI 0)])), (50, (vI 1)), (51, (vB false)), (52, (vB false)), (53, (vB false)), (54, (vP b1 0)), (55, (vI id)), (56, (vI 1)), (57, (vB false)), (58, (vB false)), (59, (vB false)), (60, (vP b1 0)), (61, (vI id)), (62, (vA #[(vI 0), (vI 0), (vI 0)])), (63, (vI 1)), (64, (vB false)), (65, (vB false)), (66, (vB false)), (67, (vP b1 0)), (68, (vL none 0 0)), (69, (vI 0)), (70, (vB false)), (71, (vB false)), (72, (vB false)), (73, (vP b1 0)), (74, (vL w184 0 c185)), (75, (vI 0)), (76, (vB false)), (77, (vB false)), (78, (vB false)), (79, (vP b1 0)), (80, (vL w191 0 c192)), (81, (vI 0)), (82, (vB false)), (83, (vB false)), (84, (vB false)), (85, (vP b1 0)), (86, (vI 0)), (87, (vB false)), (88, (vB false)), (89, (vB false)), (90, (vP b1 0)), (91, (vB false)), (92, (vB false)), (93, (vB false)), (94, (vP b1 0)), (95, vN), (96, (vB false)), (97, (vB false)), (98, (vI 2)), (21, (vI 2))] ?_
  refine wc_once (subc (bodyOf Tryz.prog 4) [1, 1, 0, 1, 0, 0]) rfl ?_
  refine wc_act { tmps := #[(vI id), vZ, (vB false), vN, vZ, (vP b1 0), (vP b128 0), (vI 1), vZ, vZ, vZ, vZ, vZ, vZ, vZ, vZ, vN, (vA #[(Value.map none)]), (vP b1 0), (vL (some ⟨b9, 0, none⟩) 2 2), (vI 2), (vI 2), (vB true), (vP b9 1), (vP b1 0), (vT #[(vA #[(vS .empty), (vI 0), (vI 0), (vL none 0 0), (vI 0), (vI 0), (vB false), (vI 0), (vI 0), (vI 0)]), (vI 1)]), (vP b1 0), (vI id), (vT #[(vA #[(vS .empty), (vI 0), (vI 0), (vL none 0 0), (vI 0), (vI 0), (vB false), (vI 0), (vI 0), (vI 0)]), (vI 1)]), (vA #[(vS .empty), (vI 0), (vI 0), (vL none 0 0), (vI 0), (vI 0), (vB false), (vI 0), (vI 0), (vI 0)]), (vI 1), (vI 1), (vB false), (vB false), (vA #[(vS .empty), (vI 0), (vI 0), (vL none 0 0), (vI 0), (vI 0), (vB false), (vI 0), (vI 0), (vI 0)]), (vA #[(vS .empty), (vI 0), (vI 0), (vL none 0 0), (vI 0), (vI 0), (vB false), (vI 0), (vI 0), (vI 0)]), (vB true), (vB false), (vB false), (vB false), (vP b1 0), (vI id), (vA #[(vS exaD.name), (vI exaD.rt), (vI exaD.dl), (vL (some ⟨b150, 0, none⟩) 2 2)]), (vI 1), (vB false), (vB false), (vB false), (vP b1 0), (vI id), (vA #[(vS .empty), (vI 0), (vI 0), (vL none 0 0), (vI 0), (vI 0), (vB false), (vI 0), (vI 0), (vI 0)]), (vI 1), (vB false), (vB false), (vB false), (vP b1 0), (vI id), (vI 1), (vB false), (vB false), (vB false), (vP b1 0), (vI id), (vA #[(vI 0), (vI 0), (vI 0)]), (vI 1), (vB false), (vB false), (vB false), (vP b1 0), (vL none 0 0), (vI 0), (vB false), (vB false), (vB false), (vP b1 0), (vL w184 0 c185), (vI 0), (vB false), (vB false), (vB false), (vP b1 0), (vL w191 0 c192), (vI 0), (vB false), (vB false), (vB false), (vP b1 0), (vI 0), (vB false), (vB false), (vB false), (vP b1 0), (vB false), (vB false), (vB false), (vP b1 0), vN, (vB false), (vB false), (vI 2), vZ, vZ, vZ, vZ, vZ, vZ, vZ, vZ, vZ, vZ, vZ, vZ, vZ, vZ, vZ, vZ, vZ, vZ, vZ, vZ, vZ, vZ, vZ, vZ, vZ, vZ, vZ, vZ, vZ, vZ, vZ, vZ, vZ, vZ, vZ, vZ, vZ, vZ, vZ, vZ, vZ, vZ, vZ, vZ, vZ, vZ, vZ, vZ, vZ, vZ, vZ, vZ, vZ, vZ, vZ, vZ, vZ, vZ, vZ, vZ, vZ, vZ, vZ, vZ, vZ, vZ, vZ, vZ, vZ, vZ, vZ, vZ, vZ, vZ, vZ, vZ, vZ, vZ, vZ, vZ, vZ, vZ, vZ, vZ, vZ, vZ, vZ, vZ, vZ], defers := [] } (by as_aux_lemma => kernel_rfl) ?_
  refine wc_ev [] (.exit 0) hh206 [(22, (vB false))] ?_
  refine wc_seq' (subc (bodyOf Tryz.prog 4) [1, 1, 1, 0]) (subc (bodyOf Tryz.prog 4) [1, 1, 1, 1]) (by kernel_rfl) ?_
  obtain ⟨_, h210, s211, b212, O12198, rfl, p213, x214, w215⟩ := tnew_ok hh206
  have x216 := x209.trans x214
  have z217 : h.size ≤ hh206.size := x209.size
  have o218 : ∀ zz, O12198 zz → h.size ≤ zz := fun zz hz => by have := w215 zz hz; omega
  obtain ⟨_, h219, s220, b221, rfl, f222, x223, o224⟩ := exa_ok h210
  have : exaD.xs.length = 2 := rfl
  have n225 : ∀ zz, O12198 zz → ¬ zz = b221 := fun zz hz ez => by have := p213.blk_lt hz; omega
  have oo226 : h.size ≤ b221 := by have := x216.size; omega
  have p227 := p213.keep fun b r _ q => x223 b r q
  have x228 := x216.trans x223
  obtain ⟨b229, eb230⟩ : ∃ zq, zq = h219.size := ⟨_, rfl⟩
  obtain ⟨h231, e232⟩ : ∃ zq, zq = h219.push (.cells #[(vS .empty), (vI 0), (vI 0), (Value.slice none 0 0)] 31 (0, 0)) := ⟨_, rfl⟩
  have f233 := push_new e232
  rw [← eb230] at f233
  have n234 : b229 ≠ b221 := by have := row_lt f222; omega
  have n235 : ∀ zz, O12198 zz → ¬ zz = b229 := fun zz hz ez => by have := p227.blk_lt hz; omega
  have x236 : Ext h219 h231 := by rw [e232]; exact Ext.push _ _
  have o237 : h.size ≤ b229 := by have := x228.size; omega
  have f238 := x236 _ _ f222
  have p239 := p227.keep fun b r _ q => x236 b r q
  have x240 := x228.trans x236
  obtain ⟨h241, e242⟩ : ∃ zq, zq = h231.setIfInBounds b229 (.cells #[(vS exaD.name), (vI (exaD.rt)), (vI (exaD.dl)), (Value.slice (some ⟨b221, 0, none⟩) 2 2)] 31 (0, 0)) := ⟨_, rfl⟩
  have f243 := set_same e242 f233
  have f244 := set_other e242 f238 n234
  have p245 := p239.keep fun b r hb q => (Chg.set e242).same b r q (n235 b hb)
  have x246 := Ext.setNew x240 e242 o237
  refine wc_ev [evF 9 0 s211, evF 9 1 s220, evA 9 2 eb230 e232, evUw 9 4 size31 f233 e242] .normal h241 [(99, (vP b212 0)), (100, (vA #[(vS exaD.name), (vI exaD.rt), (vI exaD.dl), (vL (some ⟨b221, 0, none⟩) 2 2)])), (9, (vP b229 0)), (8, (vP b212 0))] ?_
  refine wc_seq' (subc (bodyOf Tryz.prog 4) [1, 1, 1, 1, 0]) (subc (bodyOf Tryz.prog 4) [1, 1, 1, 1, 1]) (by kernel_rfl) ?_
  obtain ⟨_, h247, s248, rfl, x249, O12283, p250, o251⟩ := tstart_ok h241 p245 WfT.nil 1 exaD _ _ (lat_row (xs := exaX) f244 (by kernel_rfl) rfl) (by omega) 0
  have k252 := WfT.start WfT.nil 1 exaD 0
  have e253 : startE ([] : Tab) 1 exaD 0 = 0 := by kernel_rfl
  rw [e253] at s248
  have e254 : (startM ([] : Tab) 1 exaD 0) = ([(1, ⟨exaD, 1, 0, false, 0, 0, 0⟩)] : Tab) := by kernel_rfl
  rw [e254] at p250 k252
  have z255 : h.size ≤ h241.size := x246.size
  have x256 : Ext h _ := (Chg.then (O := fun _ => False) (Chg.ext x246) x249 (fun b hb => .inr (o218 b hb))).toExt'
  have f257 := x249.same _ _ f244 (fun hb => n225 _ hb rfl)
  have f258 := x249.same _ _ f243 (fun hb => n235 _ hb rfl)
  have z259 : h.size ≤ h241.size := x246.size
  have n260 : ∀ zz, O12283 zz → ¬ zz = b221 := fun zz hz ez => by rcases o251 zz hz with g | g; (exact n225 _ g ez); have := row_lt f244; omega
  have n261 : ∀ zz, O12283 zz → ¬ zz = b229 := fun zz hz ez => by rcases o251 zz hz with g | g; (exact n235 _ g ez); have := row_lt f243; omega
  have o262 : ∀ zz, O12283 zz → h.size ≤ zz := fun zz hz => by rcases o251 zz hz with g | g; (exact o218 zz g); omega
  obtain ⟨_, h263, s264, rfl, x265, O12314, p266, o267⟩ := put_ok h247 p250 k252 2 (SagaM.mk exaD 3 1 false 0 0 7) _ _ (lat_row (xs := exaX) f257 (by kernel_rfl) rfl) (by decide)
  have k268 := WfT.put k252 2 (SagaM.mk exaD 3 1 false 0 0 7)
  have e269 : putE ([(1, ⟨exaD, 1, 0, false, 0, 0, 0⟩)] : Tab) 2 (SagaM.mk exaD 3 1 false 0 0 7) = 0 := by kernel_rfl
  rw [e269] at s264
  have e270 : (putM ([(1, ⟨exaD, 1, 0, false, 0, 0, 0⟩)] : Tab) 2 (SagaM.mk exaD 3 1 false 0 0 7)) = ([(1, ⟨exaD, 1, 0, false, 0, 0, 0⟩), (2, ⟨exaD, 3, 1, false, 0, 0, 7⟩)] : Tab) := by kernel_rfl
  rw [e270] at p266 k268
  have z271 : h.size ≤ h247.size := x256.size
  have x272 : Ext h _ := (Chg.then (O := fun _ => False) (Chg.ext x256) x265 (fun b hb => .inr (o262 b hb))).toExt'
  have f273 := x265.same _ _ f257 (fun hb => n260 _ hb rfl)
  have f274 := x265.same _ _ f258 (fun hb => n261 _ hb rfl)
  have z275 : h.size ≤ h247.size := x256.size
  have n276 : ∀ zz, O12314 zz → ¬ zz = b221 := fun zz hz ez => by rcases o267 zz hz with g | g; (exact n260 _ g ez); have := row_lt f257; omega
  have o277 : ∀ zz, O12314 zz → h.size ≤ zz := fun zz hz => by rcases o267 zz hz with g | g; (exact o262 zz g); omega
  refine wc_ev [evLw 10 1 agg31 size31 f243, evF 10 2 s248, evLw 10 6 agg31 size31 f258, evF 10 9 s264] .normal h263 [(101, (vP b212 0)), (102, (vA #[(vS exaD.name), (vI exaD.rt), (vI exaD.dl), (vL (some ⟨b221, 0, none⟩) 2 2)])), (103, (vI 0)), (104, (vB false)), (105, (vB false)), (106, (vP b212 0)), (107, (vA #[(vS exaD.name), (vI exaD.rt), (vI exaD.dl), (vL (some ⟨b221, 0, none⟩) 2 2)])), (108, (vA #[(vI 0), (vI 0)])), (109, (vA #[(vS exaD.name), (vI exaD.rt), (vI exaD.dl), (vL (some ⟨b221, 0, none⟩) 2 2), (vI 3), (vI 1), (vB false), (vI 0), (vI 0), (vI 7)])), (110, (vI 0)), (111, (vB false)), (112, (vB false))] ?_
  refine wc_seq' (subc (bodyOf Tryz.prog 4) [1, 1, 1, 1, 1, 0]) (subc (bodyOf Tryz.prog 4) [1, 1, 1, 1, 1, 1]) (by kernel_rfl) ?_
  obtain ⟨h278, e279⟩ : ∃ zq, zq = h263.setIfInBounds b221 (.cells #[(vS ⟨#[111, 116, 104, 101, 114]⟩), (vI 1), (vS ⟨#[98]⟩), (vI (-2))] 67 (0, 0)) := ⟨_, rfl⟩
  have p280 := p266.keep fun b r hb q => (Chg.set e279).same b r q (n276 b hb)
  have x281 := Ext.setNew x272 e279 oo226
  refine wc_ev [evC 12 1 3 agg29 f274, evT 12 4 0 size9 f273 e279] .normal h278 [(113, (vP b229 3)), (114, (vL (some ⟨b221, 0, none⟩) 2 2)), (115, (vP b221 0)), (116, (vP b221 0))] ?_
  refine wc_seq' (subc (bodyOf Tryz.prog 4) [1, 1, 1, 1, 1, 1, 0]) (subc (bodyOf Tryz.prog 4) [1, 1, 1, 1, 1, 1, 1]) (by kernel_rfl) ?_
  refine wc_seq' (subc (bodyOf Tryz.prog 4) [1, 1, 1, 1, 1, 1, 0, 0]) (subc (bodyOf Tryz.prog 4) [1, 1, 1, 1, 1, 1, 0, 1]) (by kernel_rfl) ?_
  refine wc_ev [] .normal h278 [(10, (vI 1))] ?_
  refine wc_block' 2 (subc (bodyOf Tryz.prog 4) [1, 1, 1, 1, 1, 1, 0, 1, 0]) (by kernel_rfl) ?_
  refine wc_once (subc (bodyOf Tryz.prog 4) [1, 1, 1, 1, 1, 1, 0, 1, 0, 0]) (by kernel_rfl) ?_
  obtain ⟨v282, h283, s284, p285, p286, x287⟩ := tget_ok h278 p280 k268 1
  have p288 := p280.keep fun b r _ q => x287 b r q
  have x289 := x281.trans x287
  obtain ⟨sg290, esg291⟩ : ∃ q : SagaM, q = ⟨exaD, 1, 0, false, 0, 0, 0⟩ := ⟨_, rfl⟩
  have xsg292 : sg290.d.xs = exaX := by rw [esg291]; rfl
  have lsg293 : sg290.d.xs.length = 2 := by rw [xsg292]; rfl
  have csg294 : sg290.cn = false := by rw [esg291]
  have c295 : getE ([(1, ⟨exaD, 1, 0, false, 0, 0, 0⟩), (2, ⟨exaD, 3, 1, false, 0, 0, 7⟩)] : Tab) 1 = 0 := by kernel_rfl
  obtain ⟨w296, c297, p298, o299, n300⟩ := p286 c295
  have f301 := getE_zero c295
  have c302 := ((k268).at f301).1
  have e303 : (getS ([(1, ⟨exaD, 1, 0, false, 0, 0, 0⟩), (2, ⟨exaD, 3, 1, false, 0, 0, 7⟩)] : Tab) 1) = sg290 := by rw [esg291]; kernel_rfl
  rw [e303] at p298 o299 n300 c302 f301
  have z304 : h.size ≤ h278.size := x281.size
  have n305 : ∀ zz, blk (Value.slice w296 (sg290.d.xs.length) (c297)) zz → ¬ O12314 zz := fun zz hz ez => by have := n300 zz hz; have := p280.blk_lt ez; omega
  have o306 : ∀ zz, blk (Value.slice w296 (sg290.d.xs.length) (c297)) zz → h.size ≤ zz := fun zz hz => by have := n300 zz hz; omega
  obtain ⟨b307, eb308⟩ : ∃ zq, zq = h283.size := ⟨_, rfl⟩
  obtain ⟨h309, e310⟩ : ∃ zq, zq = h283.push (.cells #[(vS .empty), (vI 0), (vI 0), (Value.slice none 0 0), (vI 0), (vI 0), (vB false), (vI 0), (vI 0), (vI 0)] 38 (0, 0)) := ⟨_, rfl⟩
  have f311 := push_new e310
  rw [← eb308] at f311
  have n312 : ∀ zz, O12314 zz → ¬ zz = b307 := fun zz hz ez => by have := p288.blk_lt hz; omega
  have n313 : ∀ zz, (blk (Value.slice w296 (sg290.d.xs.length) (c297))) zz → ¬ zz = b307 := fun zz hz ez => by have := o299.blk_lt hz; omega
  have x314 : Ext h283 h309 := by rw [e310]; exact Ext.push _ _
  have o315 : h.size ≤ b307 := by have := x289.size; omega
  have p316 := p288.keep fun b r _ q => x314 b r q
  have p317 := o299.keep fun b r _ q => x314 b r q
  have x318 := x289.trans x314
  obtain ⟨h319, e320⟩ : ∃ zq, zq = h309.setIfInBounds b307 (.cells #[(vS sg290.d.name), (vI (sg290.d.rt)), (vI (sg290.d.dl)), (Value.slice w296 (sg290.d.xs.length) (c297)), (vI (sg290.st)), (vI (sg290.ix)), (vB sg290.cn), (vI (sg290.tr)), (vI (sg290.bg)), (vI (sg290.er))] 38 (0, 0)) := ⟨_, rfl⟩
  have f321 := set_same e320 f311
  have p322 := p316.keep fun b r hb q => (Chg.set e320).same b r q (n312 b hb)
  have p323 := p317.keep fun b r hb q => (Chg.set e320).same b r q (n313 b hb)
  have x324 := Ext.setNew x318 e320 o315
  by_cases c325 : (((sg290.d.xs.length : Nat)) : Int) = 2
  · obtain ⟨i326, v327, e328, l329, g330⟩ := list_at sg290.d.xs (e := 0) (by omega) (by first | omega | (simp only [List.length_set, List.length_append, List.length_singleton]; omega))
    obtain ⟨b331, o332, q333, a334, k335, u336⟩ := p323.store stepc_size g330
    have z337 : v327.key = ⟨#[97]⟩ := exa_first (j := i326) (by rw [← xsg292]; exact g330) (by omega)
    obtain ⟨b338, o339, q340, a341, k342, u343⟩ := p323.store stepc_size g330
    have z344 : v327.key = ⟨#[97]⟩ := exa_first (j := i326) (by rw [← xsg292]; exact g330) (by omega)
    obtain ⟨h345, e346, p347, c348, z349⟩ := u343 (j := 0) (y := (StepM.mk ⟨#[116, 104, 105, 114, 100]⟩ v327.delta)) (u := (vS ⟨#[116, 104, 105, 114, 100]⟩)) size9 rfl rfl (by decide) (by kernel_rfl)
    have c350 : Chg (blk (Value.slice w296 (sg290.d.xs.length) (c297))) h319 h345 := c348.weak fun q hq => by subst hq; exact q340
    have z351 : h.size ≤ h319.size := x324.size
    have x352 : Ext h _ := (Chg.then (O := fun _ => False) (Chg.ext x324) c350 (fun b hb => .inr (o306 b hb))).toExt'
    have p353 := p322.keep fun b r hb q => c350.same b r q ((fun b hb hb2 => n305 b hb2 hb) b hb)
    refine wc_ev [evFe 16 2 p298 s284, evA 16 6 eb308 e310, evUw 16 7 size38 f311 e320, evC 17 5 3 agg29 f321, neF 17 7 3 c325, evC 17 12 3 agg29 f321, evV 17 13 (vP b331 o332) (show indexAddrA Tryz.prog 29 (vL w296 sg290.d.xs.length c297) (vI 0) = some (vP b331 o332) from a334 und29 size67 e328), evV 17 15 (vS v327.key) (show loadT Tryz.prog h319 9 (vP b331 o332) = some (vS v327.key) from k335.cell (j := 0) agg9 rfl), snF 17 16 9 z337, evC 19 2 3 agg29 f321, evV 19 3 (vP b338 o339) (show indexAddrA Tryz.prog 29 (vL w296 sg290.d.xs.length c297) (vI 0) = some (vP b338 o339) from a341 und29 size67 e328), evH 19 5 undef h345 (show (storeT Tryz.prog h319 9 (vP b338 o339) (vS ⟨#[116, 104, 105, 114, 100]⟩) = some h345 ∧ (undef : Value) = undef) from ⟨e346, rfl⟩)] .normal h345 [(117, (vI 1)), (118, (vB true)), (122, (vP b212 0)), (123, (vI 1)), (124, (vT #[(vA #[(vS sg290.d.name), (vI sg290.d.rt), (vI sg290.d.dl), (vL w296 sg290.d.xs.length c297), (vI sg290.st), (vI sg290.ix), (vB sg290.cn), (vI sg290.tr), (vI sg290.bg), (vI sg290.er)]), (vI 0)])), (121, (vT #[(vA #[(vS sg290.d.name), (vI sg290.d.rt), (vI sg290.d.dl), (vL w296 sg290.d.xs.length c297), (vI sg290.st), (vI sg290.ix), (vB sg290.cn), (vI sg290.tr), (vI sg290.bg), (vI sg290.er)]), (vI 0)])), (125, (vA #[(vS sg290.d.name), (vI sg290.d.rt), (vI sg290.d.dl), (vL w296 sg290.d.xs.length c297), (vI sg290.st), (vI sg290.ix), (vB sg290.cn), (vI sg290.tr), (vI sg290.bg), (vI sg290.er)])), (126, (vI 0)), (11, (vP b307 0)), (12, (vI 0)), (127, (vI 0)), (128, (vB false)), (129, (vB false)), (130, (vP b307 0)), (131, (vP b307 3)), (132, (vL w296 sg290.d.xs.length c297)), (133, (vI ((sg290.d.xs.length : Nat)))), (134, (vB false)), (135, (vB false)), (136, (vB false)), (137, (vP b307 0)), (138, (vP b307 3)), (139, (vL w296 sg290.d.xs.length c297)), (140, (vP b331 o332)), (141, (vP b331 o332)), (142, (vS v327.key)), (143, (vB false)), (144, (vB false)), (145, (vP b307 0)), (146, (vP b307 3)), (147, (vL w296 sg290.d.xs.length c297)), (148, (vP b338 o339)), (149, (vP b338 o339)), (119, (vI 1)), (120, (vI 2)), (10, (vI 2))] ?_
    refine wc_once (subc (bodyOf Tryz.prog 4) [1, 1, 1, 1, 1, 1, 0, 1, 0, 0]) rfl ?_
    refine wc_act { tmps := #[(vI id), vZ, (vB false), vN, vZ, (vP b1 0), (vP b128 0), (vI 1), (vP b212 0), (vP b229 0), (vI 2), (vP b307 0), (vI 0), vZ, vZ, vZ, vN, (vA #[(Value.map none)]), (vP b1 0), (vL (some ⟨b9, 0, none⟩) 2 2), (vI 2), (vI 2), (vB false), (vP b9 1), (vP b1 0), (vT #[(vA #[(vS .empty), (vI 0), (vI 0), (vL none 0 0), (vI 0), (vI 0), (vB false), (vI 0), (vI 0), (vI 0)]), (vI 1)]), (vP b1 0), (vI id), (vT #[(vA #[(vS .empty), (vI 0), (vI 0), (vL none 0 0), (vI 0), (vI 0), (vB false), (vI 0), (vI 0), (vI 0)]), (vI 1)]), (vA #[(vS .empty), (vI 0), (vI 0), (vL none 0 0), (vI 0), (vI 0), (vB false), (vI 0), (vI 0), (vI 0)]), (vI 1), (vI 1), (vB false), (vB false), (vA #[(vS .empty), (vI 0), (vI 0), (vL none 0 0), (vI 0), (vI 0), (vB false), (vI 0), (vI 0), (vI 0)]), (vA #[(vS .empty), (vI 0), (vI 0), (vL none 0 0), (vI 0), (vI 0), (vB false), (vI 0), (vI 0), (vI 0)]), (vB true), (vB false), (vB false), (vB false), (vP b1 0), (vI id), (vA #[(vS exaD.name), (vI exaD.rt), (vI exaD.dl), (vL (some ⟨b150, 0, none⟩) 2 2)]), (vI 1), (vB false), (vB false), (vB false), (vP b1 0), (vI id), (vA #[(vS .empty), (vI 0), (vI 0), (vL none 0 0), (vI 0), (vI 0), (vB false), (vI 0), (vI 0), (vI 0)]), (vI 1), (vB false), (vB false), (vB false), (vP b1 0), (vI id), (vI 1), (vB false), (vB false), (vB false), (vP b1 0), (vI id), (vA #[(vI 0), (vI 0), (vI 0)]), (vI 1), (vB false), (vB false), (vB false), (vP b1 0), (vL none 0 0), (vI 0), (vB false), (vB false), (vB false), (vP b1 0), (vL w184 0 c185), (vI 0), (vB false), (vB false), (vB false), (vP b1 0), (vL w191 0 c192), (vI 0), (vB false), (vB false), (vB false), (vP b1 0), (vI 0), (vB false), (vB false), (vB false), (vP b1 0), (vB false), (vB false), (vB false), (vP b1 0), vN, (vB false), (vB false), (vI 2), (vP b212 0), (vA #[(vS exaD.name), (vI exaD.rt), (vI exaD.dl), (vL (some ⟨b221, 0, none⟩) 2 2)]), (vP b212 0), (vA #[(vS exaD.name), (vI exaD.rt), (vI exaD.dl), (vL (some ⟨b221, 0, none⟩) 2 2)]), (vI 0), (vB false), (vB false), (vP b212 0), (vA #[(vS exaD.name), (vI exaD.rt), (vI exaD.dl), (vL (some ⟨b221, 0, none⟩) 2 2)]), (vA #[(vI 0), (vI 0)]), (vA #[(vS exaD.name), (vI exaD.rt), (vI exaD.dl), (vL (some ⟨b221, 0, none⟩) 2 2), (vI 3), (vI 1), (vB false), (vI 0), (vI 0), (vI 7)]), (vI 0), (vB false), (vB false), (vP b229 3), (vL (some ⟨b221, 0, none⟩) 2 2), (vP b221 0), (vP b221 0), (vI 1), (vB true), (vI 1), (vI 2), (vT #[(vA #[(vS sg290.d.name), (vI sg290.d.rt), (vI sg290.d.dl), (vL w296 sg290.d.xs.length c297), (vI sg290.st), (vI sg290.ix), (vB sg290.cn), (vI sg290.tr), (vI sg290.bg), (vI sg290.er)]), (vI 0)]), (vP b212 0), (vI 1), (vT #[(vA #[(vS sg290.d.name), (vI sg290.d.rt), (vI sg290.d.dl), (vL w296 sg290.d.xs.length c297), (vI sg290.st), (vI sg290.ix), (vB sg290.cn), (vI sg290.tr), (vI sg290.bg), (vI sg290.er)]), (vI 0)]), (vA #[(vS sg290.d.name), (vI sg290.d.rt), (vI sg290.d.dl), (vL w296 sg290.d.xs.length c297), (vI sg290.st), (vI sg290.ix), (vB sg290.cn), (vI sg290.tr), (vI sg290.bg), (vI sg290.er)]), (vI 0), (vI 0), (vB false), (vB false), (vP b307 0), (vP b307 3), (vL w296 sg290.d.xs.length c297), (vI ((sg290.d.xs.length : Nat))), (vB false), (vB false), (vB false), (vP b307 0), (vP b307 3), (vL w296 sg290.d.xs.length c297), (vP b331 o332), (vP b331 o332), (vS v327.key), (vB false), (vB false), (vP b307 0), (vP b307 3), (vL w296 sg290.d.xs.length c297), (vP b338 o339), (vP b338 o339), vZ, vZ, vZ, vZ, vZ, vZ, vZ, vZ, vZ, vZ, vZ, vZ, vZ, vZ, vZ, vZ, vZ, vZ, vZ, vZ, vZ, vZ, vZ, vZ, vZ, vZ, vZ, vZ, vZ, vZ, vZ, vZ, vZ, vZ, vZ, vZ, vZ, vZ], defers := [] } (by as_aux_lemma => kernel_rfl) ?_
    obtain ⟨v354, h355, s356, p357, p358, x359⟩ := tget_ok h345 p353 k268 2
    have p360 := p353.keep fun b r _ q => x359 b r q
    have x361 := x352.trans x359
    obtain ⟨sg362, esg363⟩ : ∃ q : SagaM, q = ⟨exaD, 3, 1, false, 0, 0, 7⟩ := ⟨_, rfl⟩
    have xsg364 : sg362.d.xs = exaX := by rw [esg363]; rfl
    have lsg365 : sg362.d.xs.length = 2 := by rw [xsg364]; rfl
    have csg366 : sg362.cn = false := by rw [esg363]
    have c367 : getE ([(1, ⟨exaD, 1, 0, false, 0, 0, 0⟩), (2, ⟨exaD, 3, 1, false, 0, 0, 7⟩)] : Tab) 2 = 0 := by kernel_rfl
    obtain ⟨w368, c369, p370, o371, n372⟩ := p358 c367
    have f373 := getE_zero c367
    have c374 := ((k268).at f373).1
    have e375 : (getS ([(1, ⟨exaD, 1, 0, false, 0, 0, 0⟩), (2, ⟨exaD, 3, 1, false, 0, 0, 7⟩)] : Tab) 2) = sg362 := by rw [esg363]; kernel_rfl
    rw [e375] at p370 o371 n372 c374 f373
    have z376 : h.size ≤ h345.size := x352.size
    have n377 : ∀ zz, blk (Value.slice w368 (sg362.d.xs.length) (c369)) zz → ¬ O12314 zz := fun zz hz ez => by have := n372 zz hz; have := p353.blk_lt ez; omega
    have o378 : ∀ zz, blk (Value.slice w368 (sg362.d.xs.length) (c369)) zz → h.size ≤ zz := fun zz hz => by have := n372 zz hz; omega
    obtain ⟨b379, eb380⟩ : ∃ zq, zq = h355.size := ⟨_, rfl⟩
    obtain ⟨h381, e382⟩ : ∃ zq, zq = h355.push (.cells #[(vS .empty), (vI 0), (vI 0), (Value.slice none 0 0), (vI 0), (vI 0), (vB false), (vI 0), (vI 0), (vI 0)] 38 (0, 0)) := ⟨_, rfl⟩
    have f383 := push_new e382
    rw [← eb380] at f383
    have n384 : ∀ zz, O12314 zz → ¬ zz = b379 := fun zz hz ez => by have := p360.blk_lt hz; omega
    have n385 : ∀ zz, (blk (Value.slice w368 (sg362.d.xs.length) (c369))) zz → ¬ zz = b379 := fun zz hz ez => by have := o371.blk_lt hz; omega
    have x386 : Ext h355 h381 := by rw [e382]; exact Ext.push _ _
    have o387 : h.size ≤ b379 := by have := x361.size; omega
    have p388 := p360.keep fun b r _ q => x386 b r q
    have p389 := o371.keep fun b r _ q => x386 b r q
    have x390 := x361.trans x386
    obtain ⟨h391, e392⟩ : ∃ zq, zq = h381.setIfInBounds b379 (.cells #[(vS sg362.d.name), (vI (sg362.d.rt)), (vI (sg362.d.dl)), (Value.slice w368 (sg362.d.xs.length) (c369)), (vI (sg362.st)), (vI (sg362.ix)), (vB sg362.cn), (vI (sg362.tr)), (vI (sg362.bg)), (vI (sg362.er))] 38 (0, 0)) := ⟨_, rfl⟩
    have f393 := set_same e392 f383
    have p394 := p388.keep fun b r hb q => (Chg.set e392).same b r q (n384 b hb)
    have p395 := p389.keep fun b r hb q => (Chg.set e392).same b r q (n385 b hb)
    have x396 := Ext.setNew x390 e392 o387
    by_cases c397 : (((sg362.d.xs.length : Nat)) : Int) = 2
    · obtain ⟨i398, v399, e400, l401, g402⟩ := list_at sg362.d.xs (e := 0) (by omega) (by first | omega | (simp only [List.length_set, List.length_append, List.length_singleton]; omega))
      obtain ⟨b403, o404, q405, a406, k407, u408⟩ := p395.store stepc_size g402
      have z409 : v399.key = ⟨#[97]⟩ := exa_first (j := i398) (by rw [← xsg364]; exact g402) (by omega)
      obtain ⟨b410, o411, q412, a413, k414, u415⟩ := p395.store stepc_size g402
      have z416 : v399.key = ⟨#[97]⟩ := exa_first (j := i398) (by rw [← xsg364]; exact g402) (by omega)
      obtain ⟨h417, e418, p419, c420, z421⟩ := u415 (j := 0) (y := (StepM.mk ⟨#[116, 104, 105, 114, 100]⟩ v399.delta)) (u := (vS ⟨#[116, 104, 105, 114, 100]⟩)) size9 rfl rfl (by decide) (by kernel_rfl)
      have c422 : Chg (blk (Value.slice w368 (sg362.d.xs.length) (c369))) h391 h417 := c420.weak fun q hq => by subst hq; exact q412
      have z423 : h.size ≤ h391.size := x396.size
      have x424 : Ext h _ := (Chg.then (O := fun _ => False) (Chg.ext x396) c422 (fun b hb => .inr (o378 b hb))).toExt'
      have p425 := p394.keep fun b r hb q => c422.same b r q ((fun b hb hb2 => n377 b hb2 hb) b hb)
      refine wc_ev [evFe 16 2 p370 s356, evA 16 6 eb380 e382, evUw 16 7 size38 f383 e392, evC 17 5 3 agg29 f393, neF 17 7 3 c397, evC 17 12 3 agg29 f393, evV 17 13 (vP b403 o404) (show indexAddrA Tryz.prog 29 (vL w368 sg362.d.xs.length c369) (vI 0) = some (vP b403 o404) from a406 und29 size67 e400), evV 17 15 (vS v399.key) (show loadT Tryz.prog h391 9 (vP b403 o404) = some (vS v399.key) from k407.cell (j := 0) agg9 rfl), snF 17 16 9 z409, evC 19 2 3 agg29 f393, evV 19 3 (vP b410 o411) (show indexAddrA Tryz.prog 29 (vL w368 sg362.d.xs.length c369) (vI 0) = some (vP b410 o411) from a413 und29 size67 e400), evH 19 5 undef h417 (show (storeT Tryz.prog h391 9 (vP b410 o411) (vS ⟨#[116, 104, 105, 114, 100]⟩) = some h417 ∧ (undef : Value) = undef) from ⟨e418, rfl⟩)] .normal h417 [(117, (vI 2)), (118, (vB true)), (122, (vP b212 0)), (123, (vI 2)), (124, (vT #[(vA #[(vS sg362.d.name), (vI sg362.d.rt), (vI sg362.d.dl), (vL w368 sg362.d.xs.length c369), (vI sg362.st), (vI sg362.ix), (vB sg362.cn), (vI sg362.tr), (vI sg362.bg), (vI sg362.er)]), (vI 0)])), (121, (vT #[(vA #[(vS sg362.d.name), (vI sg362.d.rt), (vI sg362.d.dl), (vL w368 sg362.d.xs.length c369), (vI sg362.st), (vI sg362.ix), (vB sg362.cn), (vI sg362.tr), (vI sg362.bg), (vI sg362.er)]), (vI 0)])), (125, (vA #[(vS sg362.d.name), (vI sg362.d.rt), (vI sg362.d.dl), (vL w368 sg362.d.xs.length c369), (vI sg362.st), (vI sg362.ix), (vB sg362.cn), (vI sg362.tr), (vI sg362.bg), (vI sg362.er)])), (126, (vI 0)), (11, (vP b379 0)), (12, (vI 0)), (127, (vI 0)), (128, (vB false)), (129, (vB false)), (130, (vP b379 0)), (131, (vP b379 3)), (132, (vL w368 sg362.d.xs.length c369)), (133, (vI ((sg362.d.xs.length : Nat)))), (134, (vB false)), (135, (vB false)), (136, (vB false)), (137, (vP b379 0)), (138, (vP b379 3)), (139, (vL w368 sg362.d.xs.length c369)), (140, (vP b403 o404)), (141, (vP b403 o404)), (142, (vS v399.key)), (143, (vB false)), (144, (vB false)), (145, (vP b379 0)), (146, (vP b379 3)), (147, (vL w368 sg362.d.xs.length c369)), (148, (vP b410 o411)), (149, (vP b410 o411)), (119, (vI 2)), (120, (vI 3)), (10, (vI 3))] ?_
      refine wc_once (subc (bodyOf Tryz.prog 4) [1, 1, 1, 1, 1, 1, 0, 1, 0, 0]) rfl ?_
      refine wc_act { tmps := #[(vI id), vZ, (vB false), vN, vZ, (vP b1 0), (vP b128 0), (vI 1), (vP b212 0), (vP b229 0), (vI 3), (vP b379 0), (vI 0), vZ, vZ, vZ, vN, (vA #[(Value.map none)]), (vP b1 0), (vL (some ⟨b9, 0, none⟩) 2 2), (vI 2), (vI 2), (vB false), (vP b9 1), (vP b1 0), (vT #[(vA #[(vS .empty), (vI 0), (vI 0), (vL none 0 0), (vI 0), (vI 0), (vB false), (vI 0), (vI 0), (vI 0)]), (vI 1)]), (vP b1 0), (vI id), (vT #[(vA #[(vS .empty), (vI 0), (vI 0), (vL none 0 0), (vI 0), (vI 0), (vB false), (vI 0), (vI 0), (vI 0)]), (vI 1)]), (vA #[(vS .empty), (vI 0), (vI 0), (vL none 0 0), (vI 0), (vI 0), (vB false), (vI 0), (vI 0), (vI 0)]), (vI 1), (vI 1), (vB false), (vB false), (vA #[(vS .empty), (vI 0), (vI 0), (vL none 0 0), (vI 0), (vI 0), (vB false), (vI 0), (vI 0), (vI 0)]), (vA #[(vS .empty), (vI 0), (vI 0), (vL none 0 0), (vI 0), (vI 0), (vB false), (vI 0), (vI 0), (vI 0)]), (vB true), (vB false), (vB false), (vB false), (vP b1 0), (vI id), (vA #[(vS exaD.name), (vI exaD.rt), (vI exaD.dl), (vL (some ⟨b150, 0, none⟩) 2 2)]), (vI 1), (vB false), (vB false), (vB false), (vP b1 0), (vI id), (vA #[(vS .empty), (vI 0), (vI 0), (vL none 0 0), (vI 0), (vI 0), (vB false), (vI 0), (vI 0), (vI 0)]), (vI 1), (vB false), (vB false), (vB false), (vP b1 0), (vI id), (vI 1), (vB false), (vB false), (vB false), (vP b1 0), (vI id), (vA #[(vI 0), (vI 0), (vI 0)]), (vI 1), (vB false), (vB false), (vB false), (vP b1 0), (vL none 0 0), (vI 0), (vB false), (vB false), (vB false), (vP b1 0), (vL w184 0 c185), (vI 0), (vB false), (vB false), (vB false), (vP b1 0), (vL w191 0 c192), (vI 0), (vB false), (vB false), (vB false), (vP b1 0), (vI 0), (vB false), (vB false), (vB false), (vP b1 0), (vB false), (vB false), (vB false), (vP b1 0), vN, (vB false), (vB false), (vI 2), (vP b212 0), (vA #[(vS exaD.name), (vI exaD.rt), (vI exaD.dl), (vL (some ⟨b221, 0, none⟩) 2 2)]), (vP b212 0), (vA #[(vS exaD.name), (vI exaD.rt), (vI exaD.dl), (vL (some ⟨b221, 0, none⟩) 2 2)]), (vI 0), (vB false), (vB false), (vP b212 0), (vA #[(vS exaD.name), (vI exaD.rt), (vI exaD.dl), (vL (some ⟨b221, 0, none⟩) 2 2)]), (vA #[(vI 0), (vI 0)]), (vA #[(vS exaD.name), (vI exaD.rt), (vI exaD.dl), (vL (some ⟨b221, 0, none⟩) 2 2), (vI 3), (vI 1), (vB false), (vI 0), (vI 0), (vI 7)]), (vI 0), (vB false), (vB false), (vP b229 3), (vL (some ⟨b221, 0, none⟩) 2 2), (vP b221 0), (vP b221 0), (vI 2), (vB true), (vI 2), (vI 3), (vT #[(vA #[(vS sg362.d.name), (vI sg362.d.rt), (vI sg362.d.dl), (vL w368 sg362.d.xs.length c369), (vI sg362.st), (vI sg362.ix), (vB sg362.cn), (vI sg362.tr), (vI sg362.bg), (vI sg362.er)]), (vI 0)]), (vP b212 0), (vI 2), (vT #[(vA #[(vS sg362.d.name), (vI sg362.d.rt), (vI sg362.d.dl), (vL w368 sg362.d.xs.length c369), (vI sg362.st), (vI sg362.ix), (vB sg362.cn), (vI sg362.tr), (vI sg362.bg), (vI sg362.er)]), (vI 0)]), (vA #[(vS sg362.d.name), (vI sg362.d.rt), (vI sg362.d.dl), (vL w368 sg362.d.xs.length c369), (vI sg362.st), (vI sg362.ix), (vB sg362.cn), (vI sg362.tr), (vI sg362.bg), (vI sg362.er)]), (vI 0), (vI 0), (vB false), (vB false), (vP b379 0), (vP b379 3), (vL w368 sg362.d.xs.length c369), (vI ((sg362.d.xs.length : Nat))), (vB false), (vB false), (vB false), (vP b379 0), (vP b379 3), (vL w368 sg362.d.xs.length c369), (vP b403 o404), (vP b403 o404), (vS v399.key), (vB false), (vB false), (vP b379 0), (vP b379 3), (vL w368 sg362.d.xs.length c369), (vP b410 o411), (vP b410 o411), vZ, vZ, vZ, vZ, vZ, vZ, vZ, vZ, vZ, vZ, vZ, vZ, vZ, vZ, vZ, vZ, vZ, vZ, vZ, vZ, vZ, vZ, vZ, vZ, vZ, vZ, vZ, vZ, vZ, vZ, vZ, vZ, vZ, vZ, vZ, vZ, vZ, vZ], defers := [] } (by as_aux_lemma => kernel_rfl) ?_
      refine wc_ev [] (.exit 2) h417 [(117, (vI 3)), (118, (vB false))] ?_
      obtain ⟨_, h426, s427, b428, O12629, rfl, p429, x430, w431⟩ := tcopy_ok h417 p425 k268
      have p432 := p425.keep fun b r _ q => x430 b r q
      have x433 := x424.trans x430
      have z434 : h.size ≤ h417.size := x424.size
      have n435 : ∀ zz, O12629 zz → ¬ O12314 zz := fun zz hz ez => by have := w431 zz hz; have := p425.blk_lt ez; omega
      have o436 : ∀ zz, O12629 zz → h.size ≤ zz := fun zz hz => by have := w431 zz hz; omega
      obtain ⟨_, h437, s438, rfl, x439, O12666, p440, o441⟩ := tcancel_ok h426 p429 k268 1
      have k442 := WfT.can k268 1
      have e443 : canTE ([(1, ⟨exaD, 1, 0, false, 0, 0, 0⟩), (2, ⟨exaD, 3, 1, false, 0, 0, 7⟩)] : Tab) 1 = 0 := by kernel_rfl
      rw [e443] at s438
      have e444 : (canTM ([(1, ⟨exaD, 1, 0, false, 0, 0, 0⟩), (2, ⟨exaD, 3, 1, false, 0, 0, 7⟩)] : Tab) 1) = ([(1, ⟨exaD, 1, 0, true, 0, 0, 0⟩), (2, ⟨exaD, 3, 1, false, 0, 0, 7⟩)] : Tab) := by kernel_rfl
      rw [e444] at p440 k442
      have z445 : h.size ≤ h426.size := x433.size
      have x446 : Ext h _ := (Chg.then (O := fun _ => False) (Chg.ext x433) x439 (fun b hb => .inr (o436 b hb))).toExt'
      have p447 := p432.keep fun b r hb q => x439.same b r q ((fun b hb hb2 => n435 b hb2 hb) b hb)
      have z448 : h.size ≤ h426.size := x433.size
      have o449 : ∀ zz, O12666 zz → h.size ≤ zz := fun zz hz => by rcases o441 zz hz with g | g; (exact o436 zz g); omega
      obtain ⟨v450, h451, s452, p453, p454, x455⟩ := tget_ok h437 p447 k268 1
      have p456 := p440.keep fun b r _ q => x455 b r q
      have x457 := x446.trans x455
      obtain ⟨sg458, esg459⟩ : ∃ q : SagaM, q = ⟨exaD, 1, 0, false, 0, 0, 0⟩ := ⟨_, rfl⟩
      have xsg460 : sg458.d.xs = exaX := by rw [esg459]; rfl
      have lsg461 : sg458.d.xs.length = 2 := by rw [xsg460]; rfl
      have csg462 : sg458.cn = false := by rw [esg459]
      have c463 : getE ([(1, ⟨exaD, 1, 0, false, 0, 0, 0⟩), (2, ⟨exaD, 3, 1, false, 0, 0, 7⟩)] : Tab) 1 = 0 := by kernel_rfl
      obtain ⟨w464, c465, p466, o467, n468⟩ := p454 c463
      have f469 := getE_zero c463
      have c470 := ((k268).at f469).1
      have e471 : (getS ([(1, ⟨exaD, 1, 0, false, 0, 0, 0⟩), (2, ⟨exaD, 3, 1, false, 0, 0, 7⟩)] : Tab) 1) = sg458 := by rw [esg459]; kernel_rfl
      rw [e471] at p466 o467 n468 c470 f469
      have z472 : h.size ≤ h437.size := x446.size
      have o473 : ∀ zz, blk (Value.slice w464 (sg458.d.xs.length) (c465)) zz → h.size ≤ zz := fun zz hz => by have := n468 zz hz; omega
      obtain ⟨b474, eb475⟩ : ∃ zq, zq = h451.size := ⟨_, rfl⟩
      obtain ⟨h476, e477⟩ : ∃ zq, zq = h451.push (.cells #[(vS .empty), (vI 0), (vI 0), (Value.slice none 0 0), (vI 0), (vI 0), (vB false), (vI 0), (vI 0), (vI 0)] 38 (0, 0)) := ⟨_, rfl⟩
      have f478 := push_new e477
      rw [← eb475] at f478
      have n479 : ∀ zz, O12666 zz → ¬ zz = b474 := fun zz hz ez => by have := p456.blk_lt hz; omega
      have n480 : ∀ zz, (blk (Value.slice w464 (sg458.d.xs.length) (c465))) zz → ¬ zz = b474 := fun zz hz ez => by have := o467.blk_lt hz; omega
      have x481 : Ext h451 h476 := by rw [e477]; exact Ext.push _ _
      have o482 : h.size ≤ b474 := by have := x457.size; omega
      have p483 := p456.keep fun b r _ q => x481 b r q
      have p484 := o467.keep fun b r _ q => x481 b r q
      have x485 := x457.trans x481
      obtain ⟨h486, e487⟩ : ∃ zq, zq = h476.setIfInBounds b474 (.cells #[(vS sg458.d.name), (vI (sg458.d.rt)), (vI (sg458.d.dl)), (Value.slice w464 (sg458.d.xs.length) (c465)), (vI (sg458.st)), (vI (sg458.ix)), (vB sg458.cn), (vI (sg458.tr)), (vI (sg458.bg)), (vI (sg458.er))] 38 (0, 0)) := ⟨_, rfl⟩
      have f488 := set_same e487 f478
      have p489 := p483.keep fun b r hb q => (Chg.set e487).same b r q (n479 b hb)
      have p490 := p484.keep fun b r hb q => (Chg.set e487).same b r q (n480 b hb)
      have x491 := Ext.setNew x485 e487 o482
      obtain ⟨i492, v493, e494, l495, g496⟩ := list_at sg458.d.xs (e := 0) (by omega) (by first | omega | (simp only [List.length_set, List.length_append, List.length_singleton]; omega))
      obtain ⟨b497, o498, q499, a500, k501, u502⟩ := p490.store stepc_size g496
      have z503 : v493.key = ⟨#[97]⟩ := exa_first (j := i492) (by rw [← xsg460]; exact g496) (by omega)
      obtain ⟨_, h504, s505, rfl, x506⟩ := len_ok h486 p489 k442
      have x507 := x491.trans x506
      have e508 : ((([(1, ⟨exaD, 1, 0, true, 0, 0, 0⟩), (2, ⟨exaD, 3, 1, false, 0, 0, 7⟩)] : Tab).length : Nat) : Int) = 2 := rfl
      rw [e508] at s505
      obtain ⟨_, hh509, sn510, rfl, x511⟩ := works_ok h504 (x507 _ _ hg0) (x507 _ _ hg1)
      have x512 := x507.trans x511
      refine wc_ev [evF 20 1 s427, evF 21 4 s438, evFe 23 1 p466 s452, evA 23 5 eb475 e477, evUw 23 6 size38 f478 e487, evCb 24 4 6 agg4 f488 csg462, evC 24 10 3 agg29 f488, evV 24 11 (vP b497 o498) (show indexAddrA Tryz.prog 29 (vL w464 sg458.d.xs.length c465) (vI 0) = some (vP b497 o498) from a500 und29 size67 e494), evV 24 13 (vS v493.key) (show loadT Tryz.prog h486 9 (vP b497 o498) = some (vS v493.key) from k501.cell (j := 0) agg9 rfl), seT 24 14 9 z503, evF 24 18 s505, evF 24 22 sn510] .ret hh509 [(150, (vP b212 0)), (151, (vP b428 0)), (13, (vP b428 0)), (152, (vP b428 0)), (153, (vB false)), (154, (vB false)), (155, (vP b428 0)), (156, (vI 0)), (157, (vB false)), (158, (vB false)), (160, (vP b212 0)), (161, (vT #[(vA #[(vS sg458.d.name), (vI sg458.d.rt), (vI sg458.d.dl), (vL w464 sg458.d.xs.length c465), (vI sg458.st), (vI sg458.ix), (vB sg458.cn), (vI sg458.tr), (vI sg458.bg), (vI sg458.er)]), (vI 0)])), (159, (vT #[(vA #[(vS sg458.d.name), (vI sg458.d.rt), (vI sg458.d.dl), (vL w464 sg458.d.xs.length c465), (vI sg458.st), (vI sg458.ix), (vB sg458.cn), (vI sg458.tr), (vI sg458.bg), (vI sg458.er)]), (vI 0)])), (162, (vA #[(vS sg458.d.name), (vI sg458.d.rt), (vI sg458.d.dl), (vL w464 sg458.d.xs.length c465), (vI sg458.st), (vI sg458.ix), (vB sg458.cn), (vI sg458.tr), (vI sg458.bg), (vI sg458.er)])), (163, (vI 0)), (14, (vP b474 0)), (15, (vI 0)), (164, (vI 0)), (165, (vB true)), (166, (vB true)), (167, (vP b474 6)), (168, (vB false)), (169, (vB true)), (170, (vB true)), (171, (vB true)), (172, (vP b474 0)), (173, (vP b474 3)), (174, (vL w464 sg458.d.xs.length c465)), (175, (vP b497 o498)), (176, (vP b497 o498)), (177, (vS v493.key)), (178, (vB true)), (179, (vB true)), (180, (vB true)), (181, (vP b428 0)), (182, (vI 2)), (183, (vB true)), (184, (vB true)), (185, (vB true)), (186, (vB true)), (187, (vB true)), (2, (vB true))] ?_
      exact end_ev [] (vB true) (hK _ _ (⟨rfl, x512⟩))
    · refine wc_ev [evFe 16 2 p370 s356, evA 16 6 eb380 e382, evUw 16 7 size38 f383 e392, evC 17 5 3 agg29 f393, neT 17 7 3 c397] .ret h391 [(117, (vI 2)), (118, (vB true)), (122, (vP b212 0)), (123, (vI 2)), (124, (vT #[(vA #[(vS sg362.d.name), (vI sg362.d.rt), (vI sg362.d.dl), (vL w368 sg362.d.xs.length c369), (vI sg362.st), (vI sg362.ix), (vB sg362.cn), (vI sg362.tr), (vI sg362.bg), (vI sg362.er)]), (vI 0)])), (121, (vT #[(vA #[(vS sg362.d.name), (vI sg362.d.rt), (vI sg362.d.dl), (vL w368 sg362.d.xs.length c369), (vI sg362.st), (vI sg362.ix), (vB sg362.cn), (vI sg362.tr), (vI sg362.bg), (vI sg362.er)]), (vI 0)])), (125, (vA #[(vS sg362.d.name), (vI sg362.d.rt), (vI sg362.d.dl), (vL w368 sg362.d.xs.length c369), (vI sg362.st), (vI sg362.ix), (vB sg362.cn), (vI sg362.tr), (vI sg362.bg), (vI sg362.er)])), (126, (vI 0)), (11, (vP b379 0)), (12, (vI 0)), (127, (vI 0)), (128, (vB false)), (129, (vB false)), (130, (vP b379 0)), (131, (vP b379 3)), (132, (vL w368 sg362.d.xs.length c369)), (133, (vI ((sg362.d.xs.length : Nat)))), (134, (vB true)), (135, (vB true)), (136, (vB true)), (137, vZ), (138, vZ), (139, vZ), (140, vZ), (141, vZ), (142, vZ), (143, vZ), (144, (vB true)), (2, (vB false))] ?_
      exfalso
      omega
  · refine wc_ev [evFe 16 2 p298 s284, evA 16 6 eb308 e310, evUw 16 7 size38 f311 e320, evC 17 5 3 agg29 f321, neT 17 7 3 c325] .ret h319 [(117, (vI 1)), (118, (vB true)), (122, (vP b212 0)), (123, (vI 1)), (124, (vT #[(vA #[(vS sg290.d.name), (vI sg290.d.rt), (vI sg290.d.dl), (vL w296 sg290.d.xs.length c297), (vI sg290.st), (vI sg290.ix), (vB sg290.cn), (vI sg290.tr), (vI sg290.bg), (vI sg290.er)]), (vI 0)])), (121, (vT #[(vA #[(vS sg290.d.name), (vI sg290.d.rt), (vI sg290.d.dl), (vL w296 sg290.d.xs.length c297), (vI sg290.st), (vI sg290.ix), (vB sg290.cn), (vI sg290.tr), (vI sg290.bg), (vI sg290.er)]), (vI 0)])), (125, (vA #[(vS sg290.d.name), (vI sg290.d.rt), (vI sg290.d.dl), (vL w296 sg290.d.xs.length c297), (vI sg290.st), (vI sg290.ix), (vB sg290.cn), (vI sg290.tr), (vI sg290.bg), (vI sg290.er)])), (126, (vI 0)), (11, (vP b307 0)), (12, (vI 0)), (127, (vI 0)), (128, (vB false)), (129, (vB false)), (130, (vP b307 0)), (131, (vP b307 3)), (132, (vL w296 sg290.d.xs.length c297)), (133, (vI ((sg290.d.xs.length : Nat)))), (134, (vB true)), (135, (vB true)), (136, (vB true)), (137, vZ), (138, vZ), (139, vZ), (140, vZ), (141, vZ), (142, vZ), (143, vZ), (144, (vB true)), (2, (vB false))] ?_
    exfalso
    omega
end C29
