/- What a store shows: keys, ranges, sums. -/
import Derived.Test.YtciigibbgklcjaaDoorKh
import Derived.KernelRfl
open Go Go.AM Go.Proofs
namespace C08
theorem agg27 : isAggA Tryd.prog 27 = some false := by kernel_rfl
theorem agg29 : isAggA Tryd.prog 29 = some false := by kernel_rfl
theorem agg48 : isAggA Tryd.prog 48 = some false := by kernel_rfl
theorem agg76 : isAggA Tryd.prog 76 = some false := by kernel_rfl
theorem agg79 : isAggA Tryd.prog 79 = some false := by kernel_rfl
theorem size4 : (Tryd.prog.info? 4).map (·.size) = some 1 := by kernel_rfl
theorem size9 : (Tryd.prog.info? 9).map (·.size) = some 1 := by kernel_rfl
theorem size29 : (Tryd.prog.info? 29).map (·.size) = some 1 := by kernel_rfl
theorem size76 : (Tryd.prog.info? 76).map (·.size) = some 1 := by kernel_rfl
theorem sizeb2 : (Tryd.prog.info? 2).map (fun i => (i.size, i.bytes)) = some (1, 8) := by kernel_rfl
theorem sizeb9 : (Tryd.prog.info? 9).map (fun i => (i.size, i.bytes)) = some (1, 16) := by kernel_rfl
theorem und29 : Tryd.prog.underlying 29 = some (.slice 9) := by kernel_rfl
theorem zero2 : zeroA Tryd.prog 2 = some (Value.int .i64 0) := by kernel_rfl
theorem zero9 : zeroA Tryd.prog 9 = some (Value.string .empty) := by kernel_rfl
theorem zero39 : zeroA Tryd.prog 39 = some (Value.agg #[(Value.int .i64 0), (Value.int .i64 0), (Value.int .i64 0), (Value.int .i64 0), (Value.int .i64 0)]) := by kernel_rfl
theorem mapty : MapTy Tryd.prog 48 9 39 Value.string := MapTy.string (by kernel_rfl) (by kernel_rfl)
theorem str_tsz : tsz Tryd.prog 9 = 1 := tsz_of size9
theorem ksL_at {m : Sto} {j : Nat} {k : ByteArray} (h : (ksL m)[j]? = some k) : ∃ c, m[j]? = some (k, c) := by
  unfold ksL at h
  rw [List.getElem?_map] at h
  cases q : m[j]? with
  | none => rw [q] at h; cases h
  | some p => rw [q] at h; simp only [Option.map_some, Option.some.injEq] at h; exact ⟨p.2, by rw [← h]⟩
theorem ksL_len (m : Sto) : (ksL m).length = m.length := List.length_map ..
theorem find_at {m : Sto} {j : Nat} {k : ByteArray} {c : CntM} (w : WfM m) (h : m[j]? = some (k, c)) : findK m k = some c := findK_of_mem w.ord.apart (List.mem_of_getElem? h)
set_option maxHeartbeats 4000000 in
theorem keys_fn (h : Heap) (r : Nat) : WCall Tryd.prog 48 #[(Value.map (some r))] h (fun v h1 => ∃ b, v = .func (.func 65) #[] #[.pointer (some ⟨b, 0, none⟩)] ∧ h1[b]? = some (.cells #[.map (some r)] 48 (0, 0)) ∧ Ext h h1 ∧ h.size ≤ b) := by
  obtain ⟨b1, eb2⟩ : ∃ zq, zq = h.size := ⟨_, rfl⟩
  obtain ⟨h3, e4⟩ : ∃ zq, zq = h.push (.cells #[(Value.map (some r))] 48 (0, 0)) := ⟨_, rfl⟩
  have f5 := push_new e4
  rw [← eb2] at f5
  have x6 : Ext h h3 := by rw [e4]; exact Ext.push _ _
  have o7 : h.size ≤ b1 := by have := (Ext.refl h).size; omega
  have x8 := (Ext.refl h).trans x6
  exact hCall_ev [evA 0 0 eb2 e4] [] (Value.func (.func 65) #[] #[(vP b1 0)]) h3 ⟨_, rfl, f5, x8, o7⟩
set_option maxHeartbeats 4000000 in
theorem valid_nil (h : Heap)  : WCall Tryd.prog 32 #[(Value.pointer none)] h (fun v h1 => v = .bool false ∧ h = h1) := by
  exact hCall_ev [] [] (vB false) h ⟨rfl, rfl⟩
set_option maxHeartbeats 4000000 in
theorem valid_bad (h : Heap) {t : Nat} {fr : Nat × Nat} (ht : h[t]? = some (.cells #[.map none] 50 fr)) : WCall Tryd.prog 32 #[(vP t 0)] h (fun v h1 => v = .bool false ∧ h = h1) := by
  exact hCall_ev [evC 1 6 0 agg48 ht] [] (vB false) h ⟨rfl, rfl⟩
set_option maxHeartbeats 4000000 in
theorem valid_ok (h : Heap) {t mb : Nat} {fr : Nat × Nat} (ht : h[t]? = some (.cells #[.map (some mb)] 50 fr)) : WCall Tryd.prog 32 #[(vP t 0)] h (fun v h1 => v = .bool true ∧ h = h1) := by
  exact hCall_ev [evC 1 6 0 agg48 ht] [] (vB true) h ⟨rfl, rfl⟩
set_option maxHeartbeats 4000000 in
theorem new_ok (h : Heap)  : WCall Tryd.prog 29 #[] h (fun v h1 => ∃ b O, v = .pointer (some ⟨b, 0, none⟩) ∧ StAt 50 h1 O b [] ∧ Ext h h1 ∧ ∀ z, O z → h.size ≤ z) := by
  obtain ⟨b1, eb2⟩ : ∃ zq, zq = h.size := ⟨_, rfl⟩
  obtain ⟨h3, e4⟩ : ∃ zq, zq = h.push (.map #[] 0) := ⟨_, rfl⟩
  have p5 : MapAt h3 Value.string cntV b1 ([] : Sto) := by rw [eb2]; exact MapAt.make e4
  have x6 : Ext h h3 := by rw [e4]; exact Ext.push _ _
  have w7 : ∀ z, (fun q => q = b1) z → h.size ≤ z := fun z hz => by have w1 : z = b1 := hz; omega
  have x8 := (Ext.refl h).trans x6
  have z9 : h.size ≤ h.size := (Ext.refl h).size
  have o10 : ∀ zz, (fun q => q = b1) zz → h.size ≤ zz := fun zz hz => by have := w7 zz hz; omega
  obtain ⟨b11, eb12⟩ : ∃ zq, zq = h3.size := ⟨_, rfl⟩
  obtain ⟨h13, e14⟩ : ∃ zq, zq = h3.push (.cells #[(Value.map (some b1))] 50 (0, 0)) := ⟨_, rfl⟩
  have f15 := push_new e14
  rw [← eb12] at f15
  have x16 : Ext h3 h13 := by rw [e14]; exact Ext.push _ _
  have o17 : h.size ≤ b11 := by have := x8.size; omega
  have p18 := p5.keep fun b r _ q => x16 b r q
  have x19 := x8.trans x16
  exact hCall_ev [evH 1 0 (Value.map (some b1)) h3 (show ((Value.map (some b1)) = (Value.map (some h.size)) ∧ h3 = h.push (.map #[] 0)) from ⟨by rw [eb2], e4⟩), evA 1 2 eb12 e14] [] (vP b11 0) h13 ⟨b11, _, rfl, st_new f15 p18, x19, fun z hz => hz.elim (fun w => by have := o17; omega) (fun w => o10 z w)⟩
set_option maxHeartbeats 4000000 in
theorem find_ok (h : Heap) {O : Nat → Prop} {t : Nat} {ms : Sto} (hT : StAt 50 h O t ms) (ok : WfM ms) (k : ByteArray) : WCall Tryd.prog 37 #[(vP t 0), (vS k)] h (fun v h1 => v = (Value.tuple #[(Value.agg #[(vI ((getC ms k).v)), (vI ((getC ms k).up)), (vI ((getC ms k).dn)), (vI ((getC ms k).lo)), (vI ((getC ms k).hi))]), (vI (getE ms k))]) ∧ Ext h h1) := by
  have hT' := hT
  obtain ⟨mb1, T⟩ := hT
  obtain ⟨b2, eb3⟩ : ∃ zq, zq = h.size := ⟨_, rfl⟩
  obtain ⟨h4, e5⟩ : ∃ zq, zq = h.push (.cells #[(vI 0), (vI 0), (vI 0), (vI 0), (vI 0)] 39 (0, 0)) := ⟨_, rfl⟩
  have f6 := push_new e5
  rw [← eb3] at f6
  have x7 : Ext h h4 := by rw [e5]; exact Ext.push _ _
  have o8 : h.size ≤ b2 := by have := (Ext.refl h).size; omega
  have x9 := (Ext.refl h).trans x7
  obtain ⟨_, _, sn10, rfl, rfl⟩ := valid_ok h4 (x9 _ _ T.row)
  rcases hq11 : findK ms k with _ | cc12
  · obtain ⟨b13, eb14⟩ : ∃ zq, zq = h4.size := ⟨_, rfl⟩
    obtain ⟨h15, e16⟩ : ∃ zq, zq = h4.push (.cells #[(vI 0), (vI 0), (vI 0), (vI 0), (vI 0)] 39 (0, 0)) := ⟨_, rfl⟩
    have f17 := push_new e16
    rw [← eb14] at f17
    have n18 : b13 ≠ b2 := by have := row_lt f6; omega
    have x19 : Ext h4 h15 := by rw [e16]; exact Ext.push _ _
    have o20 : h.size ≤ b13 := by have := x9.size; omega
    have f21 := x19 _ _ f6
    have x22 := x9.trans x19
    obtain ⟨h23, e24⟩ : ∃ zq, zq = h15.setIfInBounds b13 (.cells #[(vI 0), (vI 0), (vI 0), (vI 0), (vI 0)] 39 (0, 0)) := ⟨_, rfl⟩
    have f25 := set_other e24 f21 n18
    have x26 := Ext.setNew x22 e24 o20
    obtain ⟨h27, e28⟩ : ∃ zq, zq = h23.setIfInBounds b2 (.cells #[(vI 0), (vI 0), (vI 0), (vI 0), (vI 0)] 39 (0, 0)) := ⟨_, rfl⟩
    have f29 := set_same e28 f25
    have x30 := Ext.setNew x26 e28 o8
    obtain ⟨e1, e2⟩ := getE_none hq11
    exact hCall_ev [evA 0 0 eb3 e5, evF 1 1 sn10, evC 3 3 0 agg48 (x9 _ _ T.row), evV 3 5 (vT #[(vA #[(vI 0), (vI 0), (vI 0), (vI 0), (vI 0)]), (vB false)]) (show lookupA Tryd.prog h4 48 (Value.map (some mb1)) (vS k) true = some (vT #[(vA #[(vI 0), (vI 0), (vI 0), (vI 0), (vI 0)]), (vB false)]) from (T.map.keep fun b r _ q => x9 b r q).lookup_none mapty zero39 hq11 true), evA 3 9 eb14 e16, evUw 3 10 size39 f17 e24, evUw 5 1 size39 f25 e28] [evLw 0 0 agg39 size39 f29, evR (vI 5)] (vT #[(vA #[(vI 0), (vI 0), (vI 0), (vI 0), (vI 0)]), (vI 5)]) h27 ⟨by rw [e1, e2]; (try rfl), x30⟩
  · obtain ⟨b31, eb32⟩ : ∃ zq, zq = h4.size := ⟨_, rfl⟩
    obtain ⟨h33, e34⟩ : ∃ zq, zq = h4.push (.cells #[(vI 0), (vI 0), (vI 0), (vI 0), (vI 0)] 39 (0, 0)) := ⟨_, rfl⟩
    have f35 := push_new e34
    rw [← eb32] at f35
    have n36 : b31 ≠ b2 := by have := row_lt f6; omega
    have x37 : Ext h4 h33 := by rw [e34]; exact Ext.push _ _
    have o38 : h.size ≤ b31 := by have := x9.size; omega
    have f39 := x37 _ _ f6
    have x40 := x9.trans x37
    obtain ⟨h41, e42⟩ : ∃ zq, zq = h33.setIfInBounds b31 (.cells #[(vI (cc12.v)), (vI (cc12.up)), (vI (cc12.dn)), (vI (cc12.lo)), (vI (cc12.hi))] 39 (0, 0)) := ⟨_, rfl⟩
    have f43 := set_same e42 f35
    have f44 := set_other e42 f39 n36
    have x45 := Ext.setNew x40 e42 o38
    obtain ⟨h46, e47⟩ : ∃ zq, zq = h41.setIfInBounds b2 (.cells #[(vI (cc12.v)), (vI (cc12.up)), (vI (cc12.dn)), (vI (cc12.lo)), (vI (cc12.hi))] 39 (0, 0)) := ⟨_, rfl⟩
    have f48 := set_same e47 f44
    have x49 := Ext.setNew x45 e47 o8
    obtain ⟨e1, e2⟩ := getE_some hq11
    exact hCall_ev [evA 0 0 eb3 e5, evF 1 1 sn10, evC 3 3 0 agg48 (x9 _ _ T.row), evV 3 5 (vT #[(vA #[(vI cc12.v), (vI cc12.up), (vI cc12.dn), (vI cc12.lo), (vI cc12.hi)]), (vB true)]) (show lookupA Tryd.prog h4 48 (Value.map (some mb1)) (vS k) true = some (vT #[(vA #[(vI cc12.v), (vI cc12.up), (vI cc12.dn), (vI cc12.lo), (vI cc12.hi)]), (vB true)]) from (T.map.keep fun b r _ q => x9 b r q).lookup_some mapty hq11 true), evA 3 9 eb32 e34, evUw 3 10 size39 f35 e42, evLw 6 0 agg39 size39 f43, evUw 6 1 size39 f44 e47] [evLw 0 0 agg39 size39 f48, evR (vI 0)] (vT #[(vA #[(vI cc12.v), (vI cc12.up), (vI cc12.dn), (vI cc12.lo), (vI cc12.hi)]), (vI 0)]) h46 ⟨by rw [e1, e2]; (try rfl), x49⟩
set_option maxHeartbeats 4000000 in
theorem find_nil (h : Heap)  (k : ByteArray) : WCall Tryd.prog 37 #[(Value.pointer none), (vS k)] h (fun v h1 => v = (Value.tuple #[(Value.agg #[(vI 0), (vI 0), (vI 0), (vI 0), (vI 0)]), (vI 1)]) ∧ Ext h h1) := by
  obtain ⟨b1, eb2⟩ : ∃ zq, zq = h.size := ⟨_, rfl⟩
  obtain ⟨h3, e4⟩ : ∃ zq, zq = h.push (.cells #[(vI 0), (vI 0), (vI 0), (vI 0), (vI 0)] 39 (0, 0)) := ⟨_, rfl⟩
  have f5 := push_new e4
  rw [← eb2] at f5
  have x6 : Ext h h3 := by rw [e4]; exact Ext.push _ _
  have o7 : h.size ≤ b1 := by have := (Ext.refl h).size; omega
  have x8 := (Ext.refl h).trans x6
  obtain ⟨_, _, sn9, rfl, rfl⟩ := valid_nil h3
  obtain ⟨h10, e11⟩ : ∃ zq, zq = h3.setIfInBounds b1 (.cells #[(vI 0), (vI 0), (vI 0), (vI 0), (vI 0)] 39 (0, 0)) := ⟨_, rfl⟩
  have f12 := set_same e11 f5
  have x13 := Ext.setNew x8 e11 o7
  exact hCall_ev [evA 0 0 eb2 e4, evF 1 1 sn9, evUw 2 1 size39 f5 e11] [evLw 0 0 agg39 size39 f12, evR (vI 1)] (vT #[(vA #[(vI 0), (vI 0), (vI 0), (vI 0), (vI 0)]), (vI 1)]) h10 ⟨rfl, x13⟩
set_option maxHeartbeats 4000000 in
theorem find_bad (h : Heap) {t : Nat} {fr : Nat × Nat} (ht : h[t]? = some (.cells #[.map none] 50 fr)) (k : ByteArray) : WCall Tryd.prog 37 #[(vP t 0), (vS k)] h (fun v h1 => v = (Value.tuple #[(Value.agg #[(vI 0), (vI 0), (vI 0), (vI 0), (vI 0)]), (vI 1)]) ∧ Ext h h1) := by
  obtain ⟨b1, eb2⟩ : ∃ zq, zq = h.size := ⟨_, rfl⟩
  obtain ⟨h3, e4⟩ : ∃ zq, zq = h.push (.cells #[(vI 0), (vI 0), (vI 0), (vI 0), (vI 0)] 39 (0, 0)) := ⟨_, rfl⟩
  have f5 := push_new e4
  rw [← eb2] at f5
  have x6 : Ext h h3 := by rw [e4]; exact Ext.push _ _
  have o7 : h.size ≤ b1 := by have := (Ext.refl h).size; omega
  have f9 := x6 _ _ ht
  have x10 := (Ext.refl h).trans x6
  obtain ⟨_, _, sn11, rfl, rfl⟩ := valid_bad h3 f9
  obtain ⟨h12, e13⟩ : ∃ zq, zq = h3.setIfInBounds b1 (.cells #[(vI 0), (vI 0), (vI 0), (vI 0), (vI 0)] 39 (0, 0)) := ⟨_, rfl⟩
  have f14 := set_same e13 f5
  have x15 := Ext.setNew x10 e13 o7
  exact hCall_ev [evA 0 0 eb2 e4, evF 1 1 sn11, evUw 2 1 size39 f5 e13] [evLw 0 0 agg39 size39 f14, evR (vI 1)] (vT #[(vA #[(vI 0), (vI 0), (vI 0), (vI 0), (vI 0)]), (vI 1)]) h12 ⟨rfl, x15⟩
set_option maxHeartbeats 4000000 in
theorem get_ok (h : Heap) {O : Nat → Prop} {t : Nat} {ms : Sto} (hT : StAt 50 h O t ms) (ok : WfM ms) (k : ByteArray) : WCall Tryd.prog 18 #[(vP t 0), (vS k)] h (fun v h1 => v = (Value.tuple #[(Value.agg #[(vI ((getC ms k).v)), (vI ((getC ms k).up)), (vI ((getC ms k).dn)), (vI ((getC ms k).lo)), (vI ((getC ms k).hi))]), (vI (getE ms k))]) ∧ Ext h h1) := by
  have hT' := hT
  obtain ⟨mb1, T⟩ := hT
  obtain ⟨b2, eb3⟩ : ∃ zq, zq = h.size := ⟨_, rfl⟩
  obtain ⟨h4, e5⟩ : ∃ zq, zq = h.push (.cells #[(vI 0), (vI 0), (vI 0), (vI 0), (vI 0)] 39 (0, 0)) := ⟨_, rfl⟩
  have f6 := push_new e5
  rw [← eb3] at f6
  have x7 : Ext h h4 := by rw [e5]; exact Ext.push _ _
  have o8 : h.size ≤ b2 := by have := (Ext.refl h).size; omega
  have x9 := (Ext.refl h).trans x7
  obtain ⟨_, hh10, sn11, rfl, x12⟩ := find_ok h4 (hT'.keep fun b r _ q => x9 b r q) ok k
  have f13 := x12 _ _ f6
  have x14 := x9.trans x12
  obtain ⟨h15, e16⟩ : ∃ zq, zq = hh10.setIfInBounds b2 (.cells #[(vI ((getC ms k).v)), (vI ((getC ms k).up)), (vI ((getC ms k).dn)), (vI ((getC ms k).lo)), (vI ((getC ms k).hi))] 39 (0, 0)) := ⟨_, rfl⟩
  have f17 := set_same e16 f13
  have x18 := Ext.setNew x14 e16 o8
  exact hCall_ev [evA 0 0 eb3 e5, evF 1 2 sn11, evUw 1 5 size39 f13 e16] [evLw 0 0 agg39 size39 f17, evR (vI (getE ms k))] (vT #[(vA #[(vI ((getC ms k).v)), (vI ((getC ms k).up)), (vI ((getC ms k).dn)), (vI ((getC ms k).lo)), (vI ((getC ms k).hi))]), (vI (getE ms k))]) h15 ⟨rfl, x18⟩
set_option maxHeartbeats 4000000 in
theorem put_ok (h : Heap) {O : Nat → Prop} {t : Nat} {ms : Sto} (hT : StAt 50 h O t ms) (ok : WfM ms) (k : ByteArray) (c : CntM) : WCall Tryd.prog 23 #[(vP t 0), (vS k), (Value.agg #[(vI (c.v)), (vI (c.up)), (vI (c.dn)), (vI (c.lo)), (vI (c.hi))])] h (fun v h1 => v = .int .i64 (putE ms k c) ∧ Chg O h h1 ∧ ∃ O', StAt 50 h1 O' t (putM ms k c) ∧ ∀ b, O' b → O b ∨ h.size ≤ b) := by
  have hT' := hT
  obtain ⟨mb1, T⟩ := hT
  suffices H : ∀ K : Value → Heap → Prop, (∀ v h1, (fun v h1 => v = .int .i64 (putE ms k c) ∧ Chg O h h1 ∧ ∃ O', StAt 50 h1 O' t (putM ms k c) ∧ ∀ b, O' b → O b ∨ h.size ≤ b) v h1 → K v h1) → WCall Tryd.prog 23 #[(vP t 0), (vS k), (Value.agg #[(vI (c.v)), (vI (c.up)), (vI (c.dn)), (vI (c.lo)), (vI (c.hi))])] h K from H _ fun _ _ q => q
  intro K hK
  refine wcall_at { tmps := #[(vP t 0), (vS k), (vA #[(vI c.v), (vI c.up), (vI c.dn), (vI c.lo), (vI c.hi)]), vZ, vZ, vZ, vZ, vZ, vZ, vZ, vZ, vZ, vZ, vZ, vZ, vZ, vZ, vZ, vZ, vZ, vZ, vZ, vZ, vZ, vZ, vZ, vZ, vZ, vZ, vZ, vZ, vZ, vZ, vZ, vZ, vZ, vZ, vZ, vZ, vZ, vZ, vZ, vZ], defers := [] } (by kernel_rfl) ?_
  obtain ⟨b2, eb3⟩ : ∃ zq, zq = h.size := ⟨_, rfl⟩
  obtain ⟨h4, e5⟩ : ∃ zq, zq = h.push (.cells #[(vI (c.v)), (vI (c.up)), (vI (c.dn)), (vI (c.lo)), (vI (c.hi))] 39 (0, 0)) := ⟨_, rfl⟩
  have f6 := push_new e5
  rw [← eb3] at f6
  have x7 : Ext h h4 := by rw [e5]; exact Ext.push _ _
  have o8 : h.size ≤ b2 := by have := (Ext.refl h).size; omega
  have x9 := (Ext.refl h).trans x7
  obtain ⟨_, h10, s11, rfl, x12⟩ := find_ok h4 (hT'.keep fun b r _ q => x9 b r q) ok k
  have f13 := x12 _ _ f6
  have x14 := x9.trans x12
  by_cases c15 : ((getE ms k) : Int) = 0
  · obtain ⟨b16, eb17⟩ : ∃ zq, zq = h10.size := ⟨_, rfl⟩
    obtain ⟨h18, e19⟩ : ∃ zq, zq = h10.push (.cells #[(vI 0), (vI 0), (vI 0), (vI 0), (vI 0)] 39 (0, 0)) := ⟨_, rfl⟩
    have f20 := push_new e19
    rw [← eb17] at f20
    have n21 : b16 ≠ b2 := by have := row_lt f13; omega
    have x22 : Ext h10 h18 := by rw [e19]; exact Ext.push _ _
    have o23 : h.size ≤ b16 := by have := x14.size; omega
    have f24 := x22 _ _ f13
    have x25 := x14.trans x22
    obtain ⟨h26, e27⟩ : ∃ zq, zq = h18.setIfInBounds b16 (.cells #[(vI ((getC ms k).v)), (vI ((getC ms k).up)), (vI ((getC ms k).dn)), (vI ((getC ms k).lo)), (vI ((getC ms k).hi))] 39 (0, 0)) := ⟨_, rfl⟩
    have f28 := set_other e27 f24 n21
    have x29 := Ext.setNew x25 e27 o23
    obtain ⟨_, hh30, sn31, rfl, x32⟩ := name_ok h26 k
    have f33 := x32 _ _ f28
    have x34 := x29.trans x32
    rcases Bool.eq_false_or_eq_true ((nameB k)) with c35 | c35
    · obtain ⟨_, h36, s37, rfl, x38⟩ := chkC_ok hh30 (c.v) (c.up) (c.dn) (c.lo) (c.hi)
      have x39 := x34.trans x38
      rcases Bool.eq_false_or_eq_true (okc c.v c.up c.dn c.lo c.hi) with c40 | c40
      · refine wc_ev [evA 0 0 eb3 e5, evF 1 2 (show SoundCall Tryd.prog 37 #[(vP t 0), (vS k)] h4 (vT #[(vA #[(vI ((getC ms k).v)), (vI ((getC ms k).up)), (vI ((getC ms k).dn)), (vI ((getC ms k).lo)), (vI ((getC ms k).hi))]), (vI 0)]) h10 from (by have w41 := s11; rw [c15] at w41; exact w41)), evA 1 6 eb17 e19, evUw 1 7 size39 f20 e27, evFb 4 1 c35 sn31, evLw 6 0 agg39 size39 f33, evF 6 1 (by rw [if_pos c40] at s37; exact s37)] .ret h36 [(5, (vP b2 0)), (6, (vI 0)), (10, (vP t 0)), (11, (vS k)), (12, (vT #[(vA #[(vI ((getC ms k).v)), (vI ((getC ms k).up)), (vI ((getC ms k).dn)), (vI ((getC ms k).lo)), (vI ((getC ms k).hi))]), (vI 0)])), (9, (vT #[(vA #[(vI ((getC ms k).v)), (vI ((getC ms k).up)), (vI ((getC ms k).dn)), (vI ((getC ms k).lo)), (vI ((getC ms k).hi))]), (vI 0)])), (13, (vA #[(vI ((getC ms k).v)), (vI ((getC ms k).up)), (vI ((getC ms k).dn)), (vI ((getC ms k).lo)), (vI ((getC ms k).hi))])), (14, (vI 0)), (7, (vP b16 0)), (8, (vI 0)), (16, (vI 0)), (17, (vB false)), (15, (vB false)), (20, (vS k)), (21, (vB true)), (22, (vB false)), (19, (vB false)), (24, (vA #[(vI c.v), (vI c.up), (vI c.dn), (vI c.lo), (vI c.hi)])), (25, (vI 0)), (26, (vB false)), (23, (vB false)), (28, (vI 0)), (29, (vB true)), (27, (vB true)), (6, (vI 6))] ?_
        have ee : putE ms k c = 6 := by unfold putE; rw [if_pos c35, if_pos (show okC c = true from c40), if_pos c15]
        exact end_ev [] (vI 6) (hK _ _ (⟨by rw [ee], Chg.ext x39, O, by unfold putM; rw [ee, if_neg (by decide)]; exact hT'.keep fun b r _ q => x39 b r q, fun b hb => .inl hb⟩))
      · refine wc_ev [evA 0 0 eb3 e5, evF 1 2 (show SoundCall Tryd.prog 37 #[(vP t 0), (vS k)] h4 (vT #[(vA #[(vI ((getC ms k).v)), (vI ((getC ms k).up)), (vI ((getC ms k).dn)), (vI ((getC ms k).lo)), (vI ((getC ms k).hi))]), (vI 0)]) h10 from (by have w41 := s11; rw [c15] at w41; exact w41)), evA 1 6 eb17 e19, evUw 1 7 size39 f20 e27, evFb 4 1 c35 sn31, evLw 6 0 agg39 size39 f33, evF 6 1 (by rw [if_neg (by rw [c40]; decide)] at s37; exact s37)] .ret h36 [(5, (vP b2 0)), (6, (vI 0)), (10, (vP t 0)), (11, (vS k)), (12, (vT #[(vA #[(vI ((getC ms k).v)), (vI ((getC ms k).up)), (vI ((getC ms k).dn)), (vI ((getC ms k).lo)), (vI ((getC ms k).hi))]), (vI 0)])), (9, (vT #[(vA #[(vI ((getC ms k).v)), (vI ((getC ms k).up)), (vI ((getC ms k).dn)), (vI ((getC ms k).lo)), (vI ((getC ms k).hi))]), (vI 0)])), (13, (vA #[(vI ((getC ms k).v)), (vI ((getC ms k).up)), (vI ((getC ms k).dn)), (vI ((getC ms k).lo)), (vI ((getC ms k).hi))])), (14, (vI 0)), (7, (vP b16 0)), (8, (vI 0)), (16, (vI 0)), (17, (vB false)), (15, (vB false)), (20, (vS k)), (21, (vB true)), (22, (vB false)), (19, (vB false)), (24, (vA #[(vI c.v), (vI c.up), (vI c.dn), (vI c.lo), (vI c.hi)])), (25, (vI 2)), (26, (vB true)), (23, (vB true)), (6, (vI 2))] ?_
        have ee : putE ms k c = 2 := by unfold putE; rw [if_pos c35, if_neg (show ¬ okC c = true from by intro w; exact absurd ((show okc c.v c.up c.dn c.lo c.hi = true from w).symm.trans c40) (by decide))]
        exact end_ev [] (vI 2) (hK _ _ (⟨by rw [ee], Chg.ext x39, O, by unfold putM; rw [ee, if_neg (by decide)]; exact hT'.keep fun b r _ q => x39 b r q, fun b hb => .inl hb⟩))
    · refine wc_ev [evA 0 0 eb3 e5, evF 1 2 (show SoundCall Tryd.prog 37 #[(vP t 0), (vS k)] h4 (vT #[(vA #[(vI ((getC ms k).v)), (vI ((getC ms k).up)), (vI ((getC ms k).dn)), (vI ((getC ms k).lo)), (vI ((getC ms k).hi))]), (vI 0)]) h10 from (by have w41 := s11; rw [c15] at w41; exact w41)), evA 1 6 eb17 e19, evUw 1 7 size39 f20 e27, evFb 4 1 c35 sn31] .ret hh30 [(5, (vP b2 0)), (6, (vI 0)), (10, (vP t 0)), (11, (vS k)), (12, (vT #[(vA #[(vI ((getC ms k).v)), (vI ((getC ms k).up)), (vI ((getC ms k).dn)), (vI ((getC ms k).lo)), (vI ((getC ms k).hi))]), (vI 0)])), (9, (vT #[(vA #[(vI ((getC ms k).v)), (vI ((getC ms k).up)), (vI ((getC ms k).dn)), (vI ((getC ms k).lo)), (vI ((getC ms k).hi))]), (vI 0)])), (13, (vA #[(vI ((getC ms k).v)), (vI ((getC ms k).up)), (vI ((getC ms k).dn)), (vI ((getC ms k).lo)), (vI ((getC ms k).hi))])), (14, (vI 0)), (7, (vP b16 0)), (8, (vI 0)), (16, (vI 0)), (17, (vB false)), (15, (vB false)), (20, (vS k)), (21, (vB false)), (22, (vB true)), (19, (vB true)), (6, (vI 14))] ?_
      have ee : putE ms k c = 14 := by unfold putE; rw [if_neg (by rw [c35]; decide)]
      exact end_ev [] (vI 14) (hK _ _ (⟨by rw [ee], Chg.ext x34, O, by unfold putM; rw [ee, if_neg (by decide)]; exact hT'.keep fun b r _ q => x34 b r q, fun b hb => .inl hb⟩))
  · obtain ⟨b42, eb43⟩ : ∃ zq, zq = h10.size := ⟨_, rfl⟩
    obtain ⟨h44, e45⟩ : ∃ zq, zq = h10.push (.cells #[(vI 0), (vI 0), (vI 0), (vI 0), (vI 0)] 39 (0, 0)) := ⟨_, rfl⟩
    have f46 := push_new e45
    rw [← eb43] at f46
    have n47 : b42 ≠ b2 := by have := row_lt f13; omega
    have x48 : Ext h10 h44 := by rw [e45]; exact Ext.push _ _
    have o49 : h.size ≤ b42 := by have := x14.size; omega
    have f50 := x48 _ _ f13
    have x51 := x14.trans x48
    obtain ⟨h52, e53⟩ : ∃ zq, zq = h44.setIfInBounds b42 (.cells #[(vI 0), (vI 0), (vI 0), (vI 0), (vI 0)] 39 (0, 0)) := ⟨_, rfl⟩
    have f54 := set_other e53 f50 n47
    have x55 := Ext.setNew x51 e53 o49
    obtain ⟨_, hh56, sn57, rfl, x58⟩ := name_ok h52 k
    have f59 := x58 _ _ f54
    have x60 := x55.trans x58
    rcases Bool.eq_false_or_eq_true ((nameB k)) with c61 | c61
    · obtain ⟨_, h62, s63, rfl, x64⟩ := chkC_ok hh56 (c.v) (c.up) (c.dn) (c.lo) (c.hi)
      have f65 := x64 _ _ f59
      have x66 := x60.trans x64
      rcases Bool.eq_false_or_eq_true (okc c.v c.up c.dn c.lo c.hi) with c67 | c67
      · by_cases c68 : (64 : Int) ≤ ((ms.length : Nat))
        · refine wc_ev [evA 0 0 eb3 e5, evF 1 2 (show SoundCall Tryd.prog 37 #[(vP t 0), (vS k)] h4 (vT #[(vA #[(vI 0), (vI 0), (vI 0), (vI 0), (vI 0)]), (vI 5)]) h10 from (by have w69 := s11; rw [(getE_ne c15).2.1, (getE_ne c15).2.2] at w69; exact w69)), evA 1 6 eb43 e45, evUw 1 7 size39 f46 e53, evFb 4 1 c61 sn57, evLw 6 0 agg39 size39 f59, evF 6 1 (by rw [if_pos c67] at s63; exact s63), evC 10 3 0 agg48 (x66 _ _ T.row), evV 10 4 (vI ((ms.length : Nat))) (show lenA Tryd.prog h62 48 (Value.map (some mb1)) = some (vI ((ms.length : Nat))) from (T.map.keep fun b r _ q => x66 b r q).len_eq mapty), geT 10 5 3 c68] .ret h62 [(5, (vP b2 0)), (6, (vI 0)), (10, (vP t 0)), (11, (vS k)), (12, (vT #[(vA #[(vI 0), (vI 0), (vI 0), (vI 0), (vI 0)]), (vI 5)])), (9, (vT #[(vA #[(vI 0), (vI 0), (vI 0), (vI 0), (vI 0)]), (vI 5)])), (13, (vA #[(vI 0), (vI 0), (vI 0), (vI 0), (vI 0)])), (14, (vI 5)), (7, (vP b42 0)), (8, (vI 5)), (16, (vI 5)), (17, (vB false)), (15, (vB false)), (20, (vS k)), (21, (vB true)), (22, (vB false)), (19, (vB false)), (24, (vA #[(vI c.v), (vI c.up), (vI c.dn), (vI c.lo), (vI c.hi)])), (25, (vI 0)), (26, (vB false)), (23, (vB false)), (28, (vI 5)), (29, (vB false)), (27, (vB false)), (31, (vP t 0)), (32, (vP t 0)), (33, (vP t 0)), (34, (Value.map (some mb1))), (35, (vI ((ms.length : Nat)))), (36, (vB true)), (30, (vB true)), (6, (vI 4))] ?_
          have ee : putE ms k c = 4 := by unfold putE; rw [if_pos c61, if_pos (show okC c = true from c67), if_neg c15, if_pos (by omega)]
          exact end_ev [] (vI 4) (hK _ _ (⟨by rw [ee], Chg.ext x66, O, by unfold putM; rw [ee, if_neg (by decide)]; exact hT'.keep fun b r _ q => x66 b r q, fun b hb => .inl hb⟩))
        · obtain ⟨h70, e71, p72, c73, z74⟩ := (T.map.keep fun b r _ q => x66 b r q).update_new mapty (getE_ne c15).1 c
          have z75 : h.size ≤ h62.size := (Chg.ext (O := O) x66).size
          have x76 := (Chg.ext (O := O) x66).then c73 (fun b hb => .inl ((fun b hb => (T.foot b).2 (.inr hb)) b hb))
          have f77 := c73.same _ _ (x66 _ _ T.row) (fun hb => (T.map.keep fun b r _ q => x66 b r q).ne (x66 _ _ T.row) (Eq.symm hb))
          refine wc_ev [evA 0 0 eb3 e5, evF 1 2 (show SoundCall Tryd.prog 37 #[(vP t 0), (vS k)] h4 (vT #[(vA #[(vI 0), (vI 0), (vI 0), (vI 0), (vI 0)]), (vI 5)]) h10 from (by have w69 := s11; rw [(getE_ne c15).2.1, (getE_ne c15).2.2] at w69; exact w69)), evA 1 6 eb43 e45, evUw 1 7 size39 f46 e53, evFb 4 1 c61 sn57, evLw 6 0 agg39 size39 f59, evF 6 1 (by rw [if_pos c67] at s63; exact s63), evC 10 3 0 agg48 (x66 _ _ T.row), evV 10 4 (vI ((ms.length : Nat))) (show lenA Tryd.prog h62 48 (Value.map (some mb1)) = some (vI ((ms.length : Nat))) from (T.map.keep fun b r _ q => x66 b r q).len_eq mapty), geF 10 5 3 c68, evC 12 3 0 agg48 (x66 _ _ T.row), evLw 12 5 agg39 size39 f65, evH 12 6 undef h70 (show (mapUpdateA Tryd.prog h62 48 (Value.map (some mb1)) (vS k) (vA #[(vI c.v), (vI c.up), (vI c.dn), (vI c.lo), (vI c.hi)]) = some h70 ∧ (undef : Value) = undef) from ⟨e71, rfl⟩)] .ret h70 [(5, (vP b2 0)), (6, (vI 0)), (10, (vP t 0)), (11, (vS k)), (12, (vT #[(vA #[(vI 0), (vI 0), (vI 0), (vI 0), (vI 0)]), (vI 5)])), (9, (vT #[(vA #[(vI 0), (vI 0), (vI 0), (vI 0), (vI 0)]), (vI 5)])), (13, (vA #[(vI 0), (vI 0), (vI 0), (vI 0), (vI 0)])), (14, (vI 5)), (7, (vP b42 0)), (8, (vI 5)), (16, (vI 5)), (17, (vB false)), (15, (vB false)), (20, (vS k)), (21, (vB true)), (22, (vB false)), (19, (vB false)), (24, (vA #[(vI c.v), (vI c.up), (vI c.dn), (vI c.lo), (vI c.hi)])), (25, (vI 0)), (26, (vB false)), (23, (vB false)), (28, (vI 5)), (29, (vB false)), (27, (vB false)), (31, (vP t 0)), (32, (vP t 0)), (33, (vP t 0)), (34, (Value.map (some mb1))), (35, (vI ((ms.length : Nat)))), (36, (vB false)), (30, (vB false)), (37, (vP t 0)), (38, (vP t 0)), (39, (vP t 0)), (40, (Value.map (some mb1))), (41, (vS k)), (42, (vA #[(vI c.v), (vI c.up), (vI c.dn), (vI c.lo), (vI c.hi)])), (6, (vI 0))] ?_
          have ee : putE ms k c = 0 := by unfold putE; rw [if_pos c61, if_pos (show okC c = true from c67), if_neg c15, if_neg (by omega)]
          exact end_ev [] (vI 0) (hK _ _ (⟨by rw [ee], x76, O, by unfold putM; rw [ee, if_pos rfl]; exact ⟨mb1, f77, p72.perm (insK_perm k c ms).symm, T.foot⟩, fun b hb => .inl hb⟩))
      · refine wc_ev [evA 0 0 eb3 e5, evF 1 2 (show SoundCall Tryd.prog 37 #[(vP t 0), (vS k)] h4 (vT #[(vA #[(vI 0), (vI 0), (vI 0), (vI 0), (vI 0)]), (vI 5)]) h10 from (by have w69 := s11; rw [(getE_ne c15).2.1, (getE_ne c15).2.2] at w69; exact w69)), evA 1 6 eb43 e45, evUw 1 7 size39 f46 e53, evFb 4 1 c61 sn57, evLw 6 0 agg39 size39 f59, evF 6 1 (by rw [if_neg (by rw [c67]; decide)] at s63; exact s63)] .ret h62 [(5, (vP b2 0)), (6, (vI 0)), (10, (vP t 0)), (11, (vS k)), (12, (vT #[(vA #[(vI 0), (vI 0), (vI 0), (vI 0), (vI 0)]), (vI 5)])), (9, (vT #[(vA #[(vI 0), (vI 0), (vI 0), (vI 0), (vI 0)]), (vI 5)])), (13, (vA #[(vI 0), (vI 0), (vI 0), (vI 0), (vI 0)])), (14, (vI 5)), (7, (vP b42 0)), (8, (vI 5)), (16, (vI 5)), (17, (vB false)), (15, (vB false)), (20, (vS k)), (21, (vB true)), (22, (vB false)), (19, (vB false)), (24, (vA #[(vI c.v), (vI c.up), (vI c.dn), (vI c.lo), (vI c.hi)])), (25, (vI 2)), (26, (vB true)), (23, (vB true)), (6, (vI 2))] ?_
        have ee : putE ms k c = 2 := by unfold putE; rw [if_pos c61, if_neg (show ¬ okC c = true from by intro w; exact absurd ((show okc c.v c.up c.dn c.lo c.hi = true from w).symm.trans c67) (by decide))]
        exact end_ev [] (vI 2) (hK _ _ (⟨by rw [ee], Chg.ext x66, O, by unfold putM; rw [ee, if_neg (by decide)]; exact hT'.keep fun b r _ q => x66 b r q, fun b hb => .inl hb⟩))
    · refine wc_ev [evA 0 0 eb3 e5, evF 1 2 (show SoundCall Tryd.prog 37 #[(vP t 0), (vS k)] h4 (vT #[(vA #[(vI 0), (vI 0), (vI 0), (vI 0), (vI 0)]), (vI 5)]) h10 from (by have w69 := s11; rw [(getE_ne c15).2.1, (getE_ne c15).2.2] at w69; exact w69)), evA 1 6 eb43 e45, evUw 1 7 size39 f46 e53, evFb 4 1 c61 sn57] .ret hh56 [(5, (vP b2 0)), (6, (vI 0)), (10, (vP t 0)), (11, (vS k)), (12, (vT #[(vA #[(vI 0), (vI 0), (vI 0), (vI 0), (vI 0)]), (vI 5)])), (9, (vT #[(vA #[(vI 0), (vI 0), (vI 0), (vI 0), (vI 0)]), (vI 5)])), (13, (vA #[(vI 0), (vI 0), (vI 0), (vI 0), (vI 0)])), (14, (vI 5)), (7, (vP b42 0)), (8, (vI 5)), (16, (vI 5)), (17, (vB false)), (15, (vB false)), (20, (vS k)), (21, (vB false)), (22, (vB true)), (19, (vB true)), (6, (vI 14))] ?_
      have ee : putE ms k c = 14 := by unfold putE; rw [if_neg (by rw [c61]; decide)]
      exact end_ev [] (vI 14) (hK _ _ (⟨by rw [ee], Chg.ext x60, O, by unfold putM; rw [ee, if_neg (by decide)]; exact hT'.keep fun b r _ q => x60 b r q, fun b hb => .inl hb⟩))
set_option maxHeartbeats 4000000 in
theorem sapply_ok (h : Heap) {O : Nat → Prop} {t : Nat} {ms : Sto} (hT : StAt 50 h O t ms) (ok : WfM ms) (k : ByteArray) (ph d : Int) : WCall Tryd.prog 22 #[(vP t 0), (vS k), (vI (ph)), (vI (d))] h (fun v h1 => v = .tuple #[.int .i64 (apSV ms k ph d), .int .i64 (apSE ms k ph d)] ∧ Chg O h h1 ∧ ∃ O', StAt 50 h1 O' t (apSM ms k ph d) ∧ ∀ b, O' b → O b ∨ h.size ≤ b) := by
  have hT' := hT
  obtain ⟨mb1, T⟩ := hT
  suffices H : ∀ K : Value → Heap → Prop, (∀ v h1, (fun v h1 => v = .tuple #[.int .i64 (apSV ms k ph d), .int .i64 (apSE ms k ph d)] ∧ Chg O h h1 ∧ ∃ O', StAt 50 h1 O' t (apSM ms k ph d) ∧ ∀ b, O' b → O b ∨ h.size ≤ b) v h1 → K v h1) → WCall Tryd.prog 22 #[(vP t 0), (vS k), (vI (ph)), (vI (d))] h K from H _ fun _ _ q => q
  intro K hK
  refine wcall_at { tmps := #[(vP t 0), (vS k), (vI ph), (vI d), vZ, vZ, vZ, vZ, vZ, vZ, vZ, vZ, vZ, vZ, vZ, vZ, vZ, vZ, vZ, vZ, vZ, vZ, vZ, vZ, vZ, vZ, vZ, vZ, vZ, vZ, vZ, vZ, vZ, vZ, vZ, vZ, vZ, vZ, vZ], defers := [] } (by kernel_rfl) ?_
  obtain ⟨_, h2, s3, rfl, x4⟩ := find_ok h (hT'.keep fun b r _ q => (Ext.refl h) b r q) ok k
  have x5 := (Ext.refl h).trans x4
  by_cases c6 : ((getE ms k) : Int) = 0
  · obtain ⟨b7, eb8⟩ : ∃ zq, zq = h2.size := ⟨_, rfl⟩
    obtain ⟨h9, e10⟩ : ∃ zq, zq = h2.push (.cells #[(vI 0), (vI 0), (vI 0), (vI 0), (vI 0)] 39 (0, 0)) := ⟨_, rfl⟩
    have f11 := push_new e10
    rw [← eb8] at f11
    have n12 : ∀ zz, (fun q => q = mb1) zz → ¬ zz = b7 := fun zz hz ez => by have := (T.map.keep fun b r _ q => x5 b r q).blk_lt hz; omega
    have x13 : Ext h2 h9 := by rw [e10]; exact Ext.push _ _
    have o14 : h.size ≤ b7 := by have := x5.size; omega
    have x15 := x5.trans x13
    obtain ⟨h16, e17⟩ : ∃ zq, zq = h9.setIfInBounds b7 (.cells #[(vI ((getC ms k).v)), (vI ((getC ms k).up)), (vI ((getC ms k).dn)), (vI ((getC ms k).lo)), (vI ((getC ms k).hi))] 39 (0, 0)) := ⟨_, rfl⟩
    have f18 := set_same e17 f11
    have x19 := Ext.setNew x15 e17 o14
    obtain ⟨v20, h21, s22, q23, q24, x25⟩ := apply_ok h16 (getC ms k) (ph) (d)
    have f26 := x25 _ _ f18
    have x27 := x19.trans x25
    by_cases c28 : ((appE (getC ms k) ph d) : Int) = 0
    · obtain ⟨h29, e30⟩ : ∃ zq, zq = h21.setIfInBounds b7 (.cells #[(vI ((appM (getC ms k) ph d).v)), (vI ((appM (getC ms k) ph d).up)), (vI ((appM (getC ms k) ph d).dn)), (vI ((appM (getC ms k) ph d).lo)), (vI ((appM (getC ms k) ph d).hi))] 39 (0, 0)) := ⟨_, rfl⟩
      have f31 := set_same e30 f26
      have x32 := Ext.setNew x27 e30 o14
      obtain ⟨h33, e34, p35, c36, z37⟩ := (T.map.keep fun b r _ q => x32 b r q).update_old mapty (getE_zero c6) (appM (getC ms k) ph d)
      have z38 : h.size ≤ h29.size := (Chg.ext (O := O) x32).size
      have x39 := (Chg.ext (O := O) x32).then c36 (fun b hb => .inl ((fun b hb => (T.foot b).2 (.inr hb)) b hb))
      have f40 := c36.same _ _ f31 (fun hb => n12 _ hb rfl)
      have f41 := c36.same _ _ (x32 _ _ T.row) (fun hb => (T.map.keep fun b r _ q => x32 b r q).ne (x32 _ _ T.row) (Eq.symm hb))
      refine wc_ev [evF 1 2 (show SoundCall Tryd.prog 37 #[(vP t 0), (vS k)] h (vT #[(vA #[(vI ((getC ms k).v)), (vI ((getC ms k).up)), (vI ((getC ms k).dn)), (vI ((getC ms k).lo)), (vI ((getC ms k).hi))]), (vI 0)]) h2 from (by have w42 := s3; rw [c6] at w42; exact w42)), evA 1 6 eb8 e10, evUw 1 7 size39 f11 e17, evLw 4 0 agg39 size39 f18, evF 4 3 (by rw [q24 c28] at s22; exact s22), evUw 4 7 size39 f26 e30, evC 7 3 0 agg48 (x32 _ _ T.row), evLw 7 5 agg39 size39 f31, evH 7 6 undef h33 (show (mapUpdateA Tryd.prog h29 48 (Value.map (some mb1)) (vS k) (vA #[(vI ((appM (getC ms k) ph d).v)), (vI ((appM (getC ms k) ph d).up)), (vI ((appM (getC ms k) ph d).dn)), (vI ((appM (getC ms k) ph d).lo)), (vI ((appM (getC ms k) ph d).hi))]) = some h33 ∧ (undef : Value) = undef) from ⟨e34, rfl⟩), evC 8 1 0 agg2 f40] .ret h33 [(8, (vI 0)), (9, (vI 0)), (13, (vP t 0)), (14, (vS k)), (15, (vT #[(vA #[(vI ((getC ms k).v)), (vI ((getC ms k).up)), (vI ((getC ms k).dn)), (vI ((getC ms k).lo)), (vI ((getC ms k).hi))]), (vI 0)])), (12, (vT #[(vA #[(vI ((getC ms k).v)), (vI ((getC ms k).up)), (vI ((getC ms k).dn)), (vI ((getC ms k).lo)), (vI ((getC ms k).hi))]), (vI 0)])), (16, (vA #[(vI ((getC ms k).v)), (vI ((getC ms k).up)), (vI ((getC ms k).dn)), (vI ((getC ms k).lo)), (vI ((getC ms k).hi))])), (17, (vI 0)), (10, (vP b7 0)), (11, (vI 0)), (18, (vI 0)), (19, (vB false)), (22, (vA #[(vI ((getC ms k).v)), (vI ((getC ms k).up)), (vI ((getC ms k).dn)), (vI ((getC ms k).lo)), (vI ((getC ms k).hi))])), (23, (vI ph)), (24, (vI d)), (25, (vT #[(vA #[(vI ((appM (getC ms k) ph d).v)), (vI ((appM (getC ms k) ph d).up)), (vI ((appM (getC ms k) ph d).dn)), (vI ((appM (getC ms k) ph d).lo)), (vI ((appM (getC ms k) ph d).hi))]), (vI 0)])), (21, (vT #[(vA #[(vI ((appM (getC ms k) ph d).v)), (vI ((appM (getC ms k) ph d).up)), (vI ((appM (getC ms k) ph d).dn)), (vI ((appM (getC ms k) ph d).lo)), (vI ((appM (getC ms k) ph d).hi))]), (vI 0)])), (26, (vA #[(vI ((appM (getC ms k) ph d).v)), (vI ((appM (getC ms k) ph d).up)), (vI ((appM (getC ms k) ph d).dn)), (vI ((appM (getC ms k) ph d).lo)), (vI ((appM (getC ms k) ph d).hi))])), (27, (vI 0)), (11, (vI 0)), (28, (vI 0)), (29, (vB false)), (31, (vP t 0)), (32, (vP t 0)), (33, (vP t 0)), (34, (Value.map (some mb1))), (35, (vS k)), (36, (vA #[(vI ((appM (getC ms k) ph d).v)), (vI ((appM (getC ms k) ph d).up)), (vI ((appM (getC ms k) ph d).dn)), (vI ((appM (getC ms k) ph d).lo)), (vI ((appM (getC ms k) ph d).hi))])), (37, (vP b7 0)), (38, (vI ((appM (getC ms k) ph d).v))), (8, (vI ((appM (getC ms k) ph d).v))), (9, (vI 0))] ?_
      have ee : apSE ms k ph d = appE (getC ms k) ph d := by unfold apSE; rw [if_pos c6]
      exact end_ev [] (vT #[(vI ((appM (getC ms k) ph d).v)), (vI 0)]) (hK _ _ (⟨by unfold apSV; rw [ee, if_pos c28, c28], x39, O, by unfold apSM; rw [ee, if_pos c28]; exact ⟨mb1, f41, p35, T.foot⟩, fun b hb => .inl hb⟩))
    · obtain ⟨h43, e44⟩ : ∃ zq, zq = h21.setIfInBounds b7 (.cells #[(vI 0), (vI 0), (vI 0), (vI 0), (vI 0)] 39 (0, 0)) := ⟨_, rfl⟩
      have x45 := Ext.setNew x27 e44 o14
      refine wc_ev [evF 1 2 (show SoundCall Tryd.prog 37 #[(vP t 0), (vS k)] h (vT #[(vA #[(vI ((getC ms k).v)), (vI ((getC ms k).up)), (vI ((getC ms k).dn)), (vI ((getC ms k).lo)), (vI ((getC ms k).hi))]), (vI 0)]) h2 from (by have w42 := s3; rw [c6] at w42; exact w42)), evA 1 6 eb8 e10, evUw 1 7 size39 f11 e17, evLw 4 0 agg39 size39 f18, evF 4 3 (by rw [q23 c28] at s22; exact s22), evUw 4 7 size39 f26 e44, neT 5 1 31 c28] .ret h43 [(8, (vI 0)), (9, (vI 0)), (13, (vP t 0)), (14, (vS k)), (15, (vT #[(vA #[(vI ((getC ms k).v)), (vI ((getC ms k).up)), (vI ((getC ms k).dn)), (vI ((getC ms k).lo)), (vI ((getC ms k).hi))]), (vI 0)])), (12, (vT #[(vA #[(vI ((getC ms k).v)), (vI ((getC ms k).up)), (vI ((getC ms k).dn)), (vI ((getC ms k).lo)), (vI ((getC ms k).hi))]), (vI 0)])), (16, (vA #[(vI ((getC ms k).v)), (vI ((getC ms k).up)), (vI ((getC ms k).dn)), (vI ((getC ms k).lo)), (vI ((getC ms k).hi))])), (17, (vI 0)), (10, (vP b7 0)), (11, (vI 0)), (18, (vI 0)), (19, (vB false)), (22, (vA #[(vI ((getC ms k).v)), (vI ((getC ms k).up)), (vI ((getC ms k).dn)), (vI ((getC ms k).lo)), (vI ((getC ms k).hi))])), (23, (vI ph)), (24, (vI d)), (25, (vT #[(vA #[(vI 0), (vI 0), (vI 0), (vI 0), (vI 0)]), (vI (appE (getC ms k) ph d))])), (21, (vT #[(vA #[(vI 0), (vI 0), (vI 0), (vI 0), (vI 0)]), (vI (appE (getC ms k) ph d))])), (26, (vA #[(vI 0), (vI 0), (vI 0), (vI 0), (vI 0)])), (27, (vI (appE (getC ms k) ph d))), (11, (vI (appE (getC ms k) ph d))), (28, (vI (appE (getC ms k) ph d))), (29, (vB true)), (30, (vI (appE (getC ms k) ph d))), (8, (vI 0)), (9, (vI (appE (getC ms k) ph d)))] ?_
      have ee : apSE ms k ph d = appE (getC ms k) ph d := by unfold apSE; rw [if_pos c6]
      exact end_ev [] (vT #[(vI 0), (vI (appE (getC ms k) ph d))]) (hK _ _ (⟨by unfold apSV; rw [ee, if_neg c28], Chg.ext x45, O, by unfold apSM; rw [ee, if_neg c28]; exact hT'.keep fun b r _ q => x45 b r q, fun b hb => .inl hb⟩))
  · obtain ⟨b46, eb47⟩ : ∃ zq, zq = h2.size := ⟨_, rfl⟩
    obtain ⟨h48, e49⟩ : ∃ zq, zq = h2.push (.cells #[(vI 0), (vI 0), (vI 0), (vI 0), (vI 0)] 39 (0, 0)) := ⟨_, rfl⟩
    have f50 := push_new e49
    rw [← eb47] at f50
    have x51 : Ext h2 h48 := by rw [e49]; exact Ext.push _ _
    have o52 : h.size ≤ b46 := by have := x5.size; omega
    have x53 := x5.trans x51
    obtain ⟨h54, e55⟩ : ∃ zq, zq = h48.setIfInBounds b46 (.cells #[(vI 0), (vI 0), (vI 0), (vI 0), (vI 0)] 39 (0, 0)) := ⟨_, rfl⟩
    have x56 := Ext.setNew x53 e55 o52
    refine wc_ev [evF 1 2 (show SoundCall Tryd.prog 37 #[(vP t 0), (vS k)] h (vT #[(vA #[(vI 0), (vI 0), (vI 0), (vI 0), (vI 0)]), (vI 5)]) h2 from (by have w57 := s3; rw [(getE_ne c6).2.1, (getE_ne c6).2.2] at w57; exact w57)), evA 1 6 eb47 e49, evUw 1 7 size39 f50 e55] .ret h54 [(8, (vI 0)), (9, (vI 0)), (13, (vP t 0)), (14, (vS k)), (15, (vT #[(vA #[(vI 0), (vI 0), (vI 0), (vI 0), (vI 0)]), (vI 5)])), (12, (vT #[(vA #[(vI 0), (vI 0), (vI 0), (vI 0), (vI 0)]), (vI 5)])), (16, (vA #[(vI 0), (vI 0), (vI 0), (vI 0), (vI 0)])), (17, (vI 5)), (10, (vP b46 0)), (11, (vI 5)), (18, (vI 5)), (19, (vB true)), (20, (vI 5)), (8, (vI 0)), (9, (vI 5))] ?_
    have ee : apSE ms k ph d = 5 := by unfold apSE; rw [if_neg c6]
    exact end_ev [] (vT #[(vI 0), (vI 5)]) (hK _ _ (⟨by unfold apSV; rw [ee, if_neg (by decide)], Chg.ext x56, O, by unfold apSM; rw [ee, if_neg (by decide)]; exact hT'.keep fun b r _ q => x56 b r q, fun b hb => .inl hb⟩))
set_option maxHeartbeats 4000000 in
theorem remove_ok (h : Heap) {O : Nat → Prop} {t : Nat} {ms : Sto} (hT : StAt 50 h O t ms) (ok : WfM ms) (k : ByteArray) : WCall Tryd.prog 24 #[(vP t 0), (vS k)] h (fun v h1 => v = .int .i64 (getE ms k) ∧ Chg O h h1 ∧ ∃ O', StAt 50 h1 O' t (remM ms k) ∧ ∀ b, O' b → O b ∨ h.size ≤ b) := by
  have hT' := hT
  obtain ⟨mb1, T⟩ := hT
  suffices H : ∀ K : Value → Heap → Prop, (∀ v h1, (fun v h1 => v = .int .i64 (getE ms k) ∧ Chg O h h1 ∧ ∃ O', StAt 50 h1 O' t (remM ms k) ∧ ∀ b, O' b → O b ∨ h.size ≤ b) v h1 → K v h1) → WCall Tryd.prog 24 #[(vP t 0), (vS k)] h K from H _ fun _ _ q => q
  intro K hK
  refine wcall_at { tmps := #[(vP t 0), (vS k), vZ, vZ, vZ, vZ, vZ, vZ, vZ, vZ, vZ, vZ, vZ, vZ, vZ, vZ, vZ, vZ, vZ, vZ, vZ], defers := [] } (by kernel_rfl) ?_
  obtain ⟨_, h2, s3, rfl, x4⟩ := find_ok h (hT'.keep fun b r _ q => (Ext.refl h) b r q) ok k
  have x5 := (Ext.refl h).trans x4
  by_cases c6 : ((getE ms k) : Int) = 0
  · obtain ⟨b7, eb8⟩ : ∃ zq, zq = h2.size := ⟨_, rfl⟩
    obtain ⟨h9, e10⟩ : ∃ zq, zq = h2.push (.cells #[(vI 0), (vI 0), (vI 0), (vI 0), (vI 0)] 39 (0, 0)) := ⟨_, rfl⟩
    have f11 := push_new e10
    rw [← eb8] at f11
    have x12 : Ext h2 h9 := by rw [e10]; exact Ext.push _ _
    have o13 : h.size ≤ b7 := by have := x5.size; omega
    have x14 := x5.trans x12
    obtain ⟨h15, e16⟩ : ∃ zq, zq = h9.setIfInBounds b7 (.cells #[(vI ((getC ms k).v)), (vI ((getC ms k).up)), (vI ((getC ms k).dn)), (vI ((getC ms k).lo)), (vI ((getC ms k).hi))] 39 (0, 0)) := ⟨_, rfl⟩
    have x17 := Ext.setNew x14 e16 o13
    obtain ⟨h18, e19, p20, c21, z22⟩ := (T.map.keep fun b r _ q => x17 b r q).delete_some mapty (getE_zero c6)
    have z23 : h.size ≤ h15.size := (Chg.ext (O := O) x17).size
    have x24 := (Chg.ext (O := O) x17).then c21 (fun b hb => .inl ((fun b hb => (T.foot b).2 (.inr hb)) b hb))
    have f25 := c21.same _ _ (x17 _ _ T.row) (fun hb => (T.map.keep fun b r _ q => x17 b r q).ne (x17 _ _ T.row) (Eq.symm hb))
    refine wc_ev [evF 1 2 (show SoundCall Tryd.prog 37 #[(vP t 0), (vS k)] h (vT #[(vA #[(vI ((getC ms k).v)), (vI ((getC ms k).up)), (vI ((getC ms k).dn)), (vI ((getC ms k).lo)), (vI ((getC ms k).hi))]), (vI 0)]) h2 from (by have w26 := s3; rw [c6] at w26; exact w26)), evA 1 6 eb8 e10, evUw 1 7 size39 f11 e16, evC 4 3 0 agg48 (x17 _ _ T.row), evH 4 5 vZ h18 (show (deleteA Tryd.prog h15 48 (Value.map (some mb1)) (vS k) = some h18 ∧ vZ = (vT #[] : Value)) from ⟨e19, rfl⟩)] .ret h18 [(4, (vI 0)), (8, (vP t 0)), (9, (vS k)), (10, (vT #[(vA #[(vI ((getC ms k).v)), (vI ((getC ms k).up)), (vI ((getC ms k).dn)), (vI ((getC ms k).lo)), (vI ((getC ms k).hi))]), (vI 0)])), (7, (vT #[(vA #[(vI ((getC ms k).v)), (vI ((getC ms k).up)), (vI ((getC ms k).dn)), (vI ((getC ms k).lo)), (vI ((getC ms k).hi))]), (vI 0)])), (11, (vA #[(vI ((getC ms k).v)), (vI ((getC ms k).up)), (vI ((getC ms k).dn)), (vI ((getC ms k).lo)), (vI ((getC ms k).hi))])), (12, (vI 0)), (5, (vP b7 0)), (6, (vI 0)), (13, (vI 0)), (14, (vB false)), (16, (vP t 0)), (17, (vP t 0)), (18, (vP t 0)), (19, (Value.map (some mb1))), (20, (vS k)), (4, (vI 0))] ?_
    exact end_ev [] (vI 0) (hK _ _ (⟨by rw [c6], x24, O, ⟨mb1, f25, p20, T.foot⟩, fun b hb => .inl hb⟩))
  · obtain ⟨b27, eb28⟩ : ∃ zq, zq = h2.size := ⟨_, rfl⟩
    obtain ⟨h29, e30⟩ : ∃ zq, zq = h2.push (.cells #[(vI 0), (vI 0), (vI 0), (vI 0), (vI 0)] 39 (0, 0)) := ⟨_, rfl⟩
    have f31 := push_new e30
    rw [← eb28] at f31
    have x32 : Ext h2 h29 := by rw [e30]; exact Ext.push _ _
    have o33 : h.size ≤ b27 := by have := x5.size; omega
    have x34 := x5.trans x32
    obtain ⟨h35, e36⟩ : ∃ zq, zq = h29.setIfInBounds b27 (.cells #[(vI 0), (vI 0), (vI 0), (vI 0), (vI 0)] 39 (0, 0)) := ⟨_, rfl⟩
    have x37 := Ext.setNew x34 e36 o33
    refine wc_ev [evF 1 2 (show SoundCall Tryd.prog 37 #[(vP t 0), (vS k)] h (vT #[(vA #[(vI 0), (vI 0), (vI 0), (vI 0), (vI 0)]), (vI 5)]) h2 from (by have w38 := s3; rw [(getE_ne c6).2.1, (getE_ne c6).2.2] at w38; exact w38)), evA 1 6 eb28 e30, evUw 1 7 size39 f31 e36] .ret h35 [(4, (vI 0)), (8, (vP t 0)), (9, (vS k)), (10, (vT #[(vA #[(vI 0), (vI 0), (vI 0), (vI 0), (vI 0)]), (vI 5)])), (7, (vT #[(vA #[(vI 0), (vI 0), (vI 0), (vI 0), (vI 0)]), (vI 5)])), (11, (vA #[(vI 0), (vI 0), (vI 0), (vI 0), (vI 0)])), (12, (vI 5)), (5, (vP b27 0)), (6, (vI 5)), (13, (vI 5)), (14, (vB true)), (15, (vI 5)), (4, (vI 5))] ?_
    exact end_ev [] (vI 5) (hK _ _ (⟨by rw [(getE_ne c6).2.1], Chg.ext x37, O, by rw [remM_none (getE_ne c6).1]; exact hT'.keep fun b r _ q => x37 b r q, fun b hb => .inl hb⟩))
set_option maxHeartbeats 4000000 in
theorem len_ok (h : Heap) {O : Nat → Prop} {t : Nat} {ms : Sto} (hT : StAt 50 h O t ms) (ok : WfM ms) : WCall Tryd.prog 25 #[(vP t 0)] h (fun v h1 => v = .int .i64 ((ms.length : Nat) : Int) ∧ h = h1) := by
  have hT' := hT
  obtain ⟨mb1, T⟩ := hT
  obtain ⟨_, _, sn2, rfl, rfl⟩ := valid_ok h T.row
  exact hCall_ev [evF 1 1 sn2, evC 3 3 0 agg48 T.row, evV 3 4 (vI ((ms.length : Nat))) (show lenA Tryd.prog h 48 (Value.map (some mb1)) = some (vI ((ms.length : Nat))) from T.map.len_eq mapty)] [] (vI ((ms.length : Nat))) h ⟨rfl, rfl⟩
set_option maxHeartbeats 4000000 in
theorem copy_ok (h : Heap) {O : Nat → Prop} {t : Nat} {ms : Sto} (hT : StAt 50 h O t ms) (ok : WfM ms) : WCall Tryd.prog 26 #[(vP t 0)] h (fun v h1 => ∃ b O, v = .pointer (some ⟨b, 0, none⟩) ∧ StAt 50 h1 O b ms ∧ Ext h h1 ∧ ∀ z, O z → h.size ≤ z) := by
  have hT' := hT
  obtain ⟨mb1, T⟩ := hT
  obtain ⟨_, _, sn2, rfl, rfl⟩ := valid_ok h T.row
  obtain ⟨b3, eb4⟩ : ∃ zq, zq = h.size := ⟨_, rfl⟩
  obtain ⟨h5, s6, p7, x8, z9⟩ := T.map.clone clone_calls
  rw [← eb4] at s6 p7
  have w10 : ∀ z, (fun q => q = b3) z → h.size ≤ z := fun z hz => by have w1 : z = b3 := hz; omega
  have x11 := (Ext.refl h).trans x8
  have z12 : h.size ≤ h.size := (Ext.refl h).size
  have o13 : ∀ zz, (fun q => q = b3) zz → h.size ≤ zz := fun zz hz => by have := w10 zz hz; omega
  obtain ⟨b14, eb15⟩ : ∃ zq, zq = h5.size := ⟨_, rfl⟩
  obtain ⟨h16, e17⟩ : ∃ zq, zq = h5.push (.cells #[(Value.map (some b3))] 50 (0, 0)) := ⟨_, rfl⟩
  have f18 := push_new e17
  rw [← eb15] at f18
  have x19 : Ext h5 h16 := by rw [e17]; exact Ext.push _ _
  have o20 : h.size ≤ b14 := by have := x11.size; omega
  have p21 := p7.keep fun b r _ q => x19 b r q
  have x22 := x11.trans x19
  exact hCall_ev [evF 1 1 sn2, evC 3 3 0 agg48 T.row, evF 3 4 s6, evA 3 6 eb15 e17] [] (vP b14 0) h16 ⟨b14, _, rfl, st_new f18 p21, x22, fun z hz => hz.elim (fun w => by have := o20; omega) (fun w => o13 z w)⟩
set_option maxHeartbeats 4000000 in
theorem each_fn (h : Heap) (t : Nat) : WCall Tryd.prog 31 #[(vP t 0)] h (fun v h1 => ∃ b, v = .func (.func 46) #[] #[.pointer (some ⟨b, 0, none⟩)] ∧ h1[b]? = some (.cells #[(vP t 0)] 27 (0, 0)) ∧ Ext h h1 ∧ h.size ≤ b) := by
  obtain ⟨b1, eb2⟩ : ∃ zq, zq = h.size := ⟨_, rfl⟩
  obtain ⟨h3, e4⟩ : ∃ zq, zq = h.push (.cells #[(vP t 0)] 27 (0, 0)) := ⟨_, rfl⟩
  have f5 := push_new e4
  rw [← eb2] at f5
  have x6 : Ext h h3 := by rw [e4]; exact Ext.push _ _
  have o7 : h.size ≤ b1 := by have := (Ext.refl h).size; omega
  have x8 := (Ext.refl h).trans x6
  exact hCall_ev [evA 0 0 eb2 e4] [] (Value.func (.func 46) #[] #[(vP b1 0)]) h3 ⟨_, rfl, f5, x8, o7⟩
set_option maxHeartbeats 4000000 in
theorem each_nil (h : Heap)  : WCall Tryd.prog 31 #[(Value.pointer none)] h (fun v h1 => ∃ b, v = .func (.func 46) #[] #[.pointer (some ⟨b, 0, none⟩)] ∧ h1[b]? = some (.cells #[(Value.pointer none)] 27 (0, 0)) ∧ Ext h h1 ∧ h.size ≤ b) := by
  obtain ⟨b1, eb2⟩ : ∃ zq, zq = h.size := ⟨_, rfl⟩
  obtain ⟨h3, e4⟩ : ∃ zq, zq = h.push (.cells #[(Value.pointer none)] 27 (0, 0)) := ⟨_, rfl⟩
  have f5 := push_new e4
  rw [← eb2] at f5
  have x6 : Ext h h3 := by rw [e4]; exact Ext.push _ _
  have o7 : h.size ≤ b1 := by have := (Ext.refl h).size; omega
  have x8 := (Ext.refl h).trans x6
  exact hCall_ev [evA 0 0 eb2 e4] [] (Value.func (.func 46) #[] #[(vP b1 0)]) h3 ⟨_, rfl, f5, x8, o7⟩
set_option maxHeartbeats 4000000 in
theorem each_it (h : Heap) {O : Nat → Prop} {t : Nat} {ms : Sto} (hT : StAt 50 h O t ms) (ok : WfM ms) (bx : Nat) (hx : h[bx]? = some (.cells #[.pointer (some ⟨t, 0, none⟩)] 27 (0, 0))) (l : Nat) (I : Nat → (Nat → Prop) → Heap → Prop) (E : Heap → Prop) (D0 : Nat → Prop) (hF : ∀ b, O b → ¬ D0 b) (hG : ∀ z, D0 z → z < h.size) (hB : ¬ D0 bx) (hX : ∀ k D h' h'', I k D h' → Ext h' h'' → I k D h'') (hy : ∀ k y D h', (ms)[k]? = some y → I k D h' → ∃ b h'' D', SoundYield Tryd.prog l #[(vS y.1), (Value.agg #[(vI (y.2.v)), (vI (y.2.up)), (vI (y.2.dn)), (vI (y.2.lo)), (vI (y.2.hi))])] h' (.bool b) h'' ∧ Chg D h' h'' ∧ (∀ z, D' z → D z ∨ h'.size ≤ z) ∧ (if b = true then I (k + 1) D' h'' else E h'')) (h0 : I 0 D0 h) : WCall Tryd.prog 46 #[(Value.func (.yield l) #[] #[]), (vP bx 0)] h (fun _ h1 => Chg D0 h h1 ∧ ((∃ D, I (ms).length D h1 ∧ ∀ z, D z → D0 z ∨ h.size ≤ z) ∨ E h1)) := by
  obtain ⟨mb1, T⟩ := hT
  suffices H : ∀ K : Value → Heap → Prop, (∀ v h1, (fun _ h1 => Chg D0 h h1 ∧ ((∃ D, I (ms).length D h1 ∧ ∀ z, D z → D0 z ∨ h.size ≤ z) ∨ E h1)) v h1 → K v h1) → WCall Tryd.prog 46 #[(Value.func (.yield l) #[] #[]), (vP bx 0)] h K from H _ fun _ _ q => q
  intro K hK
  refine wcall_at { tmps := #[(Value.func (.yield l) #[] #[]), (vP bx 0), vZ, vZ, vZ, vZ, vZ, vZ, vZ, vZ, vZ, vZ, vZ, vZ, vZ, vZ, vZ, vZ, vZ, vZ, vZ, vZ, vZ, vZ, vZ, vZ, vZ, vZ, vZ, vZ], defers := [] } (by kernel_rfl) ?_
  refine wc_seq' (subc (bodyOf Tryd.prog 46) [0]) (subc (bodyOf Tryd.prog 46) [1]) (by kernel_rfl) ?_
  obtain ⟨_, _, sn2, rfl, rfl⟩ := valid_ok h ((Chg.refl (O := D0) h).same _ _ T.row (hF t ((T.foot t).2 (.inl rfl))))
  refine wc_ev [evC 0 0 0 agg27 ((Chg.refl (O := D0) h).same _ _ hx hB), evF 0 1 sn2] .normal h [(5, (vP t 0)), (6, (vB true)), (7, (vB false))] ?_
  refine wc_seq' (subc (bodyOf Tryd.prog 46) [1, 0]) (subc (bodyOf Tryd.prog 46) [1, 1]) (by kernel_rfl) ?_
  obtain ⟨_, h3, s4, b5, rfl, f6, x7, o8⟩ := keys_fn h mb1
  have oo9 : h.size ≤ b5 := by have := (Chg.refl (O := D0) h).size; omega
  have x10 := (Chg.refl (O := D0) h).trans (Chg.ext x7)
  have sx11 := (Ext.refl h).trans x7
  obtain ⟨w12, h13, s14, o15, x16, n17⟩ := MapAt.sorted (k := 9) (by kernel_rfl) str_tsz sorted_calls f6 (T.map.keep fun b r hb q => x10.same b r q ((fun b hb => hF b ((T.foot b).2 (.inr hb))) b hb)) ok.ord (fun p hp => by have := name_size (ok.names p hp); unfold maxLen; omega) (by have := ok.few; omega)
  obtain ⟨a18, c19, rfl⟩ := (o15.slice strc_size).len
  have o20 : OwnAt h13 9 strc (ksL ms) (.slice a18 (ksL ms).length c19) := o15
  have x21 := x10.trans (Chg.ext x16)
  have sx22 := sx11.trans x16
  have z23 : h.size ≤ h3.size := x10.size
  have o24 : ∀ zz, blk (Value.slice a18 ((ksL ms).length) (c19)) zz → h.size ≤ zz := fun zz hz => by have := n17 zz hz; omega
  refine wc_ev [evC 1 0 0 agg27 ((Chg.refl (O := D0) h).same _ _ hx hB), evC 1 3 0 agg48 ((Chg.refl (O := D0) h).same _ _ T.row (hF t ((T.foot t).2 (.inl rfl)))), evF 1 4 s4, evF 1 5 s14] .normal h13 [(8, (vP t 0)), (9, (vP t 0)), (10, (vP t 0)), (11, (Value.map (some mb1))), (12, (Value.func (.func 65) #[] #[(vP b5 0)])), (13, (vL a18 ((ksL ms).length) c19)), (14, (vI (((ksL ms).length : Nat)))), (15, (vI 0))] ?_
  refine wc_block' 0 (subc (bodyOf Tryd.prog 46) [1, 1, 0]) (by kernel_rfl) ?_
  refine wc_loop' (subc (bodyOf Tryd.prog 46) [1, 1, 0, 0]) (by kernel_rfl) (fun n' a' h' => ∃ (k : Int) (DD : Nat → Prop) (g0 : Nat → Value), a' = { tmps := #[(Value.func (.yield l) #[] #[]), (vP bx 0), vZ, vZ, (g0 4), (vP t 0), (vB true), (vB false), (vP t 0), (vP t 0), (vP t 0), (Value.map (some mb1)), (Value.func (.func 65) #[] #[(vP b5 0)]), (vL a18 ((ksL ms).length) c19), (vI (((ksL ms).length : Nat))), (vI k), (g0 16), (g0 17), (g0 18), (g0 19), (g0 20), (g0 21), (g0 22), (g0 23), (g0 24), (g0 25), (g0 26), (g0 27), (g0 28), (g0 29)], defers := [] } ∧ Chg D0 h h' ∧ n' = ms.length - k.toNat ∧ (0 ≤ k ∧ k ≤ (ms.length : Nat)) ∧ I (k.toNat) DD h' ∧ (∀ z, DD z → D0 z ∨ h.size ≤ z) ∧ (∀ zz, (blk (vL a18 ((ksL ms).length) c19)) zz → ¬ DD zz) ∧ OwnAt h' 9 strc (ksL ms) (vL a18 ((ksL ms).length) c19)) ?_ (ms.length - (0 : Int).toNat) ⟨0, D0, (fun i => ([vU, vU, vU, vU, vZ, vU, vU, vU, vU, vU, vU, vU, vU, vU, vU, vU, vZ, vZ, vZ, vZ, vZ, vZ, vZ, vZ, vZ, vZ, vZ, vZ, vZ, vZ] : List Value).getD i undef), by as_aux_lemma => kernel_rfl, x21, rfl, by omega, (hX _ _ _ _ h0 sx22), (fun z hz => .inl hz), (fun zz hz w => by have := o24 zz hz; have := hG zz w; omega), o20⟩
  rintro n' _ h25 ⟨k, DD, g0, rfl, x26, m27, i28, i29, i30, i31, p32⟩
  have lk := ksL_len ms
  have few := ok.few
  by_cases c33 : ((k) : Int) < (((ksL ms).length : Nat))
  · obtain ⟨i34, v35, e36, l37, g38⟩ := list_at (ksL ms) (e := (k)) (by omega) (by first | omega | (simp only [List.length_set, List.length_append, List.length_singleton]; omega))
    obtain ⟨b39, o40, q41, a42, k43, u44⟩ := p32.store strc_size g38
    obtain ⟨cv45, hcv46⟩ := ksL_at g38
    have fkv47 := find_at ok hcv46
    have yk : ms[k.toNat]? = some (v35, cv45) := by rw [show k.toNat = i34 by omega]; exact hcv46
    obtain ⟨bb48, h49, D1269, s50, c51, n52, q53⟩ := hy (k.toNat) (v35, cv45) _ h25 yk (hX _ _ _ _ i29 (Ext.refl h25))
    have z54 : h.size ≤ h25.size := x26.size
    have x55 := x26.then c51 i30
    have n56 : ∀ zz, (blk (Value.slice a18 ((ksL ms).length) (c19))) zz → ¬ D1269 zz := fun zz hz w => (n52 zz w).elim (i31 zz hz) (fun g => by have := p32.blk_lt hz; omega)
    have p57 := p32.keep fun b r hb q => c51.same b r q (i31 b hb)
    have d58 : ∀ z, D1269 z → D0 z ∨ h.size ≤ z := fun z hz => (n52 z hz).elim (i30 z) (fun w => .inr (by omega))
    rcases bb48 with _ | _
    · rw [if_neg (by decide)] at q53
      refine wc_ev [ltT 2 0 3 c33, evV 3 0 (vP b39 o40) (show indexAddrA Tryd.prog 29 (vL a18 ((ksL ms).length) c19) (vI k) = some (vP b39 o40) from a42 und29 size9 e36), evV 3 1 (vS v35) (show loadT Tryd.prog h25 9 (vP b39 o40) = some (vS v35) from k43.cell (j := 0) agg9 rfl), evC 4 2 0 agg27 (x26.same _ _ hx hB), evC 4 5 0 agg48 (x26.same _ _ T.row (hF t ((T.foot t).2 (.inl rfl)))), evV 4 7 (vA #[(vI cv45.v), (vI cv45.up), (vI cv45.dn), (vI cv45.lo), (vI cv45.hi)]) (show lookupA Tryd.prog h25 48 (Value.map (some mb1)) (vS v35) false = some (vA #[(vI cv45.v), (vI cv45.up), (vI cv45.dn), (vI cv45.lo), (vI cv45.hi)]) from (T.map.keep fun b r hb q => x26.same b r q ((fun b hb => hF b ((T.foot b).2 (.inr hb))) b hb)).lookup_some mapty fkv47 false), evH 4 8 (vB false) h49 (show SoundYield Tryd.prog l #[(vS v35), (vA #[(vI cv45.v), (vI cv45.up), (vI cv45.dn), (vI cv45.lo), (vI cv45.hi)])] h25 (vB false) h49 from s50)] .ret h49 [(16, (vB true)), (17, (vP b39 o40)), (18, (vS v35)), (4, (vS v35)), (19, (Value.func (.yield l) #[] #[])), (20, (vS v35)), (21, (vP t 0)), (22, (vP t 0)), (23, (vP t 0)), (24, (Value.map (some mb1))), (25, (vS v35)), (26, (vA #[(vI cv45.v), (vI cv45.up), (vI cv45.dn), (vI cv45.lo), (vI cv45.hi)])), (27, (vB false)), (28, (vB true))] ?_
      exact end_ev [] vZ (hK _ _ (⟨x55, .inr q53⟩))
    · rw [if_pos rfl] at q53
      refine wc_ev [ltT 2 0 3 c33, evV 3 0 (vP b39 o40) (show indexAddrA Tryd.prog 29 (vL a18 ((ksL ms).length) c19) (vI k) = some (vP b39 o40) from a42 und29 size9 e36), evV 3 1 (vS v35) (show loadT Tryd.prog h25 9 (vP b39 o40) = some (vS v35) from k43.cell (j := 0) agg9 rfl), evC 4 2 0 agg27 (x26.same _ _ hx hB), evC 4 5 0 agg48 (x26.same _ _ T.row (hF t ((T.foot t).2 (.inl rfl)))), evV 4 7 (vA #[(vI cv45.v), (vI cv45.up), (vI cv45.dn), (vI cv45.lo), (vI cv45.hi)]) (show lookupA Tryd.prog h25 48 (Value.map (some mb1)) (vS v35) false = some (vA #[(vI cv45.v), (vI cv45.up), (vI cv45.dn), (vI cv45.lo), (vI cv45.hi)]) from (T.map.keep fun b r hb q => x26.same b r q ((fun b hb => hF b ((T.foot b).2 (.inr hb))) b hb)).lookup_some mapty fkv47 false), evH 4 8 (vB true) h49 (show SoundYield Tryd.prog l #[(vS v35), (vA #[(vI cv45.v), (vI cv45.up), (vI cv45.dn), (vI cv45.lo), (vI cv45.hi)])] h25 (vB true) h49 from s50), evV 5 0 (vI ((k) + 1)) (show binA Tryd.prog .add 3 (vI k) (vI 1) = some (vI ((k) + 1)) from add_i64 (by omega) (by omega))] .normal h49 [(16, (vB true)), (17, (vP b39 o40)), (18, (vS v35)), (4, (vS v35)), (19, (Value.func (.yield l) #[] #[])), (20, (vS v35)), (21, (vP t 0)), (22, (vP t 0)), (23, (vP t 0)), (24, (Value.map (some mb1))), (25, (vS v35)), (26, (vA #[(vI cv45.v), (vI cv45.up), (vI cv45.dn), (vI cv45.lo), (vI cv45.hi)])), (27, (vB true)), (28, (vB false)), (29, (vI ((k) + 1))), (15, (vI ((k) + 1)))] ?_
      exact ⟨ms.length - (k + 1).toNat, by omega, ⟨k + 1, D1269, (fun i => ([vU, vU, vU, vU, (vS v35), vU, vU, vU, vU, vU, vU, vU, vU, vU, vU, vU, (vB true), (vP b39 o40), (vS v35), (Value.func (.yield l) #[] #[]), (vS v35), (vP t 0), (vP t 0), (vP t 0), (Value.map (some mb1)), (vS v35), (vA #[(vI cv45.v), (vI cv45.up), (vI cv45.dn), (vI cv45.lo), (vI cv45.hi)]), (vB true), (vB false), (vI ((k) + 1))] : List Value).getD i undef), by as_aux_lemma => kernel_rfl, x55, rfl, by have := ksL_len ms; omega, (by have q := (hX _ _ _ _ q53 (Ext.refl h49)); rw [show k.toNat + 1 = (k + 1).toNat from (by omega)] at q; exact q), d58, n56, p57⟩⟩
  · refine wc_ev [ltF 2 0 3 c33] (.exit 0) h25 [(16, (vB false))] ?_
    exact end_ev [] vZ (hK _ _ (⟨x26, .inl ⟨DD, (by have q := (hX _ _ _ _ i29 (Ext.refl h25)); rw [show k.toNat = ms.length by omega] at q; exact q), i30⟩⟩))
theorem take_len (m : Sto) (k : Nat) : (ksL (m.take k)).length ≤ m.length := by unfold ksL; rw [List.length_map, List.length_take]; omega
theorem take_lenv (m : Sto) (k : Nat) : (valsL (m.take k)).length ≤ m.length := by unfold valsL; rw [List.length_map, List.length_take]; omega
theorem take_lenf (m : Sto) (F : ByteArray → Bool) (k : Nat) : ((ksL (m.take k)).filter F).length ≤ m.length := Nat.le_trans (List.length_filter_le _ _) (take_len m k)
theorem ksL_next {m : Sto} {k : Nat} {y : ByteArray × CntM} (h : m[k]? = some y) : ksL (m.take (k + 1)) = ksL (m.take k) ++ [y.1] := by unfold ksL; rw [take_next h, List.map_append]; rfl
theorem valsL_next {m : Sto} {k : Nat} {y : ByteArray × CntM} (h : m[k]? = some y) : valsL (m.take (k + 1)) = valsL (m.take k) ++ [y.2.v] := by unfold valsL; rw [take_next h, List.map_append]; rfl
set_option maxHeartbeats 4000000 in
theorem keys_ok (h : Heap) {O : Nat → Prop} {t : Nat} {ms : Sto} (hT : StAt 50 h O t ms) (ok : WfM ms) : WCall Tryd.prog 13 #[(vP t 0)] h (fun v h1 => ∃ oa oc, v = .slice oa (ksL ms).length oc ∧ OwnAt h1 9 strc (ksL ms) v ∧ Ext h h1 ∧ ∀ b, blk v b → h.size ≤ b) := by
  have hT' := hT
  obtain ⟨mb1, T⟩ := hT
  suffices H : ∀ K : Value → Heap → Prop, (∀ v h1, (fun v h1 => ∃ oa oc, v = .slice oa (ksL ms).length oc ∧ OwnAt h1 9 strc (ksL ms) v ∧ Ext h h1 ∧ ∀ b, blk v b → h.size ≤ b) v h1 → K v h1) → WCall Tryd.prog 13 #[(vP t 0)] h K from H _ fun _ _ q => q
  intro K hK
  refine wcall_at { tmps := #[(vP t 0), vZ, vZ, vZ, vZ, vZ, vZ, vZ, vZ, vZ, vZ, vZ, vZ, vZ], defers := [] } (by kernel_rfl) ?_
  refine wc_seq' (subc (bodyOf Tryd.prog 13) [0]) (subc (bodyOf Tryd.prog 13) [1]) (by kernel_rfl) ?_
  refine wc_ev [] .normal h [(2, (vL none 0 0))] ?_
  refine wc_seq' (subc (bodyOf Tryd.prog 13) [1, 0]) (subc (bodyOf Tryd.prog 13) [1, 1]) (by kernel_rfl) ?_
  obtain ⟨b2, eb3⟩ : ∃ zq, zq = h.size := ⟨_, rfl⟩
  obtain ⟨h4, e5⟩ : ∃ zq, zq = h.push (.cells #[(Value.slice none 0 0)] 29 (0, 0)) := ⟨_, rfl⟩
  have f6 := push_new e5
  rw [← eb3] at f6
  have x7 : Ext h h4 := by rw [e5]; exact Ext.push _ _
  have o8 : h.size ≤ b2 := by have := (Ext.refl h).size; omega
  have x9 := (Ext.refl h).trans x7
  refine wc_ev [evA 1 0 eb3 e5] .normal h4 [(3, (vP b2 0))] ?_
  refine wc_seq' (subc (bodyOf Tryd.prog 13) [1, 1, 0]) (subc (bodyOf Tryd.prog 13) [1, 1, 1]) (by kernel_rfl) ?_
  refine wc_seq' (subc (bodyOf Tryd.prog 13) [1, 1, 0, 0]) (subc (bodyOf Tryd.prog 13) [1, 1, 0, 1]) (by kernel_rfl) ?_
  obtain ⟨_, h10, s11, b12, rfl, f13, x14, o15⟩ := each_fn h4 t
  have n16 : b12 ≠ b2 := by have := row_lt f6; omega
  have oo17 : h.size ≤ b12 := by have := x9.size; omega
  have f18 := x14 _ _ f6
  have x19 := x9.trans x14
  refine wc_ev [evF 2 1 s11] .normal h10 [(5, (vP t 0)), (6, (Value.func (.func 46) #[] #[(vP b12 0)]))] ?_
  refine wc_block' 0 (subc (bodyOf Tryd.prog 13) [1, 1, 0, 1, 0]) (by kernel_rfl) ?_
  refine wc_act { tmps := #[(vP t 0), vZ, (vL none 0 0), (vP b2 0), vZ, (vP t 0), (Value.func (.func 46) #[] #[(vP b12 0)]), vZ, vZ, vZ, vZ, vZ, vZ, vZ], defers := [] } (by kernel_rfl) ?_
  obtain ⟨dv20, edv21⟩ : ∃ zq, zq = h10.size := ⟨_, rfl⟩
  obtain ⟨lp22, elp23⟩ : ∃ zq, zq = h10.size + 1 := ⟨_, rfl⟩
  obtain ⟨tm24, etm25⟩ : ∃ zq : Array Value, zq = #[(vP t 0), (Value.tuple #[]), (Value.slice none 0 0), (vP b2 0), (Value.tuple #[]), (vP t 0), (Value.func (.func 46) #[] #[(vP b12 0)]), (Value.tuple #[]), (Value.tuple #[]), (Value.tuple #[]), (Value.tuple #[]), (Value.tuple #[]), (Value.tuple #[]), (Value.tuple #[])] := ⟨_, rfl⟩
  obtain ⟨L1304, eL1304⟩ : ∃ zq : Loop, zq = { state := .ready, pending := none, fn := 0, tmps := tm24, params := #[7, 8], assign := (subc (bodyOf Tryd.prog 13) [1, 1, 0, 1, 0, 0]), body := (subc (bodyOf Tryd.prog 13) [1, 1, 0, 1, 0, 1]), defers := dv20 } := ⟨_, rfl⟩
  have hs26 : L1304.state = .ready := by rw [eL1304]
  have hp27 : L1304.pending = none := by rw [eL1304]
  obtain ⟨h28, eh29⟩ : ∃ zq, zq = (h10.push (.deferred (some []))).push (.loop L1304) := ⟨_, rfl⟩
  have x30 : Ext h10 h28 := by rw [eh29]; exact (Ext.push _ _).trans (Ext.push _ _)
  have p31 : At h28 lp22 (.loop L1304) := by rw [eh29, elp23, show h10.size + 1 = (h10.push (.deferred (some []))).size by simp]; exact push_new rfl
  have p32 : At h28 dv20 (.deferred (some [])) := by rw [eh29, edv21]; exact push_old (b := h10.size) rfl (push_new rfl)
  have sh33 : lp22 < h28.size := p31.blk_lt rfl
  have z34 : h.size ≤ h10.size := x19.size
  have f35 := x30 _ _ f18
  have f36 := x30 _ _ f13
  have x37 := x19.trans x30
  have z38 : h.size ≤ h28.size := x37.size
  obtain ⟨D1315, eD1316⟩ : ∃ zq : Nat → Prop, zq = (fun (out : List ByteArray) (oa : Option Addr) (oc : Nat) => (fun b => b = lp22 ∨ b = b2 ∨ (blk (Value.slice oa (out.length) (oc))) b ∨ False)) ([]) (none) (0) := ⟨_, rfl⟩
  have hD1322 : ∀ b, D1315 b → h.size ≤ b := by
    rw [eD1316]; rintro b (w | w | w | w)
    · have w1 : b = lp22 := w; omega
    · have w1 : b = b2 := w; have := o8; omega
    · exact w.elim
    · exact w.elim
  have hd39 : ¬ D1315 dv20 := by
    rw [eD1316]; rintro (w | w | w | w)
    · have w1 : dv20 = lp22 := w; omega
    · have w1 : dv20 = b2 := w; have := row_lt f18; omega
    · exact w.elim
    · exact w.elim
  obtain ⟨I1312, eI1311⟩ : ∃ zq : Nat → (Nat → Prop) → Heap → Prop, zq = fun (kk : Nat) (Dv : Nat → Prop) (h' : Heap) => ∃ (out : List ByteArray), ∃ (oa : Option Addr), ∃ (oc : Nat), Dv = (fun b => b = lp22 ∨ b = b2 ∨ (blk (Value.slice oa (out.length) (oc))) b ∨ False) ∧ At h' lp22 (.loop L1304) ∧ Chg D1315 h28 h' ∧ (∀ z, Dv z → D1315 z ∨ h28.size ≤ z) ∧ h'[b2]? = some (.cells #[(Value.slice oa (out.length) (oc))] 29 (0, 0)) ∧ out = ksL (ms.take (kk)) ∧ OwnAt h' 9 strc out (Value.slice oa (out.length) (oc)) := ⟨_, rfl⟩
  obtain ⟨E1313, eE1314⟩ : ∃ zq : Heap → Prop, zq = fun _ => False := ⟨_, rfl⟩
  have hX1330 : ∀ k D h' h'', I1312 k D h' → Ext h' h'' → I1312 k D h'' := by
    rw [eI1311]
    rintro k _ h' h'' ⟨out, oa, oc, rfl, p40, c41, d42, f43, i44, p45⟩ xx
    exact ⟨out, oa, oc, rfl, xx _ _ p40, c41.trans (Chg.ext xx), d42, xx _ _ f43, i44, p45.keep fun b r _ q => xx b r q⟩
  have hy46 : ∀ k y D h', (ms)[k]? = some y → I1312 k D h' → ∃ b h'' D', SoundYield Tryd.prog lp22 #[(vS y.1), (Value.agg #[(vI (y.2.v)), (vI (y.2.up)), (vI (y.2.dn)), (vI (y.2.lo)), (vI (y.2.hi))])] h' (.bool b) h'' ∧ Chg D h' h'' ∧ (∀ z, D' z → D z ∨ h'.size ≤ z) ∧ (if b = true then I1312 (k + 1) D' h'' else E1313 h'') := by
    rw [eI1311]
    rintro k y _ hr hk ⟨out, oa, oc, rfl, p40, c41, d42, f43, i44, p45⟩
    obtain ⟨Dc, eDc⟩ : ∃ zq : Nat → Prop, zq = (fun b => b = lp22 ∨ b = b2 ∨ (blk (Value.slice oa (out.length) (oc))) b ∨ False) := ⟨_, rfl⟩
    rw [← eDc] at d42
    rw [← eI1311]
    rw [← eDc]
    have lo1 : out.length ≤ 64 := by have e9 := congrArg List.length i44; have := ok.few; have := take_len ms k; omega
    suffices hw : ∃ b h'', SoundYield Tryd.prog lp22 #[(vS y.1), (Value.agg #[(vI (y.2.v)), (vI (y.2.up)), (vI (y.2.dn)), (vI (y.2.lo)), (vI (y.2.hi))])] hr (.bool b) h'' ∧ (fun b h'' => ∃ D', Chg Dc hr h'' ∧ (∀ z, D' z → Dc z ∨ hr.size ≤ z) ∧ (if b = true then I1312 (k + 1) D' h'' else E1313 h'')) b h'' from by
      obtain ⟨b, h'', q1, D', q2, q3, q4⟩ := hw
      exact ⟨b, h'', D', q1, q2, q3, q4⟩
    refine w_round (args := #[(vS y.1), (Value.agg #[(vI (y.2.v)), (vI (y.2.up)), (vI (y.2.dn)), (vI (y.2.lo)), (vI (y.2.hi))])]) (K := (fun b h'' => ∃ D', Chg Dc hr h'' ∧ (∀ z, D' z → Dc z ∨ hr.size ≤ z) ∧ (if b = true then I1312 (k + 1) D' h'' else E1313 h''))) p40 hs26 (by rw [eL1304]; rfl) { tmps := #[(vP t 0), (Value.tuple #[]), (Value.slice none 0 0), (vP b2 0), (Value.tuple #[]), (vP t 0), (Value.func (.func 46) #[] #[(vP b12 0)]), (vS y.1), (Value.agg #[(vI (y.2.v)), (vI (y.2.up)), (vI (y.2.dn)), (vI (y.2.lo)), (vI (y.2.hi))]), (Value.tuple #[]), (Value.tuple #[]), (Value.tuple #[]), (Value.tuple #[]), (Value.tuple #[])], defers := [] } (by rw [eL1304, etm25]; kernel_rfl) (subc (bodyOf Tryd.prog 13) [1, 1, 0, 1, 0, 0]) (subc (bodyOf Tryd.prog 13) [1, 1, 0, 1, 0, 1]) (by rw [eL1304]) (by rw [eL1304]) ?_
    refine wc_ev [] .normal hr [(4, (vS y.1))] ?_
    refine ⟨rfl, L1304, p40, hs26, ?_⟩
    obtain ⟨h47, e48⟩ : ∃ zq, zq = hr.setIfInBounds lp22 (.loop { L1304 with state := .busy }) := ⟨_, rfl⟩
    have p49 : At h47 lp22 (.loop { L1304 with state := .busy }) := set_same e48 p40
    have f50 := set_other e48 f43 (loop_ne p40 f43 rfl)
    have p51 := p45.keep fun b r hb q => (Chg.set e48).same b r q ((fun b hb hb2 => (p45).celled.loop p40 b hb hb2) b hb)
    have x52 := (Chg.refl (O := Dc) hr).then (Chg.set e48) (fun b hb => .inl ((fun b hb => by rw [eDc]; exact .inl hb) b hb))
    rw [← e48]
    obtain ⟨b53, eb54⟩ : ∃ zq, zq = h47.size := ⟨_, rfl⟩
    obtain ⟨h55, e56⟩ : ∃ zq, zq = h47.push (.cells #[(vS y.1)] 9 (0, 0)) := ⟨_, rfl⟩
    have f57 := push_new e56
    rw [← eb54] at f57
    have x58 : Ext h47 h55 := by rw [e56]; exact Ext.push _ _
    have o59 : hr.size ≤ b53 := by have := x52.size; omega
    have f60 := x58 _ _ f50
    have p61 := p51.keep fun b r _ q => x58 b r q
    have p62 := p49.keep fun b r _ q => x58 b r q
    have x63 := x52.trans (Chg.ext x58)
    obtain ⟨w64, h65, e66, p67, c68, n69, z70⟩ := own_append und29 sizeb9 zero9 rfl (by decide) strc_size (x := y.1) p61 f57 rfl (by omega) (by unfold maxLen; omega)
    obtain ⟨a71, c72, rfl⟩ := (p67.slice strc_size).len
    have z73 : hr.size ≤ h55.size := x63.size
    have x74 := x63.then c68 (fun b hb => .inl ((show ∀ b, (blk (Value.slice oa (out.length) (oc))) b → Dc b from fun b hb => by rw [eDc]; exact .inr (.inr (.inl hb))) b hb))
    have f75 := c68.same _ _ f60 (fun hb => p61.ne f60 (by decide) hb rfl)
    have p76 := p62.keep fun b r hb q => c68.same b r q ((fun b hb hb2 => (p61).celled.loop p62 b hb2 hb) b hb)
    have n77 : ∀ zz, blk (Value.slice a71 ((out ++ [y.1]).length) (c72)) zz → ¬ zz = b2 := fun zz hz ez => by have := n69 zz hz; have := row_lt f60; omega
    have n78 : ∀ zz, blk (Value.slice a71 ((out ++ [y.1]).length) (c72)) zz → ¬ (fun q => q = lp22) zz := fun zz hz ez => by have := n69 zz hz; have := p62.blk_lt ez; omega
    have o79 : ∀ zz, blk (Value.slice a71 ((out ++ [y.1]).length) (c72)) zz → hr.size ≤ zz := fun zz hz => by have := n69 zz hz; have := z73; omega
    obtain ⟨h80, e81⟩ : ∃ zq, zq = h65.setIfInBounds b2 (.cells #[(Value.slice a71 ((out ++ [y.1]).length) (c72))] 29 (0, 0)) := ⟨_, rfl⟩
    have f82 := set_same e81 f75
    have p83 := p76.keep fun b r hb q => (Chg.set e81).same b r q ((fun (b : Nat) hb => loop_ne p76 f75 hb) b hb)
    have p84 := p67.keep fun b r hb q => (Chg.set e81).same b r q (n77 b hb)
    have x85 := x74.then (Chg.set e81) (fun b hb => by subst hb; exact (.inl (by rw [eDc]; exact .inr (.inl rfl))))
    refine wc_ev [evC 4 0 0 agg29 f50, evS 4 2 1 eb54 e56, evP 4 3 e66, evT 4 4 0 size29 f75 e81] .normal h80 [(9, (vL oa out.length oc)), (10, (vS y.1)), (11, (vL (some ⟨b53, 0, none⟩) 1 1)), (12, (vL a71 ((out ++ [y.1]).length) c72))] ?_
    refine ⟨_, p83, ?_⟩
    obtain ⟨h86, e87⟩ : ∃ zq, zq = h80.setIfInBounds lp22 (.loop { ({ L1304 with state := .busy } : Loop) with state := .ready, pending := none }) := ⟨_, rfl⟩
    have p88 : At h86 lp22 (.loop { ({ L1304 with state := .busy } : Loop) with state := .ready, pending := none }) := set_same e87 p83
    have f89 := set_other e87 f82 (loop_ne p83 f82 rfl)
    have p90 := p84.keep fun b r hb q => (Chg.set e87).same b r q (n78 b hb)
    have x91 := x85.then (Chg.set e87) (fun b hb => .inl ((fun b hb => by rw [eDc]; exact .inl hb) b hb))
    have dnew : ∀ z, ((fun (out : List ByteArray) (oa : Option Addr) (oc : Nat) => (fun b => b = lp22 ∨ b = b2 ∨ (blk (Value.slice oa (out.length) (oc))) b ∨ False)) ((out ++ [y.1])) (a71) (c72)) z → Dc z ∨ hr.size ≤ z := by
      intro z hz; rcases hz with w | w | w | w
      · exact .inl (by rw [eDc]; exact .inl w)
      · exact .inl (by rw [eDc]; exact .inr (.inl w))
      · exact .inr (o79 z w)
      · exact w.elim
    refine (show ∃ D', Chg Dc hr (h86) ∧ (∀ z, D' z → Dc z ∨ hr.size ≤ z) ∧ (if true = true then I1312 (k + 1) D' h86 else E1313 h86) from ?_) |> (fun w => by rw [e87] at w; exact w)
    refine ⟨(fun (out : List ByteArray) (oa : Option Addr) (oc : Nat) => (fun b => b = lp22 ∨ b = b2 ∨ (blk (Value.slice oa (out.length) (oc))) b ∨ False)) ((out ++ [y.1])) (a71) (c72), x91, dnew, ?_⟩
    rw [if_pos rfl]
    rw [eI1311]
    exact ⟨(out ++ [y.1]), a71, c72, rfl, (by have q := p88; rw [loop_back hs26 hp27] at q; exact q), c41.then (x91) d42, fun z hz => (dnew z hz).elim (d42 z) (fun w => .inr (by have := c41.size; omega)), f89, by rw [ksL_next hk, ← i44], p90⟩
  have h92 : I1312 0 D1315 h28 := by rw [eI1311]; exact ⟨[], none, 0, eD1316, p31, Chg.refl h28, fun z hz => .inl hz, f35, rfl, .inl ⟨rfl, rfl⟩⟩
  refine wc_range_any (h1 := h28) (c := (subc (bodyOf Tryd.prog 13) [1, 1, 0, 1, 0])) (g := .tmp 6) (params := #[7, 8]) (assign := (subc (bodyOf Tryd.prog 13) [1, 1, 0, 1, 0, 0])) (body := (subc (bodyOf Tryd.prog 13) [1, 1, 0, 1, 0, 1])) (by kernel_rfl) 46 #[] #[(vP b12 0)] lp22 [{ target := .collected dv20, args := #[] }] #[(Value.func (.yield lp22) #[] #[]), (vP b12 0)] (by rfl) rfl rfl (by kernel_rfl) (by rw [eh29, elp23, eL1304, etm25, edv21]; rfl) ?_
  have hG1389 : ∀ z, D1315 z → z < h28.size := by
    rw [eD1316]; rintro z (w | w | w | w)
    · have w1 : z = lp22 := w; omega
    · have w1 : z = b2 := w; have := row_lt f35; omega
    · exact w.elim
    · exact w.elim
  have hB1390 : ¬ D1315 b12 := by
    rw [eD1316]; rintro (w | w | w | w)
    · have w1 : b12 = lp22 := w; exact loop_ne p31 f36 (q := b12) w1 rfl
    · have w1 : b12 = b2 := w; exact n16 w1
    · exact w.elim
    · exact w.elim
  refine (each_it h28 (hT'.keep fun b r _ q => x37 b r q) ok b12 f36 lp22 I1312 E1313 D1315 (fun b hb w => by have := hT'.blk_lt hb; have := hD1322 b w; omega) hG1389 hB1390 hX1330 hy46 h92).mono fun _ h8 q => ?_
  obtain ⟨q0, q⟩ := q
  rcases q with ⟨Dv, q, qD⟩ | q
  · rw [eI1311] at q
    obtain ⟨out, oa, oc, eDv, p93, cgN, hdN, f94, i95, p96⟩ := q
    refine ⟨_, p93, ?_, leftBy_none hp27 ?_⟩
    · exact fun w => by rw [hs26] at w; cases w
    have p97 : At h8 dv20 (.deferred (some [])) := q0.same _ _ p32 hd39
    obtain ⟨h98, e99⟩ : ∃ zq, zq = h8.setIfInBounds lp22 (.loop { L1304 with state := .exhausted }) := ⟨_, rfl⟩
    have f100 := set_other e99 f94 (loop_ne p93 f94 rfl)
    have p101 := p96.keep fun b r hb q => (Chg.set e99).same b r q ((fun b hb hb2 => (p96).celled.loop p93 b hb hb2) b hb)
    have p102 := p97.keep fun b r hb q => (Chg.set e99).same b r q ((fun b hb hb2 => (show ∀ b : Nat, b = lp22 → b = dv20 → False from fun b w1 w2 => by omega) b hb2 hb) b hb)
    rw [← e99]
    have c103 := q0.then (Chg.set e99) (fun b hb => .inl (by rw [eD1316]; exact .inl hb))
    have x104 : Ext h h98 := (Chg.then (O := fun _ => False) (Chg.ext x37) c103 (fun b hb => .inr (hD1322 b hb))).toExt'
    have nb : ∀ zz, blk (Value.slice oa (out.length) (oc)) zz → h.size ≤ zz := fun zz hz => (qD zz (by rw [eDv]; exact .inr (.inr (.inl hz)))).elim (hD1322 zz) (fun g => by omega)
    rw [List.take_length] at i95
    refine wc_ev [evC 5 0 0 agg29 f100] .ret h98 [(13, (vL oa out.length oc)), (2, (vL oa out.length oc))] ?_
    obtain ⟨h105, e106⟩ : ∃ zq, zq = h98.setIfInBounds dv20 (.deferred none) := ⟨_, rfl⟩
    have p107 := p101.keep fun b r hb q => (Chg.set e106).same b r q ((fun b hb hb2 => (p101).celled.defer p102 b hb hb2) b hb)
    have x108 : Ext h h105 := Ext.setNew x104 e106 (by omega)
    have ek : out = ksL ms := i95
    refine end_mark3 (T := hintsOf [] []) (dv := dv20) { tmps := #[(vP t 0), (Value.tuple #[]), (Value.slice oa (out.length) (oc)), (vP b2 0), (Value.tuple #[]), (vP t 0), (Value.func (.func 46) #[] #[(vP b12 0)]), (Value.tuple #[]), (Value.tuple #[]), (Value.tuple #[]), (Value.tuple #[]), (Value.tuple #[]), (Value.tuple #[]), (Value.slice oa (out.length) (oc))], defers := ([{ target := .collected dv20, args := #[] }] ++ []) } (by kernel_rfl) (.inr rfl) rfl p102 e106 (A := resQ [] (K (Value.slice oa (out.length) (oc)) h105)) (by kernel_rfl) ?_
    exact resQ_of _ (hK _ _ (⟨oa, oc, by rw [ek], by rw [← ek]; exact p107, x108, nb⟩))
  · rw [eE1314] at q; exact q.elim
set_option maxHeartbeats 4000000 in
theorem in_ok (h : Heap) {O : Nat → Prop} {t : Nat} {ms : Sto} (hT : StAt 50 h O t ms) (ok : WfM ms) (r0 r1 : ByteArray) : WCall Tryd.prog 14 #[(vP t 0), (Value.agg #[(vS r0), (vS r1)])] h (fun v h1 => ∃ oa oc, v = .tuple #[.slice oa (inL ms r0 r1).length oc, .int .i64 (inE r0 r1)] ∧ OwnAt h1 9 strc (inL ms r0 r1) (.slice oa (inL ms r0 r1).length oc) ∧ Ext h h1 ∧ ∀ b, blk (.slice oa (inL ms r0 r1).length oc) b → h.size ≤ b) := by
  have hT' := hT
  obtain ⟨mb1, T⟩ := hT
  suffices H : ∀ K : Value → Heap → Prop, (∀ v h1, (fun v h1 => ∃ oa oc, v = .tuple #[.slice oa (inL ms r0 r1).length oc, .int .i64 (inE r0 r1)] ∧ OwnAt h1 9 strc (inL ms r0 r1) (.slice oa (inL ms r0 r1).length oc) ∧ Ext h h1 ∧ ∀ b, blk (.slice oa (inL ms r0 r1).length oc) b → h.size ≤ b) v h1 → K v h1) → WCall Tryd.prog 14 #[(vP t 0), (Value.agg #[(vS r0), (vS r1)])] h K from H _ fun _ _ q => q
  intro K hK
  refine wcall_at { tmps := #[(vP t 0), (vA #[(vS r0), (vS r1)]), vZ, vZ, vZ, vZ, vZ, vZ, vZ, vZ, vZ, vZ, vZ, vZ, vZ, vZ, vZ, vZ, vZ, vZ, vZ, vZ, vZ, vZ, vZ, vZ], defers := [] } (by kernel_rfl) ?_
  refine wc_seq' (subc (bodyOf Tryd.prog 14) [0]) (subc (bodyOf Tryd.prog 14) [1]) (by kernel_rfl) ?_
  obtain ⟨b2, eb3⟩ : ∃ zq, zq = h.size := ⟨_, rfl⟩
  obtain ⟨h4, e5⟩ : ∃ zq, zq = h.push (.cells #[(vS r0), (vS r1)] 24 (0, 0)) := ⟨_, rfl⟩
  have f6 := push_new e5
  rw [← eb3] at f6
  have x7 : Ext h h4 := by rw [e5]; exact Ext.push _ _
  have o8 : h.size ≤ b2 := by have := (Ext.refl h).size; omega
  have x9 := (Ext.refl h).trans x7
  refine wc_ev [evA 0 0 eb3 e5] .normal h4 [(3, (vP b2 0)), (4, (vL none 0 0)), (5, (vI 0))] ?_
  refine wc_seq' (subc (bodyOf Tryd.prog 14) [1, 0]) (subc (bodyOf Tryd.prog 14) [1, 1]) (by kernel_rfl) ?_
  obtain ⟨_, _, sn10, rfl, rfl⟩ := valid_ok h4 (x9 _ _ T.row)
  refine wc_ev [evF 1 1 sn10] .normal h4 [(8, (vP t 0)), (9, (vB true)), (10, (vB false))] ?_
  refine wc_seq' (subc (bodyOf Tryd.prog 14) [1, 1, 0]) (subc (bodyOf Tryd.prog 14) [1, 1, 1]) (by kernel_rfl) ?_
  obtain ⟨_, hh11, sn12, rfl, x13⟩ := rchk_ok h4 r0 r1 
  have f14 := x13 _ _ f6
  have x15 := x9.trans x13
  by_cases c16 : (((rchk r0 r1)) : Int) = 0
  · refine wc_ev [evLw 3 0 agg24 size24 f6, evF 3 1 sn12, neF 3 2 31 c16] .normal hh11 [(11, (vA #[(vS r0), (vS r1)])), (12, (vI ((rchk r0 r1)))), (13, (vB false))] ?_
    refine wc_seq' (subc (bodyOf Tryd.prog 14) [1, 1, 1, 0]) (subc (bodyOf Tryd.prog 14) [1, 1, 1, 1]) (by kernel_rfl) ?_
    obtain ⟨b17, eb18⟩ : ∃ zq, zq = hh11.size := ⟨_, rfl⟩
    obtain ⟨h19, e20⟩ : ∃ zq, zq = hh11.push (.cells #[(Value.slice none 0 0)] 29 (0, 0)) := ⟨_, rfl⟩
    have f21 := push_new e20
    rw [← eb18] at f21
    have x22 : Ext hh11 h19 := by rw [e20]; exact Ext.push _ _
    have o23 : h.size ≤ b17 := by have := x15.size; omega
    have f24 := x22 _ _ f14
    have x25 := x15.trans x22
    refine wc_ev [evA 5 0 eb18 e20] .normal h19 [(6, (vP b17 0))] ?_
    refine wc_seq' (subc (bodyOf Tryd.prog 14) [1, 1, 1, 1, 0]) (subc (bodyOf Tryd.prog 14) [1, 1, 1, 1, 1]) (by kernel_rfl) ?_
    refine wc_seq' (subc (bodyOf Tryd.prog 14) [1, 1, 1, 1, 0, 0]) (subc (bodyOf Tryd.prog 14) [1, 1, 1, 1, 0, 1]) (by kernel_rfl) ?_
    obtain ⟨_, h26, s27, b28, rfl, f29, x30, o31⟩ := each_fn h19 t
    have n32 : b28 ≠ b17 := by have := row_lt f21; omega
    have oo33 : h.size ≤ b28 := by have := x25.size; omega
    have f34 := x30 _ _ f24
    have f35 := x30 _ _ f21
    have x36 := x25.trans x30
    refine wc_ev [evF 6 1 s27] .normal h26 [(14, (vP t 0)), (15, (Value.func (.func 46) #[] #[(vP b28 0)]))] ?_
    refine wc_block' 0 (subc (bodyOf Tryd.prog 14) [1, 1, 1, 1, 0, 1, 0]) (by kernel_rfl) ?_
    refine wc_act { tmps := #[(vP t 0), (vA #[(vS r0), (vS r1)]), vZ, (vP b2 0), (vL none 0 0), (vI 0), (vP b17 0), vZ, (vP t 0), (vB true), (vB false), (vA #[(vS r0), (vS r1)]), (vI ((rchk r0 r1))), (vB false), (vP t 0), (Value.func (.func 46) #[] #[(vP b28 0)]), vZ, vZ, vZ, vZ, vZ, vZ, vZ, vZ, vZ, vZ], defers := [] } (by kernel_rfl) ?_
    obtain ⟨dv37, edv38⟩ : ∃ zq, zq = h26.size := ⟨_, rfl⟩
    obtain ⟨lp39, elp40⟩ : ∃ zq, zq = h26.size + 1 := ⟨_, rfl⟩
    obtain ⟨tm41, etm42⟩ : ∃ zq : Array Value, zq = #[(vP t 0), (Value.agg #[(vS r0), (vS r1)]), (Value.tuple #[]), (vP b2 0), (Value.slice none 0 0), (vI 0), (vP b17 0), (Value.tuple #[]), (vP t 0), (vB true), (vB false), (Value.agg #[(vS r0), (vS r1)]), (vI ((rchk r0 r1))), (vB false), (vP t 0), (Value.func (.func 46) #[] #[(vP b28 0)]), (Value.tuple #[]), (Value.tuple #[]), (Value.tuple #[]), (Value.tuple #[]), (Value.tuple #[]), (Value.tuple #[]), (Value.tuple #[]), (Value.tuple #[]), (Value.tuple #[]), (Value.tuple #[])] := ⟨_, rfl⟩
    obtain ⟨L1458, eL1458⟩ : ∃ zq : Loop, zq = { state := .ready, pending := none, fn := 0, tmps := tm41, params := #[16, 17], assign := (subc (bodyOf Tryd.prog 14) [1, 1, 1, 1, 0, 1, 0, 0]), body := (subc (bodyOf Tryd.prog 14) [1, 1, 1, 1, 0, 1, 0, 1]), defers := dv37 } := ⟨_, rfl⟩
    have hs43 : L1458.state = .ready := by rw [eL1458]
    have hp44 : L1458.pending = none := by rw [eL1458]
    obtain ⟨h45, eh46⟩ : ∃ zq, zq = (h26.push (.deferred (some []))).push (.loop L1458) := ⟨_, rfl⟩
    have x47 : Ext h26 h45 := by rw [eh46]; exact (Ext.push _ _).trans (Ext.push _ _)
    have p48 : At h45 lp39 (.loop L1458) := by rw [eh46, elp40, show h26.size + 1 = (h26.push (.deferred (some []))).size by simp]; exact push_new rfl
    have p49 : At h45 dv37 (.deferred (some [])) := by rw [eh46, edv38]; exact push_old (b := h26.size) rfl (push_new rfl)
    have sh50 : lp39 < h45.size := p48.blk_lt rfl
    have z51 : h.size ≤ h26.size := x36.size
    have f52 := x47 _ _ f34
    have f53 := x47 _ _ f35
    have f54 := x47 _ _ f29
    have x55 := x36.trans x47
    have z56 : h.size ≤ h45.size := x55.size
    obtain ⟨D1469, eD1470⟩ : ∃ zq : Nat → Prop, zq = (fun (out : List ByteArray) (oa : Option Addr) (oc : Nat) => (fun b => b = lp39 ∨ b = b17 ∨ (blk (Value.slice oa (out.length) (oc))) b ∨ False)) ([]) (none) (0) := ⟨_, rfl⟩
    have hD1477 : ∀ b, D1469 b → h.size ≤ b := by
      rw [eD1470]; rintro b (w | w | w | w)
      · have w1 : b = lp39 := w; omega
      · have w1 : b = b17 := w; have := o23; omega
      · exact w.elim
      · exact w.elim
    have hd57 : ¬ D1469 dv37 := by
      rw [eD1470]; rintro (w | w | w | w)
      · have w1 : dv37 = lp39 := w; omega
      · have w1 : dv37 = b17 := w; have := row_lt f35; omega
      · exact w.elim
      · exact w.elim
    obtain ⟨I1466, eI1465⟩ : ∃ zq : Nat → (Nat → Prop) → Heap → Prop, zq = fun (kk : Nat) (Dv : Nat → Prop) (h' : Heap) => ∃ (out : List ByteArray), ∃ (oa : Option Addr), ∃ (oc : Nat), Dv = (fun b => b = lp39 ∨ b = b17 ∨ (blk (Value.slice oa (out.length) (oc))) b ∨ False) ∧ At h' lp39 (.loop L1458) ∧ Chg D1469 h45 h' ∧ (∀ z, Dv z → D1469 z ∨ h45.size ≤ z) ∧ h'[b17]? = some (.cells #[(Value.slice oa (out.length) (oc))] 29 (0, 0)) ∧ h'[b2]? = some (.cells #[(vS r0), (vS r1)] 24 (0, 0)) ∧ out = (ksL (ms.take (kk))).filter (fun k => rhas r0 r1 k) ∧ OwnAt h' 9 strc out (Value.slice oa (out.length) (oc)) := ⟨_, rfl⟩
    obtain ⟨E1467, eE1468⟩ : ∃ zq : Heap → Prop, zq = fun _ => False := ⟨_, rfl⟩
    have hX1486 : ∀ k D h' h'', I1466 k D h' → Ext h' h'' → I1466 k D h'' := by
      rw [eI1465]
      rintro k _ h' h'' ⟨out, oa, oc, rfl, p58, c59, d60, f61, f62, i63, p64⟩ xx
      exact ⟨out, oa, oc, rfl, xx _ _ p58, c59.trans (Chg.ext xx), d60, xx _ _ f61, xx _ _ f62, i63, p64.keep fun b r _ q => xx b r q⟩
    have hy65 : ∀ k y D h', (ms)[k]? = some y → I1466 k D h' → ∃ b h'' D', SoundYield Tryd.prog lp39 #[(vS y.1), (Value.agg #[(vI (y.2.v)), (vI (y.2.up)), (vI (y.2.dn)), (vI (y.2.lo)), (vI (y.2.hi))])] h' (.bool b) h'' ∧ Chg D h' h'' ∧ (∀ z, D' z → D z ∨ h'.size ≤ z) ∧ (if b = true then I1466 (k + 1) D' h'' else E1467 h'') := by
      rw [eI1465]
      rintro k y _ hr hk ⟨out, oa, oc, rfl, p58, c59, d60, f61, f62, i63, p64⟩
      obtain ⟨Dc, eDc⟩ : ∃ zq : Nat → Prop, zq = (fun b => b = lp39 ∨ b = b17 ∨ (blk (Value.slice oa (out.length) (oc))) b ∨ False) := ⟨_, rfl⟩
      rw [← eDc] at d60
      rw [← eI1465]
      rw [← eDc]
      have lo1 : out.length ≤ 64 := by have e9 := congrArg List.length i63; have := ok.few; have := take_lenf ms (fun k => rhas r0 r1 k) k; omega
      suffices hw : ∃ b h'', SoundYield Tryd.prog lp39 #[(vS y.1), (Value.agg #[(vI (y.2.v)), (vI (y.2.up)), (vI (y.2.dn)), (vI (y.2.lo)), (vI (y.2.hi))])] hr (.bool b) h'' ∧ (fun b h'' => ∃ D', Chg Dc hr h'' ∧ (∀ z, D' z → Dc z ∨ hr.size ≤ z) ∧ (if b = true then I1466 (k + 1) D' h'' else E1467 h'')) b h'' from by
        obtain ⟨b, h'', q1, D', q2, q3, q4⟩ := hw
        exact ⟨b, h'', D', q1, q2, q3, q4⟩
      refine w_round (args := #[(vS y.1), (Value.agg #[(vI (y.2.v)), (vI (y.2.up)), (vI (y.2.dn)), (vI (y.2.lo)), (vI (y.2.hi))])]) (K := (fun b h'' => ∃ D', Chg Dc hr h'' ∧ (∀ z, D' z → Dc z ∨ hr.size ≤ z) ∧ (if b = true then I1466 (k + 1) D' h'' else E1467 h''))) p58 hs43 (by rw [eL1458]; rfl) { tmps := #[(vP t 0), (Value.agg #[(vS r0), (vS r1)]), (Value.tuple #[]), (vP b2 0), (Value.slice none 0 0), (vI 0), (vP b17 0), (Value.tuple #[]), (vP t 0), (vB true), (vB false), (Value.agg #[(vS r0), (vS r1)]), (vI ((rchk r0 r1))), (vB false), (vP t 0), (Value.func (.func 46) #[] #[(vP b28 0)]), (vS y.1), (Value.agg #[(vI (y.2.v)), (vI (y.2.up)), (vI (y.2.dn)), (vI (y.2.lo)), (vI (y.2.hi))]), (Value.tuple #[]), (Value.tuple #[]), (Value.tuple #[]), (Value.tuple #[]), (Value.tuple #[]), (Value.tuple #[]), (Value.tuple #[]), (Value.tuple #[])], defers := [] } (by rw [eL1458, etm42]; kernel_rfl) (subc (bodyOf Tryd.prog 14) [1, 1, 1, 1, 0, 1, 0, 0]) (subc (bodyOf Tryd.prog 14) [1, 1, 1, 1, 0, 1, 0, 1]) (by rw [eL1458]) (by rw [eL1458]) ?_
      refine wc_ev [] .normal hr [(7, (vS y.1))] ?_
      refine ⟨rfl, L1458, p58, hs43, ?_⟩
      obtain ⟨h66, e67⟩ : ∃ zq, zq = hr.setIfInBounds lp39 (.loop { L1458 with state := .busy }) := ⟨_, rfl⟩
      have p68 : At h66 lp39 (.loop { L1458 with state := .busy }) := set_same e67 p58
      have f69 := set_other e67 f61 (loop_ne p58 f61 rfl)
      have f70 := set_other e67 f62 (loop_ne p58 f62 rfl)
      have p71 := p64.keep fun b r hb q => (Chg.set e67).same b r q ((fun b hb hb2 => (p64).celled.loop p58 b hb hb2) b hb)
      have x72 := (Chg.refl (O := Dc) hr).then (Chg.set e67) (fun b hb => .inl ((fun b hb => by rw [eDc]; exact .inl hb) b hb))
      rw [← e67]
      obtain ⟨_, hh73, sn74, rfl, x75⟩ := rhas_ok h66 r0 r1 y.1 
      have f76 := x75 _ _ f69
      have f77 := x75 _ _ f70
      have p78 := p71.keep fun b r _ q => x75 b r q
      have p79 := p68.keep fun b r _ q => x75 b r q
      have x80 := x72.trans (Chg.ext x75)
      rcases Bool.eq_false_or_eq_true ((rhas r0 r1 y.1)) with c81 | c81
      · obtain ⟨b82, eb83⟩ : ∃ zq, zq = hh73.size := ⟨_, rfl⟩
        obtain ⟨h84, e85⟩ : ∃ zq, zq = hh73.push (.cells #[(vS y.1)] 9 (0, 0)) := ⟨_, rfl⟩
        have f86 := push_new e85
        rw [← eb83] at f86
        have x87 : Ext hh73 h84 := by rw [e85]; exact Ext.push _ _
        have o88 : hr.size ≤ b82 := by have := x80.size; omega
        have f89 := x87 _ _ f76
        have f90 := x87 _ _ f77
        have p91 := p78.keep fun b r _ q => x87 b r q
        have p92 := p79.keep fun b r _ q => x87 b r q
        have x93 := x80.trans (Chg.ext x87)
        obtain ⟨w94, h95, e96, p97, c98, n99, z100⟩ := own_append und29 sizeb9 zero9 rfl (by decide) strc_size (x := y.1) p91 f86 rfl (by omega) (by unfold maxLen; omega)
        obtain ⟨a101, c102, rfl⟩ := (p97.slice strc_size).len
        have z103 : hr.size ≤ h84.size := x93.size
        have x104 := x93.then c98 (fun b hb => .inl ((show ∀ b, (blk (Value.slice oa (out.length) (oc))) b → Dc b from fun b hb => by rw [eDc]; exact .inr (.inr (.inl hb))) b hb))
        have f105 := c98.same _ _ f89 (fun hb => p91.ne f89 (by decide) hb rfl)
        have f106 := c98.same _ _ f90 (fun hb => p91.ne f90 (by decide) hb rfl)
        have p107 := p92.keep fun b r hb q => c98.same b r q ((fun b hb hb2 => (p91).celled.loop p92 b hb2 hb) b hb)
        have n108 : ∀ zz, blk (Value.slice a101 ((out ++ [y.1]).length) (c102)) zz → ¬ zz = b17 := fun zz hz ez => by have := n99 zz hz; have := row_lt f89; omega
        have n109 : ∀ zz, blk (Value.slice a101 ((out ++ [y.1]).length) (c102)) zz → ¬ (fun q => q = lp39) zz := fun zz hz ez => by have := n99 zz hz; have := p92.blk_lt ez; omega
        have o110 : ∀ zz, blk (Value.slice a101 ((out ++ [y.1]).length) (c102)) zz → hr.size ≤ zz := fun zz hz => by have := n99 zz hz; have := z103; omega
        obtain ⟨h111, e112⟩ : ∃ zq, zq = h95.setIfInBounds b17 (.cells #[(Value.slice a101 ((out ++ [y.1]).length) (c102))] 29 (0, 0)) := ⟨_, rfl⟩
        have f113 := set_same e112 f105
        have f114 := set_other e112 f106 (row_ne f105 f106 (by decide))
        have p115 := p107.keep fun b r hb q => (Chg.set e112).same b r q ((fun (b : Nat) hb => loop_ne p107 f105 hb) b hb)
        have p116 := p97.keep fun b r hb q => (Chg.set e112).same b r q (n108 b hb)
        have x117 := x104.then (Chg.set e112) (fun b hb => by subst hb; exact (.inl (by rw [eDc]; exact .inr (.inl rfl))))
        refine wc_ev [evLw 8 0 agg24 size24 f70, evFb 8 2 c81 sn74, evC 9 0 0 agg29 f76, evS 9 2 1 eb83 e85, evP 9 3 e96, evT 9 4 0 size29 f105 e112] .normal h111 [(18, (vA #[(vS r0), (vS r1)])), (19, (vS y.1)), (20, (vB true)), (21, (vL oa out.length oc)), (22, (vS y.1)), (23, (vL (some ⟨b82, 0, none⟩) 1 1)), (24, (vL a101 ((out ++ [y.1]).length) c102))] ?_
        refine ⟨_, p115, ?_⟩
        obtain ⟨h118, e119⟩ : ∃ zq, zq = h111.setIfInBounds lp39 (.loop { ({ L1458 with state := .busy } : Loop) with state := .ready, pending := none }) := ⟨_, rfl⟩
        have p120 : At h118 lp39 (.loop { ({ L1458 with state := .busy } : Loop) with state := .ready, pending := none }) := set_same e119 p115
        have f121 := set_other e119 f113 (loop_ne p115 f113 rfl)
        have f122 := set_other e119 f114 (loop_ne p115 f114 rfl)
        have p123 := p116.keep fun b r hb q => (Chg.set e119).same b r q (n109 b hb)
        have x124 := x117.then (Chg.set e119) (fun b hb => .inl ((fun b hb => by rw [eDc]; exact .inl hb) b hb))
        have dnew : ∀ z, ((fun (out : List ByteArray) (oa : Option Addr) (oc : Nat) => (fun b => b = lp39 ∨ b = b17 ∨ (blk (Value.slice oa (out.length) (oc))) b ∨ False)) ((out ++ [y.1])) (a101) (c102)) z → Dc z ∨ hr.size ≤ z := by
          intro z hz; rcases hz with w | w | w | w
          · exact .inl (by rw [eDc]; exact .inl w)
          · exact .inl (by rw [eDc]; exact .inr (.inl w))
          · exact .inr (o110 z w)
          · exact w.elim
        refine (show ∃ D', Chg Dc hr (h118) ∧ (∀ z, D' z → Dc z ∨ hr.size ≤ z) ∧ (if true = true then I1466 (k + 1) D' h118 else E1467 h118) from ?_) |> (fun w => by rw [e119] at w; exact w)
        refine ⟨(fun (out : List ByteArray) (oa : Option Addr) (oc : Nat) => (fun b => b = lp39 ∨ b = b17 ∨ (blk (Value.slice oa (out.length) (oc))) b ∨ False)) ((out ++ [y.1])) (a101) (c102), x124, dnew, ?_⟩
        rw [if_pos rfl]
        rw [eI1465]
        exact ⟨(out ++ [y.1]), a101, c102, rfl, (by have q := p120; rw [loop_back hs43 hp44] at q; exact q), c59.then (x124) d60, fun z hz => (dnew z hz).elim (d60 z) (fun w => .inr (by have := c59.size; omega)), f121, f122, by rw [ksL_next hk, List.filter_append, ← i63]; simp [c81], p123⟩
      · refine wc_ev [evLw 8 0 agg24 size24 f70, evFb 8 2 c81 sn74] .normal hh73 [(18, (vA #[(vS r0), (vS r1)])), (19, (vS y.1)), (20, (vB false))] ?_
        refine ⟨_, p79, ?_⟩
        obtain ⟨h125, e126⟩ : ∃ zq, zq = hh73.setIfInBounds lp39 (.loop { ({ L1458 with state := .busy } : Loop) with state := .ready, pending := none }) := ⟨_, rfl⟩
        have p127 : At h125 lp39 (.loop { ({ L1458 with state := .busy } : Loop) with state := .ready, pending := none }) := set_same e126 p79
        have f128 := set_other e126 f76 (loop_ne p79 f76 rfl)
        have f129 := set_other e126 f77 (loop_ne p79 f77 rfl)
        have p130 := p78.keep fun b r hb q => (Chg.set e126).same b r q ((fun b hb hb2 => (p78).celled.loop p79 b hb hb2) b hb)
        have x131 := x80.then (Chg.set e126) (fun b hb => .inl ((fun b hb => by rw [eDc]; exact .inl hb) b hb))
        have dnew : ∀ z, ((fun (out : List ByteArray) (oa : Option Addr) (oc : Nat) => (fun b => b = lp39 ∨ b = b17 ∨ (blk (Value.slice oa (out.length) (oc))) b ∨ False)) (out) (oa) (oc)) z → Dc z ∨ hr.size ≤ z := by
          intro z hz; rcases hz with w | w | w | w
          · exact .inl (by rw [eDc]; exact .inl w)
          · exact .inl (by rw [eDc]; exact .inr (.inl w))
          · exact .inl (by rw [eDc]; exact .inr (.inr (.inl w)))
          · exact w.elim
        refine (show ∃ D', Chg Dc hr (h125) ∧ (∀ z, D' z → Dc z ∨ hr.size ≤ z) ∧ (if true = true then I1466 (k + 1) D' h125 else E1467 h125) from ?_) |> (fun w => by rw [e126] at w; exact w)
        refine ⟨(fun (out : List ByteArray) (oa : Option Addr) (oc : Nat) => (fun b => b = lp39 ∨ b = b17 ∨ (blk (Value.slice oa (out.length) (oc))) b ∨ False)) (out) (oa) (oc), x131, dnew, ?_⟩
        rw [if_pos rfl]
        rw [eI1465]
        exact ⟨out, oa, oc, rfl, (by have q := p127; rw [loop_back hs43 hp44] at q; exact q), c59.then (x131) d60, fun z hz => (dnew z hz).elim (d60 z) (fun w => .inr (by have := c59.size; omega)), f128, f129, by rw [ksL_next hk, List.filter_append, ← i63]; simp [c81], p130⟩
    have h132 : I1466 0 D1469 h45 := by rw [eI1465]; exact ⟨[], none, 0, eD1470, p48, Chg.refl h45, fun z hz => .inl hz, f53, f52, rfl, .inl ⟨rfl, rfl⟩⟩
    refine wc_range_any (h1 := h45) (c := (subc (bodyOf Tryd.prog 14) [1, 1, 1, 1, 0, 1, 0])) (g := .tmp 15) (params := #[16, 17]) (assign := (subc (bodyOf Tryd.prog 14) [1, 1, 1, 1, 0, 1, 0, 0])) (body := (subc (bodyOf Tryd.prog 14) [1, 1, 1, 1, 0, 1, 0, 1])) (by kernel_rfl) 46 #[] #[(vP b28 0)] lp39 [{ target := .collected dv37, args := #[] }] #[(Value.func (.yield lp39) #[] #[]), (vP b28 0)] (by rfl) rfl rfl (by kernel_rfl) (by rw [eh46, elp40, eL1458, etm42, edv38]; rfl) ?_
    have hG1568 : ∀ z, D1469 z → z < h45.size := by
      rw [eD1470]; rintro z (w | w | w | w)
      · have w1 : z = lp39 := w; omega
      · have w1 : z = b17 := w; have := row_lt f53; omega
      · exact w.elim
      · exact w.elim
    have hB1569 : ¬ D1469 b28 := by
      rw [eD1470]; rintro (w | w | w | w)
      · have w1 : b28 = lp39 := w; exact loop_ne p48 f54 (q := b28) w1 rfl
      · have w1 : b28 = b17 := w; exact n32 w1
      · exact w.elim
      · exact w.elim
    refine (each_it h45 (hT'.keep fun b r _ q => x55 b r q) ok b28 f54 lp39 I1466 E1467 D1469 (fun b hb w => by have := hT'.blk_lt hb; have := hD1477 b w; omega) hG1568 hB1569 hX1486 hy65 h132).mono fun _ h8 q => ?_
    obtain ⟨q0, q⟩ := q
    rcases q with ⟨Dv, q, qD⟩ | q
    · rw [eI1465] at q
      obtain ⟨out, oa, oc, eDv, p133, cgN, hdN, f134, f135, i136, p137⟩ := q
      refine ⟨_, p133, ?_, leftBy_none hp44 ?_⟩
      · exact fun w => by rw [hs43] at w; cases w
      have p138 : At h8 dv37 (.deferred (some [])) := q0.same _ _ p49 hd57
      obtain ⟨h139, e140⟩ : ∃ zq, zq = h8.setIfInBounds lp39 (.loop { L1458 with state := .exhausted }) := ⟨_, rfl⟩
      have f141 := set_other e140 f134 (loop_ne p133 f134 rfl)
      have p142 := p137.keep fun b r hb q => (Chg.set e140).same b r q ((fun b hb hb2 => (p137).celled.loop p133 b hb hb2) b hb)
      have p143 := p138.keep fun b r hb q => (Chg.set e140).same b r q ((fun b hb hb2 => (show ∀ b : Nat, b = lp39 → b = dv37 → False from fun b w1 w2 => by omega) b hb2 hb) b hb)
      rw [← e140]
      have c144 := q0.then (Chg.set e140) (fun b hb => .inl (by rw [eD1470]; exact .inl hb))
      have x145 : Ext h h139 := (Chg.then (O := fun _ => False) (Chg.ext x55) c144 (fun b hb => .inr (hD1477 b hb))).toExt'
      have nb : ∀ zz, blk (Value.slice oa (out.length) (oc)) zz → h.size ≤ zz := fun zz hz => (qD zz (by rw [eDv]; exact .inr (.inr (.inl hz)))).elim (hD1477 zz) (fun g => by omega)
      rw [List.take_length] at i136
      refine wc_ev [evC 10 0 0 agg29 f141] .ret h139 [(25, (vL oa out.length oc)), (4, (vL oa out.length oc)), (5, (vI 0))] ?_
      obtain ⟨h146, e147⟩ : ∃ zq, zq = h139.setIfInBounds dv37 (.deferred none) := ⟨_, rfl⟩
      have p148 := p142.keep fun b r hb q => (Chg.set e147).same b r q ((fun b hb hb2 => (p142).celled.defer p143 b hb hb2) b hb)
      have x149 : Ext h h146 := Ext.setNew x145 e147 (by omega)
      have ek : out = inL ms r0 r1 := by unfold inL; rw [if_pos c16]; exact i136
      refine end_mark3 (T := hintsOf [] []) (dv := dv37) { tmps := #[(vP t 0), (Value.agg #[(vS r0), (vS r1)]), (Value.tuple #[]), (vP b2 0), (Value.slice oa (out.length) (oc)), (vI 0), (vP b17 0), (Value.tuple #[]), (vP t 0), (vB true), (vB false), (Value.agg #[(vS r0), (vS r1)]), (vI ((rchk r0 r1))), (vB false), (vP t 0), (Value.func (.func 46) #[] #[(vP b28 0)]), (Value.tuple #[]), (Value.tuple #[]), (Value.tuple #[]), (Value.tuple #[]), (Value.tuple #[]), (Value.tuple #[]), (Value.tuple #[]), (Value.tuple #[]), (Value.tuple #[]), (Value.slice oa (out.length) (oc))], defers := ([{ target := .collected dv37, args := #[] }] ++ []) } (by kernel_rfl) (.inr rfl) rfl p143 e147 (A := resQ [] (K (Value.tuple #[(Value.slice oa (out.length) (oc)), (vI 0)]) h146)) (by kernel_rfl) ?_
      exact resQ_of _ (hK _ _ (⟨oa, oc, by unfold inE; rw [if_pos c16, ek], by rw [← ek]; exact p148, x149, by rw [← ek]; exact nb⟩))
    · rw [eE1468] at q; exact q.elim
  · refine wc_ev [evLw 3 0 agg24 size24 f6, evF 3 1 sn12, neT 3 2 31 c16] .ret hh11 [(11, (vA #[(vS r0), (vS r1)])), (12, (vI ((rchk r0 r1)))), (13, (vB true)), (4, (vL none 0 0)), (5, (vI 2))] ?_
    exact end_ev [] (vT #[(vL none 0 0), (vI 2)]) (hK _ _ (⟨none, 0, by unfold inL inE; rw [if_neg c16, if_neg c16]; rfl, by unfold inL; rw [if_neg c16]; exact .inl ⟨rfl, rfl⟩, x15, fun b hb => hb.elim⟩))
set_option maxHeartbeats 4000000 in
theorem ssum_ok (h : Heap) {O : Nat → Prop} {t : Nat} {ms : Sto} (hT : StAt 50 h O t ms) (ok : WfM ms) : WCall Tryd.prog 20 #[(vP t 0)] h (fun v h1 => v = .tuple #[.int .i64 (sumV (valsL ms)), .int .i64 (sumE (valsL ms))] ∧ Ext h h1) := by
  have hT' := hT
  obtain ⟨mb1, T⟩ := hT
  suffices H : ∀ K : Value → Heap → Prop, (∀ v h1, (fun v h1 => v = .tuple #[.int .i64 (sumV (valsL ms)), .int .i64 (sumE (valsL ms))] ∧ Ext h h1) v h1 → K v h1) → WCall Tryd.prog 20 #[(vP t 0)] h K from H _ fun _ _ q => q
  intro K hK
  refine wcall_at { tmps := #[(vP t 0), vZ, vZ, vZ, vZ, vZ, vZ, vZ, vZ, vZ, vZ, vZ, vZ, vZ, vZ, vZ, vZ, vZ, vZ, vZ, vZ, vZ, vZ], defers := [] } (by kernel_rfl) ?_
  refine wc_seq' (subc (bodyOf Tryd.prog 20) [0]) (subc (bodyOf Tryd.prog 20) [1]) (by kernel_rfl) ?_
  refine wc_ev [] .normal h [(2, (vI 0)), (3, (vI 0))] ?_
  refine wc_seq' (subc (bodyOf Tryd.prog 20) [1, 0]) (subc (bodyOf Tryd.prog 20) [1, 1]) (by kernel_rfl) ?_
  obtain ⟨_, _, sn2, rfl, rfl⟩ := valid_ok h T.row
  refine wc_ev [evF 1 1 sn2] .normal h [(7, (vP t 0)), (8, (vB true)), (9, (vB false))] ?_
  refine wc_seq' (subc (bodyOf Tryd.prog 20) [1, 1, 0]) (subc (bodyOf Tryd.prog 20) [1, 1, 1]) (by kernel_rfl) ?_
  obtain ⟨b3, eb4⟩ : ∃ zq, zq = h.size := ⟨_, rfl⟩
  obtain ⟨h5, e6⟩ : ∃ zq, zq = h.push (.cells #[(Value.slice none 0 0)] 76 (0, 0)) := ⟨_, rfl⟩
  have f7 := push_new e6
  rw [← eb4] at f7
  have x8 : Ext h h5 := by rw [e6]; exact Ext.push _ _
  have o9 : h.size ≤ b3 := by have := (Ext.refl h).size; omega
  have x10 := (Ext.refl h).trans x8
  refine wc_ev [evA 3 0 eb4 e6] .normal h5 [(4, (vP b3 0))] ?_
  refine wc_seq' (subc (bodyOf Tryd.prog 20) [1, 1, 1, 0]) (subc (bodyOf Tryd.prog 20) [1, 1, 1, 1]) (by kernel_rfl) ?_
  refine wc_seq' (subc (bodyOf Tryd.prog 20) [1, 1, 1, 0, 0]) (subc (bodyOf Tryd.prog 20) [1, 1, 1, 0, 1]) (by kernel_rfl) ?_
  obtain ⟨_, h11, s12, b13, rfl, f14, x15, o16⟩ := each_fn h5 t
  have n17 : b13 ≠ b3 := by have := row_lt f7; omega
  have oo18 : h.size ≤ b13 := by have := x10.size; omega
  have f19 := x15 _ _ f7
  have x20 := x10.trans x15
  refine wc_ev [evF 4 1 s12] .normal h11 [(10, (vP t 0)), (11, (Value.func (.func 46) #[] #[(vP b13 0)]))] ?_
  refine wc_block' 0 (subc (bodyOf Tryd.prog 20) [1, 1, 1, 0, 1, 0]) (by kernel_rfl) ?_
  refine wc_act { tmps := #[(vP t 0), vZ, (vI 0), (vI 0), (vP b3 0), vZ, vZ, (vP t 0), (vB true), (vB false), (vP t 0), (Value.func (.func 46) #[] #[(vP b13 0)]), vZ, vZ, vZ, vZ, vZ, vZ, vZ, vZ, vZ, vZ, vZ], defers := [] } (by kernel_rfl) ?_
  obtain ⟨dv21, edv22⟩ : ∃ zq, zq = h11.size := ⟨_, rfl⟩
  obtain ⟨lp23, elp24⟩ : ∃ zq, zq = h11.size + 1 := ⟨_, rfl⟩
  obtain ⟨tm25, etm26⟩ : ∃ zq : Array Value, zq = #[(vP t 0), (Value.tuple #[]), (vI 0), (vI 0), (vP b3 0), (Value.tuple #[]), (Value.tuple #[]), (vP t 0), (vB true), (vB false), (vP t 0), (Value.func (.func 46) #[] #[(vP b13 0)]), (Value.tuple #[]), (Value.tuple #[]), (Value.tuple #[]), (Value.tuple #[]), (Value.tuple #[]), (Value.tuple #[]), (Value.tuple #[]), (Value.tuple #[]), (Value.tuple #[]), (Value.tuple #[]), (Value.tuple #[])] := ⟨_, rfl⟩
  obtain ⟨L1620, eL1620⟩ : ∃ zq : Loop, zq = { state := .ready, pending := none, fn := 0, tmps := tm25, params := #[12, 13], assign := (subc (bodyOf Tryd.prog 20) [1, 1, 1, 0, 1, 0, 0]), body := (subc (bodyOf Tryd.prog 20) [1, 1, 1, 0, 1, 0, 1]), defers := dv21 } := ⟨_, rfl⟩
  have hs27 : L1620.state = .ready := by rw [eL1620]
  have hp28 : L1620.pending = none := by rw [eL1620]
  obtain ⟨h29, eh30⟩ : ∃ zq, zq = (h11.push (.deferred (some []))).push (.loop L1620) := ⟨_, rfl⟩
  have x31 : Ext h11 h29 := by rw [eh30]; exact (Ext.push _ _).trans (Ext.push _ _)
  have p32 : At h29 lp23 (.loop L1620) := by rw [eh30, elp24, show h11.size + 1 = (h11.push (.deferred (some []))).size by simp]; exact push_new rfl
  have p33 : At h29 dv21 (.deferred (some [])) := by rw [eh30, edv22]; exact push_old (b := h11.size) rfl (push_new rfl)
  have sh34 : lp23 < h29.size := p32.blk_lt rfl
  have z35 : h.size ≤ h11.size := x20.size
  have f36 := x31 _ _ f19
  have f37 := x31 _ _ f14
  have x38 := x20.trans x31
  have z39 : h.size ≤ h29.size := x38.size
  obtain ⟨D1631, eD1632⟩ : ∃ zq : Nat → Prop, zq = (fun (out : List Int) (oa : Option Addr) (oc : Nat) => (fun b => b = lp23 ∨ b = b3 ∨ (blk (Value.slice oa (out.length) (oc))) b ∨ False)) ([]) (none) (0) := ⟨_, rfl⟩
  have hD1638 : ∀ b, D1631 b → h.size ≤ b := by
    rw [eD1632]; rintro b (w | w | w | w)
    · have w1 : b = lp23 := w; omega
    · have w1 : b = b3 := w; have := o9; omega
    · exact w.elim
    · exact w.elim
  have hd40 : ¬ D1631 dv21 := by
    rw [eD1632]; rintro (w | w | w | w)
    · have w1 : dv21 = lp23 := w; omega
    · have w1 : dv21 = b3 := w; have := row_lt f19; omega
    · exact w.elim
    · exact w.elim
  obtain ⟨I1628, eI1627⟩ : ∃ zq : Nat → (Nat → Prop) → Heap → Prop, zq = fun (kk : Nat) (Dv : Nat → Prop) (h' : Heap) => ∃ (out : List Int), ∃ (oa : Option Addr), ∃ (oc : Nat), Dv = (fun b => b = lp23 ∨ b = b3 ∨ (blk (Value.slice oa (out.length) (oc))) b ∨ False) ∧ At h' lp23 (.loop L1620) ∧ Chg D1631 h29 h' ∧ (∀ z, Dv z → D1631 z ∨ h29.size ≤ z) ∧ h'[b3]? = some (.cells #[(Value.slice oa (out.length) (oc))] 76 (0, 0)) ∧ out = valsL (ms.take (kk)) ∧ OwnAt h' 2 icell out (Value.slice oa (out.length) (oc)) := ⟨_, rfl⟩
  obtain ⟨E1629, eE1630⟩ : ∃ zq : Heap → Prop, zq = fun _ => False := ⟨_, rfl⟩
  have hX1646 : ∀ k D h' h'', I1628 k D h' → Ext h' h'' → I1628 k D h'' := by
    rw [eI1627]
    rintro k _ h' h'' ⟨out, oa, oc, rfl, p41, c42, d43, f44, i45, p46⟩ xx
    exact ⟨out, oa, oc, rfl, xx _ _ p41, c42.trans (Chg.ext xx), d43, xx _ _ f44, i45, p46.keep fun b r _ q => xx b r q⟩
  have hy47 : ∀ k y D h', (ms)[k]? = some y → I1628 k D h' → ∃ b h'' D', SoundYield Tryd.prog lp23 #[(vS y.1), (Value.agg #[(vI (y.2.v)), (vI (y.2.up)), (vI (y.2.dn)), (vI (y.2.lo)), (vI (y.2.hi))])] h' (.bool b) h'' ∧ Chg D h' h'' ∧ (∀ z, D' z → D z ∨ h'.size ≤ z) ∧ (if b = true then I1628 (k + 1) D' h'' else E1629 h'') := by
    rw [eI1627]
    rintro k y _ hr hk ⟨out, oa, oc, rfl, p41, c42, d43, f44, i45, p46⟩
    obtain ⟨Dc, eDc⟩ : ∃ zq : Nat → Prop, zq = (fun b => b = lp23 ∨ b = b3 ∨ (blk (Value.slice oa (out.length) (oc))) b ∨ False) := ⟨_, rfl⟩
    rw [← eDc] at d43
    rw [← eI1627]
    rw [← eDc]
    have lo1 : out.length ≤ 64 := by have e9 := congrArg List.length i45; have := ok.few; have := take_lenv ms k; omega
    suffices hw : ∃ b h'', SoundYield Tryd.prog lp23 #[(vS y.1), (Value.agg #[(vI (y.2.v)), (vI (y.2.up)), (vI (y.2.dn)), (vI (y.2.lo)), (vI (y.2.hi))])] hr (.bool b) h'' ∧ (fun b h'' => ∃ D', Chg Dc hr h'' ∧ (∀ z, D' z → Dc z ∨ hr.size ≤ z) ∧ (if b = true then I1628 (k + 1) D' h'' else E1629 h'')) b h'' from by
      obtain ⟨b, h'', q1, D', q2, q3, q4⟩ := hw
      exact ⟨b, h'', D', q1, q2, q3, q4⟩
    refine w_round (args := #[(vS y.1), (Value.agg #[(vI (y.2.v)), (vI (y.2.up)), (vI (y.2.dn)), (vI (y.2.lo)), (vI (y.2.hi))])]) (K := (fun b h'' => ∃ D', Chg Dc hr h'' ∧ (∀ z, D' z → Dc z ∨ hr.size ≤ z) ∧ (if b = true then I1628 (k + 1) D' h'' else E1629 h''))) p41 hs27 (by rw [eL1620]; rfl) { tmps := #[(vP t 0), (Value.tuple #[]), (vI 0), (vI 0), (vP b3 0), (Value.tuple #[]), (Value.tuple #[]), (vP t 0), (vB true), (vB false), (vP t 0), (Value.func (.func 46) #[] #[(vP b13 0)]), (vS y.1), (Value.agg #[(vI (y.2.v)), (vI (y.2.up)), (vI (y.2.dn)), (vI (y.2.lo)), (vI (y.2.hi))]), (Value.tuple #[]), (Value.tuple #[]), (Value.tuple #[]), (Value.tuple #[]), (Value.tuple #[]), (Value.tuple #[]), (Value.tuple #[]), (Value.tuple #[]), (Value.tuple #[])], defers := [] } (by rw [eL1620, etm26]; kernel_rfl) (subc (bodyOf Tryd.prog 20) [1, 1, 1, 0, 1, 0, 0]) (subc (bodyOf Tryd.prog 20) [1, 1, 1, 0, 1, 0, 1]) (by rw [eL1620]) (by rw [eL1620]) ?_
    obtain ⟨b48, eb49⟩ : ∃ zq, zq = hr.size := ⟨_, rfl⟩
    obtain ⟨h50, e51⟩ : ∃ zq, zq = hr.push (.cells #[(vI 0), (vI 0), (vI 0), (vI 0), (vI 0)] 39 (0, 0)) := ⟨_, rfl⟩
    have f52 := push_new e51
    rw [← eb49] at f52
    have n53 : b48 ≠ b3 := by have := row_lt f44; omega
    have n54 : ∀ zz, (blk (Value.slice oa (out.length) (oc))) zz → ¬ zz = b48 := fun zz hz ez => by have := p46.blk_lt hz; omega
    have n55 : ∀ zz, (fun q => q = lp23) zz → ¬ zz = b48 := fun zz hz ez => by have := p41.blk_lt hz; omega
    have x56 : Ext hr h50 := by rw [e51]; exact Ext.push _ _
    have o57 : hr.size ≤ b48 := by have := (Chg.refl (O := Dc) hr).size; omega
    have f58 := x56 _ _ f44
    have p59 := p46.keep fun b r _ q => x56 b r q
    have p60 := p41.keep fun b r _ q => x56 b r q
    have x61 := (Chg.refl (O := Dc) hr).trans (Chg.ext x56)
    obtain ⟨h62, e63⟩ : ∃ zq, zq = h50.setIfInBounds b48 (.cells #[(vI (y.2.v)), (vI (y.2.up)), (vI (y.2.dn)), (vI (y.2.lo)), (vI (y.2.hi))] 39 (0, 0)) := ⟨_, rfl⟩
    have f65 := set_same e63 f52
    have f66 := set_other e63 f58 n53
    have p67 := p59.keep fun b r hb q => (Chg.set e63).same b r q (n54 b hb)
    have p68 := p60.keep fun b r hb q => (Chg.set e63).same b r q (n55 b hb)
    have x69 := x61.then (Chg.set e63) (fun b hb => by subst hb; exact (.inr o57))
    refine wc_ev [evA 5 0 eb49 e51, evUw 5 1 size39 f52 e63] .normal h62 [(6, (vP b48 0))] ?_
    refine ⟨rfl, L1620, p68, hs27, ?_⟩
    obtain ⟨h70, e71⟩ : ∃ zq, zq = h62.setIfInBounds lp23 (.loop { L1620 with state := .busy }) := ⟨_, rfl⟩
    have p72 : At h70 lp23 (.loop { L1620 with state := .busy }) := set_same e71 p68
    have f73 := set_other e71 f66 (loop_ne p68 f66 rfl)
    have f74 := set_other e71 f65 (loop_ne p68 f65 rfl)
    have p75 := p67.keep fun b r hb q => (Chg.set e71).same b r q ((fun b hb hb2 => (p67).celled.loop p68 b hb hb2) b hb)
    have x76 := x69.then (Chg.set e71) (fun b hb => .inl ((fun b hb => by rw [eDc]; exact .inl hb) b hb))
    rw [← e71]
    obtain ⟨b77, eb78⟩ : ∃ zq, zq = h70.size := ⟨_, rfl⟩
    obtain ⟨h79, e80⟩ : ∃ zq, zq = h70.push (.cells #[(vI (y.2.v))] 2 (0, 0)) := ⟨_, rfl⟩
    have f81 := push_new e80
    rw [← eb78] at f81
    have x82 : Ext h70 h79 := by rw [e80]; exact Ext.push _ _
    have o83 : hr.size ≤ b77 := by have := x76.size; omega
    have f84 := x82 _ _ f73
    have p85 := p75.keep fun b r _ q => x82 b r q
    have p86 := p72.keep fun b r _ q => x82 b r q
    have x87 := x76.trans (Chg.ext x82)
    obtain ⟨w88, h89, e90, p91, c92, n93, z94⟩ := own_append und76 sizeb2 zero2 rfl (by decide) icell_size (x := y.2.v) p85 f81 rfl (by omega) (by unfold maxLen; omega)
    obtain ⟨a95, c96, rfl⟩ := (p91.slice icell_size).len
    have z97 : hr.size ≤ h79.size := x87.size
    have x98 := x87.then c92 (fun b hb => .inl ((show ∀ b, (blk (Value.slice oa (out.length) (oc))) b → Dc b from fun b hb => by rw [eDc]; exact .inr (.inr (.inl hb))) b hb))
    have f99 := c92.same _ _ f84 (fun hb => p85.ne f84 (by decide) hb rfl)
    have p100 := p86.keep fun b r hb q => c92.same b r q ((fun b hb hb2 => (p85).celled.loop p86 b hb2 hb) b hb)
    have n101 : ∀ zz, blk (Value.slice a95 ((out ++ [y.2.v]).length) (c96)) zz → ¬ zz = b3 := fun zz hz ez => by have := n93 zz hz; have := row_lt f84; omega
    have n102 : ∀ zz, blk (Value.slice a95 ((out ++ [y.2.v]).length) (c96)) zz → ¬ (fun q => q = lp23) zz := fun zz hz ez => by have := n93 zz hz; have := p86.blk_lt ez; omega
    have o103 : ∀ zz, blk (Value.slice a95 ((out ++ [y.2.v]).length) (c96)) zz → hr.size ≤ zz := fun zz hz => by have := n93 zz hz; have := z97; omega
    obtain ⟨h104, e105⟩ : ∃ zq, zq = h89.setIfInBounds b3 (.cells #[(Value.slice a95 ((out ++ [y.2.v]).length) (c96))] 76 (0, 0)) := ⟨_, rfl⟩
    have f106 := set_same e105 f99
    have p107 := p100.keep fun b r hb q => (Chg.set e105).same b r q ((fun (b : Nat) hb => loop_ne p100 f99 hb) b hb)
    have p108 := p91.keep fun b r hb q => (Chg.set e105).same b r q (n101 b hb)
    have x109 := x98.then (Chg.set e105) (fun b hb => by subst hb; exact (.inl (by rw [eDc]; exact .inr (.inl rfl))))
    refine wc_ev [evC 6 0 0 agg76 f73, evC 6 2 0 agg2 f74, evS 6 3 1 eb78 e80, evP 6 4 e90, evT 6 5 0 size76 f99 e105] .normal h104 [(14, (vL oa out.length oc)), (15, (vP b48 0)), (16, (vI y.2.v)), (17, (vL (some ⟨b77, 0, none⟩) 1 1)), (18, (vL a95 ((out ++ [y.2.v]).length) c96))] ?_
    refine ⟨_, p107, ?_⟩
    obtain ⟨h110, e111⟩ : ∃ zq, zq = h104.setIfInBounds lp23 (.loop { ({ L1620 with state := .busy } : Loop) with state := .ready, pending := none }) := ⟨_, rfl⟩
    have p112 : At h110 lp23 (.loop { ({ L1620 with state := .busy } : Loop) with state := .ready, pending := none }) := set_same e111 p107
    have f113 := set_other e111 f106 (loop_ne p107 f106 rfl)
    have p114 := p108.keep fun b r hb q => (Chg.set e111).same b r q (n102 b hb)
    have x115 := x109.then (Chg.set e111) (fun b hb => .inl ((fun b hb => by rw [eDc]; exact .inl hb) b hb))
    have dnew : ∀ z, ((fun (out : List Int) (oa : Option Addr) (oc : Nat) => (fun b => b = lp23 ∨ b = b3 ∨ (blk (Value.slice oa (out.length) (oc))) b ∨ False)) ((out ++ [y.2.v])) (a95) (c96)) z → Dc z ∨ hr.size ≤ z := by
      intro z hz; rcases hz with w | w | w | w
      · exact .inl (by rw [eDc]; exact .inl w)
      · exact .inl (by rw [eDc]; exact .inr (.inl w))
      · exact .inr (o103 z w)
      · exact w.elim
    refine (show ∃ D', Chg Dc hr (h110) ∧ (∀ z, D' z → Dc z ∨ hr.size ≤ z) ∧ (if true = true then I1628 (k + 1) D' h110 else E1629 h110) from ?_) |> (fun w => by rw [e111] at w; exact w)
    refine ⟨(fun (out : List Int) (oa : Option Addr) (oc : Nat) => (fun b => b = lp23 ∨ b = b3 ∨ (blk (Value.slice oa (out.length) (oc))) b ∨ False)) ((out ++ [y.2.v])) (a95) (c96), x115, dnew, ?_⟩
    rw [if_pos rfl]
    rw [eI1627]
    exact ⟨(out ++ [y.2.v]), a95, c96, rfl, (by have q := p112; rw [loop_back hs27 hp28] at q; exact q), c42.then (x115) d43, fun z hz => (dnew z hz).elim (d43 z) (fun w => .inr (by have := c42.size; omega)), f113, by rw [valsL_next hk, ← i45], p114⟩
  have h116 : I1628 0 D1631 h29 := by rw [eI1627]; exact ⟨[], none, 0, eD1632, p32, Chg.refl h29, fun z hz => .inl hz, f36, rfl, .inl ⟨rfl, rfl⟩⟩
  refine wc_range_any (h1 := h29) (c := (subc (bodyOf Tryd.prog 20) [1, 1, 1, 0, 1, 0])) (g := .tmp 11) (params := #[12, 13]) (assign := (subc (bodyOf Tryd.prog 20) [1, 1, 1, 0, 1, 0, 0])) (body := (subc (bodyOf Tryd.prog 20) [1, 1, 1, 0, 1, 0, 1])) (by kernel_rfl) 46 #[] #[(vP b13 0)] lp23 [{ target := .collected dv21, args := #[] }] #[(Value.func (.yield lp23) #[] #[]), (vP b13 0)] (by rfl) rfl rfl (by kernel_rfl) (by rw [eh30, elp24, eL1620, etm26, edv22]; rfl) ?_
  have hG1735 : ∀ z, D1631 z → z < h29.size := by
    rw [eD1632]; rintro z (w | w | w | w)
    · have w1 : z = lp23 := w; omega
    · have w1 : z = b3 := w; have := row_lt f36; omega
    · exact w.elim
    · exact w.elim
  have hB1736 : ¬ D1631 b13 := by
    rw [eD1632]; rintro (w | w | w | w)
    · have w1 : b13 = lp23 := w; exact loop_ne p32 f37 (q := b13) w1 rfl
    · have w1 : b13 = b3 := w; exact n17 w1
    · exact w.elim
    · exact w.elim
  refine (each_it h29 (hT'.keep fun b r _ q => x38 b r q) ok b13 f37 lp23 I1628 E1629 D1631 (fun b hb w => by have := hT'.blk_lt hb; have := hD1638 b w; omega) hG1735 hB1736 hX1646 hy47 h116).mono fun _ h8 q => ?_
  obtain ⟨q0, q⟩ := q
  rcases q with ⟨Dv, q, qD⟩ | q
  · rw [eI1627] at q
    obtain ⟨out, oa, oc, eDv, p117, cgN, hdN, f118, i119, p120⟩ := q
    refine ⟨_, p117, ?_, leftBy_none hp28 ?_⟩
    · exact fun w => by rw [hs27] at w; cases w
    have p121 : At h8 dv21 (.deferred (some [])) := q0.same _ _ p33 hd40
    obtain ⟨h122, e123⟩ : ∃ zq, zq = h8.setIfInBounds lp23 (.loop { L1620 with state := .exhausted }) := ⟨_, rfl⟩
    have f124 := set_other e123 f118 (loop_ne p117 f118 rfl)
    have p125 := p120.keep fun b r hb q => (Chg.set e123).same b r q ((fun b hb hb2 => (p120).celled.loop p117 b hb hb2) b hb)
    have p126 := p121.keep fun b r hb q => (Chg.set e123).same b r q ((fun b hb hb2 => (show ∀ b : Nat, b = lp23 → b = dv21 → False from fun b w1 w2 => by omega) b hb2 hb) b hb)
    rw [← e123]
    have c127 := q0.then (Chg.set e123) (fun b hb => .inl (by rw [eD1632]; exact .inl hb))
    have x128 : Ext h h122 := (Chg.then (O := fun _ => False) (Chg.ext x38) c127 (fun b hb => .inr (hD1638 b hb))).toExt'
    have nb : ∀ zz, blk (Value.slice oa (out.length) (oc)) zz → h.size ≤ zz := fun zz hz => (qD zz (by rw [eDv]; exact .inr (.inr (.inl hz)))).elim (hD1638 zz) (fun g => by omega)
    rw [List.take_length] at i119
    obtain ⟨_, hh129, sn130, rfl, x131⟩ := sum_ok h122 out _ _ (p125.slice icell_size) (by have e9 := congrArg List.length i119; have := ok.few; have := take_lenv ms ms.length; rw [List.take_length] at this; omega) (by rw [show out = valsL ms from i119]; exact ok.vals)
    have p132 := p126.keep fun b r _ q => x131 b r q
    have x133 := x128.trans x131
    refine wc_ev [evC 7 0 0 agg76 f124, evF 7 1 sn130] .ret hh129 [(19, (vL oa out.length oc)), (20, (vT #[(vI (sumV out)), (vI (sumE out))])), (21, (vI (sumV out))), (22, (vI (sumE out))), (2, (vI (sumV out))), (3, (vI (sumE out)))] ?_
    obtain ⟨h134, e135⟩ : ∃ zq, zq = hh129.setIfInBounds dv21 (.deferred none) := ⟨_, rfl⟩
    have x136 : Ext h h134 := Ext.setNew x133 e135 (by omega)
    have ek : out = valsL ms := i119
    refine end_mark3 (T := hintsOf [] []) (dv := dv21) { tmps := #[(vP t 0), (Value.tuple #[]), (vI (sumV out)), (vI (sumE out)), (vP b3 0), (Value.tuple #[]), (Value.tuple #[]), (vP t 0), (vB true), (vB false), (vP t 0), (Value.func (.func 46) #[] #[(vP b13 0)]), (Value.tuple #[]), (Value.tuple #[]), (Value.tuple #[]), (Value.tuple #[]), (Value.tuple #[]), (Value.tuple #[]), (Value.tuple #[]), (Value.slice oa (out.length) (oc)), (Value.tuple #[(vI (sumV out)), (vI (sumE out))]), (vI (sumV out)), (vI (sumE out))], defers := ([{ target := .collected dv21, args := #[] }] ++ []) } (by kernel_rfl) (.inr rfl) rfl p132 e135 (A := resQ [] (K (Value.tuple #[(vI (sumV out)), (vI (sumE out))]) h134)) (by kernel_rfl) ?_
    exact resQ_of _ (hK _ _ (⟨by rw [ek], x136⟩))
  · rw [eE1630] at q; exact q.elim
set_option maxHeartbeats 4000000 in
theorem qu1_ok (h : Heap) (c : CntM) : WCall Tryd.prog 41 #[(Value.agg #[(vI (c.v)), (vI (c.up)), (vI (c.dn)), (vI (c.lo)), (vI (c.hi))])] h (fun v h1 => v = .bool (decide (c.up = 0) && decide (c.dn = 0)) ∧ Ext h h1) := by
  obtain ⟨b1, eb2⟩ : ∃ zq, zq = h.size := ⟨_, rfl⟩
  obtain ⟨h3, e4⟩ : ∃ zq, zq = h.push (.cells #[(vI (c.v)), (vI (c.up)), (vI (c.dn)), (vI (c.lo)), (vI (c.hi))] 39 (0, 0)) := ⟨_, rfl⟩
  have f5 := push_new e4
  rw [← eb2] at f5
  have x6 : Ext h h3 := by rw [e4]; exact Ext.push _ _
  have o7 : h.size ≤ b1 := by have := (Ext.refl h).size; omega
  have x8 := (Ext.refl h).trans x6
  by_cases c9 : ((c.up) : Int) = 0
  · by_cases c10 : ((c.dn) : Int) = 0
    · exact hCall_ev [evA 0 0 eb2 e4, evC 1 1 1 agg2 f5, eqT 1 2 2 c9, evC 1 5 2 agg2 f5, eqT 1 6 2 c10] [] (vB true) h3 ⟨by congr 1; simp; omega, x8⟩
    · exact hCall_ev [evA 0 0 eb2 e4, evC 1 1 1 agg2 f5, eqT 1 2 2 c9, evC 1 5 2 agg2 f5, eqF 1 6 2 c10] [] (vB false) h3 ⟨by congr 1; simp; omega, x8⟩
  · exact hCall_ev [evA 0 0 eb2 e4, evC 1 1 1 agg2 f5, eqF 1 2 2 c9] [] (vB false) h3 ⟨by congr 1; simp; omega, x8⟩
set_option maxHeartbeats 4000000 in
theorem all_ok (h : Heap) {O : Nat → Prop} {t : Nat} {ms : Sto} (hT : StAt 50 h O t ms) (ok : WfM ms) : WCall Tryd.prog 40 #[(vP t 0), (Value.func (.func 41) #[] #[])] h (fun v h1 => v = .bool (quietB ms) ∧ Ext h h1) := by
  have hT' := hT
  obtain ⟨mb1, T⟩ := hT
  suffices H : ∀ K : Value → Heap → Prop, (∀ v h1, (fun v h1 => v = .bool (quietB ms) ∧ Ext h h1) v h1 → K v h1) → WCall Tryd.prog 40 #[(vP t 0), (Value.func (.func 41) #[] #[])] h K from H _ fun _ _ q => q
  intro K hK
  refine wcall_at { tmps := #[(vP t 0), (Value.func (.func 41) #[] #[]), vZ, vZ, vZ, vZ, vZ, vZ, vZ, vZ, vZ, vZ, vZ, vZ, vZ], defers := [] } (by kernel_rfl) ?_
  refine wc_seq' (subc (bodyOf Tryd.prog 40) [0]) (subc (bodyOf Tryd.prog 40) [1]) (by kernel_rfl) ?_
  obtain ⟨b2, eb3⟩ : ∃ zq, zq = h.size := ⟨_, rfl⟩
  obtain ⟨h4, e5⟩ : ∃ zq, zq = h.push (.cells #[(Value.func (.func 41) #[] #[])] 79 (0, 0)) := ⟨_, rfl⟩
  have f6 := push_new e5
  rw [← eb3] at f6
  have x7 : Ext h h4 := by rw [e5]; exact Ext.push _ _
  have o8 : h.size ≤ b2 := by have := (Ext.refl h).size; omega
  have x9 := (Ext.refl h).trans x7
  obtain ⟨b10, eb11⟩ : ∃ zq, zq = h4.size := ⟨_, rfl⟩
  obtain ⟨h12, e13⟩ : ∃ zq, zq = h4.push (.cells #[(vB false)] 4 (0, 0)) := ⟨_, rfl⟩
  have f14 := push_new e13
  rw [← eb11] at f14
  have x15 : Ext h4 h12 := by rw [e13]; exact Ext.push _ _
  have o16 : h.size ≤ b10 := by have := x9.size; omega
  have f17 := x15 _ _ f6
  have x18 := x9.trans x15
  refine wc_ev [evA 0 0 eb3 e5, evA 0 1 eb11 e13] .normal h12 [(3, (vP b2 0)), (4, (vP b10 0))] ?_
  refine wc_seq' (subc (bodyOf Tryd.prog 40) [1, 0]) (subc (bodyOf Tryd.prog 40) [1, 1]) (by kernel_rfl) ?_
  refine wc_seq' (subc (bodyOf Tryd.prog 40) [1, 0, 0]) (subc (bodyOf Tryd.prog 40) [1, 0, 1]) (by kernel_rfl) ?_
  obtain ⟨_, h19, s20, b21, rfl, f22, x23, o24⟩ := each_fn h12 t
  have n25 : b21 ≠ b10 := by have := row_lt f14; omega
  have oo26 : h.size ≤ b21 := by have := x18.size; omega
  have f27 := x23 _ _ f17
  have f28 := x23 _ _ f14
  have x29 := x18.trans x23
  refine wc_ev [evF 1 1 s20] .normal h19 [(7, (vP t 0)), (8, (Value.func (.func 46) #[] #[(vP b21 0)]))] ?_
  refine wc_block' 0 (subc (bodyOf Tryd.prog 40) [1, 0, 1, 0]) (by kernel_rfl) ?_
  refine wc_act { tmps := #[(vP t 0), (Value.func (.func 41) #[] #[]), vZ, (vP b2 0), (vP b10 0), vZ, vZ, (vP t 0), (Value.func (.func 46) #[] #[(vP b21 0)]), vZ, vZ, vZ, vZ, vZ, vZ], defers := [] } (by kernel_rfl) ?_
  obtain ⟨dv30, edv31⟩ : ∃ zq, zq = h19.size := ⟨_, rfl⟩
  obtain ⟨lp32, elp33⟩ : ∃ zq, zq = h19.size + 1 := ⟨_, rfl⟩
  obtain ⟨tm34, etm35⟩ : ∃ zq : Array Value, zq = #[(vP t 0), (Value.func (.func 41) #[] #[]), (Value.tuple #[]), (vP b2 0), (vP b10 0), (Value.tuple #[]), (Value.tuple #[]), (vP t 0), (Value.func (.func 46) #[] #[(vP b21 0)]), (Value.tuple #[]), (Value.tuple #[]), (Value.tuple #[]), (Value.tuple #[]), (Value.tuple #[]), (Value.tuple #[])] := ⟨_, rfl⟩
  obtain ⟨L1813, eL1813⟩ : ∃ zq : Loop, zq = { state := .ready, pending := none, fn := 0, tmps := tm34, params := #[9, 10], assign := (subc (bodyOf Tryd.prog 40) [1, 0, 1, 0, 0]), body := (subc (bodyOf Tryd.prog 40) [1, 0, 1, 0, 1]), defers := dv30 } := ⟨_, rfl⟩
  have hs36 : L1813.state = .ready := by rw [eL1813]
  have hp37 : L1813.pending = none := by rw [eL1813]
  obtain ⟨h38, eh39⟩ : ∃ zq, zq = (h19.push (.deferred (some []))).push (.loop L1813) := ⟨_, rfl⟩
  have x40 : Ext h19 h38 := by rw [eh39]; exact (Ext.push _ _).trans (Ext.push _ _)
  have p41 : At h38 lp32 (.loop L1813) := by rw [eh39, elp33, show h19.size + 1 = (h19.push (.deferred (some []))).size by simp]; exact push_new rfl
  have p42 : At h38 dv30 (.deferred (some [])) := by rw [eh39, edv31]; exact push_old (b := h19.size) rfl (push_new rfl)
  have sh43 : lp32 < h38.size := p41.blk_lt rfl
  have z44 : h.size ≤ h19.size := x29.size
  have f45 := x40 _ _ f27
  have f46 := x40 _ _ f28
  have f47 := x40 _ _ f22
  have x48 := x29.trans x40
  have z49 : h.size ≤ h38.size := x48.size
  obtain ⟨D1824, eD1825⟩ : ∃ zq : Nat → Prop, zq = (fun b => b = lp32 ∨ b = b10 ∨ False) := ⟨_, rfl⟩
  have hD1832 : ∀ b, D1824 b → h.size ≤ b := by
    rw [eD1825]; rintro b (w | w | w)
    · have w1 : b = lp32 := w; omega
    · have w1 : b = b10 := w; have := o16; omega
    · exact w.elim
  have hd50 : ¬ D1824 dv30 := by
    rw [eD1825]; rintro (w | w | w)
    · have w1 : dv30 = lp32 := w; omega
    · have w1 : dv30 = b10 := w; have := row_lt f28; omega
    · exact w.elim
  obtain ⟨I1821, eI1820⟩ : ∃ zq : Nat → (Nat → Prop) → Heap → Prop, zq = fun (kk : Nat) (Dv : Nat → Prop) (h' : Heap) => Dv = (fun b => b = lp32 ∨ b = b10 ∨ False) ∧ At h' lp32 (.loop L1813) ∧ Chg D1824 h38 h' ∧ (∀ z, Dv z → D1824 z ∨ h38.size ≤ z) ∧ h'[b2]? = some (.cells #[(Value.func (.func 41) #[] #[])] 79 (0, 0)) ∧ h'[b10]? = some (.cells #[(vB false)] 4 (0, 0)) ∧ (((ms.take (kk)) : Sto).all fun p => (decide (p.2.up = 0) && decide (p.2.dn = 0))) = true := ⟨_, rfl⟩
  obtain ⟨E1822, eE1823⟩ : ∃ zq : Heap → Prop, zq = fun (h' : Heap) => At h' lp32 (.loop { ({ L1813 with state := .busy } : Loop) with state := .done, pending := some .ret }) ∧ Chg D1824 h38 h' ∧ h'[b10]? = some (.cells #[(vB false)] 4 (0, 0)) ∧ quietB ms = false := ⟨_, rfl⟩
  have hX1840 : ∀ k D h' h'', I1821 k D h' → Ext h' h'' → I1821 k D h'' := by
    rw [eI1820]
    rintro k _ h' h'' ⟨rfl, p51, c52, d53, f54, f55, i56⟩ xx
    exact ⟨rfl, xx _ _ p51, c52.trans (Chg.ext xx), d53, xx _ _ f54, xx _ _ f55, i56⟩
  have hy57 : ∀ k y D h', (ms)[k]? = some y → I1821 k D h' → ∃ b h'' D', SoundYield Tryd.prog lp32 #[(vS y.1), (Value.agg #[(vI (y.2.v)), (vI (y.2.up)), (vI (y.2.dn)), (vI (y.2.lo)), (vI (y.2.hi))])] h' (.bool b) h'' ∧ Chg D h' h'' ∧ (∀ z, D' z → D z ∨ h'.size ≤ z) ∧ (if b = true then I1821 (k + 1) D' h'' else E1822 h'') := by
    rw [eI1820]
    rintro k y _ hr hk ⟨rfl, p51, c52, d53, f54, f55, i56⟩
    obtain ⟨Dc, eDc⟩ : ∃ zq : Nat → Prop, zq = (fun b => b = lp32 ∨ b = b10 ∨ False) := ⟨_, rfl⟩
    rw [← eDc] at d53
    rw [← eI1820]
    rw [← eDc]
    suffices hw : ∃ b h'', SoundYield Tryd.prog lp32 #[(vS y.1), (Value.agg #[(vI (y.2.v)), (vI (y.2.up)), (vI (y.2.dn)), (vI (y.2.lo)), (vI (y.2.hi))])] hr (.bool b) h'' ∧ (fun b h'' => ∃ D', Chg Dc hr h'' ∧ (∀ z, D' z → Dc z ∨ hr.size ≤ z) ∧ (if b = true then I1821 (k + 1) D' h'' else E1822 h'')) b h'' from by
      obtain ⟨b, h'', q1, D', q2, q3, q4⟩ := hw
      exact ⟨b, h'', D', q1, q2, q3, q4⟩
    refine w_round (args := #[(vS y.1), (Value.agg #[(vI (y.2.v)), (vI (y.2.up)), (vI (y.2.dn)), (vI (y.2.lo)), (vI (y.2.hi))])]) (K := (fun b h'' => ∃ D', Chg Dc hr h'' ∧ (∀ z, D' z → Dc z ∨ hr.size ≤ z) ∧ (if b = true then I1821 (k + 1) D' h'' else E1822 h''))) p51 hs36 (by rw [eL1813]; rfl) { tmps := #[(vP t 0), (Value.func (.func 41) #[] #[]), (Value.tuple #[]), (vP b2 0), (vP b10 0), (Value.tuple #[]), (Value.tuple #[]), (vP t 0), (Value.func (.func 46) #[] #[(vP b21 0)]), (vS y.1), (Value.agg #[(vI (y.2.v)), (vI (y.2.up)), (vI (y.2.dn)), (vI (y.2.lo)), (vI (y.2.hi))]), (Value.tuple #[]), (Value.tuple #[]), (Value.tuple #[]), (Value.tuple #[])], defers := [] } (by rw [eL1813, etm35]; kernel_rfl) (subc (bodyOf Tryd.prog 40) [1, 0, 1, 0, 0]) (subc (bodyOf Tryd.prog 40) [1, 0, 1, 0, 1]) (by rw [eL1813]) (by rw [eL1813]) ?_
    obtain ⟨b58, eb59⟩ : ∃ zq, zq = hr.size := ⟨_, rfl⟩
    obtain ⟨h60, e61⟩ : ∃ zq, zq = hr.push (.cells #[(vI 0), (vI 0), (vI 0), (vI 0), (vI 0)] 39 (0, 0)) := ⟨_, rfl⟩
    have f62 := push_new e61
    rw [← eb59] at f62
    have n63 : b58 ≠ b2 := by have := row_lt f54; omega
    have n64 : b58 ≠ b10 := by have := row_lt f55; omega
    have n65 : ∀ zz, (fun q => q = lp32) zz → ¬ zz = b58 := fun zz hz ez => by have := p51.blk_lt hz; omega
    have x66 : Ext hr h60 := by rw [e61]; exact Ext.push _ _
    have o67 : hr.size ≤ b58 := by have := (Chg.refl (O := Dc) hr).size; omega
    have f68 := x66 _ _ f54
    have f69 := x66 _ _ f55
    have p70 := p51.keep fun b r _ q => x66 b r q
    have x71 := (Chg.refl (O := Dc) hr).trans (Chg.ext x66)
    obtain ⟨h72, e73⟩ : ∃ zq, zq = h60.setIfInBounds b58 (.cells #[(vI (y.2.v)), (vI (y.2.up)), (vI (y.2.dn)), (vI (y.2.lo)), (vI (y.2.hi))] 39 (0, 0)) := ⟨_, rfl⟩
    have f74 := set_same e73 f62
    have f75 := set_other e73 f68 n63
    have f76 := set_other e73 f69 n64
    have p77 := p70.keep fun b r hb q => (Chg.set e73).same b r q (n65 b hb)
    have x78 := x71.then (Chg.set e73) (fun b hb => by subst hb; exact (.inr o67))
    refine wc_ev [evA 2 0 eb59 e61, evUw 2 1 size39 f62 e73] .normal h72 [(6, (vP b58 0))] ?_
    refine ⟨rfl, L1813, p77, hs36, ?_⟩
    obtain ⟨h79, e80⟩ : ∃ zq, zq = h72.setIfInBounds lp32 (.loop { L1813 with state := .busy }) := ⟨_, rfl⟩
    have p81 : At h79 lp32 (.loop { L1813 with state := .busy }) := set_same e80 p77
    have f82 := set_other e80 f75 (loop_ne p77 f75 rfl)
    have f83 := set_other e80 f76 (loop_ne p77 f76 rfl)
    have f84 := set_other e80 f74 (loop_ne p77 f74 rfl)
    have x85 := x78.then (Chg.set e80) (fun b hb => .inl ((fun b hb => by rw [eDc]; exact .inl hb) b hb))
    rw [← e80]
    obtain ⟨_, h86, s87, rfl, x88⟩ := qu1_ok h79 y.2
    have f89 := x88 _ _ f82
    have f90 := x88 _ _ f83
    have p91 := p81.keep fun b r _ q => x88 b r q
    have x92 := x85.trans (Chg.ext x88)
    rcases Bool.eq_false_or_eq_true ((decide (y.2.up = 0) && decide (y.2.dn = 0))) with c93 | c93
    · refine wc_ev [evC 3 0 0 agg79 f82, evLw 3 1 agg39 size39 f84, evFb 3 2 c93 s87] .normal h86 [(11, (Value.func (.func 41) #[] #[])), (12, (vA #[(vI y.2.v), (vI y.2.up), (vI y.2.dn), (vI y.2.lo), (vI y.2.hi)])), (13, (vB true)), (14, (vB false))] ?_
      refine ⟨_, p91, ?_⟩
      obtain ⟨h94, e95⟩ : ∃ zq, zq = h86.setIfInBounds lp32 (.loop { ({ L1813 with state := .busy } : Loop) with state := .ready, pending := none }) := ⟨_, rfl⟩
      have p96 : At h94 lp32 (.loop { ({ L1813 with state := .busy } : Loop) with state := .ready, pending := none }) := set_same e95 p91
      have f97 := set_other e95 f89 (loop_ne p91 f89 rfl)
      have f98 := set_other e95 f90 (loop_ne p91 f90 rfl)
      have x99 := x92.then (Chg.set e95) (fun b hb => .inl ((fun b hb => by rw [eDc]; exact .inl hb) b hb))
      have dnew : ∀ z, ((fun b => b = lp32 ∨ b = b10 ∨ False)) z → Dc z ∨ hr.size ≤ z := by
        intro z hz; rcases hz with w | w | w
        · exact .inl (by rw [eDc]; exact .inl w)
        · exact .inl (by rw [eDc]; exact .inr (.inl w))
        · exact w.elim
      refine (show ∃ D', Chg Dc hr (h94) ∧ (∀ z, D' z → Dc z ∨ hr.size ≤ z) ∧ (if true = true then I1821 (k + 1) D' h94 else E1822 h94) from ?_) |> (fun w => by rw [e95] at w; exact w)
      refine ⟨(fun b => b = lp32 ∨ b = b10 ∨ False), x99, dnew, ?_⟩
      rw [if_pos rfl]
      rw [eI1820]
      exact ⟨rfl, (by have q := p96; rw [loop_back hs36 hp37] at q; exact q), c52.then (x99) d53, fun z hz => (dnew z hz).elim (d53 z) (fun w => .inr (by have := c52.size; omega)), f97, f98, by rw [take_next hk, List.all_append, i56]; simp only [List.all_cons, List.all_nil, c93]; rfl⟩
    · obtain ⟨h100, e101⟩ : ∃ zq, zq = h86.setIfInBounds b10 (.cells #[(vB false)] 4 (0, 0)) := ⟨_, rfl⟩
      have f102 := set_same e101 f90
      have p103 := p91.keep fun b r hb q => (Chg.set e101).same b r q ((fun (b : Nat) hb => loop_ne p91 f90 hb) b hb)
      have x104 := x92.then (Chg.set e101) (fun b hb => by subst hb; exact (.inl (by rw [eDc]; exact .inr (.inl rfl))))
      refine wc_ev [evC 3 0 0 agg79 f82, evLw 3 1 agg39 size39 f84, evFb 3 2 c93 s87, evT 4 0 0 size4 f90 e101] .ret h100 [(11, (Value.func (.func 41) #[] #[])), (12, (vA #[(vI y.2.v), (vI y.2.up), (vI y.2.dn), (vI y.2.lo), (vI y.2.hi)])), (13, (vB false)), (14, (vB true))] ?_
      refine ⟨_, p103, ?_⟩
      obtain ⟨h105, e106⟩ : ∃ zq, zq = h100.setIfInBounds lp32 (.loop { ({ L1813 with state := .busy } : Loop) with state := .done, pending := some .ret }) := ⟨_, rfl⟩
      have p107 : At h105 lp32 (.loop { ({ L1813 with state := .busy } : Loop) with state := .done, pending := some .ret }) := set_same e106 p103
      have f108 := set_other e106 f102 (loop_ne p103 f102 rfl)
      have x109 := x104.then (Chg.set e106) (fun b hb => .inl ((fun b hb => by rw [eDc]; exact .inl hb) b hb))
      refine (show ∃ D', Chg Dc hr (h105) ∧ (∀ z, D' z → Dc z ∨ hr.size ≤ z) ∧ (if false = true then I1821 (k + 1) D' h105 else E1822 h105) from ?_) |> (fun w => by rw [e106] at w; exact w)
      refine ⟨fun _ => False, x109, fun z hz => hz.elim, ?_⟩
      rw [if_neg (by decide)]
      rw [eE1823]
      exact ⟨p107, c52.then (x109) d53, f108, Bool.eq_false_iff.2 fun w => absurd (List.all_eq_true.1 w y (List.mem_of_getElem? hk)) (by rw [c93]; decide)⟩
  have h110 : I1821 0 D1824 h38 := by rw [eI1820]; exact ⟨eD1825, p41, Chg.refl h38, fun z hz => .inl hz, f45, f46, rfl⟩
  refine wc_range_any (h1 := h38) (c := (subc (bodyOf Tryd.prog 40) [1, 0, 1, 0])) (g := .tmp 8) (params := #[9, 10]) (assign := (subc (bodyOf Tryd.prog 40) [1, 0, 1, 0, 0])) (body := (subc (bodyOf Tryd.prog 40) [1, 0, 1, 0, 1])) (by kernel_rfl) 46 #[] #[(vP b21 0)] lp32 [{ target := .collected dv30, args := #[] }] #[(Value.func (.yield lp32) #[] #[]), (vP b21 0)] (by rfl) rfl rfl (by kernel_rfl) (by rw [eh39, elp33, eL1813, etm35, edv31]; rfl) ?_
  have hG1904 : ∀ z, D1824 z → z < h38.size := by
    rw [eD1825]; rintro z (w | w | w)
    · have w1 : z = lp32 := w; omega
    · have w1 : z = b10 := w; have := row_lt f46; omega
    · exact w.elim
  have hB1905 : ¬ D1824 b21 := by
    rw [eD1825]; rintro (w | w | w)
    · have w1 : b21 = lp32 := w; exact loop_ne p41 f47 (q := b21) w1 rfl
    · have w1 : b21 = b10 := w; exact n25 w1
    · exact w.elim
  refine (each_it h38 (hT'.keep fun b r _ q => x48 b r q) ok b21 f47 lp32 I1821 E1822 D1824 (fun b hb w => by have := hT'.blk_lt hb; have := hD1832 b w; omega) hG1904 hB1905 hX1840 hy57 h110).mono fun _ h8 q => ?_
  obtain ⟨q0, q⟩ := q
  rcases q with ⟨Dv, q, qD⟩ | q
  · rw [eI1820] at q
    obtain ⟨eDv, p111, cgN, hdN, f112, f113, i114⟩ := q
    refine ⟨_, p111, ?_, leftBy_none hp37 ?_⟩
    · exact fun w => by rw [hs36] at w; cases w
    have p115 : At h8 dv30 (.deferred (some [])) := q0.same _ _ p42 hd50
    obtain ⟨h116, e117⟩ : ∃ zq, zq = h8.setIfInBounds lp32 (.loop { L1813 with state := .exhausted }) := ⟨_, rfl⟩
    have f118 := set_other e117 f113 (loop_ne p111 f113 rfl)
    have p119 := p115.keep fun b r hb q => (Chg.set e117).same b r q ((fun b hb hb2 => (show ∀ b : Nat, b = lp32 → b = dv30 → False from fun b w1 w2 => by omega) b hb2 hb) b hb)
    rw [← e117]
    have c120 := q0.then (Chg.set e117) (fun b hb => .inl (by rw [eD1825]; exact .inl hb))
    have x121 : Ext h h116 := (Chg.then (O := fun _ => False) (Chg.ext x48) c120 (fun b hb => .inr (hD1832 b hb))).toExt'
    rw [List.take_length] at i114
    obtain ⟨h122, e123⟩ : ∃ zq, zq = h116.setIfInBounds b10 (.cells #[(vB true)] 4 (0, 0)) := ⟨_, rfl⟩
    have f124 := set_same e123 f118
    have p125 := p119.keep fun b r hb q => (Chg.set e123).same b r q ((fun (b : Nat) hb => defer_ne p119 f118 hb) b hb)
    have x126 := Ext.setNew x121 e123 o16
    refine wc_ev [evT 5 0 0 size4 f118 e123] .ret h122 [] ?_
    obtain ⟨h127, e128⟩ : ∃ zq, zq = h122.setIfInBounds dv30 (.deferred none) := ⟨_, rfl⟩
    have f129 := set_other e128 f124 (defer_ne p125 f124 rfl)
    have x130 : Ext h h127 := Ext.setNew x126 e128 (by omega)
    refine end_mark3 (T := hintsOf [] [evC 0 0 0 agg4 f129]) (dv := dv30) { tmps := #[(vP t 0), (Value.func (.func 41) #[] #[]), (Value.tuple #[]), (vP b2 0), (vP b10 0), (Value.tuple #[]), (Value.tuple #[]), (vP t 0), (Value.func (.func 46) #[] #[(vP b21 0)]), (Value.tuple #[]), (Value.tuple #[]), (Value.tuple #[]), (Value.tuple #[]), (Value.tuple #[]), (Value.tuple #[])], defers := ([{ target := .collected dv30, args := #[] }] ++ []) } (by kernel_rfl) (.inr rfl) rfl p125 e128 (A := resQ [evC 0 0 0 agg4 f129] (K (vB true) h127)) (by kernel_rfl) ?_
    exact resQ_of _ (hK _ _ (⟨by rw [show quietB ms = true from i114], x130⟩))
  · rw [eE1823] at q
    obtain ⟨p131, cgN, f132, i133⟩ := q
    refine ⟨_, p131, ?_, leftBy_ret rfl ?_⟩
    · exact fun w => by cases w
    have p134 : At h8 dv30 (.deferred (some [])) := q0.same _ _ p42 hd50
    obtain ⟨h135, e136⟩ : ∃ zq, zq = h8.setIfInBounds lp32 (.loop { ({ ({ L1813 with state := .busy } : Loop) with state := .done, pending := some .ret } : Loop) with state := .exhausted }) := ⟨_, rfl⟩
    have f137 := set_other e136 f132 (loop_ne p131 f132 rfl)
    have p138 := p134.keep fun b r hb q => (Chg.set e136).same b r q ((fun b hb hb2 => (show ∀ b : Nat, b = lp32 → b = dv30 → False from fun b w1 w2 => by omega) b hb2 hb) b hb)
    rw [← e136]
    have c139 := q0.then (Chg.set e136) (fun b hb => .inl (by rw [eD1825]; exact .inl hb))
    have x140 : Ext h h135 := (Chg.then (O := fun _ => False) (Chg.ext x48) c139 (fun b hb => .inr (hD1832 b hb))).toExt'
    obtain ⟨h141, e142⟩ : ∃ zq, zq = h135.setIfInBounds dv30 (.deferred none) := ⟨_, rfl⟩
    have f143 := set_other e142 f137 (defer_ne p138 f137 rfl)
    have x144 : Ext h h141 := Ext.setNew x140 e142 (by omega)
    refine end_mark3 (T := hintsOf [] [evC 0 0 0 agg4 f143]) (dv := dv30) { tmps := #[(vP t 0), (Value.func (.func 41) #[] #[]), (Value.tuple #[]), (vP b2 0), (vP b10 0), (Value.tuple #[]), (Value.tuple #[]), (vP t 0), (Value.func (.func 46) #[] #[(vP b21 0)]), (Value.tuple #[]), (Value.tuple #[]), (Value.tuple #[]), (Value.tuple #[]), (Value.tuple #[]), (Value.tuple #[])], defers := ([{ target := .collected dv30, args := #[] }] ++ []) } (by kernel_rfl) (.inr rfl) rfl p138 e142 (A := resQ [evC 0 0 0 agg4 f143] (K (vB false) h141)) (by kernel_rfl) ?_
    exact resQ_of _ (hK _ _ (⟨by rw [show quietB ms = false from i133], x144⟩))
set_option maxHeartbeats 4000000 in
theorem quiet_ok (h : Heap) {O : Nat → Prop} {t : Nat} {ms : Sto} (hT : StAt 50 h O t ms) (ok : WfM ms) : WCall Tryd.prog 21 #[(vP t 0)] h (fun v h1 => v = .bool (quietB ms) ∧ Ext h h1) := by
  have hT' := hT
  obtain ⟨mb1, T⟩ := hT
  obtain ⟨_, _, sn2, rfl, rfl⟩ := valid_ok h T.row
  obtain ⟨_, hh3, sn4, rfl, x5⟩ := all_ok h (hT'.keep fun b r _ q => (Ext.refl h) b r q) ok
  have x6 := (Ext.refl h).trans x5
  rcases Bool.eq_false_or_eq_true ((quietB ms)) with c7 | c7
  · exact hCall_ev [evF 1 1 sn2, evFb 1 4 c7 sn4] [] (vB true) hh3 ⟨by rw [c7], x6⟩
  · exact hCall_ev [evF 1 1 sn2, evFb 1 4 c7 sn4] [] (vB false) hh3 ⟨by rw [c7], x6⟩
end C08
