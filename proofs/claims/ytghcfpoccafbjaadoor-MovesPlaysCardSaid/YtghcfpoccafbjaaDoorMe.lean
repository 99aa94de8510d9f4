/- Copies; the open moves. -/
import Derived.Test.YtghcfpoccafbjaaDoorMd
import Derived.KernelRfl
open Go Go.AM Go.Proofs
namespace C32
theorem agg27 : isAggA Tryd.prog 27 = some false := by kernel_rfl
theorem size27 : (Tryd.prog.info? 27).map (·.size) = some 1 := by kernel_rfl
theorem sizeb3 : (Tryd.prog.info? 3).map (fun i => (i.size, i.bytes)) = some (1, 8) := by kernel_rfl
theorem und27 : Tryd.prog.underlying 27 = some (.slice 3) := by kernel_rfl
theorem zero3 : zeroA Tryd.prog 3 = some (Value.int .i64 0) := by kernel_rfl
theorem SliceAt_none {α : Type} {h : Heap} {f : α → Array Value} {z n cp : Nat} {xs : List α} (k : SliceAt h f z xs (.slice none n cp)) : n = 0 ∧ cp = 0 ∧ xs = [] := by
  rcases k with ⟨e, k⟩ | ⟨b, off, cp, c, e, fr, e2, k⟩
  · cases e; exact ⟨rfl, rfl, k⟩
  · cases e2
set_option maxHeartbeats 4000000 in
theorem clone_mov_nil (h : Heap)  : WCall Tryd.prog 47 #[(Value.slice none 0 0)] h (fun v h1 => v = .slice none 0 0 ∧ Ext h h1) := by
  exact hCall_of (n := 200) (T := ⟨fun r i => match r, i with | _, _ => none, fun _ => none, none⟩)
    (A := (fun v h1 => v = .slice none 0 0 ∧ Ext h h1) (vL none 0 0) h) (by kernel_rfl) ⟨rfl, (Ext.refl h)⟩
set_option maxHeartbeats 4000000 in
theorem clone_mov_some (h : Heap) (xs : List MoveM) (a : Addr) (cp : Nat) (hl : SliceAt h movec 6 xs (.slice (some a) xs.length cp)) (hlen : xs.length ≤ 1048576) : WCall Tryd.prog 47 #[(Value.slice (some a) (xs.length) (cp))] h (fun v h1 => ∃ w cw, v = .slice w xs.length cw ∧ OwnAt h1 32 movec xs v ∧ Ext h h1 ∧ ∀ b, blk v b → h.size ≤ b) := by
  obtain ⟨b1559, eb1560⟩ : ∃ zq, zq = h.size := ⟨_, rfl⟩
  obtain ⟨h1557, e1558⟩ : ∃ zq, zq = h.push (.cells #[] 32 (0, 0)) := ⟨_, rfl⟩
  have f1561 := push_new e1558
  rw [← eb1560] at f1561
  have x1563 : Ext h h1557 := by rw [e1558]; exact Ext.push _ _
  have o1564 : h.size ≤ b1559 := by have := (Ext.refl h).size; omega
  have p1565 := hl.keep fun b r _ q => x1563 b r q
  have x1566 := (Ext.refl h).trans x1563
  obtain ⟨w1567, h1568, e1569, p1570, x1571, n1572⟩ := own_clone und48 sizeb32 zero32 rfl (by decide) movec_size (ys := xs) f1561 p1565 (by omega) (by unfold maxLen; omega)
  obtain ⟨a1573, c1574, rfl⟩ := (p1570.slice movec_size).len
  have z1577 : b1559 < h1557.size := row_lt f1561
  have n1576 : ∀ zz, blk (Value.slice a1573 (xs.length) (c1574)) zz → zz = b1559 ∨ h1557.size ≤ zz := fun zz hz => by rcases n1572 zz hz with e | e <;> omega
  have o1579 : ∀ zz, blk (Value.slice a1573 (xs.length) (c1574)) zz → h.size ≤ zz := fun zz hz => by have := o1564; have := x1566.size; rcases n1576 zz hz with g | g <;> omega
  have x1582 := x1566.trans x1571
  exact hCall_of (n := 200) (T := ⟨fun r i => match r, i with | 3, 0 => some ((vL (some ⟨b1559, 0, none⟩) 0 0), h1557) | 3, 2 => some ((vL a1573 xs.length c1574), h1568) | _, _ => none, fun _ => none, none⟩)
    (A := ((vL (some ⟨b1559, 0, none⟩) 0 0) = (vL (some ⟨h.size, 0, none⟩) 0 0) ∧ h1557 = h.push (.cells #[] 32 (0, 0))) ∧ appendA Tryd.prog h1557 #[48, 48] #[(vL (some ⟨b1559, 0, none⟩) 0 0), (Value.slice (some a) (xs.length) (cp))] = some ((vL a1573 xs.length c1574), h1568) ∧ (fun v h1 => ∃ w cw, v = .slice w xs.length cw ∧ OwnAt h1 32 movec xs v ∧ Ext h h1 ∧ ∀ b, blk v b → h.size ≤ b) (vL a1573 xs.length c1574) h1568) (by kernel_rfl) ⟨⟨by rw [eb1560], e1558⟩, e1569, ⟨_, _, rfl, p1570, x1582, o1579⟩⟩
theorem clone_mov (h : Heap) (xs : List MoveM) (sa : Option Addr) (cp : Nat) (hl : SliceAt h movec 6 xs (.slice sa xs.length cp)) (hlen : xs.length ≤ 1048576) : WCall Tryd.prog 47 #[.slice sa xs.length cp] h (fun v h1 => ∃ w cw, v = .slice w xs.length cw ∧ OwnAt h1 32 movec xs v ∧ Ext h h1 ∧ ∀ b, blk v b → h.size ≤ b) := by
  rcases sa with _ | a
  · obtain ⟨e0, e1, e2⟩ := SliceAt_none hl
    subst e2; subst e1
    exact (clone_mov_nil h).mono fun v h1 q => ⟨none, 0, q.1, .inl ⟨q.1, rfl⟩, q.2, fun b hb => by rw [q.1] at hb; exact hb.elim⟩
  · exact clone_mov_some h xs a cp hl hlen
set_option maxHeartbeats 4000000 in
theorem copy_ok (h : Heap) {O : Nat → Prop} {t : Nat} {ms : List MoveM} (hT : TabAt 56 32 h O t ms) (h64 : ms.length ≤ 64) : WCall Tryd.prog 29 #[(vP t 0)] h (fun v h1 => ∃ b O', v = .pointer (some ⟨b, 0, none⟩) ∧ TabAt 56 32 h1 O' b ms ∧ Ext h h1 ∧ ∀ z, O' z → h.size ≤ z) := by
  have hT' := hT
  obtain ⟨a1583, cc1584, T⟩ := hT
  obtain ⟨_, _, sn1586, rfl, rfl⟩ := valid_ok h T.row
  obtain ⟨_, hh1592, sn1593, w1588, c1589, rfl, o1590, x1594, b1591⟩ := clone_mov h ms _ _ (T.own.slice movec_size) (by omega)
  have x1595 := (Ext.refl h).trans x1594
  have z1597 : h.size ≤ h.size := (Ext.refl h).size
  have o1600 : ∀ zz, blk (Value.slice w1588 (ms.length) (c1589)) zz → h.size ≤ zz := fun zz hz => by have := b1591 zz hz; omega
  obtain ⟨b1603, eb1604⟩ : ∃ zq, zq = hh1592.size := ⟨_, rfl⟩
  obtain ⟨h1601, e1602⟩ : ∃ zq, zq = hh1592.push (.cells #[(vB true), (Value.slice w1588 (ms.length) (c1589))] 56 (0, 0)) := ⟨_, rfl⟩
  have f1605 := push_new e1602
  rw [← eb1604] at f1605
  have x1609 : Ext hh1592 h1601 := by rw [e1602]; exact Ext.push _ _
  have o1610 : h.size ≤ b1603 := by have := x1595.size; omega
  have p1611 := o1590.keep fun b r _ q => x1609 b r q
  have x1612 := x1595.trans x1609
  exact hCall_of (n := 200) (T := ⟨fun r i => match r, i with | 1, 1 => some ((vB true), h) | 3, 3 => some ((vL a1583 ms.length cc1584), h) | 3, 4 => some ((vL w1588 ms.length c1589), hh1592) | 3, 6 => some ((vP b1603 0), h1601) | _, _ => none, fun _ => none, none⟩)
    (A := SoundCall Tryd.prog 39 #[(vP t 0)] h (vB true) h ∧ (loadT Tryd.prog h 48 (vP t 1) = some (vL a1583 ms.length cc1584) ∧ h = h) ∧ SoundCall Tryd.prog 47 #[(vL a1583 ms.length cc1584)] h (vL w1588 ms.length c1589) hh1592 ∧ ((vP b1603 0) = (Value.pointer (some ⟨hh1592.size, 0, none⟩)) ∧ h1601 = hh1592.push (.cells #[(vB true), (vL w1588 ms.length c1589)] 56 (0, 0))) ∧ (fun v h1 => ∃ b O', v = .pointer (some ⟨b, 0, none⟩) ∧ TabAt 56 32 h1 O' b ms ∧ Ext h h1 ∧ ∀ z, O' z → h.size ≤ z) (vP b1603 0) h1601) (by kernel_rfl) ⟨sn1586, ⟨load_cell agg48 T.row rfl, rfl⟩, sn1593, ⟨by rw [eb1604], e1602⟩, ⟨b1603, _, rfl, tab_new f1605 p1611, x1612, fun z hz => hz.elim (fun w => by have := o1610; omega) (o1600 z)⟩⟩
set_option maxHeartbeats 4000000 in
theorem open_ok (h : Heap) {O : Nat → Prop} {t : Nat} {ms : List MoveM} (hT : TabAt 56 32 h O t ms) (h64 : ms.length ≤ 64) : WCall Tryd.prog 14 #[(vP t 0)] h (fun v h1 => ∃ oa oc, v = .slice oa (openL ms).length oc ∧ OwnAt h1 3 icell (openL ms) v ∧ Ext h h1 ∧ ∀ b, blk v b → h.size ≤ b) := by
  have hT' := hT
  obtain ⟨a1613, cc1614, T⟩ := hT
  suffices H : ∀ K : Value → Heap → Prop, (∀ v h1, (fun v h1 => ∃ oa oc, v = .slice oa (openL ms).length oc ∧ OwnAt h1 3 icell (openL ms) v ∧ Ext h h1 ∧ ∀ b, blk v b → h.size ≤ b) v h1 → K v h1) → WCall Tryd.prog 14 #[(vP t 0)] h K from H _ fun _ _ q => q
  intro K hK
  refine wcall_at { tmps := #[(vP t 0), vZ, vZ, vZ, vZ, vZ, vZ, vZ, vZ, vZ, vZ, vZ, vZ, vZ], defers := [] } (by kernel_rfl) ?_
  refine wc_seq' (subc (bodyOf Tryd.prog 14) [0]) (subc (bodyOf Tryd.prog 14) [1]) (by kernel_rfl) ?_
  refine wc_upd (n := 200) (T := ⟨fun r i => match r, i with | _, _ => none, fun _ => none, none⟩) (x := .normal) (h1 := h) [(2, (vL none 0 0))]
    (fun q => q) (by intro K'; as_aux_lemma => kernel_rfl) (fun _ q => q) ?_
  refine wc_seq' (subc (bodyOf Tryd.prog 14) [1, 0]) (subc (bodyOf Tryd.prog 14) [1, 1]) (by kernel_rfl) ?_
  obtain ⟨b1617, eb1618⟩ : ∃ zq, zq = h.size := ⟨_, rfl⟩
  obtain ⟨h1615, e1616⟩ : ∃ zq, zq = h.push (.cells #[(Value.slice none 0 0)] 27 (0, 0)) := ⟨_, rfl⟩
  have f1619 := push_new e1616
  rw [← eb1618] at f1619
  have x1622 : Ext h h1615 := by rw [e1616]; exact Ext.push _ _
  have o1623 : h.size ≤ b1617 := by have := (Ext.refl h).size; omega
  have x1624 := (Ext.refl h).trans x1622
  refine wc_upd (n := 200) (T := ⟨fun r i => match r, i with | 1, 0 => some ((vP b1617 0), h1615) | _, _ => none, fun _ => none, none⟩) (x := .normal) (h1 := h1615) [(3, (vP b1617 0))]
    (fun q => ((vP b1617 0) = (Value.pointer (some ⟨h.size, 0, none⟩)) ∧ h1615 = h.push (.cells #[(vL none 0 0)] 27 (0, 0))) ∧ q) (by intro K'; as_aux_lemma => kernel_rfl) (fun _ q => ⟨⟨by rw [eb1618], e1616⟩, q⟩) ?_
  refine wc_seq' (subc (bodyOf Tryd.prog 14) [1, 1, 0]) (subc (bodyOf Tryd.prog 14) [1, 1, 1]) (by kernel_rfl) ?_
  refine wc_seq' (subc (bodyOf Tryd.prog 14) [1, 1, 0, 0]) (subc (bodyOf Tryd.prog 14) [1, 1, 0, 1]) (by kernel_rfl) ?_
  obtain ⟨_, h1626, s1627, b1625, rfl, f1628, x1629, o1630⟩ := open_fn h1615 t
  have oo1630 : h.size ≤ b1625 := by have := x1624.size; omega
  have f1634 := x1629 _ _ f1619
  have x1635 := x1624.trans x1629
  refine wc_upd (n := 200) (T := ⟨fun r i => match r, i with | 2, 1 => some ((Value.func (.func 51) #[] #[(vP b1625 0)]), h1626) | _, _ => none, fun _ => none, none⟩) (x := .normal) (h1 := h1626) [(5, (vP t 0)), (6, (Value.func (.func 51) #[] #[(vP b1625 0)]))]
    (fun q => SoundCall Tryd.prog 35 #[(vP t 0)] h1615 (Value.func (.func 51) #[] #[(vP b1625 0)]) h1626 ∧ q) (by intro K'; as_aux_lemma => kernel_rfl) (fun _ q => ⟨s1627, q⟩) ?_
  refine wc_block' 0 (subc (bodyOf Tryd.prog 14) [1, 1, 0, 1, 0]) (by kernel_rfl) ?_
  refine wc_act { tmps := #[(vP t 0), vZ, (vL none 0 0), (vP b1617 0), vZ, (vP t 0), (Value.func (.func 51) #[] #[(vP b1625 0)]), vZ, vZ, vZ, vZ, vZ, vZ, vZ], defers := [] } (by kernel_rfl) ?_
  obtain ⟨dv1636, edv1636⟩ : ∃ zq, zq = h1626.size := ⟨_, rfl⟩
  obtain ⟨lp1637, elp1637⟩ : ∃ zq, zq = h1626.size + 1 := ⟨_, rfl⟩
  obtain ⟨tm1638, etm1638⟩ : ∃ zq : Array Value, zq = #[(vP t 0), (Value.tuple #[]), (Value.slice none 0 0), (vP b1617 0), (Value.tuple #[]), (vP t 0), (Value.func (.func 51) #[] #[(vP b1625 0)]), (Value.tuple #[]), (Value.tuple #[]), (Value.tuple #[]), (Value.tuple #[]), (Value.tuple #[]), (Value.tuple #[]), (Value.tuple #[])] := ⟨_, rfl⟩
  obtain ⟨L1639, eL1639⟩ : ∃ zq : Loop, zq = { state := .ready, pending := none, fn := 0, tmps := tm1638, params := #[7, 8], assign := (subc (bodyOf Tryd.prog 14) [1, 1, 0, 1, 0, 0]), body := (subc (bodyOf Tryd.prog 14) [1, 1, 0, 1, 0, 1]), defers := dv1636 } := ⟨_, rfl⟩
  have hs1641 : L1639.state = .ready := by rw [eL1639]
  have hp1642 : L1639.pending = none := by rw [eL1639]
  obtain ⟨h1640, eh1640⟩ : ∃ zq, zq = (h1626.push (.deferred (some []))).push (.loop L1639) := ⟨_, rfl⟩
  have x1643 : Ext h1626 h1640 := by rw [eh1640]; exact (Ext.push _ _).trans (Ext.push _ _)
  have p1644 : At h1640 lp1637 (.loop L1639) := by rw [eh1640, elp1637, show h1626.size + 1 = (h1626.push (.deferred (some []))).size by simp]; exact push_new rfl
  have p1645 : At h1640 dv1636 (.deferred (some [])) := by rw [eh1640, edv1636]; exact push_old (b := h1626.size) rfl (push_new rfl)
  have sh1640 : lp1637 < h1640.size := p1644.blk_lt rfl
  have z1652 : h.size ≤ h1626.size := x1635.size
  have f1653 := x1643 _ _ f1634
  have f1654 := x1643 _ _ f1628
  have x1655 := x1635.trans x1643
  have z1656 : h.size ≤ h1640.size := x1655.size
  obtain ⟨D1650, eD1651⟩ : ∃ zq : Nat → Prop, zq = (fun (out : List Int) (oa : Option Addr) (oc : Nat) => (fun b => b = lp1637 ∨ b = b1617 ∨ (blk (Value.slice oa (out.length) (oc))) b ∨ False)) ([]) (none) (0) := ⟨_, rfl⟩
  have hD1657 : ∀ b, D1650 b → h.size ≤ b := by
    rw [eD1651]; rintro b (w | w | w | w)
    · have w1 : b = lp1637 := w; omega
    · have w1 : b = b1617 := w; have := o1623; omega
    · exact w.elim
    · exact w.elim
  have hd1658 : ¬ D1650 dv1636 := by
    rw [eD1651]; rintro (w | w | w | w)
    · have w1 : dv1636 = lp1637 := w; omega
    · have w1 : dv1636 = b1617 := w; have := row_lt f1634; omega
    · exact w.elim
    · exact w.elim
  obtain ⟨I1647, eI1646⟩ : ∃ zq : Nat → (Nat → Prop) → Heap → Prop, zq = fun (kk : Nat) (Dv : Nat → Prop) (h' : Heap) => ∃ (out : List Int), ∃ (oa : Option Addr), ∃ (oc : Nat), Dv = (fun b => b = lp1637 ∨ b = b1617 ∨ (blk (Value.slice oa (out.length) (oc))) b ∨ False) ∧ At h' lp1637 (.loop L1639) ∧ Chg D1650 h1640 h' ∧ (∀ z, Dv z → D1650 z ∨ h1640.size ≤ z) ∧ h'[b1617]? = some (.cells #[(Value.slice oa (out.length) (oc))] 27 (0, 0)) ∧ out = (((opn ms ms.length).take kk).map Prod.fst) ∧ OwnAt h' 3 icell out (Value.slice oa (out.length) (oc)) := ⟨_, rfl⟩
  obtain ⟨E1648, eE1649⟩ : ∃ zq : Heap → Prop, zq = fun _ => False := ⟨_, rfl⟩
  have hX1665 : ∀ k D h' h'', I1647 k D h' → Ext h' h'' → I1647 k D h'' := by
    rw [eI1646]
    rintro k _ h' h'' ⟨out, oa, oc, rfl, p1662, c1663, d1664, f1659, i1660, p1661⟩ xx
    exact ⟨out, oa, oc, rfl, xx _ _ p1662, c1663.trans (Chg.ext xx), d1664, xx _ _ f1659, i1660, p1661.keep fun b r _ q => xx b r q⟩
  have hy1666 : ∀ k y D h', ((opn ms ms.length))[k]? = some y → I1647 k D h' → ∃ b h'' D', SoundYield Tryd.prog lp1637 #[(vI (y.1)), (Value.agg #[(vS y.2.rf), (vS y.2.rt), (vI (y.2.f)), (vI (y.2.t)), (vI (y.2.st)), (vS y.2.d)])] h' (.bool b) h'' ∧ Chg D h' h'' ∧ (∀ z, D' z → D z ∨ h'.size ≤ z) ∧ (if b = true then I1647 (k + 1) D' h'' else E1648 h'') := by
    rw [eI1646]
    rintro k y _ hr hk ⟨out, oa, oc, rfl, p1662, c1663, d1664, f1659, i1660, p1661⟩
    obtain ⟨Dc, eDc⟩ : ∃ zq : Nat → Prop, zq = (fun b => b = lp1637 ∨ b = b1617 ∨ (blk (Value.slice oa (out.length) (oc))) b ∨ False) := ⟨_, rfl⟩
    rw [← eDc] at d1664
    rw [← eI1646]
    rw [← eDc]
    have lo1 : out.length ≤ 64 := by have e9 := congrArg List.length i1660; rw [List.length_map, List.length_take] at e9; have := opn_len ms ms.length; omega
    suffices hw : ∃ b h'', SoundYield Tryd.prog lp1637 #[(vI (y.1)), (Value.agg #[(vS y.2.rf), (vS y.2.rt), (vI (y.2.f)), (vI (y.2.t)), (vI (y.2.st)), (vS y.2.d)])] hr (.bool b) h'' ∧ (fun b h'' => ∃ D', Chg Dc hr h'' ∧ (∀ z, D' z → Dc z ∨ hr.size ≤ z) ∧ (if b = true then I1647 (k + 1) D' h'' else E1648 h'')) b h'' from by
      obtain ⟨b, h'', q1, D', q2, q3, q4⟩ := hw
      exact ⟨b, h'', D', q1, q2, q3, q4⟩
    refine w_round (args := #[(vI (y.1)), (Value.agg #[(vS y.2.rf), (vS y.2.rt), (vI (y.2.f)), (vI (y.2.t)), (vI (y.2.st)), (vS y.2.d)])]) (K := (fun b h'' => ∃ D', Chg Dc hr h'' ∧ (∀ z, D' z → Dc z ∨ hr.size ≤ z) ∧ (if b = true then I1647 (k + 1) D' h'' else E1648 h''))) p1662 hs1641 (by rw [eL1639]; rfl) { tmps := #[(vP t 0), (Value.tuple #[]), (Value.slice none 0 0), (vP b1617 0), (Value.tuple #[]), (vP t 0), (Value.func (.func 51) #[] #[(vP b1625 0)]), (vI (y.1)), (Value.agg #[(vS y.2.rf), (vS y.2.rt), (vI (y.2.f)), (vI (y.2.t)), (vI (y.2.st)), (vS y.2.d)]), (Value.tuple #[]), (Value.tuple #[]), (Value.tuple #[]), (Value.tuple #[]), (Value.tuple #[])], defers := [] } (by rw [eL1639, etm1638]; kernel_rfl) (subc (bodyOf Tryd.prog 14) [1, 1, 0, 1, 0, 0]) (subc (bodyOf Tryd.prog 14) [1, 1, 0, 1, 0, 1]) (by rw [eL1639]) (by rw [eL1639]) ?_
    refine wc_upd (n := 200) (T := ⟨fun r i => match r, i with | _, _ => none, fun _ => none, none⟩) (x := .normal) (h1 := hr) [(4, (vI y.1))]
      (fun q => q) (by intro K'; as_aux_lemma => kernel_rfl) (fun _ q => q) ?_
    refine ⟨rfl, L1639, p1662, hs1641, ?_⟩
    obtain ⟨h1667, e1668⟩ : ∃ zq, zq = hr.setIfInBounds lp1637 (.loop { L1639 with state := .busy }) := ⟨_, rfl⟩
    have p1669 : At h1667 lp1637 (.loop { L1639 with state := .busy }) := set_same e1668 p1662
    have f1670 := set_other e1668 f1659 (loop_ne p1662 f1659 rfl)
    have p1671 := p1661.keep fun b r hb q => (Chg.set e1668).same b r q ((fun b hb hb2 => (p1661).celled.loop p1662 b hb hb2) b hb)
    have x1672 := (Chg.refl (O := Dc) hr).then (Chg.set e1668) (fun b hb => .inl ((fun b hb => by rw [eDc]; exact .inl hb) b hb))
    rw [← e1668]
    obtain ⟨b1675, eb1676⟩ : ∃ zq, zq = h1667.size := ⟨_, rfl⟩
    obtain ⟨h1673, e1674⟩ : ∃ zq, zq = h1667.push (.cells #[(vI (y.1))] 3 (0, 0)) := ⟨_, rfl⟩
    have f1677 := push_new e1674
    rw [← eb1676] at f1677
    have x1682 : Ext h1667 h1673 := by rw [e1674]; exact Ext.push _ _
    have o1683 : hr.size ≤ b1675 := by have := x1672.size; omega
    have f1684 := x1682 _ _ f1670
    have p1685 := p1671.keep fun b r _ q => x1682 b r q
    have p1686 := p1669.keep fun b r _ q => x1682 b r q
    have x1687 := x1672.trans (Chg.ext x1682)
    obtain ⟨w1688, h1689, e1690, p1691, c1692, n1693, z1694⟩ := own_append und27 sizeb3 zero3 rfl (by decide) icell_size (x := (y.1 : Int)) p1685 f1677 rfl (by omega) (by unfold maxLen; omega)
    obtain ⟨a1695, c1696, rfl⟩ := (p1691.slice icell_size).len
    have z1697 : hr.size ≤ h1673.size := x1687.size
    have x1698 := x1687.then c1692 (fun b hb => .inl ((show ∀ b, (blk (Value.slice oa (out.length) (oc))) b → Dc b from fun b hb => by rw [eDc]; exact .inr (.inr (.inl hb))) b hb))
    have f1699 := c1692.same _ _ f1684 (fun hb => p1685.ne f1684 (by decide) hb rfl)
    have p1701 := p1686.keep fun b r hb q => c1692.same b r q ((fun b hb hb2 => (p1685).celled.loop p1686 b hb2 hb) b hb)
    have n1703 : ∀ zz, blk (Value.slice a1695 ((out ++ [(y.1 : Int)]).length) (c1696)) zz → ¬ zz = b1617 := fun zz hz ez => by have := n1693 zz hz; have := row_lt f1684; omega
    have n1706 : ∀ zz, blk (Value.slice a1695 ((out ++ [(y.1 : Int)]).length) (c1696)) zz → ¬ (fun q => q = lp1637) zz := fun zz hz ez => by have := n1693 zz hz; have := p1686.blk_lt ez; omega
    have o1707 : ∀ zz, blk (Value.slice a1695 ((out ++ [(y.1 : Int)]).length) (c1696)) zz → hr.size ≤ zz := fun zz hz => by have := n1693 zz hz; have := z1697; omega
    obtain ⟨h1708, e1709⟩ : ∃ zq, zq = h1689.setIfInBounds b1617 (.cells #[(Value.slice a1695 ((out ++ [(y.1 : Int)]).length) (c1696))] 27 (0, 0)) := ⟨_, rfl⟩
    have f1710 := set_same e1709 f1699
    have p1713 := p1701.keep fun b r hb q => (Chg.set e1709).same b r q ((fun (b : Nat) hb => loop_ne p1701 f1699 hb) b hb)
    have p1714 := p1691.keep fun b r hb q => (Chg.set e1709).same b r q (n1703 b hb)
    have x1715 := x1698.then (Chg.set e1709) (fun b hb => by subst hb; exact (.inl (by rw [eDc]; exact .inr (.inl rfl))))
    refine wc_upd (n := 200) (T := ⟨fun r i => match r, i with | 4, 0 => some ((vL oa out.length oc), h1667) | 4, 2 => some ((vL (some ⟨b1675, 0, none⟩) 1 1), h1673) | 4, 3 => some ((Value.slice a1695 ((out ++ [(y.1 : Int)]).length) (c1696)), h1689) | 4, 4 => some (undef, h1708) | _, _ => none, fun _ => none, none⟩) (x := .normal) (h1 := h1708) [(9, (vL oa out.length oc)), (10, (vI y.1)), (11, (vL (some ⟨b1675, 0, none⟩) 1 1)), (12, (Value.slice a1695 ((out ++ [(y.1 : Int)]).length) (c1696)))]
      (fun q => (loadT Tryd.prog h1667 27 (vP b1617 0) = some (vL oa out.length oc) ∧ h1667 = h1667) ∧ ((vL (some ⟨b1675, 0, none⟩) 1 1) = (vL (some ⟨h1667.size, 0, none⟩) 1 1) ∧ h1673 = h1667.push (.cells #[(vI y.1)] 3 (0, 0))) ∧ appendA Tryd.prog h1673 #[27, 27] #[(vL oa out.length oc), (vL (some ⟨b1675, 0, none⟩) 1 1)] = some ((Value.slice a1695 ((out ++ [(y.1 : Int)]).length) (c1696)), h1689) ∧ (storeT Tryd.prog h1689 27 (vP b1617 0) (Value.slice a1695 ((out ++ [(y.1 : Int)]).length) (c1696)) = some h1708 ∧ (undef : Value) = undef) ∧ q) (by intro K'; as_aux_lemma => kernel_rfl) (fun _ q => ⟨⟨load_cell agg27 f1670 rfl, rfl⟩, ⟨by rw [eb1676], e1674⟩, e1690, ⟨by rw [e1709]; exact store_cells size27 rfl f1699 (by decide) (by simp) rfl (by kernel_rfl), rfl⟩, q⟩) ?_
    refine ⟨_, p1713, ?_⟩
    obtain ⟨h1716, e1717⟩ : ∃ zq, zq = h1708.setIfInBounds lp1637 (.loop { ({ L1639 with state := .busy } : Loop) with state := .ready, pending := none }) := ⟨_, rfl⟩
    have p1718 : At h1716 lp1637 (.loop { ({ L1639 with state := .busy } : Loop) with state := .ready, pending := none }) := set_same e1717 p1713
    have f1719 := set_other e1717 f1710 (loop_ne p1713 f1710 rfl)
    have p1721 := p1714.keep fun b r hb q => (Chg.set e1717).same b r q (n1706 b hb)
    have x1722 := x1715.then (Chg.set e1717) (fun b hb => .inl ((fun b hb => by rw [eDc]; exact .inl hb) b hb))
    have dnew : ∀ z, ((fun (out : List Int) (oa : Option Addr) (oc : Nat) => (fun b => b = lp1637 ∨ b = b1617 ∨ (blk (Value.slice oa (out.length) (oc))) b ∨ False)) ((out ++ [(y.1 : Int)])) (a1695) (c1696)) z → Dc z ∨ hr.size ≤ z := by
      intro z hz; rcases hz with w | w | w | w
      · exact .inl (by rw [eDc]; exact .inl w)
      · exact .inl (by rw [eDc]; exact .inr (.inl w))
      · exact .inr (o1707 z w)
      · exact w.elim
    refine (show ∃ D', Chg Dc hr (h1716) ∧ (∀ z, D' z → Dc z ∨ hr.size ≤ z) ∧ (if true = true then I1647 (k + 1) D' h1716 else E1648 h1716) from ?_) |> (fun w => by rw [e1717] at w; exact w)
    refine ⟨(fun (out : List Int) (oa : Option Addr) (oc : Nat) => (fun b => b = lp1637 ∨ b = b1617 ∨ (blk (Value.slice oa (out.length) (oc))) b ∨ False)) ((out ++ [(y.1 : Int)])) (a1695) (c1696), x1722, dnew, ?_⟩
    rw [if_pos rfl]
    rw [eI1646]
    exact ⟨(out ++ [(y.1 : Int)]), a1695, c1696, rfl, (by have q := p1718; rw [loop_back hs1641 hp1642] at q; exact q), c1663.then (x1722) d1664, fun z hz => (dnew z hz).elim (d1664 z) (fun w => .inr (by have := c1663.size; omega)), f1719, by rw [take_next hk, List.map_append, ← i1660]; rfl, p1721⟩
  have h01723 : I1647 0 D1650 h1640 := by rw [eI1646]; exact ⟨[], none, 0, eD1651, p1644, Chg.refl h1640, fun z hz => .inl hz, f1653, rfl, .inl ⟨rfl, rfl⟩⟩
  refine wc_range_any (h1 := h1640) (c := (subc (bodyOf Tryd.prog 14) [1, 1, 0, 1, 0])) (g := .tmp 6) (params := #[7, 8]) (assign := (subc (bodyOf Tryd.prog 14) [1, 1, 0, 1, 0, 0])) (body := (subc (bodyOf Tryd.prog 14) [1, 1, 0, 1, 0, 1])) (by kernel_rfl) 51 #[] #[(vP b1625 0)] lp1637 [{ target := .collected dv1636, args := #[] }] #[(Value.func (.yield lp1637) #[] #[]), (vP b1625 0)] (by rfl) rfl rfl (by kernel_rfl) (by rw [eh1640, elp1637, eL1639, etm1638, edv1636]; rfl) ?_
  refine (open_it h1640 (hT'.keep fun b r _ q => x1655 b r q) h64 b1625 f1654 lp1637 I1647 E1648 D1650 (fun b hb w => by have := hT'.blk_lt hb; have := hD1657 b w; omega) hX1665 hy1666 h01723).mono fun _ h8 q => ?_
  obtain ⟨q0, q⟩ := q
  rcases q with ⟨Dv, q, qD⟩ | q
  · rw [eI1646] at q
    obtain ⟨out, oa, oc, eDv, p1727, cgN, hdN, f1724, i1725, p1726⟩ := q
    refine ⟨_, p1727, ?_, leftBy_none hp1642 ?_⟩
    · exact fun w => by rw [hs1641] at w; cases w
    have p1728 : At h8 dv1636 (.deferred (some [])) := q0.same _ _ p1645 hd1658
    obtain ⟨h1729, e1730⟩ : ∃ zq, zq = h8.setIfInBounds lp1637 (.loop { L1639 with state := .exhausted }) := ⟨_, rfl⟩
    have f1732 := set_other e1730 f1724 (loop_ne p1727 f1724 rfl)
    have p1733 := p1726.keep fun b r hb q => (Chg.set e1730).same b r q ((fun b hb hb2 => (p1726).celled.loop p1727 b hb hb2) b hb)
    have p1734 := p1728.keep fun b r hb q => (Chg.set e1730).same b r q ((fun b hb hb2 => (show ∀ b : Nat, b = lp1637 → b = dv1636 → False from fun b w1 w2 => by omega) b hb2 hb) b hb)
    rw [← e1730]
    have c1735 := q0.then (Chg.set e1730) (fun b hb => .inl (by rw [eD1651]; exact .inl hb))
    have x1736 : Ext h h1729 := (Chg.then (O := fun _ => False) (Chg.ext x1655) c1735 (fun b hb => .inr (hD1657 b hb))).toExt'
    have nb : ∀ zz, blk (Value.slice oa (out.length) (oc)) zz → h.size ≤ zz := fun zz hz => (qD zz (by rw [eDv]; exact .inr (.inr (.inl hz)))).elim (hD1657 zz) (fun g => by omega)
    rw [List.take_length] at i1725
    refine wc_upd (n := 200) (T := ⟨fun r i => match r, i with | 5, 0 => some ((vL oa out.length oc), h1729) | _, _ => none, fun _ => none, none⟩) (x := .ret) (h1 := h1729) [(13, (vL oa out.length oc)), (2, (vL oa out.length oc))]
      (fun q => (loadT Tryd.prog h1729 27 (vP b1617 0) = some (vL oa out.length oc) ∧ h1729 = h1729) ∧ q) (by intro K'; as_aux_lemma => kernel_rfl) (fun _ q => ⟨⟨load_cell agg27 f1732 rfl, rfl⟩, q⟩) ?_
    obtain ⟨h1737, e1738⟩ : ∃ zq, zq = h1729.setIfInBounds dv1636 (.deferred none) := ⟨_, rfl⟩
    have p1742 := p1733.keep fun b r hb q => (Chg.set e1738).same b r q ((fun b hb hb2 => (p1733).celled.defer p1734 b hb hb2) b hb)
    have x1739 : Ext h h1737 := Ext.setNew x1736 e1738 (by omega)
    have eo : out = openL ms := i1725
    refine end_mark3 (T := ⟨fun _ _ => none, fun _ => none, none⟩) (dv := dv1636) { tmps := #[(vP t 0), (Value.tuple #[]), (Value.slice oa (out.length) (oc)), (vP b1617 0), (Value.tuple #[]), (vP t 0), (Value.func (.func 51) #[] #[(vP b1625 0)]), (Value.tuple #[]), (Value.tuple #[]), (Value.tuple #[]), (Value.tuple #[]), (Value.tuple #[]), (Value.tuple #[]), (Value.slice oa (out.length) (oc))], defers := ([{ target := .collected dv1636, args := #[] }] ++ []) } (by kernel_rfl) (.inr rfl) rfl p1734 e1738 (A := K (Value.slice oa (out.length) (oc)) h1737) (by kernel_rfl) ?_
    exact hK _ _ (⟨oa, oc, by rw [← eo], by rw [← eo]; exact p1742, x1739, nb⟩)
  · rw [eE1649] at q; exact q.elim
end C32
