/- Copies of tables. -/
import Derived.Test.YtdcboianihplpaaXh
import Derived.Test.YtdcboianihplpaaXw
import Derived.KernelRfl
open Go Go.AM Go.Proofs
namespace C36
set_option maxHeartbeats 4000000 in
theorem copy_ok (h : Heap) {O : Nat → Prop} {t : Nat} {m : TabM} (hT : Tab h O t m) {n' : Nat} (hm : m.ok n') (hn : n' ≤ 100000) (hw : m.wf) (hsm : m.small) : WCall Try.prog 24 #[(vP t 0)] h (fun v h1 => ∃ b O', v = .pointer (some ⟨b, 0, none⟩) ∧ Tab h1 O' b m ∧ Ext h h1 ∧ ∀ zz, O' zz → h.size ≤ zz) := by
  obtain ⟨raw1593, ae1594, aa1595, ar1596, ce1597, ca1598, cr1599, T1592⟩ := hT.1
  have el := T1592.elen
  have m1 := hm.1
  have m2 := hm.2.1
  have m3 := hm.2.2
  obtain ⟨_, _, sn1601, rfl, rfl⟩ := valid_ok h T1592.row
  obtain ⟨_, h1603, s1604, out1605, oa1606, oc1607, rfl, p1608, p1609, e1610, x1611, n1612, n1613⟩ := events_ok h (hT.keep fun b r _ q => (Ext.refl h) b r q) hm (by omega) hsm
  have f1614 := x1611 _ _ T1592.row
  have x1615 := (Ext.refl h).trans x1611
  have z1617 : h.size ≤ h.size := (Ext.refl h).size
  have o1624 : ∀ zz, blk (Value.slice oa1606 (out1605.length) (oc1607)) zz → h.size ≤ zz := fun zz hz => by have := n1612 zz hz; omega
  have z1625 : h.size ≤ h.size := (Ext.refl h).size
  have o1632 : ∀ zz, (sfoot out1605) zz → h.size ≤ zz := fun zz hz => by have := n1613 zz hz; omega
  obtain ⟨_, hh1637, sn1638, w1633, c1634, rfl, o1635, x1639, b1636⟩ := clone_int h1603 m.ats _ _ ((T1592.at_.keep fun b r _ q => x1615 b r q).slice icell_size) (by omega)
  have f1640 := x1639 _ _ f1614
  have p1641 := p1608.keep fun b r _ q => x1639 b r q
  have p1642 := p1609.keep fun b r _ q => x1639 b r q
  have x1643 := x1615.trans x1639
  have z1645 : h.size ≤ h1603.size := x1615.size
  have o1654 : ∀ zz, blk (Value.slice w1633 (m.ats.length) (c1634)) zz → h.size ≤ zz := fun zz hz => by have := b1636 zz hz; omega
  obtain ⟨_, hh1659, sn1660, w1655, c1656, rfl, o1657, x1661, b1658⟩ := clone_int hh1637 m.rps _ _ ((T1592.rp.keep fun b r _ q => x1643 b r q).slice icell_size) (by omega)
  have p1663 := p1641.keep fun b r _ q => x1661 b r q
  have p1664 := p1642.keep fun b r _ q => x1661 b r q
  have p1665 := o1635.keep fun b r _ q => x1661 b r q
  have x1666 := x1643.trans x1661
  have z1668 : h.size ≤ hh1637.size := x1643.size
  have n1677 : ∀ zz, blk (Value.slice w1655 (m.rps.length) (c1656)) zz → ¬ (blk (Value.slice w1633 (m.ats.length) (c1634))) zz := fun zz hz ez => by have := b1658 zz hz; have := o1635.blk_lt ez; omega
  have o1678 : ∀ zz, blk (Value.slice w1655 (m.rps.length) (c1656)) zz → h.size ≤ zz := fun zz hz => by have := b1658 zz hz; omega
  obtain ⟨b1681, eb1682⟩ : ∃ zq, zq = hh1659.size := ⟨_, rfl⟩
  obtain ⟨h1679, e1680⟩ : ∃ zq, zq = hh1659.push (.cells #[(vB true), (Value.slice oa1606 (out1605.length) (oc1607)), (Value.slice w1633 (m.ats.length) (c1634)), (Value.slice w1655 (m.rps.length) (c1656))] 68 (0, 0)) := ⟨_, rfl⟩
  have f1683 := push_new e1680
  rw [← eb1682] at f1683
  have x1694 : Ext hh1659 h1679 := by rw [e1680]; exact Ext.push _ _
  have o1695 : h.size ≤ b1681 := by have := x1666.size; omega
  have p1697 := p1663.keep fun b r _ q => x1694 b r q
  have p1698 := p1664.keep fun b r _ q => x1694 b r q
  have p1699 := p1665.keep fun b r _ q => x1694 b r q
  have p1700 := o1657.keep fun b r _ q => x1694 b r q
  have x1701 := x1666.trans x1694
  have tb : TabAt h1679 (fun k => k = b1681 ∨ blk (Value.slice oa1606 (out1605.length) (oc1607)) k ∨ blk (Value.slice w1633 (m.ats.length) (c1634)) k ∨ blk (Value.slice w1655 (m.rps.length) (c1656)) k ∨ sfoot out1605 k) b1681 m := ⟨out1605, _, _, _, _, _, _, ⟨f1683, p1697, p1699, p1700, e1610, p1698, fun b hb hb2 => n1677 b hb2 hb, .inl rfl, fun b hb => .inr (.inl hb), fun b hb => .inr (.inr (.inl hb)), fun b hb => .inr (.inr (.inr (.inl hb))), fun b hb => .inr (.inr (.inr (.inr hb)))⟩⟩
  obtain ⟨O', tt, oo⟩ := tb.tab
  exact hCall_of (n := 200) (T := ⟨fun r i => match r, i with | 1, 1 => some ((vB true), h) | 3, 5 => some ((Value.slice aa1595 (m.ats.length) (ca1598)), h) | 3, 10 => some ((Value.slice ar1596 (m.rps.length) (cr1599)), h) | 3, 1 => some ((Value.slice oa1606 (out1605.length) (oc1607)), h1603) | 3, 6 => some ((Value.slice w1633 (m.ats.length) (c1634)), hh1637) | 3, 11 => some ((Value.slice w1655 (m.rps.length) (c1656)), hh1659) | 3, 13 => some ((vP b1681 0), h1679) | _, _ => none, fun _ => none, none⟩)
    (A := SoundCall Try.prog 39 #[(vP t 0)] h (vB true) h ∧ (loadT Try.prog h 53 (vP t 2) = some (Value.slice aa1595 (m.ats.length) (ca1598)) ∧ h = h) ∧ (loadT Try.prog h 53 (vP t 3) = some (Value.slice ar1596 (m.rps.length) (cr1599)) ∧ h = h) ∧ SoundCall Try.prog 16 #[(vP t 0)] h (Value.slice oa1606 (out1605.length) (oc1607)) h1603 ∧ (loadT Try.prog h1603 53 (vP t 3) = some (Value.slice ar1596 (m.rps.length) (cr1599)) ∧ h1603 = h1603) ∧ (loadT Try.prog h1603 53 (vP t 2) = some (Value.slice aa1595 (m.ats.length) (ca1598)) ∧ h1603 = h1603) ∧ SoundCall Try.prog 46 #[(Value.slice aa1595 (m.ats.length) (ca1598))] h1603 (Value.slice w1633 (m.ats.length) (c1634)) hh1637 ∧ (loadT Try.prog hh1637 53 (vP t 3) = some (Value.slice ar1596 (m.rps.length) (cr1599)) ∧ hh1637 = hh1637) ∧ SoundCall Try.prog 46 #[(Value.slice ar1596 (m.rps.length) (cr1599))] hh1637 (Value.slice w1655 (m.rps.length) (c1656)) hh1659 ∧ ((vP b1681 0) = (Value.pointer (some ⟨hh1659.size, 0, none⟩)) ∧ h1679 = hh1659.push (.cells #[(vB true), (Value.slice oa1606 (out1605.length) (oc1607)), (Value.slice w1633 (m.ats.length) (c1634)), (Value.slice w1655 (m.rps.length) (c1656))] 68 (0, 0))) ∧ (fun v h1 => ∃ b O', v = .pointer (some ⟨b, 0, none⟩) ∧ Tab h1 O' b m ∧ Ext h h1 ∧ ∀ zz, O' zz → h.size ≤ zz) (vP b1681 0) h1679) (by kernel_rfl) ⟨sn1601, ⟨load_cell agg53 T1592.row rfl, rfl⟩, ⟨load_cell agg53 T1592.row rfl, rfl⟩, s1604, ⟨load_cell agg53 f1614 rfl, rfl⟩, ⟨load_cell agg53 f1614 rfl, rfl⟩, sn1638, ⟨load_cell agg53 f1640 rfl, rfl⟩, sn1660, ⟨by rw [eb1682], e1680⟩, ⟨_, O', rfl, tt, x1701, fun zz hz => by rcases oo zz hz with w | w | w | w | w; (have := o1695; omega); exact o1624 zz w; exact o1654 zz w; exact o1678 zz w; exact o1632 zz w⟩⟩
end C36
