/- The law CallsCopies, run. -/
import Derived.Test.YtdcboianihplpaaXh
import Derived.Test.YtdcboianihplpaaXw
import Derived.KernelRfl
open Go Go.AM Go.Proofs
namespace C36
set_option maxHeartbeats 4000000 in
theorem copy_ok (h : Heap) {O : Nat → Prop} {t : Nat} {m : TabM} (hT : Tab h O t m) {n' : Nat} (hm : m.ok n') (hn : n' ≤ 100000) (hw : m.wf) (hsm : m.small) : WCall Try.prog 24 #[(Value.pointer (some ⟨t, 0, none⟩))] h (fun v h1 => ∃ b O', v = .pointer (some ⟨b, 0, none⟩) ∧ Tab h1 O' b m ∧ Ext h h1 ∧ ∀ zz, O' zz → h.size ≤ zz) := by
  obtain ⟨raw1585, ae1586, aa1587, ar1588, ce1589, ca1590, cr1591, T1584⟩ := hT.1
  have el := T1584.elen
  have m1 := hm.1
  have m2 := hm.2.1
  have m3 := hm.2.2
  obtain ⟨_, _, sn1593, rfl, rfl⟩ := valid_ok h T1584.row
  obtain ⟨_, h1595, s1596, out1597, oa1598, oc1599, rfl, p1600, p1601, e1602, x1603, n1604, n1605⟩ := events_ok h (hT.keep fun b r _ q => (Ext.refl h) b r q) hm (by omega) hsm
  have f1606 := x1603 _ _ T1584.row
  have x1607 := (Ext.refl h).trans x1603
  have z1609 : h.size ≤ h.size := (Ext.refl h).size
  have n1610 : ∀ zz, blk (Value.slice oa1598 (out1597.length) (oc1599)) zz → ¬ zz = t := fun zz hz ez => by have := n1604 zz hz; have := row_lt T1584.row; omega
  have n1611 : ∀ zz, blk (Value.slice oa1598 (out1597.length) (oc1599)) zz → ¬ (blk (Value.slice ae1586 (raw1585.length) (ce1589))) zz := fun zz hz ez => by have := n1604 zz hz; have := (T1584.ev.keep fun b r _ q => (Ext.refl h) b r q).blk_lt ez; omega
  have n1612 : ∀ zz, blk (Value.slice oa1598 (out1597.length) (oc1599)) zz → ¬ (blk (Value.slice aa1587 (m.ats.length) (ca1590))) zz := fun zz hz ez => by have := n1604 zz hz; have := (T1584.at_.keep fun b r _ q => (Ext.refl h) b r q).blk_lt ez; omega
  have n1613 : ∀ zz, blk (Value.slice oa1598 (out1597.length) (oc1599)) zz → ¬ (blk (Value.slice ar1588 (m.rps.length) (cr1591))) zz := fun zz hz ez => by have := n1604 zz hz; have := (T1584.rp.keep fun b r _ q => (Ext.refl h) b r q).blk_lt ez; omega
  have n1614 : ∀ zz, blk (Value.slice oa1598 (out1597.length) (oc1599)) zz → ¬ (sfoot raw1585) zz := fun zz hz ez => by have := n1604 zz hz; have := (T1584.steps.keep fun b r _ q => (Ext.refl h) b r q).blk_lt ez; omega
  have n1615 : ∀ zz, blk (Value.slice oa1598 (out1597.length) (oc1599)) zz → ¬ O zz := fun zz hz ez => by have := n1604 zz hz; have := (hT.keep fun b r _ q => (Ext.refl h) b r q).blk_lt ez; omega
  have o1616 : ∀ zz, blk (Value.slice oa1598 (out1597.length) (oc1599)) zz → h.size ≤ zz := fun zz hz => by have := n1604 zz hz; omega
  have z1617 : h.size ≤ h.size := (Ext.refl h).size
  have n1618 : ∀ zz, (sfoot out1597) zz → ¬ zz = t := fun zz hz ez => by have := n1605 zz hz; have := row_lt T1584.row; omega
  have n1619 : ∀ zz, (sfoot out1597) zz → ¬ (blk (Value.slice ae1586 (raw1585.length) (ce1589))) zz := fun zz hz ez => by have := n1605 zz hz; have := (T1584.ev.keep fun b r _ q => (Ext.refl h) b r q).blk_lt ez; omega
  have n1620 : ∀ zz, (sfoot out1597) zz → ¬ (blk (Value.slice aa1587 (m.ats.length) (ca1590))) zz := fun zz hz ez => by have := n1605 zz hz; have := (T1584.at_.keep fun b r _ q => (Ext.refl h) b r q).blk_lt ez; omega
  have n1621 : ∀ zz, (sfoot out1597) zz → ¬ (blk (Value.slice ar1588 (m.rps.length) (cr1591))) zz := fun zz hz ez => by have := n1605 zz hz; have := (T1584.rp.keep fun b r _ q => (Ext.refl h) b r q).blk_lt ez; omega
  have n1622 : ∀ zz, (sfoot out1597) zz → ¬ (sfoot raw1585) zz := fun zz hz ez => by have := n1605 zz hz; have := (T1584.steps.keep fun b r _ q => (Ext.refl h) b r q).blk_lt ez; omega
  have n1623 : ∀ zz, (sfoot out1597) zz → ¬ O zz := fun zz hz ez => by have := n1605 zz hz; have := (hT.keep fun b r _ q => (Ext.refl h) b r q).blk_lt ez; omega
  have o1624 : ∀ zz, (sfoot out1597) zz → h.size ≤ zz := fun zz hz => by have := n1605 zz hz; omega
  obtain ⟨_, hh1629, sn1630, w1625, c1626, rfl, o1627, x1631, b1628⟩ := clone_int h1595 m.ats _ _ ((T1584.at_.keep fun b r _ q => x1607 b r q).slice icell_size) (by omega)
  have f1632 := x1631 _ _ f1606
  have p1633 := p1600.keep fun b r _ q => x1631 b r q
  have p1634 := p1601.keep fun b r _ q => x1631 b r q
  have x1635 := x1607.trans x1631
  have z1637 : h.size ≤ h1595.size := x1607.size
  have n1638 : ∀ zz, blk (Value.slice w1625 (m.ats.length) (c1626)) zz → ¬ zz = t := fun zz hz ez => by have := b1628 zz hz; have := row_lt f1606; omega
  have n1639 : ∀ zz, blk (Value.slice w1625 (m.ats.length) (c1626)) zz → ¬ (blk (Value.slice ae1586 (raw1585.length) (ce1589))) zz := fun zz hz ez => by have := b1628 zz hz; have := (T1584.ev.keep fun b r _ q => x1607 b r q).blk_lt ez; omega
  have n1640 : ∀ zz, blk (Value.slice w1625 (m.ats.length) (c1626)) zz → ¬ (blk (Value.slice aa1587 (m.ats.length) (ca1590))) zz := fun zz hz ez => by have := b1628 zz hz; have := (T1584.at_.keep fun b r _ q => x1607 b r q).blk_lt ez; omega
  have n1641 : ∀ zz, blk (Value.slice w1625 (m.ats.length) (c1626)) zz → ¬ (blk (Value.slice ar1588 (m.rps.length) (cr1591))) zz := fun zz hz ez => by have := b1628 zz hz; have := (T1584.rp.keep fun b r _ q => x1607 b r q).blk_lt ez; omega
  have n1642 : ∀ zz, blk (Value.slice w1625 (m.ats.length) (c1626)) zz → ¬ (sfoot raw1585) zz := fun zz hz ez => by have := b1628 zz hz; have := (T1584.steps.keep fun b r _ q => x1607 b r q).blk_lt ez; omega
  have n1643 : ∀ zz, blk (Value.slice w1625 (m.ats.length) (c1626)) zz → ¬ O zz := fun zz hz ez => by have := b1628 zz hz; have := (hT.keep fun b r _ q => x1607 b r q).blk_lt ez; omega
  have n1644 : ∀ zz, blk (Value.slice w1625 (m.ats.length) (c1626)) zz → ¬ (blk (Value.slice oa1598 (out1597.length) (oc1599))) zz := fun zz hz ez => by have := b1628 zz hz; have := p1600.blk_lt ez; omega
  have n1645 : ∀ zz, blk (Value.slice w1625 (m.ats.length) (c1626)) zz → ¬ (sfoot out1597) zz := fun zz hz ez => by have := b1628 zz hz; have := p1601.blk_lt ez; omega
  have o1646 : ∀ zz, blk (Value.slice w1625 (m.ats.length) (c1626)) zz → h.size ≤ zz := fun zz hz => by have := b1628 zz hz; omega
  obtain ⟨_, hh1651, sn1652, w1647, c1648, rfl, o1649, x1653, b1650⟩ := clone_int hh1629 m.rps _ _ ((T1584.rp.keep fun b r _ q => x1635 b r q).slice icell_size) (by omega)
  have f1654 := x1653 _ _ f1632
  have p1655 := p1633.keep fun b r _ q => x1653 b r q
  have p1656 := p1634.keep fun b r _ q => x1653 b r q
  have p1657 := o1627.keep fun b r _ q => x1653 b r q
  have x1658 := x1635.trans x1653
  have z1660 : h.size ≤ hh1629.size := x1635.size
  have n1661 : ∀ zz, blk (Value.slice w1647 (m.rps.length) (c1648)) zz → ¬ zz = t := fun zz hz ez => by have := b1650 zz hz; have := row_lt f1632; omega
  have n1662 : ∀ zz, blk (Value.slice w1647 (m.rps.length) (c1648)) zz → ¬ (blk (Value.slice ae1586 (raw1585.length) (ce1589))) zz := fun zz hz ez => by have := b1650 zz hz; have := (T1584.ev.keep fun b r _ q => x1635 b r q).blk_lt ez; omega
  have n1663 : ∀ zz, blk (Value.slice w1647 (m.rps.length) (c1648)) zz → ¬ (blk (Value.slice aa1587 (m.ats.length) (ca1590))) zz := fun zz hz ez => by have := b1650 zz hz; have := (T1584.at_.keep fun b r _ q => x1635 b r q).blk_lt ez; omega
  have n1664 : ∀ zz, blk (Value.slice w1647 (m.rps.length) (c1648)) zz → ¬ (blk (Value.slice ar1588 (m.rps.length) (cr1591))) zz := fun zz hz ez => by have := b1650 zz hz; have := (T1584.rp.keep fun b r _ q => x1635 b r q).blk_lt ez; omega
  have n1665 : ∀ zz, blk (Value.slice w1647 (m.rps.length) (c1648)) zz → ¬ (sfoot raw1585) zz := fun zz hz ez => by have := b1650 zz hz; have := (T1584.steps.keep fun b r _ q => x1635 b r q).blk_lt ez; omega
  have n1666 : ∀ zz, blk (Value.slice w1647 (m.rps.length) (c1648)) zz → ¬ O zz := fun zz hz ez => by have := b1650 zz hz; have := (hT.keep fun b r _ q => x1635 b r q).blk_lt ez; omega
  have n1667 : ∀ zz, blk (Value.slice w1647 (m.rps.length) (c1648)) zz → ¬ (blk (Value.slice oa1598 (out1597.length) (oc1599))) zz := fun zz hz ez => by have := b1650 zz hz; have := p1633.blk_lt ez; omega
  have n1668 : ∀ zz, blk (Value.slice w1647 (m.rps.length) (c1648)) zz → ¬ (sfoot out1597) zz := fun zz hz ez => by have := b1650 zz hz; have := p1634.blk_lt ez; omega
  have n1669 : ∀ zz, blk (Value.slice w1647 (m.rps.length) (c1648)) zz → ¬ (blk (Value.slice w1625 (m.ats.length) (c1626))) zz := fun zz hz ez => by have := b1650 zz hz; have := o1627.blk_lt ez; omega
  have o1670 : ∀ zz, blk (Value.slice w1647 (m.rps.length) (c1648)) zz → h.size ≤ zz := fun zz hz => by have := b1650 zz hz; omega
  obtain ⟨b1673, eb1674⟩ : ∃ zq, zq = hh1651.size := ⟨_, rfl⟩
  obtain ⟨h1671, e1672⟩ : ∃ zq, zq = hh1651.push (.cells #[(Value.bool true), (Value.slice oa1598 (out1597.length) (oc1599)), (Value.slice w1625 (m.ats.length) (c1626)), (Value.slice w1647 (m.rps.length) (c1648))] 68 (0, 0)) := ⟨_, rfl⟩
  have f1675 := push_new e1672
  rw [← eb1674] at f1675
  have n1676 : b1673 ≠ t := by have := row_lt f1654; omega
  have n1677 : ∀ zz, (blk (Value.slice ae1586 (raw1585.length) (ce1589))) zz → ¬ zz = b1673 := fun zz hz ez => by have := (T1584.ev.keep fun b r _ q => x1658 b r q).blk_lt hz; omega
  have n1678 : ∀ zz, (blk (Value.slice aa1587 (m.ats.length) (ca1590))) zz → ¬ zz = b1673 := fun zz hz ez => by have := (T1584.at_.keep fun b r _ q => x1658 b r q).blk_lt hz; omega
  have n1679 : ∀ zz, (blk (Value.slice ar1588 (m.rps.length) (cr1591))) zz → ¬ zz = b1673 := fun zz hz ez => by have := (T1584.rp.keep fun b r _ q => x1658 b r q).blk_lt hz; omega
  have n1680 : ∀ zz, (sfoot raw1585) zz → ¬ zz = b1673 := fun zz hz ez => by have := (T1584.steps.keep fun b r _ q => x1658 b r q).blk_lt hz; omega
  have n1681 : ∀ zz, O zz → ¬ zz = b1673 := fun zz hz ez => by have := (hT.keep fun b r _ q => x1658 b r q).blk_lt hz; omega
  have n1682 : ∀ zz, (blk (Value.slice oa1598 (out1597.length) (oc1599))) zz → ¬ zz = b1673 := fun zz hz ez => by have := p1655.blk_lt hz; omega
  have n1683 : ∀ zz, (sfoot out1597) zz → ¬ zz = b1673 := fun zz hz ez => by have := p1656.blk_lt hz; omega
  have n1684 : ∀ zz, (blk (Value.slice w1625 (m.ats.length) (c1626))) zz → ¬ zz = b1673 := fun zz hz ez => by have := p1657.blk_lt hz; omega
  have n1685 : ∀ zz, (blk (Value.slice w1647 (m.rps.length) (c1648))) zz → ¬ zz = b1673 := fun zz hz ez => by have := o1649.blk_lt hz; omega
  have x1686 : Ext hh1651 h1671 := by rw [e1672]; exact Ext.push _ _
  have o1687 : h.size ≤ b1673 := by have := x1658.size; omega
  have f1688 := x1686 _ _ f1654
  have p1689 := p1655.keep fun b r _ q => x1686 b r q
  have p1690 := p1656.keep fun b r _ q => x1686 b r q
  have p1691 := p1657.keep fun b r _ q => x1686 b r q
  have p1692 := o1649.keep fun b r _ q => x1686 b r q
  have x1693 := x1658.trans x1686
  have tb : TabAt h1671 (fun k => k = b1673 ∨ blk (Value.slice oa1598 (out1597.length) (oc1599)) k ∨ blk (Value.slice w1625 (m.ats.length) (c1626)) k ∨ blk (Value.slice w1647 (m.rps.length) (c1648)) k ∨ sfoot out1597 k) b1673 m := ⟨out1597, _, _, _, _, _, _, ⟨f1675, p1689, p1691, p1692, e1602, p1690, fun b hb hb2 => n1669 b hb2 hb, .inl rfl, fun b hb => .inr (.inl hb), fun b hb => .inr (.inr (.inl hb)), fun b hb => .inr (.inr (.inr (.inl hb))), fun b hb => .inr (.inr (.inr (.inr hb)))⟩⟩
  obtain ⟨O', tt, oo⟩ := tb.tab
  exact hCall_of (n := 200) (T := ⟨fun r i => match r, i with | 1, 1 => some ((Value.bool true), h) | 3, 5 => some ((Value.slice aa1587 (m.ats.length) (ca1590)), h) | 3, 10 => some ((Value.slice ar1588 (m.rps.length) (cr1591)), h) | 3, 1 => some ((Value.slice oa1598 (out1597.length) (oc1599)), h1595) | 3, 6 => some ((Value.slice w1625 (m.ats.length) (c1626)), hh1629) | 3, 11 => some ((Value.slice w1647 (m.rps.length) (c1648)), hh1651) | 3, 13 => some ((Value.pointer (some ⟨b1673, 0, none⟩)), h1671) | _, _ => none, fun _ => none, none⟩)
    (A := SoundCall Try.prog 39 #[(Value.pointer (some ⟨t, 0, none⟩))] h (Value.bool true) h ∧ (loadT Try.prog h 53 (Value.pointer (some ⟨t, 2, none⟩)) = some (Value.slice aa1587 (m.ats.length) (ca1590)) ∧ h = h) ∧ (loadT Try.prog h 53 (Value.pointer (some ⟨t, 3, none⟩)) = some (Value.slice ar1588 (m.rps.length) (cr1591)) ∧ h = h) ∧ SoundCall Try.prog 16 #[(Value.pointer (some ⟨t, 0, none⟩))] h (Value.slice oa1598 (out1597.length) (oc1599)) h1595 ∧ (loadT Try.prog h1595 53 (Value.pointer (some ⟨t, 3, none⟩)) = some (Value.slice ar1588 (m.rps.length) (cr1591)) ∧ h1595 = h1595) ∧ (loadT Try.prog h1595 53 (Value.pointer (some ⟨t, 2, none⟩)) = some (Value.slice aa1587 (m.ats.length) (ca1590)) ∧ h1595 = h1595) ∧ SoundCall Try.prog 46 #[(Value.slice aa1587 (m.ats.length) (ca1590))] h1595 (Value.slice w1625 (m.ats.length) (c1626)) hh1629 ∧ (loadT Try.prog hh1629 53 (Value.pointer (some ⟨t, 3, none⟩)) = some (Value.slice ar1588 (m.rps.length) (cr1591)) ∧ hh1629 = hh1629) ∧ SoundCall Try.prog 46 #[(Value.slice ar1588 (m.rps.length) (cr1591))] hh1629 (Value.slice w1647 (m.rps.length) (c1648)) hh1651 ∧ ((Value.pointer (some ⟨b1673, 0, none⟩)) = (Value.pointer (some ⟨hh1651.size, 0, none⟩)) ∧ h1671 = hh1651.push (.cells #[(Value.bool true), (Value.slice oa1598 (out1597.length) (oc1599)), (Value.slice w1625 (m.ats.length) (c1626)), (Value.slice w1647 (m.rps.length) (c1648))] 68 (0, 0))) ∧ (fun v h1 => ∃ b O', v = .pointer (some ⟨b, 0, none⟩) ∧ Tab h1 O' b m ∧ Ext h h1 ∧ ∀ zz, O' zz → h.size ≤ zz) (Value.pointer (some ⟨b1673, 0, none⟩)) h1671) (by kernel_rfl) ⟨sn1593, ⟨load_cell agg53 T1584.row rfl, rfl⟩, ⟨load_cell agg53 T1584.row rfl, rfl⟩, s1596, ⟨load_cell agg53 f1606 rfl, rfl⟩, ⟨load_cell agg53 f1606 rfl, rfl⟩, sn1630, ⟨load_cell agg53 f1632 rfl, rfl⟩, sn1652, ⟨by rw [eb1674], e1672⟩, ⟨_, O', rfl, tt, x1693, fun zz hz => by rcases oo zz hz with w | w | w | w | w; (have := o1687; omega); exact o1616 zz w; exact o1646 zz w; exact o1670 zz w; exact o1624 zz w⟩⟩
set_option maxHeartbeats 4000000 in
theorem calls_copies (h : Heap) (xs : List (StepA × Option Addr × Nat)) (sa : Option Addr) (cp : Nat) (hl : SliceAt h sac 29 xs (.slice sa xs.length cp)) (hls : (SubAt h stepc 2 (fun x : StepA × Option Addr × Nat => x.1.cmd.steps) sav xs)) (hlen : xs.length ≤ 9223372036854775807) (hsl : ∀ x ∈ xs, x.1.cmd.steps.length ≤ 9223372036854775807) (ys : List (StepA × Option Addr × Nat)) (sb : Option Addr) (cq : Nat) (gl : SliceAt h sac 29 ys (.slice sb ys.length cq)) (gls : (SubAt h stepc 2 (fun x : StepA × Option Addr × Nat => x.1.cmd.steps) sav ys)) (glen : ys.length ≤ 9223372036854775807) (gsl : ∀ x ∈ ys, x.1.cmd.steps.length ≤ 9223372036854775807) : WCall Try.prog 8 #[(Value.slice sa (xs.length) (cp)), (Value.slice sb (ys.length) (cq))] h (fun v h1 => v = .bool true ∧ Ext h h1) := by
  suffices H : ∀ K : Value → Heap → Prop, (∀ v h1, (fun v h1 => v = .bool true ∧ Ext h h1) v h1 → K v h1) → WCall Try.prog 8 #[(Value.slice sa (xs.length) (cp)), (Value.slice sb (ys.length) (cq))] h K from H _ fun _ _ q => q
  intro K hK
  refine wcall_at { tmps := #[(Value.slice sa (xs.length) (cp)), (Value.slice sb (ys.length) (cq)), (Value.tuple #[]), (Value.tuple #[]), (Value.tuple #[]), (Value.tuple #[]), (Value.tuple #[]), (Value.tuple #[]), (Value.tuple #[]), (Value.tuple #[]), (Value.tuple #[]), (Value.tuple #[]), (Value.tuple #[]), (Value.tuple #[]), (Value.tuple #[]), (Value.tuple #[]), (Value.tuple #[]), (Value.tuple #[]), (Value.tuple #[]), (Value.tuple #[]), (Value.tuple #[]), (Value.tuple #[]), (Value.tuple #[]), (Value.tuple #[]), (Value.tuple #[]), (Value.tuple #[]), (Value.tuple #[]), (Value.tuple #[]), (Value.tuple #[]), (Value.tuple #[]), (Value.tuple #[]), (Value.tuple #[]), (Value.tuple #[]), (Value.tuple #[]), (Value.tuple #[]), (Value.tuple #[]), (Value.tuple #[]), (Value.tuple #[]), (Value.tuple #[]), (Value.tuple #[]), (Value.tuple #[]), (Value.tuple #[]), (Value.tuple #[]), (Value.tuple #[]), (Value.tuple #[]), (Value.tuple #[]), (Value.tuple #[]), (Value.tuple #[]), (Value.tuple #[]), (Value.tuple #[]), (Value.tuple #[]), (Value.tuple #[]), (Value.tuple #[]), (Value.tuple #[]), (Value.tuple #[]), (Value.tuple #[]), (Value.tuple #[]), (Value.tuple #[]), (Value.tuple #[]), (Value.tuple #[]), (Value.tuple #[]), (Value.tuple #[]), (Value.tuple #[]), (Value.tuple #[]), (Value.tuple #[]), (Value.tuple #[]), (Value.tuple #[]), (Value.tuple #[]), (Value.tuple #[]), (Value.tuple #[]), (Value.tuple #[]), (Value.tuple #[]), (Value.tuple #[]), (Value.tuple #[]), (Value.tuple #[]), (Value.tuple #[]), (Value.tuple #[]), (Value.tuple #[]), (Value.tuple #[]), (Value.tuple #[]), (Value.tuple #[]), (Value.tuple #[]), (Value.tuple #[]), (Value.tuple #[]), (Value.tuple #[]), (Value.tuple #[]), (Value.tuple #[]), (Value.tuple #[]), (Value.tuple #[]), (Value.tuple #[]), (Value.tuple #[]), (Value.tuple #[]), (Value.tuple #[]), (Value.tuple #[]), (Value.tuple #[]), (Value.tuple #[]), (Value.tuple #[]), (Value.tuple #[]), (Value.tuple #[]), (Value.tuple #[]), (Value.tuple #[]), (Value.tuple #[]), (Value.tuple #[]), (Value.tuple #[]), (Value.tuple #[]), (Value.tuple #[]), (Value.tuple #[]), (Value.tuple #[]), (Value.tuple #[]), (Value.tuple #[]), (Value.tuple #[]), (Value.tuple #[]), (Value.tuple #[]), (Value.tuple #[]), (Value.tuple #[]), (Value.tuple #[]), (Value.tuple #[]), (Value.tuple #[]), (Value.tuple #[])], defers := [] } (by kernel_rfl) ?_
  refine wc_seq' (subc (bodyOf Try.prog 8) [0]) (subc (bodyOf Try.prog 8) [1]) (by kernel_rfl) ?_
  refine wc_upd (n := 200) (T := ⟨fun r i => match r, i with | _, _ => none, fun _ => none, none⟩) (x := .normal) (h1 := h) [(4, (Value.bool false))]
    (fun q => q) (by intro K'; kernel_rfl) (fun _ q => q) ?_
  refine wc_seq' (subc (bodyOf Try.prog 8) [1, 0]) (subc (bodyOf Try.prog 8) [1, 1]) (by kernel_rfl) ?_
  obtain ⟨_, hh1696, sn1697, b1694, rfl, q1695, x1698⟩ := short_ok h xs _ _ (hl.keep fun b r _ q => (Ext.refl h) b r q) (hls.keep fun b r _ q => (Ext.refl h) b r q) hlen hsl 60
  have x1699 := (Ext.refl h).trans x1698
  rcases Bool.eq_false_or_eq_true (b1694) with c1700 | c1700
  · have shxs := q1695 c1700
    have szxs := shxs.1
    have htxs : ∀ x ∈ xs, x.1.cmd.steps.length ≤ 1048576 := fun x hx => by have := shxs.2 x hx; omega
    obtain ⟨_, hh1703, sn1704, b1701, rfl, q1702, x1705⟩ := short_ok hh1696 ys _ _ (gl.keep fun b r _ q => x1699 b r q) (gls.keep fun b r _ q => x1699 b r q) glen gsl 60
    have x1706 := x1699.trans x1705
    rcases Bool.eq_false_or_eq_true (b1701) with c1707 | c1707
    · have shys := q1702 c1707
      have szys := shys.1
      have htys : ∀ x ∈ ys, x.1.cmd.steps.length ≤ 1048576 := fun x hx => by have := shys.2 x hx; omega
      refine wc_upd (n := 200) (T := ⟨fun r i => match r, i with | 1, 1 => some ((Value.bool true), hh1696) | 1, 5 => some ((Value.bool true), hh1703) | _, _ => none, fun _ => none, none⟩) (x := .normal) (h1 := hh1703) [(13, (Value.slice sa (xs.length) (cp))), (14, (Value.bool true)), (15, (Value.bool false)), (16, (Value.bool false)), (17, (Value.slice sb (ys.length) (cq))), (18, (Value.bool true)), (19, (Value.bool false)), (20, (Value.bool false))]
        (fun q => SoundCall Try.prog 11 #[(Value.slice sa (xs.length) (cp)), (Value.int .i64 60)] h (Value.bool true) hh1696 ∧ SoundCall Try.prog 11 #[(Value.slice sb (ys.length) (cq)), (Value.int .i64 60)] hh1696 (Value.bool true) hh1703 ∧ q) (by intro K'; kernel_rfl) (fun _ q => ⟨(by rw [← c1700]; exact sn1697), (by rw [← c1707]; exact sn1704), q⟩) ?_
      refine wc_seq' (subc (bodyOf Try.prog 8) [1, 1, 0]) (subc (bodyOf Try.prog 8) [1, 1, 1]) (by kernel_rfl) ?_
      obtain ⟨_, h1710, s1711, b1708, O1709, rfl, p1712, x1713, w1714⟩ := filled_ok hh1703 xs _ _ (hl.keep fun b r _ q => x1706 b r q) (hls.keep fun b r _ q => x1706 b r q) (by omega) htxs
      have x1715 := x1706.trans x1713
      have z1716 : h.size ≤ hh1703.size := x1706.size
      have n1717 : ∀ zz, O1709 zz → ¬ (subFoot sav xs) zz := fun zz hz ez => by have := w1714 zz hz; have := (hls.keep fun b r _ q => x1706 b r q).blk_lt ez; omega
      have n1718 : ∀ zz, O1709 zz → ¬ (blk (Value.slice sa (xs.length) (cp))) zz := fun zz hz ez => by have := w1714 zz hz; have := (hl.keep fun b r _ q => x1706 b r q).blk_lt ez; omega
      have n1719 : ∀ zz, O1709 zz → ¬ (subFoot sav ys) zz := fun zz hz ez => by have := w1714 zz hz; have := (gls.keep fun b r _ q => x1706 b r q).blk_lt ez; omega
      have n1720 : ∀ zz, O1709 zz → ¬ (blk (Value.slice sb (ys.length) (cq))) zz := fun zz hz ez => by have := w1714 zz hz; have := (gl.keep fun b r _ q => x1706 b r q).blk_lt ez; omega
      have o1721 : ∀ zz, O1709 zz → h.size ≤ zz := fun zz hz => by have := w1714 zz hz; omega
      have : (xs.map Prod.fst).length = xs.length := by simp
      have wfb1708 := fill_wf (xs.map Prod.fst)
      have bab1708 := (fill_ok (xs.map Prod.fst)).1
      refine wc_upd (n := 200) (T := ⟨fun r i => match r, i with | 3, 1 => some ((Value.pointer (some ⟨b1708, 0, none⟩)), h1710) | _, _ => none, fun _ => none, none⟩) (x := .normal) (h1 := h1710) [(22, (Value.slice sa (xs.length) (cp))), (23, (Value.pointer (some ⟨b1708, 0, none⟩))), (5, (Value.pointer (some ⟨b1708, 0, none⟩)))]
        (fun q => SoundCall Try.prog 13 #[(Value.slice sa (xs.length) (cp))] hh1703 (Value.pointer (some ⟨b1708, 0, none⟩)) h1710 ∧ q) (by intro K'; kernel_rfl) (fun _ q => ⟨s1711, q⟩) ?_
      refine wc_seq' (subc (bodyOf Try.prog 8) [1, 1, 1, 0]) (subc (bodyOf Try.prog 8) [1, 1, 1, 1]) (by kernel_rfl) ?_
      obtain ⟨_, h1724, s1725, b1722, O1723, rfl, p1726, x1727, w1728⟩ := copy_ok h1710 p1712 (fill_ok (xs.map Prod.fst)) (by omega) wfb1708 (fill_small' htxs)
      have p1729 := p1712.keep fun b r _ q => x1727 b r q
      have x1730 := x1715.trans x1727
      have z1731 : h.size ≤ h1710.size := x1715.size
      have n1732 : ∀ zz, O1723 zz → ¬ (subFoot sav xs) zz := fun zz hz ez => by have := w1728 zz hz; have := (hls.keep fun b r _ q => x1715 b r q).blk_lt ez; omega
      have n1733 : ∀ zz, O1723 zz → ¬ (blk (Value.slice sa (xs.length) (cp))) zz := fun zz hz ez => by have := w1728 zz hz; have := (hl.keep fun b r _ q => x1715 b r q).blk_lt ez; omega
      have n1734 : ∀ zz, O1723 zz → ¬ (subFoot sav ys) zz := fun zz hz ez => by have := w1728 zz hz; have := (gls.keep fun b r _ q => x1715 b r q).blk_lt ez; omega
      have n1735 : ∀ zz, O1723 zz → ¬ (blk (Value.slice sb (ys.length) (cq))) zz := fun zz hz ez => by have := w1728 zz hz; have := (gl.keep fun b r _ q => x1715 b r q).blk_lt ez; omega
      have n1736 : ∀ zz, O1723 zz → ¬ O1709 zz := fun zz hz ez => by have := w1728 zz hz; have := p1712.blk_lt ez; omega
      have o1737 : ∀ zz, O1723 zz → h.size ≤ zz := fun zz hz => by have := w1728 zz hz; omega
      refine wc_upd (n := 200) (T := ⟨fun r i => match r, i with | 4, 1 => some ((Value.pointer (some ⟨b1722, 0, none⟩)), h1724) | _, _ => none, fun _ => none, none⟩) (x := .normal) (h1 := h1724) [(24, (Value.pointer (some ⟨b1708, 0, none⟩))), (25, (Value.pointer (some ⟨b1722, 0, none⟩))), (6, (Value.pointer (some ⟨b1722, 0, none⟩)))]
        (fun q => SoundCall Try.prog 24 #[(Value.pointer (some ⟨b1708, 0, none⟩))] h1710 (Value.pointer (some ⟨b1722, 0, none⟩)) h1724 ∧ q) (by intro K'; kernel_rfl) (fun _ q => ⟨s1725, q⟩) ?_
      refine wc_seq' (subc (bodyOf Try.prog 8) [1, 1, 1, 1, 0]) (subc (bodyOf Try.prog 8) [1, 1, 1, 1, 1]) (by kernel_rfl) ?_
      obtain ⟨_, h1740, s1741, b1738, O1739, rfl, p1742, x1743, w1744⟩ := copy_ok h1724 p1729 (fill_ok (xs.map Prod.fst)) (by omega) wfb1708 (fill_small' htxs)
      have p1745 := p1729.keep fun b r _ q => x1743 b r q
      have p1746 := p1726.keep fun b r _ q => x1743 b r q
      have x1747 := x1730.trans x1743
      have z1748 : h.size ≤ h1724.size := x1730.size
      have n1749 : ∀ zz, O1739 zz → ¬ (subFoot sav xs) zz := fun zz hz ez => by have := w1744 zz hz; have := (hls.keep fun b r _ q => x1730 b r q).blk_lt ez; omega
      have n1750 : ∀ zz, O1739 zz → ¬ (blk (Value.slice sa (xs.length) (cp))) zz := fun zz hz ez => by have := w1744 zz hz; have := (hl.keep fun b r _ q => x1730 b r q).blk_lt ez; omega
      have n1751 : ∀ zz, O1739 zz → ¬ (subFoot sav ys) zz := fun zz hz ez => by have := w1744 zz hz; have := (gls.keep fun b r _ q => x1730 b r q).blk_lt ez; omega
      have n1752 : ∀ zz, O1739 zz → ¬ (blk (Value.slice sb (ys.length) (cq))) zz := fun zz hz ez => by have := w1744 zz hz; have := (gl.keep fun b r _ q => x1730 b r q).blk_lt ez; omega
      have n1753 : ∀ zz, O1739 zz → ¬ O1709 zz := fun zz hz ez => by have := w1744 zz hz; have := p1729.blk_lt ez; omega
      have n1754 : ∀ zz, O1739 zz → ¬ O1723 zz := fun zz hz ez => by have := w1744 zz hz; have := p1726.blk_lt ez; omega
      have o1755 : ∀ zz, O1739 zz → h.size ≤ zz := fun zz hz => by have := w1744 zz hz; omega
      refine wc_upd (n := 200) (T := ⟨fun r i => match r, i with | 5, 1 => some ((Value.pointer (some ⟨b1738, 0, none⟩)), h1740) | _, _ => none, fun _ => none, none⟩) (x := .normal) (h1 := h1740) [(26, (Value.pointer (some ⟨b1708, 0, none⟩))), (27, (Value.pointer (some ⟨b1738, 0, none⟩))), (7, (Value.pointer (some ⟨b1738, 0, none⟩)))]
        (fun q => SoundCall Try.prog 24 #[(Value.pointer (some ⟨b1708, 0, none⟩))] h1724 (Value.pointer (some ⟨b1738, 0, none⟩)) h1740 ∧ q) (by intro K'; kernel_rfl) (fun _ q => ⟨s1741, q⟩) ?_
      refine wc_seq' (subc (bodyOf Try.prog 8) [1, 1, 1, 1, 1, 0]) (subc (bodyOf Try.prog 8) [1, 1, 1, 1, 1, 1]) (by kernel_rfl) ?_
      obtain ⟨_, h1756, s1757, out1758, oa1759, oc1760, rfl, p1761, p1762, e1763, x1764, n1765, n1766⟩ := events_ok h1740 p1746 (fill_ok (xs.map Prod.fst)) (by omega) (fill_small' htxs)
      have p1767 := p1745.keep fun b r _ q => x1764 b r q
      have p1768 := p1746.keep fun b r _ q => x1764 b r q
      have p1769 := p1742.keep fun b r _ q => x1764 b r q
      have x1770 := x1747.trans x1764
      have z1772 : h.size ≤ h1740.size := x1747.size
      have n1773 : ∀ zz, blk (Value.slice oa1759 (out1758.length) (oc1760)) zz → ¬ (subFoot sav xs) zz := fun zz hz ez => by have := n1765 zz hz; have := (hls.keep fun b r _ q => x1747 b r q).blk_lt ez; omega
      have n1774 : ∀ zz, blk (Value.slice oa1759 (out1758.length) (oc1760)) zz → ¬ (blk (Value.slice sa (xs.length) (cp))) zz := fun zz hz ez => by have := n1765 zz hz; have := (hl.keep fun b r _ q => x1747 b r q).blk_lt ez; omega
      have n1775 : ∀ zz, blk (Value.slice oa1759 (out1758.length) (oc1760)) zz → ¬ (subFoot sav ys) zz := fun zz hz ez => by have := n1765 zz hz; have := (gls.keep fun b r _ q => x1747 b r q).blk_lt ez; omega
      have n1776 : ∀ zz, blk (Value.slice oa1759 (out1758.length) (oc1760)) zz → ¬ (blk (Value.slice sb (ys.length) (cq))) zz := fun zz hz ez => by have := n1765 zz hz; have := (gl.keep fun b r _ q => x1747 b r q).blk_lt ez; omega
      have n1777 : ∀ zz, blk (Value.slice oa1759 (out1758.length) (oc1760)) zz → ¬ O1709 zz := fun zz hz ez => by have := n1765 zz hz; have := p1745.blk_lt ez; omega
      have n1778 : ∀ zz, blk (Value.slice oa1759 (out1758.length) (oc1760)) zz → ¬ O1723 zz := fun zz hz ez => by have := n1765 zz hz; have := p1746.blk_lt ez; omega
      have n1779 : ∀ zz, blk (Value.slice oa1759 (out1758.length) (oc1760)) zz → ¬ O1739 zz := fun zz hz ez => by have := n1765 zz hz; have := p1742.blk_lt ez; omega
      have o1780 : ∀ zz, blk (Value.slice oa1759 (out1758.length) (oc1760)) zz → h.size ≤ zz := fun zz hz => by have := n1765 zz hz; omega
      have z1781 : h.size ≤ h1740.size := x1747.size
      have n1782 : ∀ zz, (sfoot out1758) zz → ¬ (subFoot sav xs) zz := fun zz hz ez => by have := n1766 zz hz; have := (hls.keep fun b r _ q => x1747 b r q).blk_lt ez; omega
      have n1783 : ∀ zz, (sfoot out1758) zz → ¬ (blk (Value.slice sa (xs.length) (cp))) zz := fun zz hz ez => by have := n1766 zz hz; have := (hl.keep fun b r _ q => x1747 b r q).blk_lt ez; omega
      have n1784 : ∀ zz, (sfoot out1758) zz → ¬ (subFoot sav ys) zz := fun zz hz ez => by have := n1766 zz hz; have := (gls.keep fun b r _ q => x1747 b r q).blk_lt ez; omega
      have n1785 : ∀ zz, (sfoot out1758) zz → ¬ (blk (Value.slice sb (ys.length) (cq))) zz := fun zz hz ez => by have := n1766 zz hz; have := (gl.keep fun b r _ q => x1747 b r q).blk_lt ez; omega
      have n1786 : ∀ zz, (sfoot out1758) zz → ¬ O1709 zz := fun zz hz ez => by have := n1766 zz hz; have := p1745.blk_lt ez; omega
      have n1787 : ∀ zz, (sfoot out1758) zz → ¬ O1723 zz := fun zz hz ez => by have := n1766 zz hz; have := p1746.blk_lt ez; omega
      have n1788 : ∀ zz, (sfoot out1758) zz → ¬ O1739 zz := fun zz hz ez => by have := n1766 zz hz; have := p1742.blk_lt ez; omega
      have o1789 : ∀ zz, (sfoot out1758) zz → h.size ≤ zz := fun zz hz => by have := n1766 zz hz; omega
      have loout1758 : out1758.length = (fillM (xs.map Prod.fst)).evs.length := by rw [← e1763]; simp
      obtain ⟨_, h1790, s1791, out1792, oa1793, oc1794, rfl, p1795, p1796, e1797, x1798, n1799, n1800⟩ := events_ok h1756 p1767 (fill_ok (xs.map Prod.fst)) (by omega) (fill_small' htxs)
      have p1801 := p1767.keep fun b r _ q => x1798 b r q
      have p1802 := p1768.keep fun b r _ q => x1798 b r q
      have p1803 := p1769.keep fun b r _ q => x1798 b r q
      have p1804 := p1761.keep fun b r _ q => x1798 b r q
      have p1805 := p1762.keep fun b r _ q => x1798 b r q
      have x1806 := x1770.trans x1798
      have z1808 : h.size ≤ h1756.size := x1770.size
      have n1809 : ∀ zz, blk (Value.slice oa1793 (out1792.length) (oc1794)) zz → ¬ (subFoot sav xs) zz := fun zz hz ez => by have := n1799 zz hz; have := (hls.keep fun b r _ q => x1770 b r q).blk_lt ez; omega
      have n1810 : ∀ zz, blk (Value.slice oa1793 (out1792.length) (oc1794)) zz → ¬ (blk (Value.slice sa (xs.length) (cp))) zz := fun zz hz ez => by have := n1799 zz hz; have := (hl.keep fun b r _ q => x1770 b r q).blk_lt ez; omega
      have n1811 : ∀ zz, blk (Value.slice oa1793 (out1792.length) (oc1794)) zz → ¬ (subFoot sav ys) zz := fun zz hz ez => by have := n1799 zz hz; have := (gls.keep fun b r _ q => x1770 b r q).blk_lt ez; omega
      have n1812 : ∀ zz, blk (Value.slice oa1793 (out1792.length) (oc1794)) zz → ¬ (blk (Value.slice sb (ys.length) (cq))) zz := fun zz hz ez => by have := n1799 zz hz; have := (gl.keep fun b r _ q => x1770 b r q).blk_lt ez; omega
      have n1813 : ∀ zz, blk (Value.slice oa1793 (out1792.length) (oc1794)) zz → ¬ O1709 zz := fun zz hz ez => by have := n1799 zz hz; have := p1767.blk_lt ez; omega
      have n1814 : ∀ zz, blk (Value.slice oa1793 (out1792.length) (oc1794)) zz → ¬ O1723 zz := fun zz hz ez => by have := n1799 zz hz; have := p1768.blk_lt ez; omega
      have n1815 : ∀ zz, blk (Value.slice oa1793 (out1792.length) (oc1794)) zz → ¬ O1739 zz := fun zz hz ez => by have := n1799 zz hz; have := p1769.blk_lt ez; omega
      have n1816 : ∀ zz, blk (Value.slice oa1793 (out1792.length) (oc1794)) zz → ¬ (blk (Value.slice oa1759 (out1758.length) (oc1760))) zz := fun zz hz ez => by have := n1799 zz hz; have := p1761.blk_lt ez; omega
      have n1817 : ∀ zz, blk (Value.slice oa1793 (out1792.length) (oc1794)) zz → ¬ (sfoot out1758) zz := fun zz hz ez => by have := n1799 zz hz; have := p1762.blk_lt ez; omega
      have o1818 : ∀ zz, blk (Value.slice oa1793 (out1792.length) (oc1794)) zz → h.size ≤ zz := fun zz hz => by have := n1799 zz hz; omega
      have z1819 : h.size ≤ h1756.size := x1770.size
      have n1820 : ∀ zz, (sfoot out1792) zz → ¬ (subFoot sav xs) zz := fun zz hz ez => by have := n1800 zz hz; have := (hls.keep fun b r _ q => x1770 b r q).blk_lt ez; omega
      have n1821 : ∀ zz, (sfoot out1792) zz → ¬ (blk (Value.slice sa (xs.length) (cp))) zz := fun zz hz ez => by have := n1800 zz hz; have := (hl.keep fun b r _ q => x1770 b r q).blk_lt ez; omega
      have n1822 : ∀ zz, (sfoot out1792) zz → ¬ (subFoot sav ys) zz := fun zz hz ez => by have := n1800 zz hz; have := (gls.keep fun b r _ q => x1770 b r q).blk_lt ez; omega
      have n1823 : ∀ zz, (sfoot out1792) zz → ¬ (blk (Value.slice sb (ys.length) (cq))) zz := fun zz hz ez => by have := n1800 zz hz; have := (gl.keep fun b r _ q => x1770 b r q).blk_lt ez; omega
      have n1824 : ∀ zz, (sfoot out1792) zz → ¬ O1709 zz := fun zz hz ez => by have := n1800 zz hz; have := p1767.blk_lt ez; omega
      have n1825 : ∀ zz, (sfoot out1792) zz → ¬ O1723 zz := fun zz hz ez => by have := n1800 zz hz; have := p1768.blk_lt ez; omega
      have n1826 : ∀ zz, (sfoot out1792) zz → ¬ O1739 zz := fun zz hz ez => by have := n1800 zz hz; have := p1769.blk_lt ez; omega
      have n1827 : ∀ zz, (sfoot out1792) zz → ¬ (blk (Value.slice oa1759 (out1758.length) (oc1760))) zz := fun zz hz ez => by have := n1800 zz hz; have := p1761.blk_lt ez; omega
      have n1828 : ∀ zz, (sfoot out1792) zz → ¬ (sfoot out1758) zz := fun zz hz ez => by have := n1800 zz hz; have := p1762.blk_lt ez; omega
      have o1829 : ∀ zz, (sfoot out1792) zz → h.size ≤ zz := fun zz hz => by have := n1800 zz hz; omega
      have loout1792 : out1792.length = (fillM (xs.map Prod.fst)).evs.length := by rw [← e1797]; simp
      have q1830 : ∀ x ∈ out1758, x.1.cmd.steps.length ≤ 1048576 := fun x hx => (fill_small' htxs) _ (by rw [← e1763]; exact List.mem_map_of_mem hx)
      have lzq1830 := (fill_ok (xs.map Prod.fst)).2.2
      obtain ⟨_, hh1831, sn1832, rfl, x1833⟩ := events_same h1790 out1758 _ _ (p1804.slice evc_size) p1805.sub out1792 _ _ (p1795.slice evc_size) p1796.sub (e1763.trans e1797.symm) q1830 (by omega)
      have p1834 := p1801.keep fun b r _ q => x1833 b r q
      have p1835 := p1802.keep fun b r _ q => x1833 b r q
      have p1836 := p1803.keep fun b r _ q => x1833 b r q
      have p1837 := p1804.keep fun b r _ q => x1833 b r q
      have p1838 := p1805.keep fun b r _ q => x1833 b r q
      have p1839 := p1795.keep fun b r _ q => x1833 b r q
      have p1840 := p1796.keep fun b r _ q => x1833 b r q
      have x1841 := x1806.trans x1833
      refine wc_upd (n := 200) (T := ⟨fun r i => match r, i with | 6, 8 => some ((Value.slice oa1759 (out1758.length) (oc1760)), h1756) | 6, 10 => some ((Value.slice oa1793 (out1792.length) (oc1794)), h1790) | 6, 11 => some ((Value.bool true), hh1831) | _, _ => none, fun _ => none, none⟩) (x := .normal) (h1 := hh1831) [(28, (Value.pointer (some ⟨b1722, 0, none⟩))), (29, (Value.bool false)), (30, (Value.bool false)), (31, (Value.pointer (some ⟨b1738, 0, none⟩))), (32, (Value.bool false)), (33, (Value.bool false)), (34, (Value.bool false)), (35, (Value.pointer (some ⟨b1722, 0, none⟩))), (36, (Value.slice oa1759 (out1758.length) (oc1760))), (37, (Value.pointer (some ⟨b1708, 0, none⟩))), (38, (Value.slice oa1793 (out1792.length) (oc1794))), (39, (Value.bool true)), (40, (Value.bool false)), (41, (Value.bool false))]
        (fun q => SoundCall Try.prog 16 #[(Value.pointer (some ⟨b1722, 0, none⟩))] h1740 (Value.slice oa1759 (out1758.length) (oc1760)) h1756 ∧ SoundCall Try.prog 16 #[(Value.pointer (some ⟨b1708, 0, none⟩))] h1756 (Value.slice oa1793 (out1792.length) (oc1794)) h1790 ∧ SoundCall Try.prog 36 #[(Value.slice oa1759 (out1758.length) (oc1760)), (Value.slice oa1793 (out1792.length) (oc1794))] h1790 (Value.bool true) hh1831 ∧ q) (by intro K'; kernel_rfl) (fun _ q => ⟨s1757, s1791, sn1832, q⟩) ?_
      refine wc_seq' (subc (bodyOf Try.prog 8) [1, 1, 1, 1, 1, 1, 0]) (subc (bodyOf Try.prog 8) [1, 1, 1, 1, 1, 1, 1]) (by kernel_rfl) ?_
      refine wc_seq' (subc (bodyOf Try.prog 8) [1, 1, 1, 1, 1, 1, 0, 0]) (subc (bodyOf Try.prog 8) [1, 1, 1, 1, 1, 1, 0, 1]) (by kernel_rfl) ?_
      refine wc_upd (n := 200) (T := ⟨fun r i => match r, i with | _, _ => none, fun _ => none, none⟩) (x := .normal) (h1 := hh1831) [(8, (Value.int .i64 0))]
        (fun q => q) (by intro K'; kernel_rfl) (fun _ q => q) ?_
      refine wc_block' 0 (subc (bodyOf Try.prog 8) [1, 1, 1, 1, 1, 1, 0, 1, 0]) (by kernel_rfl) ?_
      refine wc_loop' (subc (bodyOf Try.prog 8) [1, 1, 1, 1, 1, 1, 0, 1, 0, 0]) (by kernel_rfl) (fun n' a' h' => ∃ (k : Int) (M : TabM) (N : Nat) (Oa : Nat → Prop) (Ob : Nat → Prop) (Ot : Nat → Prop) (gb9 gb10 gb11 gb12 gb42 gb43 gb44 gb45 gb46 gb47 gb48 gb49 gb50 gb51 gb52 gb53 gb54 gb55 gb56 gb57 gb58 gb59 gb60 gb61 gb62 gb63 gb64 gb65 gb66 gb67 gb68 gb69 gb70 gb71 gb72 gb73 gb74 gb75 gb76 gb77 gb78 gb79 gb80 gb81 gb82 gb83 gb84 gb85 gb86 gb87 gb88 gb89 gb90 gb91 gb92 gb93 gb94 gb95 gb96 gb97 gb98 gb99 gb100 gb101 gb102 : Value), a' = { tmps := #[(Value.slice sa (xs.length) (cp)), (Value.slice sb (ys.length) (cq)), (Value.tuple #[]), (Value.tuple #[]), (Value.bool false), (Value.pointer (some ⟨b1708, 0, none⟩)), (Value.pointer (some ⟨b1722, 0, none⟩)), (Value.pointer (some ⟨b1738, 0, none⟩)), (Value.int .i64 (k)), gb9, gb10, gb11, gb12, (Value.slice sa (xs.length) (cp)), (Value.bool true), (Value.bool false), (Value.bool false), (Value.slice sb (ys.length) (cq)), (Value.bool true), (Value.bool false), (Value.bool false), (Value.tuple #[]), (Value.slice sa (xs.length) (cp)), (Value.pointer (some ⟨b1708, 0, none⟩)), (Value.pointer (some ⟨b1708, 0, none⟩)), (Value.pointer (some ⟨b1722, 0, none⟩)), (Value.pointer (some ⟨b1708, 0, none⟩)), (Value.pointer (some ⟨b1738, 0, none⟩)), (Value.pointer (some ⟨b1722, 0, none⟩)), (Value.bool false), (Value.bool false), (Value.pointer (some ⟨b1738, 0, none⟩)), (Value.bool false), (Value.bool false), (Value.bool false), (Value.pointer (some ⟨b1722, 0, none⟩)), (Value.slice oa1759 (out1758.length) (oc1760)), (Value.pointer (some ⟨b1708, 0, none⟩)), (Value.slice oa1793 (out1792.length) (oc1794)), (Value.bool true), (Value.bool false), (Value.bool false), gb42, gb43, gb44, gb45, gb46, gb47, gb48, gb49, gb50, gb51, gb52, gb53, gb54, gb55, gb56, gb57, gb58, gb59, gb60, gb61, gb62, gb63, gb64, gb65, gb66, gb67, gb68, gb69, gb70, gb71, gb72, gb73, gb74, gb75, gb76, gb77, gb78, gb79, gb80, gb81, gb82, gb83, gb84, gb85, gb86, gb87, gb88, gb89, gb90, gb91, gb92, gb93, gb94, gb95, gb96, gb97, gb98, gb99, gb100, gb101, gb102, (Value.tuple #[]), (Value.tuple #[]), (Value.tuple #[]), (Value.tuple #[]), (Value.tuple #[]), (Value.tuple #[]), (Value.tuple #[]), (Value.tuple #[]), (Value.tuple #[]), (Value.tuple #[]), (Value.tuple #[]), (Value.tuple #[]), (Value.tuple #[]), (Value.tuple #[]), (Value.tuple #[]), (Value.tuple #[])], defers := [] } ∧ Ext h h' ∧ n' = ys.length - k.toNat ∧ (0 ≤ k ∧ k ≤ ys.length) ∧ M.ok N ∧ (N : Int) ≤ 60 + 2 * k ∧ M.wf ∧ M.small ∧ (∀ zz, Oa zz → h.size ≤ zz) ∧ (∀ zz, Ob zz → h.size ≤ zz) ∧ (∀ zz, Ot zz → h.size ≤ zz) ∧ (∀ zz, Oa zz → ¬ Ob zz) ∧ (∀ zz, Oa zz → ¬ Ot zz) ∧ (∀ zz, Ob zz → ¬ Ot zz) ∧ Tab h' Oa b1722 M ∧ Tab h' Ob b1738 M ∧ Tab h' Ot b1708 (fillM (xs.map Prod.fst))) ?_ (ys.length - (0 : Int).toNat) ⟨0, (fillM (xs.map Prod.fst)), (xs.map Prod.fst).length, O1723, O1739, O1709, (Value.tuple #[]), (Value.tuple #[]), (Value.tuple #[]), (Value.tuple #[]), (Value.tuple #[]), (Value.tuple #[]), (Value.tuple #[]), (Value.tuple #[]), (Value.tuple #[]), (Value.tuple #[]), (Value.tuple #[]), (Value.tuple #[]), (Value.tuple #[]), (Value.tuple #[]), (Value.tuple #[]), (Value.tuple #[]), (Value.tuple #[]), (Value.tuple #[]), (Value.tuple #[]), (Value.tuple #[]), (Value.tuple #[]), (Value.tuple #[]), (Value.tuple #[]), (Value.tuple #[]), (Value.tuple #[]), (Value.tuple #[]), (Value.tuple #[]), (Value.tuple #[]), (Value.tuple #[]), (Value.tuple #[]), (Value.tuple #[]), (Value.tuple #[]), (Value.tuple #[]), (Value.tuple #[]), (Value.tuple #[]), (Value.tuple #[]), (Value.tuple #[]), (Value.tuple #[]), (Value.tuple #[]), (Value.tuple #[]), (Value.tuple #[]), (Value.tuple #[]), (Value.tuple #[]), (Value.tuple #[]), (Value.tuple #[]), (Value.tuple #[]), (Value.tuple #[]), (Value.tuple #[]), (Value.tuple #[]), (Value.tuple #[]), (Value.tuple #[]), (Value.tuple #[]), (Value.tuple #[]), (Value.tuple #[]), (Value.tuple #[]), (Value.tuple #[]), (Value.tuple #[]), (Value.tuple #[]), (Value.tuple #[]), (Value.tuple #[]), (Value.tuple #[]), (Value.tuple #[]), (Value.tuple #[]), (Value.tuple #[]), (Value.tuple #[]), by kernel_rfl, x1841, rfl, by omega, (fill_ok (xs.map Prod.fst)), by omega, wfb1708, (fill_small' htxs), o1737, o1755, o1721, fun zz h1 h2 => n1754 zz h2 h1, fun zz h1 h2 => n1736 zz h1 h2, fun zz h1 h2 => n1753 zz h1 h2, p1835, p1836, p1834⟩
      rintro n' _ h1842 ⟨k, M, N, Oa, Ob, Ot, gb9, gb10, gb11, gb12, gb42, gb43, gb44, gb45, gb46, gb47, gb48, gb49, gb50, gb51, gb52, gb53, gb54, gb55, gb56, gb57, gb58, gb59, gb60, gb61, gb62, gb63, gb64, gb65, gb66, gb67, gb68, gb69, gb70, gb71, gb72, gb73, gb74, gb75, gb76, gb77, gb78, gb79, gb80, gb81, gb82, gb83, gb84, gb85, gb86, gb87, gb88, gb89, gb90, gb91, gb92, gb93, gb94, gb95, gb96, gb97, gb98, gb99, gb100, gb101, gb102, rfl, x1858, m1857, i1843, i1844, i1845, i1846, i1847, i1848, i1849, i1850, i1851, i1852, i1853, p1854, p1855, p1856⟩
      by_cases c1859 : ((k) : Int) < ((ys.length : Nat))
      · obtain ⟨i1860, v1861, e1862, l1863, g1864⟩ := list_at ys (e := (k)) (by omega) (by omega)
        obtain ⟨b1865, o1866, k1867, q1868, a1869⟩ := gl.at sac_size g1864
        have := htys _ (List.mem_of_getElem? g1864)
        obtain ⟨_, h1871, s1872, rfl, x1873, O1874, p1875, o1876⟩ := open_all h1842 p1854 i1844 (by omega) v1861.1.cmd _ _ ((gls _ (List.mem_of_getElem? g1864)).keep fun b r _ q => x1858 b r q) (by omega)
        have k1877 := openM_ok i1844 v1861.1.cmd
        have z1878 : h.size ≤ h1842.size := x1858.size
        have x1879 : Ext h _ := (Chg.then (O := fun _ => False) (Chg.ext x1858) x1873 (fun b hb => .inr (i1848 b hb))).toExt'
        have p1880 := p1855.keep fun b r hb q => x1873.same b r q ((fun b hb hb2 => i1851 b hb2 hb) b hb)
        have p1881 := p1856.keep fun b r hb q => x1873.same b r q ((fun b hb hb2 => i1852 b hb2 hb) b hb)
        have z1882 : h.size ≤ h1842.size := x1858.size
        have n1883 : ∀ zz, O1874 zz → ¬ Ob zz := fun zz hz ez => by rcases o1876 zz hz with g | g; (exact i1851 _ g ez); have := p1855.blk_lt ez; omega
        have n1884 : ∀ zz, O1874 zz → ¬ Ot zz := fun zz hz ez => by rcases o1876 zz hz with g | g; (exact i1852 _ g ez); have := p1856.blk_lt ez; omega
        have o1885 : ∀ zz, O1874 zz → h.size ≤ zz := fun zz hz => by rcases o1876 zz hz with g | g; (exact i1848 zz g); omega
        have wf1886 := openM_wf i1846 v1861.1.cmd
        have sm1887 := openM_small i1847 (c := v1861.1.cmd) (by omega)
        obtain ⟨b1893, o1894, k1895, q1896, a1897⟩ := gl.at sac_size g1864
        have := htys _ (List.mem_of_getElem? g1864)
        obtain ⟨_, h1899, s1900, rfl, x1901, O1902, p1903, o1904⟩ := open_all h1871 p1880 i1844 (by omega) v1861.1.cmd _ _ ((gls _ (List.mem_of_getElem? g1864)).keep fun b r _ q => x1879 b r q) (by omega)
        have k1905 := openM_ok i1844 v1861.1.cmd
        have z1906 : h.size ≤ h1871.size := x1879.size
        have x1907 : Ext h _ := (Chg.then (O := fun _ => False) (Chg.ext x1879) x1901 (fun b hb => .inr (i1849 b hb))).toExt'
        have p1908 := p1875.keep fun b r hb q => x1901.same b r q (n1883 b hb)
        have p1909 := p1881.keep fun b r hb q => x1901.same b r q ((fun b hb hb2 => i1853 b hb2 hb) b hb)
        have z1910 : h.size ≤ h1871.size := x1879.size
        have n1911 : ∀ zz, O1902 zz → ¬ O1874 zz := fun zz hz ez => by rcases o1904 zz hz with g | g; (exact n1883 _ ez g); have := p1875.blk_lt ez; omega
        have n1912 : ∀ zz, O1902 zz → ¬ Ot zz := fun zz hz ez => by rcases o1904 zz hz with g | g; (exact i1853 _ g ez); have := p1881.blk_lt ez; omega
        have o1913 : ∀ zz, O1902 zz → h.size ≤ zz := fun zz hz => by rcases o1904 zz hz with g | g; (exact i1849 zz g); omega
        have wf1914 := openM_wf i1846 v1861.1.cmd
        have sm1915 := openM_small i1847 (c := v1861.1.cmd) (by omega)
        obtain ⟨b1921, o1922, k1923, q1924, a1925⟩ := gl.at sac_size g1864
        have := htys _ (List.mem_of_getElem? g1864)
        obtain ⟨b1932, o1933, k1934, q1935, a1936⟩ := gl.at sac_size g1864
        have := htys _ (List.mem_of_getElem? g1864)
        obtain ⟨b1943, o1944, k1945, q1946, a1947⟩ := gl.at sac_size g1864
        have := htys _ (List.mem_of_getElem? g1864)
        obtain ⟨b1954, o1955, k1956, q1957, a1958⟩ := gl.at sac_size g1864
        have := htys _ (List.mem_of_getElem? g1864)
        obtain ⟨_, h1960, s1961, rfl, x1962, O1963, p1964, o1965⟩ := close_all h1899 p1908 k1877 (by omega) (v1861.1.n) (v1861.1.err) (v1861.1.num) v1861.1.text
        have k1966 := closeM_ok k1877 (v1861.1.n) (v1861.1.err) (v1861.1.num) v1861.1.text
        have z1967 : h.size ≤ h1899.size := x1907.size
        have x1968 : Ext h _ := (Chg.then (O := fun _ => False) (Chg.ext x1907) x1962 (fun b hb => .inr (o1885 b hb))).toExt'
        have p1969 := p1903.keep fun b r hb q => x1962.same b r q (n1911 b hb)
        have p1970 := p1909.keep fun b r hb q => x1962.same b r q ((fun b hb hb2 => n1884 b hb2 hb) b hb)
        have z1971 : h.size ≤ h1899.size := x1907.size
        have n1972 : ∀ zz, O1963 zz → ¬ O1902 zz := fun zz hz ez => by rcases o1965 zz hz with g | g; (exact n1911 _ ez g); have := p1903.blk_lt ez; omega
        have n1973 : ∀ zz, O1963 zz → ¬ Ot zz := fun zz hz ez => by rcases o1965 zz hz with g | g; (exact n1884 _ g ez); have := p1909.blk_lt ez; omega
        have o1974 : ∀ zz, O1963 zz → h.size ≤ zz := fun zz hz => by rcases o1965 zz hz with g | g; (exact o1885 zz g); omega
        have wf1975 := closeM_wf wf1886 (v1861.1.n) (v1861.1.err) (v1861.1.num) v1861.1.text
        have sm1976 := closeM_small sm1887 (v1861.1.n) (v1861.1.err) (v1861.1.num) v1861.1.text
        obtain ⟨_, h1977, s1978, rfl, x1979, O1980, p1981, o1982⟩ := close_all h1960 p1969 k1905 (by omega) (v1861.1.n) (v1861.1.err) (v1861.1.num) v1861.1.text
        have k1983 := closeM_ok k1905 (v1861.1.n) (v1861.1.err) (v1861.1.num) v1861.1.text
        have z1984 : h.size ≤ h1960.size := x1968.size
        have x1985 : Ext h _ := (Chg.then (O := fun _ => False) (Chg.ext x1968) x1979 (fun b hb => .inr (o1913 b hb))).toExt'
        have p1986 := p1964.keep fun b r hb q => x1979.same b r q (n1972 b hb)
        have p1987 := p1970.keep fun b r hb q => x1979.same b r q ((fun b hb hb2 => n1912 b hb2 hb) b hb)
        have z1988 : h.size ≤ h1960.size := x1968.size
        have n1989 : ∀ zz, O1980 zz → ¬ O1963 zz := fun zz hz ez => by rcases o1982 zz hz with g | g; (exact n1972 _ ez g); have := p1964.blk_lt ez; omega
        have n1990 : ∀ zz, O1980 zz → ¬ Ot zz := fun zz hz ez => by rcases o1982 zz hz with g | g; (exact n1912 _ g ez); have := p1970.blk_lt ez; omega
        have o1991 : ∀ zz, O1980 zz → h.size ≤ zz := fun zz hz => by rcases o1982 zz hz with g | g; (exact o1913 zz g); omega
        have wf1992 := closeM_wf wf1914 (v1861.1.n) (v1861.1.err) (v1861.1.num) v1861.1.text
        have sm1993 := closeM_small sm1915 (v1861.1.n) (v1861.1.err) (v1861.1.num) v1861.1.text
        refine wc_upd (n := 200) (T := ⟨fun r i => match r, i with | 9, 3 => some ((Value.bool true), h1842) | 11, 3 => some ((Value.pointer (some ⟨b1865, o1866, none⟩)), h1842) | 11, 5 => some ((Value.agg #[(Value.int .i64 (v1861.1.cmd.kind)), (Value.int .i64 (v1861.1.cmd.call)), (Value.int .i64 (v1861.1.cmd.saga)), (Value.int .i64 (v1861.1.cmd.e1)), (Value.int .i64 (v1861.1.cmd.e2)), (Value.int .i64 (v1861.1.cmd.e3)), (Value.string v1861.1.cmd.key), (Value.int .i64 (v1861.1.cmd.delta)), (Value.int .i64 (v1861.1.cmd.move)), (Value.string v1861.1.cmd.rf), (Value.string v1861.1.cmd.rt), (Value.int .i64 (v1861.1.cmd.group)), (Value.string v1861.1.cmd.dn), (Value.int .i64 (v1861.1.cmd.dr)), (Value.int .i64 (v1861.1.cmd.dd)), (Value.slice v1861.2.1 (v1861.1.cmd.steps.length) (v1861.2.2)), (Value.int .i64 (v1861.1.cmd.i1)), (Value.int .i64 (v1861.1.cmd.i2)), (Value.int .i64 (v1861.1.cmd.i3)), (Value.int .i64 (v1861.1.cmd.im)), (Value.bool v1861.1.cmd.ii), (Value.int .i64 (v1861.1.cmd.ig)), (Value.int .i64 (v1861.1.cmd.res)), (Value.string v1861.1.cmd.data)]), h1842) | 11, 6 => some ((Value.tuple #[(Value.int .i64 (openN M v1861.1.cmd)), (Value.int .i64 (openE M v1861.1.cmd))]), h1871) | 12, 3 => some ((Value.pointer (some ⟨b1893, o1894, none⟩)), h1871) | 12, 5 => some ((Value.agg #[(Value.int .i64 (v1861.1.cmd.kind)), (Value.int .i64 (v1861.1.cmd.call)), (Value.int .i64 (v1861.1.cmd.saga)), (Value.int .i64 (v1861.1.cmd.e1)), (Value.int .i64 (v1861.1.cmd.e2)), (Value.int .i64 (v1861.1.cmd.e3)), (Value.string v1861.1.cmd.key), (Value.int .i64 (v1861.1.cmd.delta)), (Value.int .i64 (v1861.1.cmd.move)), (Value.string v1861.1.cmd.rf), (Value.string v1861.1.cmd.rt), (Value.int .i64 (v1861.1.cmd.group)), (Value.string v1861.1.cmd.dn), (Value.int .i64 (v1861.1.cmd.dr)), (Value.int .i64 (v1861.1.cmd.dd)), (Value.slice v1861.2.1 (v1861.1.cmd.steps.length) (v1861.2.2)), (Value.int .i64 (v1861.1.cmd.i1)), (Value.int .i64 (v1861.1.cmd.i2)), (Value.int .i64 (v1861.1.cmd.i3)), (Value.int .i64 (v1861.1.cmd.im)), (Value.bool v1861.1.cmd.ii), (Value.int .i64 (v1861.1.cmd.ig)), (Value.int .i64 (v1861.1.cmd.res)), (Value.string v1861.1.cmd.data)]), h1871) | 12, 6 => some ((Value.tuple #[(Value.int .i64 (openN M v1861.1.cmd)), (Value.int .i64 (openE M v1861.1.cmd))]), h1899) | 13, 2 => some ((Value.bool false), h1899) | 13, 6 => some ((Value.bool false), h1899) | 13, 12 => some ((Value.pointer (some ⟨b1921, o1922, none⟩)), h1899) | 13, 14 => some ((Value.int .i64 (v1861.1.n)), h1899) | 13, 17 => some ((Value.pointer (some ⟨b1932, o1933, none⟩)), h1899) | 13, 19 => some ((Value.agg #[(Value.int .i64 (v1861.1.err)), (Value.int .i64 (v1861.1.num)), (Value.string v1861.1.text)]), h1899) | 13, 24 => some ((Value.pointer (some ⟨b1943, o1944, none⟩)), h1899) | 13, 26 => some ((Value.int .i64 (v1861.1.n)), h1899) | 13, 29 => some ((Value.pointer (some ⟨b1954, o1955, none⟩)), h1899) | 13, 31 => some ((Value.agg #[(Value.int .i64 (v1861.1.err)), (Value.int .i64 (v1861.1.num)), (Value.string v1861.1.text)]), h1899) | 13, 20 => some ((Value.int .i64 (closeE (openM M v1861.1.cmd) (v1861.1.n) (v1861.1.err) (v1861.1.num) v1861.1.text)), h1960) | 13, 32 => some ((Value.int .i64 (closeE (openM M v1861.1.cmd) (v1861.1.n) (v1861.1.err) (v1861.1.num) v1861.1.text)), h1977) | 13, 33 => some ((Value.bool false), h1977) | 10, 1 => some ((Value.int .i64 ((k) + 1)), h1977) | _, _ => none, fun _ => none, none⟩) (x := .normal) (h1 := h1977) [(42, (Value.int .i64 (k))), (43, (Value.slice sb (ys.length) (cq))), (44, (Value.int .i64 ((ys.length : Nat)))), (45, (Value.bool true)), (49, (Value.pointer (some ⟨b1722, 0, none⟩))), (50, (Value.slice sb (ys.length) (cq))), (51, (Value.int .i64 (k))), (52, (Value.pointer (some ⟨b1865, o1866, none⟩))), (53, (Value.pointer (some ⟨b1865, o1866 + 1, none⟩))), (54, (Value.agg #[(Value.int .i64 (v1861.1.cmd.kind)), (Value.int .i64 (v1861.1.cmd.call)), (Value.int .i64 (v1861.1.cmd.saga)), (Value.int .i64 (v1861.1.cmd.e1)), (Value.int .i64 (v1861.1.cmd.e2)), (Value.int .i64 (v1861.1.cmd.e3)), (Value.string v1861.1.cmd.key), (Value.int .i64 (v1861.1.cmd.delta)), (Value.int .i64 (v1861.1.cmd.move)), (Value.string v1861.1.cmd.rf), (Value.string v1861.1.cmd.rt), (Value.int .i64 (v1861.1.cmd.group)), (Value.string v1861.1.cmd.dn), (Value.int .i64 (v1861.1.cmd.dr)), (Value.int .i64 (v1861.1.cmd.dd)), (Value.slice v1861.2.1 (v1861.1.cmd.steps.length) (v1861.2.2)), (Value.int .i64 (v1861.1.cmd.i1)), (Value.int .i64 (v1861.1.cmd.i2)), (Value.int .i64 (v1861.1.cmd.i3)), (Value.int .i64 (v1861.1.cmd.im)), (Value.bool v1861.1.cmd.ii), (Value.int .i64 (v1861.1.cmd.ig)), (Value.int .i64 (v1861.1.cmd.res)), (Value.string v1861.1.cmd.data)])), (55, (Value.tuple #[(Value.int .i64 (openN M v1861.1.cmd)), (Value.int .i64 (openE M v1861.1.cmd))])), (48, (Value.tuple #[(Value.int .i64 (openN M v1861.1.cmd)), (Value.int .i64 (openE M v1861.1.cmd))])), (56, (Value.int .i64 (openN M v1861.1.cmd))), (57, (Value.int .i64 (openE M v1861.1.cmd))), (9, (Value.int .i64 (openN M v1861.1.cmd))), (10, (Value.int .i64 (openE M v1861.1.cmd))), (59, (Value.pointer (some ⟨b1738, 0, none⟩))), (60, (Value.slice sb (ys.length) (cq))), (61, (Value.int .i64 (k))), (62, (Value.pointer (some ⟨b1893, o1894, none⟩))), (63, (Value.pointer (some ⟨b1893, o1894 + 1, none⟩))), (64, (Value.agg #[(Value.int .i64 (v1861.1.cmd.kind)), (Value.int .i64 (v1861.1.cmd.call)), (Value.int .i64 (v1861.1.cmd.saga)), (Value.int .i64 (v1861.1.cmd.e1)), (Value.int .i64 (v1861.1.cmd.e2)), (Value.int .i64 (v1861.1.cmd.e3)), (Value.string v1861.1.cmd.key), (Value.int .i64 (v1861.1.cmd.delta)), (Value.int .i64 (v1861.1.cmd.move)), (Value.string v1861.1.cmd.rf), (Value.string v1861.1.cmd.rt), (Value.int .i64 (v1861.1.cmd.group)), (Value.string v1861.1.cmd.dn), (Value.int .i64 (v1861.1.cmd.dr)), (Value.int .i64 (v1861.1.cmd.dd)), (Value.slice v1861.2.1 (v1861.1.cmd.steps.length) (v1861.2.2)), (Value.int .i64 (v1861.1.cmd.i1)), (Value.int .i64 (v1861.1.cmd.i2)), (Value.int .i64 (v1861.1.cmd.i3)), (Value.int .i64 (v1861.1.cmd.im)), (Value.bool v1861.1.cmd.ii), (Value.int .i64 (v1861.1.cmd.ig)), (Value.int .i64 (v1861.1.cmd.res)), (Value.string v1861.1.cmd.data)])), (65, (Value.tuple #[(Value.int .i64 (openN M v1861.1.cmd)), (Value.int .i64 (openE M v1861.1.cmd))])), (58, (Value.tuple #[(Value.int .i64 (openN M v1861.1.cmd)), (Value.int .i64 (openE M v1861.1.cmd))])), (66, (Value.int .i64 (openN M v1861.1.cmd))), (67, (Value.int .i64 (openE M v1861.1.cmd))), (11, (Value.int .i64 (openN M v1861.1.cmd))), (12, (Value.int .i64 (openE M v1861.1.cmd))), (68, (Value.int .i64 (openN M v1861.1.cmd))), (69, (Value.int .i64 (openN M v1861.1.cmd))), (70, (Value.bool false)), (71, (Value.bool false)), (72, (Value.int .i64 (openE M v1861.1.cmd))), (73, (Value.int .i64 (openE M v1861.1.cmd))), (74, (Value.bool false)), (75, (Value.bool false)), (76, (Value.bool false)), (77, (Value.pointer (some ⟨b1722, 0, none⟩))), (78, (Value.slice sb (ys.length) (cq))), (79, (Value.int .i64 (k))), (80, (Value.pointer (some ⟨b1921, o1922, none⟩))), (81, (Value.pointer (some ⟨b1921, o1922 + 25, none⟩))), (82, (Value.int .i64 (v1861.1.n))), (83, (Value.slice sb (ys.length) (cq))), (84, (Value.int .i64 (k))), (85, (Value.pointer (some ⟨b1932, o1933, none⟩))), (86, (Value.pointer (some ⟨b1932, o1933 + 26, none⟩))), (87, (Value.agg #[(Value.int .i64 (v1861.1.err)), (Value.int .i64 (v1861.1.num)), (Value.string v1861.1.text)])), (89, (Value.pointer (some ⟨b1738, 0, none⟩))), (90, (Value.slice sb (ys.length) (cq))), (91, (Value.int .i64 (k))), (92, (Value.pointer (some ⟨b1943, o1944, none⟩))), (93, (Value.pointer (some ⟨b1943, o1944 + 25, none⟩))), (94, (Value.int .i64 (v1861.1.n))), (95, (Value.slice sb (ys.length) (cq))), (96, (Value.int .i64 (k))), (97, (Value.pointer (some ⟨b1954, o1955, none⟩))), (98, (Value.pointer (some ⟨b1954, o1955 + 26, none⟩))), (99, (Value.agg #[(Value.int .i64 (v1861.1.err)), (Value.int .i64 (v1861.1.num)), (Value.string v1861.1.text)])), (88, (Value.int .i64 (closeE (openM M v1861.1.cmd) (v1861.1.n) (v1861.1.err) (v1861.1.num) v1861.1.text))), (100, (Value.int .i64 (closeE (openM M v1861.1.cmd) (v1861.1.n) (v1861.1.err) (v1861.1.num) v1861.1.text))), (101, (Value.bool false)), (102, (Value.bool false)), (46, (Value.int .i64 (k))), (47, (Value.int .i64 ((k) + 1))), (8, (Value.int .i64 ((k) + 1)))]
          (fun q => (binA Try.prog .lss 3 (Value.int .i64 (k)) (Value.int .i64 ((ys.length : Nat))) = some (Value.bool true) ∧ h1842 = h1842) ∧ (indexAddrA Try.prog 22 (Value.slice sb (ys.length) (cq)) (Value.int .i64 (k)) = some (Value.pointer (some ⟨b1865, o1866, none⟩)) ∧ h1842 = h1842) ∧ (loadT Try.prog h1842 43 (Value.pointer (some ⟨b1865, o1866 + 1, none⟩)) = some (Value.agg #[(Value.int .i64 (v1861.1.cmd.kind)), (Value.int .i64 (v1861.1.cmd.call)), (Value.int .i64 (v1861.1.cmd.saga)), (Value.int .i64 (v1861.1.cmd.e1)), (Value.int .i64 (v1861.1.cmd.e2)), (Value.int .i64 (v1861.1.cmd.e3)), (Value.string v1861.1.cmd.key), (Value.int .i64 (v1861.1.cmd.delta)), (Value.int .i64 (v1861.1.cmd.move)), (Value.string v1861.1.cmd.rf), (Value.string v1861.1.cmd.rt), (Value.int .i64 (v1861.1.cmd.group)), (Value.string v1861.1.cmd.dn), (Value.int .i64 (v1861.1.cmd.dr)), (Value.int .i64 (v1861.1.cmd.dd)), (Value.slice v1861.2.1 (v1861.1.cmd.steps.length) (v1861.2.2)), (Value.int .i64 (v1861.1.cmd.i1)), (Value.int .i64 (v1861.1.cmd.i2)), (Value.int .i64 (v1861.1.cmd.i3)), (Value.int .i64 (v1861.1.cmd.im)), (Value.bool v1861.1.cmd.ii), (Value.int .i64 (v1861.1.cmd.ig)), (Value.int .i64 (v1861.1.cmd.res)), (Value.string v1861.1.cmd.data)]) ∧ h1842 = h1842) ∧ SoundCall Try.prog 18 #[(Value.pointer (some ⟨b1722, 0, none⟩)), (Value.agg #[(Value.int .i64 (v1861.1.cmd.kind)), (Value.int .i64 (v1861.1.cmd.call)), (Value.int .i64 (v1861.1.cmd.saga)), (Value.int .i64 (v1861.1.cmd.e1)), (Value.int .i64 (v1861.1.cmd.e2)), (Value.int .i64 (v1861.1.cmd.e3)), (Value.string v1861.1.cmd.key), (Value.int .i64 (v1861.1.cmd.delta)), (Value.int .i64 (v1861.1.cmd.move)), (Value.string v1861.1.cmd.rf), (Value.string v1861.1.cmd.rt), (Value.int .i64 (v1861.1.cmd.group)), (Value.string v1861.1.cmd.dn), (Value.int .i64 (v1861.1.cmd.dr)), (Value.int .i64 (v1861.1.cmd.dd)), (Value.slice v1861.2.1 (v1861.1.cmd.steps.length) (v1861.2.2)), (Value.int .i64 (v1861.1.cmd.i1)), (Value.int .i64 (v1861.1.cmd.i2)), (Value.int .i64 (v1861.1.cmd.i3)), (Value.int .i64 (v1861.1.cmd.im)), (Value.bool v1861.1.cmd.ii), (Value.int .i64 (v1861.1.cmd.ig)), (Value.int .i64 (v1861.1.cmd.res)), (Value.string v1861.1.cmd.data)])] h1842 (Value.tuple #[(Value.int .i64 (openN M v1861.1.cmd)), (Value.int .i64 (openE M v1861.1.cmd))]) h1871 ∧ (indexAddrA Try.prog 22 (Value.slice sb (ys.length) (cq)) (Value.int .i64 (k)) = some (Value.pointer (some ⟨b1893, o1894, none⟩)) ∧ h1871 = h1871) ∧ (loadT Try.prog h1871 43 (Value.pointer (some ⟨b1893, o1894 + 1, none⟩)) = some (Value.agg #[(Value.int .i64 (v1861.1.cmd.kind)), (Value.int .i64 (v1861.1.cmd.call)), (Value.int .i64 (v1861.1.cmd.saga)), (Value.int .i64 (v1861.1.cmd.e1)), (Value.int .i64 (v1861.1.cmd.e2)), (Value.int .i64 (v1861.1.cmd.e3)), (Value.string v1861.1.cmd.key), (Value.int .i64 (v1861.1.cmd.delta)), (Value.int .i64 (v1861.1.cmd.move)), (Value.string v1861.1.cmd.rf), (Value.string v1861.1.cmd.rt), (Value.int .i64 (v1861.1.cmd.group)), (Value.string v1861.1.cmd.dn), (Value.int .i64 (v1861.1.cmd.dr)), (Value.int .i64 (v1861.1.cmd.dd)), (Value.slice v1861.2.1 (v1861.1.cmd.steps.length) (v1861.2.2)), (Value.int .i64 (v1861.1.cmd.i1)), (Value.int .i64 (v1861.1.cmd.i2)), (Value.int .i64 (v1861.1.cmd.i3)), (Value.int .i64 (v1861.1.cmd.im)), (Value.bool v1861.1.cmd.ii), (Value.int .i64 (v1861.1.cmd.ig)), (Value.int .i64 (v1861.1.cmd.res)), (Value.string v1861.1.cmd.data)]) ∧ h1871 = h1871) ∧ SoundCall Try.prog 18 #[(Value.pointer (some ⟨b1738, 0, none⟩)), (Value.agg #[(Value.int .i64 (v1861.1.cmd.kind)), (Value.int .i64 (v1861.1.cmd.call)), (Value.int .i64 (v1861.1.cmd.saga)), (Value.int .i64 (v1861.1.cmd.e1)), (Value.int .i64 (v1861.1.cmd.e2)), (Value.int .i64 (v1861.1.cmd.e3)), (Value.string v1861.1.cmd.key), (Value.int .i64 (v1861.1.cmd.delta)), (Value.int .i64 (v1861.1.cmd.move)), (Value.string v1861.1.cmd.rf), (Value.string v1861.1.cmd.rt), (Value.int .i64 (v1861.1.cmd.group)), (Value.string v1861.1.cmd.dn), (Value.int .i64 (v1861.1.cmd.dr)), (Value.int .i64 (v1861.1.cmd.dd)), (Value.slice v1861.2.1 (v1861.1.cmd.steps.length) (v1861.2.2)), (Value.int .i64 (v1861.1.cmd.i1)), (Value.int .i64 (v1861.1.cmd.i2)), (Value.int .i64 (v1861.1.cmd.i3)), (Value.int .i64 (v1861.1.cmd.im)), (Value.bool v1861.1.cmd.ii), (Value.int .i64 (v1861.1.cmd.ig)), (Value.int .i64 (v1861.1.cmd.res)), (Value.string v1861.1.cmd.data)])] h1871 (Value.tuple #[(Value.int .i64 (openN M v1861.1.cmd)), (Value.int .i64 (openE M v1861.1.cmd))]) h1899 ∧ (binA Try.prog .neq 3 (Value.int .i64 (openN M v1861.1.cmd)) (Value.int .i64 (openN M v1861.1.cmd)) = some (Value.bool false) ∧ h1899 = h1899) ∧ (binA Try.prog .neq 28 (Value.int .i64 (openE M v1861.1.cmd)) (Value.int .i64 (openE M v1861.1.cmd)) = some (Value.bool false) ∧ h1899 = h1899) ∧ (indexAddrA Try.prog 22 (Value.slice sb (ys.length) (cq)) (Value.int .i64 (k)) = some (Value.pointer (some ⟨b1921, o1922, none⟩)) ∧ h1899 = h1899) ∧ (loadT Try.prog h1899 3 (Value.pointer (some ⟨b1921, o1922 + 25, none⟩)) = some (Value.int .i64 (v1861.1.n)) ∧ h1899 = h1899) ∧ (indexAddrA Try.prog 22 (Value.slice sb (ys.length) (cq)) (Value.int .i64 (k)) = some (Value.pointer (some ⟨b1932, o1933, none⟩)) ∧ h1899 = h1899) ∧ (loadT Try.prog h1899 45 (Value.pointer (some ⟨b1932, o1933 + 26, none⟩)) = some (Value.agg #[(Value.int .i64 (v1861.1.err)), (Value.int .i64 (v1861.1.num)), (Value.string v1861.1.text)]) ∧ h1899 = h1899) ∧ (indexAddrA Try.prog 22 (Value.slice sb (ys.length) (cq)) (Value.int .i64 (k)) = some (Value.pointer (some ⟨b1943, o1944, none⟩)) ∧ h1899 = h1899) ∧ (loadT Try.prog h1899 3 (Value.pointer (some ⟨b1943, o1944 + 25, none⟩)) = some (Value.int .i64 (v1861.1.n)) ∧ h1899 = h1899) ∧ (indexAddrA Try.prog 22 (Value.slice sb (ys.length) (cq)) (Value.int .i64 (k)) = some (Value.pointer (some ⟨b1954, o1955, none⟩)) ∧ h1899 = h1899) ∧ (loadT Try.prog h1899 45 (Value.pointer (some ⟨b1954, o1955 + 26, none⟩)) = some (Value.agg #[(Value.int .i64 (v1861.1.err)), (Value.int .i64 (v1861.1.num)), (Value.string v1861.1.text)]) ∧ h1899 = h1899) ∧ SoundCall Try.prog 19 #[(Value.pointer (some ⟨b1722, 0, none⟩)), (Value.int .i64 (v1861.1.n)), (Value.agg #[(Value.int .i64 (v1861.1.err)), (Value.int .i64 (v1861.1.num)), (Value.string v1861.1.text)])] h1899 (Value.int .i64 (closeE (openM M v1861.1.cmd) (v1861.1.n) (v1861.1.err) (v1861.1.num) v1861.1.text)) h1960 ∧ (loadT Try.prog h1960 45 (Value.pointer (some ⟨b1954, o1955 + 26, none⟩)) = some (Value.agg #[(Value.int .i64 (v1861.1.err)), (Value.int .i64 (v1861.1.num)), (Value.string v1861.1.text)]) ∧ h1960 = h1960) ∧ (loadT Try.prog h1960 3 (Value.pointer (some ⟨b1943, o1944 + 25, none⟩)) = some (Value.int .i64 (v1861.1.n)) ∧ h1960 = h1960) ∧ SoundCall Try.prog 19 #[(Value.pointer (some ⟨b1738, 0, none⟩)), (Value.int .i64 (v1861.1.n)), (Value.agg #[(Value.int .i64 (v1861.1.err)), (Value.int .i64 (v1861.1.num)), (Value.string v1861.1.text)])] h1960 (Value.int .i64 (closeE (openM M v1861.1.cmd) (v1861.1.n) (v1861.1.err) (v1861.1.num) v1861.1.text)) h1977 ∧ (binA Try.prog .neq 28 (Value.int .i64 (closeE (openM M v1861.1.cmd) (v1861.1.n) (v1861.1.err) (v1861.1.num) v1861.1.text)) (Value.int .i64 (closeE (openM M v1861.1.cmd) (v1861.1.n) (v1861.1.err) (v1861.1.num) v1861.1.text)) = some (Value.bool false) ∧ h1977 = h1977) ∧ (binA Try.prog .add 3 (Value.int .i64 (k)) (Value.int .i64 1) = some (Value.int .i64 ((k) + 1)) ∧ h1977 = h1977) ∧ q) (by intro K'; kernel_rfl) (fun _ q => ⟨⟨cmp_lss (decide_eq_true c1859), rfl⟩, ⟨a1869 und22 size62 e1862, rfl⟩, ⟨(k1867.keep fun b r _ q => x1858 b r q).agg (j := 1) agg43 size43 (show 1 + 24 ≤ 29 by decide) (by kernel_rfl), rfl⟩, s1872, ⟨a1897 und22 size62 e1862, rfl⟩, ⟨(k1895.keep fun b r _ q => x1879 b r q).agg (j := 1) agg43 size43 (show 1 + 24 ≤ 29 by decide) (by kernel_rfl), rfl⟩, s1900, ⟨cmp_neq (decide_eq_false (not_not_intro rfl)), rfl⟩, ⟨cmp_neq (decide_eq_false (not_not_intro rfl)), rfl⟩, ⟨a1925 und22 size62 e1862, rfl⟩, ⟨(k1923.keep fun b r _ q => x1907 b r q).cell (j := 25) agg3 rfl, rfl⟩, ⟨a1936 und22 size62 e1862, rfl⟩, ⟨(k1934.keep fun b r _ q => x1907 b r q).agg (j := 26) agg45 size45 (show 26 + 3 ≤ 29 by decide) (by kernel_rfl), rfl⟩, ⟨a1947 und22 size62 e1862, rfl⟩, ⟨(k1945.keep fun b r _ q => x1907 b r q).cell (j := 25) agg3 rfl, rfl⟩, ⟨a1958 und22 size62 e1862, rfl⟩, ⟨(k1956.keep fun b r _ q => x1907 b r q).agg (j := 26) agg45 size45 (show 26 + 3 ≤ 29 by decide) (by kernel_rfl), rfl⟩, s1961, ⟨(k1956.keep fun b r _ q => x1968 b r q).agg (j := 26) agg45 size45 (show 26 + 3 ≤ 29 by decide) (by kernel_rfl), rfl⟩, ⟨(k1945.keep fun b r _ q => x1968 b r q).cell (j := 25) agg3 rfl, rfl⟩, s1978, ⟨cmp_neq (decide_eq_false (not_not_intro rfl)), rfl⟩, ⟨add_i64 (by omega) (by omega), rfl⟩, q⟩) ?_
        exact ⟨ys.length - (k + 1).toNat, by omega, ⟨k + 1, (closeM (openM M v1861.1.cmd) (v1861.1.n) (v1861.1.err) (v1861.1.num) v1861.1.text), ((N + 1) + 1), O1963, O1980, Ot, (Value.int .i64 (openN M v1861.1.cmd)), (Value.int .i64 (openE M v1861.1.cmd)), (Value.int .i64 (openN M v1861.1.cmd)), (Value.int .i64 (openE M v1861.1.cmd)), (Value.int .i64 (k)), (Value.slice sb (ys.length) (cq)), (Value.int .i64 ((ys.length : Nat))), (Value.bool true), (Value.int .i64 (k)), (Value.int .i64 ((k) + 1)), (Value.tuple #[(Value.int .i64 (openN M v1861.1.cmd)), (Value.int .i64 (openE M v1861.1.cmd))]), (Value.pointer (some ⟨b1722, 0, none⟩)), (Value.slice sb (ys.length) (cq)), (Value.int .i64 (k)), (Value.pointer (some ⟨b1865, o1866, none⟩)), (Value.pointer (some ⟨b1865, o1866 + 1, none⟩)), (Value.agg #[(Value.int .i64 (v1861.1.cmd.kind)), (Value.int .i64 (v1861.1.cmd.call)), (Value.int .i64 (v1861.1.cmd.saga)), (Value.int .i64 (v1861.1.cmd.e1)), (Value.int .i64 (v1861.1.cmd.e2)), (Value.int .i64 (v1861.1.cmd.e3)), (Value.string v1861.1.cmd.key), (Value.int .i64 (v1861.1.cmd.delta)), (Value.int .i64 (v1861.1.cmd.move)), (Value.string v1861.1.cmd.rf), (Value.string v1861.1.cmd.rt), (Value.int .i64 (v1861.1.cmd.group)), (Value.string v1861.1.cmd.dn), (Value.int .i64 (v1861.1.cmd.dr)), (Value.int .i64 (v1861.1.cmd.dd)), (Value.slice v1861.2.1 (v1861.1.cmd.steps.length) (v1861.2.2)), (Value.int .i64 (v1861.1.cmd.i1)), (Value.int .i64 (v1861.1.cmd.i2)), (Value.int .i64 (v1861.1.cmd.i3)), (Value.int .i64 (v1861.1.cmd.im)), (Value.bool v1861.1.cmd.ii), (Value.int .i64 (v1861.1.cmd.ig)), (Value.int .i64 (v1861.1.cmd.res)), (Value.string v1861.1.cmd.data)]), (Value.tuple #[(Value.int .i64 (openN M v1861.1.cmd)), (Value.int .i64 (openE M v1861.1.cmd))]), (Value.int .i64 (openN M v1861.1.cmd)), (Value.int .i64 (openE M v1861.1.cmd)), (Value.tuple #[(Value.int .i64 (openN M v1861.1.cmd)), (Value.int .i64 (openE M v1861.1.cmd))]), (Value.pointer (some ⟨b1738, 0, none⟩)), (Value.slice sb (ys.length) (cq)), (Value.int .i64 (k)), (Value.pointer (some ⟨b1893, o1894, none⟩)), (Value.pointer (some ⟨b1893, o1894 + 1, none⟩)), (Value.agg #[(Value.int .i64 (v1861.1.cmd.kind)), (Value.int .i64 (v1861.1.cmd.call)), (Value.int .i64 (v1861.1.cmd.saga)), (Value.int .i64 (v1861.1.cmd.e1)), (Value.int .i64 (v1861.1.cmd.e2)), (Value.int .i64 (v1861.1.cmd.e3)), (Value.string v1861.1.cmd.key), (Value.int .i64 (v1861.1.cmd.delta)), (Value.int .i64 (v1861.1.cmd.move)), (Value.string v1861.1.cmd.rf), (Value.string v1861.1.cmd.rt), (Value.int .i64 (v1861.1.cmd.group)), (Value.string v1861.1.cmd.dn), (Value.int .i64 (v1861.1.cmd.dr)), (Value.int .i64 (v1861.1.cmd.dd)), (Value.slice v1861.2.1 (v1861.1.cmd.steps.length) (v1861.2.2)), (Value.int .i64 (v1861.1.cmd.i1)), (Value.int .i64 (v1861.1.cmd.i2)), (Value.int .i64 (v1861.1.cmd.i3)), (Value.int .i64 (v1861.1.cmd.im)), (Value.bool v1861.1.cmd.ii), (Value.int .i64 (v1861.1.cmd.ig)), (Value.int .i64 (v1861.1.cmd.res)), (Value.string v1861.1.cmd.data)]), (Value.tuple #[(Value.int .i64 (openN M v1861.1.cmd)), (Value.int .i64 (openE M v1861.1.cmd))]), (Value.int .i64 (openN M v1861.1.cmd)), (Value.int .i64 (openE M v1861.1.cmd)), (Value.int .i64 (openN M v1861.1.cmd)), (Value.int .i64 (openN M v1861.1.cmd)), (Value.bool false), (Value.bool false), (Value.int .i64 (openE M v1861.1.cmd)), (Value.int .i64 (openE M v1861.1.cmd)), (Value.bool false), (Value.bool false), (Value.bool false), (Value.pointer (some ⟨b1722, 0, none⟩)), (Value.slice sb (ys.length) (cq)), (Value.int .i64 (k)), (Value.pointer (some ⟨b1921, o1922, none⟩)), (Value.pointer (some ⟨b1921, o1922 + 25, none⟩)), (Value.int .i64 (v1861.1.n)), (Value.slice sb (ys.length) (cq)), (Value.int .i64 (k)), (Value.pointer (some ⟨b1932, o1933, none⟩)), (Value.pointer (some ⟨b1932, o1933 + 26, none⟩)), (Value.agg #[(Value.int .i64 (v1861.1.err)), (Value.int .i64 (v1861.1.num)), (Value.string v1861.1.text)]), (Value.int .i64 (closeE (openM M v1861.1.cmd) (v1861.1.n) (v1861.1.err) (v1861.1.num) v1861.1.text)), (Value.pointer (some ⟨b1738, 0, none⟩)), (Value.slice sb (ys.length) (cq)), (Value.int .i64 (k)), (Value.pointer (some ⟨b1943, o1944, none⟩)), (Value.pointer (some ⟨b1943, o1944 + 25, none⟩)), (Value.int .i64 (v1861.1.n)), (Value.slice sb (ys.length) (cq)), (Value.int .i64 (k)), (Value.pointer (some ⟨b1954, o1955, none⟩)), (Value.pointer (some ⟨b1954, o1955 + 26, none⟩)), (Value.agg #[(Value.int .i64 (v1861.1.err)), (Value.int .i64 (v1861.1.num)), (Value.string v1861.1.text)]), (Value.int .i64 (closeE (openM M v1861.1.cmd) (v1861.1.n) (v1861.1.err) (v1861.1.num) v1861.1.text)), (Value.bool false), (Value.bool false), by kernel_rfl, x1985, rfl, by omega, k1966, by omega, wf1975, sm1976, o1974, o1991, i1850, fun zz h1 h2 => n1989 zz h2 h1, fun zz h1 h2 => n1973 zz h1 h2, fun zz h1 h2 => n1990 zz h1 h2, p1986, p1981, p1987⟩⟩
      · refine wc_upd (n := 200) (T := ⟨fun r i => match r, i with | 9, 3 => some ((Value.bool false), h1842) | _, _ => none, fun _ => none, none⟩) (x := (.exit 0)) (h1 := h1842) [(42, (Value.int .i64 (k))), (43, (Value.slice sb (ys.length) (cq))), (44, (Value.int .i64 ((ys.length : Nat)))), (45, (Value.bool false))]
          (fun q => (binA Try.prog .lss 3 (Value.int .i64 (k)) (Value.int .i64 ((ys.length : Nat))) = some (Value.bool false) ∧ h1842 = h1842) ∧ q) (by intro K'; kernel_rfl) (fun _ q => ⟨⟨cmp_lss (decide_eq_false c1859), rfl⟩, q⟩) ?_
        obtain ⟨_, h1994, s1995, out1996, oa1997, oc1998, rfl, p1999, p2000, e2001, x2002, n2003, n2004⟩ := events_ok h1842 p1854 i1844 (by omega) i1847
        have p2005 := p1854.keep fun b r _ q => x2002 b r q
        have p2006 := p1855.keep fun b r _ q => x2002 b r q
        have p2007 := p1856.keep fun b r _ q => x2002 b r q
        have x2008 := x1858.trans x2002
        have z2010 : h.size ≤ h1842.size := x1858.size
        have n2011 : ∀ zz, blk (Value.slice oa1997 (out1996.length) (oc1998)) zz → ¬ (subFoot sav xs) zz := fun zz hz ez => by have := n2003 zz hz; have := (hls.keep fun b r _ q => x1858 b r q).blk_lt ez; omega
        have n2012 : ∀ zz, blk (Value.slice oa1997 (out1996.length) (oc1998)) zz → ¬ (blk (Value.slice sa (xs.length) (cp))) zz := fun zz hz ez => by have := n2003 zz hz; have := (hl.keep fun b r _ q => x1858 b r q).blk_lt ez; omega
        have n2013 : ∀ zz, blk (Value.slice oa1997 (out1996.length) (oc1998)) zz → ¬ (subFoot sav ys) zz := fun zz hz ez => by have := n2003 zz hz; have := (gls.keep fun b r _ q => x1858 b r q).blk_lt ez; omega
        have n2014 : ∀ zz, blk (Value.slice oa1997 (out1996.length) (oc1998)) zz → ¬ (blk (Value.slice sb (ys.length) (cq))) zz := fun zz hz ez => by have := n2003 zz hz; have := (gl.keep fun b r _ q => x1858 b r q).blk_lt ez; omega
        have n2015 : ∀ zz, blk (Value.slice oa1997 (out1996.length) (oc1998)) zz → ¬ Oa zz := fun zz hz ez => by have := n2003 zz hz; have := p1854.blk_lt ez; omega
        have n2016 : ∀ zz, blk (Value.slice oa1997 (out1996.length) (oc1998)) zz → ¬ Ob zz := fun zz hz ez => by have := n2003 zz hz; have := p1855.blk_lt ez; omega
        have n2017 : ∀ zz, blk (Value.slice oa1997 (out1996.length) (oc1998)) zz → ¬ Ot zz := fun zz hz ez => by have := n2003 zz hz; have := p1856.blk_lt ez; omega
        have o2018 : ∀ zz, blk (Value.slice oa1997 (out1996.length) (oc1998)) zz → h.size ≤ zz := fun zz hz => by have := n2003 zz hz; omega
        have z2019 : h.size ≤ h1842.size := x1858.size
        have n2020 : ∀ zz, (sfoot out1996) zz → ¬ (subFoot sav xs) zz := fun zz hz ez => by have := n2004 zz hz; have := (hls.keep fun b r _ q => x1858 b r q).blk_lt ez; omega
        have n2021 : ∀ zz, (sfoot out1996) zz → ¬ (blk (Value.slice sa (xs.length) (cp))) zz := fun zz hz ez => by have := n2004 zz hz; have := (hl.keep fun b r _ q => x1858 b r q).blk_lt ez; omega
        have n2022 : ∀ zz, (sfoot out1996) zz → ¬ (subFoot sav ys) zz := fun zz hz ez => by have := n2004 zz hz; have := (gls.keep fun b r _ q => x1858 b r q).blk_lt ez; omega
        have n2023 : ∀ zz, (sfoot out1996) zz → ¬ (blk (Value.slice sb (ys.length) (cq))) zz := fun zz hz ez => by have := n2004 zz hz; have := (gl.keep fun b r _ q => x1858 b r q).blk_lt ez; omega
        have n2024 : ∀ zz, (sfoot out1996) zz → ¬ Oa zz := fun zz hz ez => by have := n2004 zz hz; have := p1854.blk_lt ez; omega
        have n2025 : ∀ zz, (sfoot out1996) zz → ¬ Ob zz := fun zz hz ez => by have := n2004 zz hz; have := p1855.blk_lt ez; omega
        have n2026 : ∀ zz, (sfoot out1996) zz → ¬ Ot zz := fun zz hz ez => by have := n2004 zz hz; have := p1856.blk_lt ez; omega
        have o2027 : ∀ zz, (sfoot out1996) zz → h.size ≤ zz := fun zz hz => by have := n2004 zz hz; omega
        have loout1996 : out1996.length = M.evs.length := by rw [← e2001]; simp
        obtain ⟨_, h2028, s2029, out2030, oa2031, oc2032, rfl, p2033, p2034, e2035, x2036, n2037, n2038⟩ := events_ok h1994 p2006 i1844 (by omega) i1847
        have p2039 := p2005.keep fun b r _ q => x2036 b r q
        have p2040 := p2006.keep fun b r _ q => x2036 b r q
        have p2041 := p2007.keep fun b r _ q => x2036 b r q
        have p2042 := p1999.keep fun b r _ q => x2036 b r q
        have p2043 := p2000.keep fun b r _ q => x2036 b r q
        have x2044 := x2008.trans x2036
        have z2046 : h.size ≤ h1994.size := x2008.size
        have n2047 : ∀ zz, blk (Value.slice oa2031 (out2030.length) (oc2032)) zz → ¬ (subFoot sav xs) zz := fun zz hz ez => by have := n2037 zz hz; have := (hls.keep fun b r _ q => x2008 b r q).blk_lt ez; omega
        have n2048 : ∀ zz, blk (Value.slice oa2031 (out2030.length) (oc2032)) zz → ¬ (blk (Value.slice sa (xs.length) (cp))) zz := fun zz hz ez => by have := n2037 zz hz; have := (hl.keep fun b r _ q => x2008 b r q).blk_lt ez; omega
        have n2049 : ∀ zz, blk (Value.slice oa2031 (out2030.length) (oc2032)) zz → ¬ (subFoot sav ys) zz := fun zz hz ez => by have := n2037 zz hz; have := (gls.keep fun b r _ q => x2008 b r q).blk_lt ez; omega
        have n2050 : ∀ zz, blk (Value.slice oa2031 (out2030.length) (oc2032)) zz → ¬ (blk (Value.slice sb (ys.length) (cq))) zz := fun zz hz ez => by have := n2037 zz hz; have := (gl.keep fun b r _ q => x2008 b r q).blk_lt ez; omega
        have n2051 : ∀ zz, blk (Value.slice oa2031 (out2030.length) (oc2032)) zz → ¬ Oa zz := fun zz hz ez => by have := n2037 zz hz; have := p2005.blk_lt ez; omega
        have n2052 : ∀ zz, blk (Value.slice oa2031 (out2030.length) (oc2032)) zz → ¬ Ob zz := fun zz hz ez => by have := n2037 zz hz; have := p2006.blk_lt ez; omega
        have n2053 : ∀ zz, blk (Value.slice oa2031 (out2030.length) (oc2032)) zz → ¬ Ot zz := fun zz hz ez => by have := n2037 zz hz; have := p2007.blk_lt ez; omega
        have n2054 : ∀ zz, blk (Value.slice oa2031 (out2030.length) (oc2032)) zz → ¬ (blk (Value.slice oa1997 (out1996.length) (oc1998))) zz := fun zz hz ez => by have := n2037 zz hz; have := p1999.blk_lt ez; omega
        have n2055 : ∀ zz, blk (Value.slice oa2031 (out2030.length) (oc2032)) zz → ¬ (sfoot out1996) zz := fun zz hz ez => by have := n2037 zz hz; have := p2000.blk_lt ez; omega
        have o2056 : ∀ zz, blk (Value.slice oa2031 (out2030.length) (oc2032)) zz → h.size ≤ zz := fun zz hz => by have := n2037 zz hz; omega
        have z2057 : h.size ≤ h1994.size := x2008.size
        have n2058 : ∀ zz, (sfoot out2030) zz → ¬ (subFoot sav xs) zz := fun zz hz ez => by have := n2038 zz hz; have := (hls.keep fun b r _ q => x2008 b r q).blk_lt ez; omega
        have n2059 : ∀ zz, (sfoot out2030) zz → ¬ (blk (Value.slice sa (xs.length) (cp))) zz := fun zz hz ez => by have := n2038 zz hz; have := (hl.keep fun b r _ q => x2008 b r q).blk_lt ez; omega
        have n2060 : ∀ zz, (sfoot out2030) zz → ¬ (subFoot sav ys) zz := fun zz hz ez => by have := n2038 zz hz; have := (gls.keep fun b r _ q => x2008 b r q).blk_lt ez; omega
        have n2061 : ∀ zz, (sfoot out2030) zz → ¬ (blk (Value.slice sb (ys.length) (cq))) zz := fun zz hz ez => by have := n2038 zz hz; have := (gl.keep fun b r _ q => x2008 b r q).blk_lt ez; omega
        have n2062 : ∀ zz, (sfoot out2030) zz → ¬ Oa zz := fun zz hz ez => by have := n2038 zz hz; have := p2005.blk_lt ez; omega
        have n2063 : ∀ zz, (sfoot out2030) zz → ¬ Ob zz := fun zz hz ez => by have := n2038 zz hz; have := p2006.blk_lt ez; omega
        have n2064 : ∀ zz, (sfoot out2030) zz → ¬ Ot zz := fun zz hz ez => by have := n2038 zz hz; have := p2007.blk_lt ez; omega
        have n2065 : ∀ zz, (sfoot out2030) zz → ¬ (blk (Value.slice oa1997 (out1996.length) (oc1998))) zz := fun zz hz ez => by have := n2038 zz hz; have := p1999.blk_lt ez; omega
        have n2066 : ∀ zz, (sfoot out2030) zz → ¬ (sfoot out1996) zz := fun zz hz ez => by have := n2038 zz hz; have := p2000.blk_lt ez; omega
        have o2067 : ∀ zz, (sfoot out2030) zz → h.size ≤ zz := fun zz hz => by have := n2038 zz hz; omega
        have loout2030 : out2030.length = M.evs.length := by rw [← e2035]; simp
        have q2068 : ∀ x ∈ out1996, x.1.cmd.steps.length ≤ 1048576 := fun x hx => i1847 _ (by rw [← e2001]; exact List.mem_map_of_mem hx)
        have lzq2068 := i1844.2.2
        obtain ⟨_, hh2069, sn2070, rfl, x2071⟩ := events_same h2028 out1996 _ _ (p2042.slice evc_size) p2043.sub out2030 _ _ (p2033.slice evc_size) p2034.sub (e2001.trans e2035.symm) q2068 (by omega)
        have p2072 := p2039.keep fun b r _ q => x2071 b r q
        have p2073 := p2040.keep fun b r _ q => x2071 b r q
        have p2074 := p2041.keep fun b r _ q => x2071 b r q
        have p2075 := p2042.keep fun b r _ q => x2071 b r q
        have p2076 := p2043.keep fun b r _ q => x2071 b r q
        have p2077 := p2033.keep fun b r _ q => x2071 b r q
        have p2078 := p2034.keep fun b r _ q => x2071 b r q
        have x2079 := x2044.trans x2071
        obtain ⟨_, h2080, s2081, out2082, oa2083, oc2084, rfl, p2085, p2086, e2087, x2088, n2089, n2090⟩ := events_ok hh2069 p2074 (fill_ok (xs.map Prod.fst)) (by omega) (fill_small' htxs)
        have p2091 := p2072.keep fun b r _ q => x2088 b r q
        have p2092 := p2073.keep fun b r _ q => x2088 b r q
        have p2093 := p2074.keep fun b r _ q => x2088 b r q
        have p2094 := p2075.keep fun b r _ q => x2088 b r q
        have p2095 := p2076.keep fun b r _ q => x2088 b r q
        have p2096 := p2077.keep fun b r _ q => x2088 b r q
        have p2097 := p2078.keep fun b r _ q => x2088 b r q
        have x2098 := x2079.trans x2088
        have z2100 : h.size ≤ hh2069.size := x2079.size
        have n2101 : ∀ zz, blk (Value.slice oa2083 (out2082.length) (oc2084)) zz → ¬ (subFoot sav xs) zz := fun zz hz ez => by have := n2089 zz hz; have := (hls.keep fun b r _ q => x2079 b r q).blk_lt ez; omega
        have n2102 : ∀ zz, blk (Value.slice oa2083 (out2082.length) (oc2084)) zz → ¬ (blk (Value.slice sa (xs.length) (cp))) zz := fun zz hz ez => by have := n2089 zz hz; have := (hl.keep fun b r _ q => x2079 b r q).blk_lt ez; omega
        have n2103 : ∀ zz, blk (Value.slice oa2083 (out2082.length) (oc2084)) zz → ¬ (subFoot sav ys) zz := fun zz hz ez => by have := n2089 zz hz; have := (gls.keep fun b r _ q => x2079 b r q).blk_lt ez; omega
        have n2104 : ∀ zz, blk (Value.slice oa2083 (out2082.length) (oc2084)) zz → ¬ (blk (Value.slice sb (ys.length) (cq))) zz := fun zz hz ez => by have := n2089 zz hz; have := (gl.keep fun b r _ q => x2079 b r q).blk_lt ez; omega
        have n2105 : ∀ zz, blk (Value.slice oa2083 (out2082.length) (oc2084)) zz → ¬ Oa zz := fun zz hz ez => by have := n2089 zz hz; have := p2072.blk_lt ez; omega
        have n2106 : ∀ zz, blk (Value.slice oa2083 (out2082.length) (oc2084)) zz → ¬ Ob zz := fun zz hz ez => by have := n2089 zz hz; have := p2073.blk_lt ez; omega
        have n2107 : ∀ zz, blk (Value.slice oa2083 (out2082.length) (oc2084)) zz → ¬ Ot zz := fun zz hz ez => by have := n2089 zz hz; have := p2074.blk_lt ez; omega
        have n2108 : ∀ zz, blk (Value.slice oa2083 (out2082.length) (oc2084)) zz → ¬ (blk (Value.slice oa1997 (out1996.length) (oc1998))) zz := fun zz hz ez => by have := n2089 zz hz; have := p2075.blk_lt ez; omega
        have n2109 : ∀ zz, blk (Value.slice oa2083 (out2082.length) (oc2084)) zz → ¬ (sfoot out1996) zz := fun zz hz ez => by have := n2089 zz hz; have := p2076.blk_lt ez; omega
        have n2110 : ∀ zz, blk (Value.slice oa2083 (out2082.length) (oc2084)) zz → ¬ (blk (Value.slice oa2031 (out2030.length) (oc2032))) zz := fun zz hz ez => by have := n2089 zz hz; have := p2077.blk_lt ez; omega
        have n2111 : ∀ zz, blk (Value.slice oa2083 (out2082.length) (oc2084)) zz → ¬ (sfoot out2030) zz := fun zz hz ez => by have := n2089 zz hz; have := p2078.blk_lt ez; omega
        have o2112 : ∀ zz, blk (Value.slice oa2083 (out2082.length) (oc2084)) zz → h.size ≤ zz := fun zz hz => by have := n2089 zz hz; omega
        have z2113 : h.size ≤ hh2069.size := x2079.size
        have n2114 : ∀ zz, (sfoot out2082) zz → ¬ (subFoot sav xs) zz := fun zz hz ez => by have := n2090 zz hz; have := (hls.keep fun b r _ q => x2079 b r q).blk_lt ez; omega
        have n2115 : ∀ zz, (sfoot out2082) zz → ¬ (blk (Value.slice sa (xs.length) (cp))) zz := fun zz hz ez => by have := n2090 zz hz; have := (hl.keep fun b r _ q => x2079 b r q).blk_lt ez; omega
        have n2116 : ∀ zz, (sfoot out2082) zz → ¬ (subFoot sav ys) zz := fun zz hz ez => by have := n2090 zz hz; have := (gls.keep fun b r _ q => x2079 b r q).blk_lt ez; omega
        have n2117 : ∀ zz, (sfoot out2082) zz → ¬ (blk (Value.slice sb (ys.length) (cq))) zz := fun zz hz ez => by have := n2090 zz hz; have := (gl.keep fun b r _ q => x2079 b r q).blk_lt ez; omega
        have n2118 : ∀ zz, (sfoot out2082) zz → ¬ Oa zz := fun zz hz ez => by have := n2090 zz hz; have := p2072.blk_lt ez; omega
        have n2119 : ∀ zz, (sfoot out2082) zz → ¬ Ob zz := fun zz hz ez => by have := n2090 zz hz; have := p2073.blk_lt ez; omega
        have n2120 : ∀ zz, (sfoot out2082) zz → ¬ Ot zz := fun zz hz ez => by have := n2090 zz hz; have := p2074.blk_lt ez; omega
        have n2121 : ∀ zz, (sfoot out2082) zz → ¬ (blk (Value.slice oa1997 (out1996.length) (oc1998))) zz := fun zz hz ez => by have := n2090 zz hz; have := p2075.blk_lt ez; omega
        have n2122 : ∀ zz, (sfoot out2082) zz → ¬ (sfoot out1996) zz := fun zz hz ez => by have := n2090 zz hz; have := p2076.blk_lt ez; omega
        have n2123 : ∀ zz, (sfoot out2082) zz → ¬ (blk (Value.slice oa2031 (out2030.length) (oc2032))) zz := fun zz hz ez => by have := n2090 zz hz; have := p2077.blk_lt ez; omega
        have n2124 : ∀ zz, (sfoot out2082) zz → ¬ (sfoot out2030) zz := fun zz hz ez => by have := n2090 zz hz; have := p2078.blk_lt ez; omega
        have o2125 : ∀ zz, (sfoot out2082) zz → h.size ≤ zz := fun zz hz => by have := n2090 zz hz; omega
        have loout2082 : out2082.length = (fillM (xs.map Prod.fst)).evs.length := by rw [← e2087]; simp
        obtain ⟨_, h2128, s2129, b2126, O2127, rfl, p2130, x2131, w2132⟩ := filled_ok h2080 xs _ _ (hl.keep fun b r _ q => x2098 b r q) (hls.keep fun b r _ q => x2098 b r q) (by omega) htxs
        have p2133 := p2091.keep fun b r _ q => x2131 b r q
        have p2134 := p2092.keep fun b r _ q => x2131 b r q
        have p2135 := p2093.keep fun b r _ q => x2131 b r q
        have p2136 := p2094.keep fun b r _ q => x2131 b r q
        have p2137 := p2095.keep fun b r _ q => x2131 b r q
        have p2138 := p2096.keep fun b r _ q => x2131 b r q
        have p2139 := p2097.keep fun b r _ q => x2131 b r q
        have p2140 := p2085.keep fun b r _ q => x2131 b r q
        have p2141 := p2086.keep fun b r _ q => x2131 b r q
        have x2142 := x2098.trans x2131
        have z2143 : h.size ≤ h2080.size := x2098.size
        have n2144 : ∀ zz, O2127 zz → ¬ (subFoot sav xs) zz := fun zz hz ez => by have := w2132 zz hz; have := (hls.keep fun b r _ q => x2098 b r q).blk_lt ez; omega
        have n2145 : ∀ zz, O2127 zz → ¬ (blk (Value.slice sa (xs.length) (cp))) zz := fun zz hz ez => by have := w2132 zz hz; have := (hl.keep fun b r _ q => x2098 b r q).blk_lt ez; omega
        have n2146 : ∀ zz, O2127 zz → ¬ (subFoot sav ys) zz := fun zz hz ez => by have := w2132 zz hz; have := (gls.keep fun b r _ q => x2098 b r q).blk_lt ez; omega
        have n2147 : ∀ zz, O2127 zz → ¬ (blk (Value.slice sb (ys.length) (cq))) zz := fun zz hz ez => by have := w2132 zz hz; have := (gl.keep fun b r _ q => x2098 b r q).blk_lt ez; omega
        have n2148 : ∀ zz, O2127 zz → ¬ Oa zz := fun zz hz ez => by have := w2132 zz hz; have := p2091.blk_lt ez; omega
        have n2149 : ∀ zz, O2127 zz → ¬ Ob zz := fun zz hz ez => by have := w2132 zz hz; have := p2092.blk_lt ez; omega
        have n2150 : ∀ zz, O2127 zz → ¬ Ot zz := fun zz hz ez => by have := w2132 zz hz; have := p2093.blk_lt ez; omega
        have n2151 : ∀ zz, O2127 zz → ¬ (blk (Value.slice oa1997 (out1996.length) (oc1998))) zz := fun zz hz ez => by have := w2132 zz hz; have := p2094.blk_lt ez; omega
        have n2152 : ∀ zz, O2127 zz → ¬ (sfoot out1996) zz := fun zz hz ez => by have := w2132 zz hz; have := p2095.blk_lt ez; omega
        have n2153 : ∀ zz, O2127 zz → ¬ (blk (Value.slice oa2031 (out2030.length) (oc2032))) zz := fun zz hz ez => by have := w2132 zz hz; have := p2096.blk_lt ez; omega
        have n2154 : ∀ zz, O2127 zz → ¬ (sfoot out2030) zz := fun zz hz ez => by have := w2132 zz hz; have := p2097.blk_lt ez; omega
        have n2155 : ∀ zz, O2127 zz → ¬ (blk (Value.slice oa2083 (out2082.length) (oc2084))) zz := fun zz hz ez => by have := w2132 zz hz; have := p2085.blk_lt ez; omega
        have n2156 : ∀ zz, O2127 zz → ¬ (sfoot out2082) zz := fun zz hz ez => by have := w2132 zz hz; have := p2086.blk_lt ez; omega
        have o2157 : ∀ zz, O2127 zz → h.size ≤ zz := fun zz hz => by have := w2132 zz hz; omega
        have : (xs.map Prod.fst).length = xs.length := by simp
        have wfb2126 := fill_wf (xs.map Prod.fst)
        have bab2126 := (fill_ok (xs.map Prod.fst)).1
        obtain ⟨_, h2158, s2159, out2160, oa2161, oc2162, rfl, p2163, p2164, e2165, x2166, n2167, n2168⟩ := events_ok h2128 p2130 (fill_ok (xs.map Prod.fst)) (by omega) (fill_small' htxs)
        have p2169 := p2133.keep fun b r _ q => x2166 b r q
        have p2170 := p2134.keep fun b r _ q => x2166 b r q
        have p2171 := p2135.keep fun b r _ q => x2166 b r q
        have p2172 := p2136.keep fun b r _ q => x2166 b r q
        have p2173 := p2137.keep fun b r _ q => x2166 b r q
        have p2174 := p2138.keep fun b r _ q => x2166 b r q
        have p2175 := p2139.keep fun b r _ q => x2166 b r q
        have p2176 := p2140.keep fun b r _ q => x2166 b r q
        have p2177 := p2141.keep fun b r _ q => x2166 b r q
        have p2178 := p2130.keep fun b r _ q => x2166 b r q
        have x2179 := x2142.trans x2166
        have z2181 : h.size ≤ h2128.size := x2142.size
        have n2182 : ∀ zz, blk (Value.slice oa2161 (out2160.length) (oc2162)) zz → ¬ (subFoot sav xs) zz := fun zz hz ez => by have := n2167 zz hz; have := (hls.keep fun b r _ q => x2142 b r q).blk_lt ez; omega
        have n2183 : ∀ zz, blk (Value.slice oa2161 (out2160.length) (oc2162)) zz → ¬ (blk (Value.slice sa (xs.length) (cp))) zz := fun zz hz ez => by have := n2167 zz hz; have := (hl.keep fun b r _ q => x2142 b r q).blk_lt ez; omega
        have n2184 : ∀ zz, blk (Value.slice oa2161 (out2160.length) (oc2162)) zz → ¬ (subFoot sav ys) zz := fun zz hz ez => by have := n2167 zz hz; have := (gls.keep fun b r _ q => x2142 b r q).blk_lt ez; omega
        have n2185 : ∀ zz, blk (Value.slice oa2161 (out2160.length) (oc2162)) zz → ¬ (blk (Value.slice sb (ys.length) (cq))) zz := fun zz hz ez => by have := n2167 zz hz; have := (gl.keep fun b r _ q => x2142 b r q).blk_lt ez; omega
        have n2186 : ∀ zz, blk (Value.slice oa2161 (out2160.length) (oc2162)) zz → ¬ Oa zz := fun zz hz ez => by have := n2167 zz hz; have := p2133.blk_lt ez; omega
        have n2187 : ∀ zz, blk (Value.slice oa2161 (out2160.length) (oc2162)) zz → ¬ Ob zz := fun zz hz ez => by have := n2167 zz hz; have := p2134.blk_lt ez; omega
        have n2188 : ∀ zz, blk (Value.slice oa2161 (out2160.length) (oc2162)) zz → ¬ Ot zz := fun zz hz ez => by have := n2167 zz hz; have := p2135.blk_lt ez; omega
        have n2189 : ∀ zz, blk (Value.slice oa2161 (out2160.length) (oc2162)) zz → ¬ (blk (Value.slice oa1997 (out1996.length) (oc1998))) zz := fun zz hz ez => by have := n2167 zz hz; have := p2136.blk_lt ez; omega
        have n2190 : ∀ zz, blk (Value.slice oa2161 (out2160.length) (oc2162)) zz → ¬ (sfoot out1996) zz := fun zz hz ez => by have := n2167 zz hz; have := p2137.blk_lt ez; omega
        have n2191 : ∀ zz, blk (Value.slice oa2161 (out2160.length) (oc2162)) zz → ¬ (blk (Value.slice oa2031 (out2030.length) (oc2032))) zz := fun zz hz ez => by have := n2167 zz hz; have := p2138.blk_lt ez; omega
        have n2192 : ∀ zz, blk (Value.slice oa2161 (out2160.length) (oc2162)) zz → ¬ (sfoot out2030) zz := fun zz hz ez => by have := n2167 zz hz; have := p2139.blk_lt ez; omega
        have n2193 : ∀ zz, blk (Value.slice oa2161 (out2160.length) (oc2162)) zz → ¬ (blk (Value.slice oa2083 (out2082.length) (oc2084))) zz := fun zz hz ez => by have := n2167 zz hz; have := p2140.blk_lt ez; omega
        have n2194 : ∀ zz, blk (Value.slice oa2161 (out2160.length) (oc2162)) zz → ¬ (sfoot out2082) zz := fun zz hz ez => by have := n2167 zz hz; have := p2141.blk_lt ez; omega
        have n2195 : ∀ zz, blk (Value.slice oa2161 (out2160.length) (oc2162)) zz → ¬ O2127 zz := fun zz hz ez => by have := n2167 zz hz; have := p2130.blk_lt ez; omega
        have o2196 : ∀ zz, blk (Value.slice oa2161 (out2160.length) (oc2162)) zz → h.size ≤ zz := fun zz hz => by have := n2167 zz hz; omega
        have z2197 : h.size ≤ h2128.size := x2142.size
        have n2198 : ∀ zz, (sfoot out2160) zz → ¬ (subFoot sav xs) zz := fun zz hz ez => by have := n2168 zz hz; have := (hls.keep fun b r _ q => x2142 b r q).blk_lt ez; omega
        have n2199 : ∀ zz, (sfoot out2160) zz → ¬ (blk (Value.slice sa (xs.length) (cp))) zz := fun zz hz ez => by have := n2168 zz hz; have := (hl.keep fun b r _ q => x2142 b r q).blk_lt ez; omega
        have n2200 : ∀ zz, (sfoot out2160) zz → ¬ (subFoot sav ys) zz := fun zz hz ez => by have := n2168 zz hz; have := (gls.keep fun b r _ q => x2142 b r q).blk_lt ez; omega
        have n2201 : ∀ zz, (sfoot out2160) zz → ¬ (blk (Value.slice sb (ys.length) (cq))) zz := fun zz hz ez => by have := n2168 zz hz; have := (gl.keep fun b r _ q => x2142 b r q).blk_lt ez; omega
        have n2202 : ∀ zz, (sfoot out2160) zz → ¬ Oa zz := fun zz hz ez => by have := n2168 zz hz; have := p2133.blk_lt ez; omega
        have n2203 : ∀ zz, (sfoot out2160) zz → ¬ Ob zz := fun zz hz ez => by have := n2168 zz hz; have := p2134.blk_lt ez; omega
        have n2204 : ∀ zz, (sfoot out2160) zz → ¬ Ot zz := fun zz hz ez => by have := n2168 zz hz; have := p2135.blk_lt ez; omega
        have n2205 : ∀ zz, (sfoot out2160) zz → ¬ (blk (Value.slice oa1997 (out1996.length) (oc1998))) zz := fun zz hz ez => by have := n2168 zz hz; have := p2136.blk_lt ez; omega
        have n2206 : ∀ zz, (sfoot out2160) zz → ¬ (sfoot out1996) zz := fun zz hz ez => by have := n2168 zz hz; have := p2137.blk_lt ez; omega
        have n2207 : ∀ zz, (sfoot out2160) zz → ¬ (blk (Value.slice oa2031 (out2030.length) (oc2032))) zz := fun zz hz ez => by have := n2168 zz hz; have := p2138.blk_lt ez; omega
        have n2208 : ∀ zz, (sfoot out2160) zz → ¬ (sfoot out2030) zz := fun zz hz ez => by have := n2168 zz hz; have := p2139.blk_lt ez; omega
        have n2209 : ∀ zz, (sfoot out2160) zz → ¬ (blk (Value.slice oa2083 (out2082.length) (oc2084))) zz := fun zz hz ez => by have := n2168 zz hz; have := p2140.blk_lt ez; omega
        have n2210 : ∀ zz, (sfoot out2160) zz → ¬ (sfoot out2082) zz := fun zz hz ez => by have := n2168 zz hz; have := p2141.blk_lt ez; omega
        have n2211 : ∀ zz, (sfoot out2160) zz → ¬ O2127 zz := fun zz hz ez => by have := n2168 zz hz; have := p2130.blk_lt ez; omega
        have o2212 : ∀ zz, (sfoot out2160) zz → h.size ≤ zz := fun zz hz => by have := n2168 zz hz; omega
        have loout2160 : out2160.length = (fillM (xs.map Prod.fst)).evs.length := by rw [← e2165]; simp
        have q2213 : ∀ x ∈ out2082, x.1.cmd.steps.length ≤ 1048576 := fun x hx => (fill_small' htxs) _ (by rw [← e2087]; exact List.mem_map_of_mem hx)
        have lzq2213 := (fill_ok (xs.map Prod.fst)).2.2
        obtain ⟨_, hh2214, sn2215, rfl, x2216⟩ := events_same h2158 out2082 _ _ (p2176.slice evc_size) p2177.sub out2160 _ _ (p2163.slice evc_size) p2164.sub (e2087.trans e2165.symm) q2213 (by omega)
        have p2217 := p2169.keep fun b r _ q => x2216 b r q
        have p2218 := p2170.keep fun b r _ q => x2216 b r q
        have p2219 := p2171.keep fun b r _ q => x2216 b r q
        have p2220 := p2172.keep fun b r _ q => x2216 b r q
        have p2221 := p2173.keep fun b r _ q => x2216 b r q
        have p2222 := p2174.keep fun b r _ q => x2216 b r q
        have p2223 := p2175.keep fun b r _ q => x2216 b r q
        have p2224 := p2176.keep fun b r _ q => x2216 b r q
        have p2225 := p2177.keep fun b r _ q => x2216 b r q
        have p2226 := p2178.keep fun b r _ q => x2216 b r q
        have p2227 := p2163.keep fun b r _ q => x2216 b r q
        have p2228 := p2164.keep fun b r _ q => x2216 b r q
        have x2229 := x2179.trans x2216
        obtain ⟨_, _, sn2231, rfl, rfl⟩ := works_ok hh2214
        refine wc_upd (n := 200) (T := ⟨fun r i => match r, i with | 15, 1 => some ((Value.slice oa1997 (out1996.length) (oc1998)), h1994) | 15, 3 => some ((Value.slice oa2031 (out2030.length) (oc2032)), h2028) | 15, 4 => some ((Value.bool true), hh2069) | 15, 7 => some ((Value.slice oa2083 (out2082.length) (oc2084)), h2080) | 15, 9 => some ((Value.pointer (some ⟨b2126, 0, none⟩)), h2128) | 15, 10 => some ((Value.slice oa2161 (out2160.length) (oc2162)), h2158) | 15, 11 => some ((Value.bool true), hh2214) | 15, 14 => some ((Value.bool true), hh2214) | _, _ => none, fun _ => none, none⟩) (x := .ret) (h1 := hh2214) [(103, (Value.pointer (some ⟨b1722, 0, none⟩))), (104, (Value.slice oa1997 (out1996.length) (oc1998))), (105, (Value.pointer (some ⟨b1738, 0, none⟩))), (106, (Value.slice oa2031 (out2030.length) (oc2032))), (107, (Value.bool true)), (108, (Value.bool true)), (109, (Value.pointer (some ⟨b1708, 0, none⟩))), (110, (Value.slice oa2083 (out2082.length) (oc2084))), (111, (Value.slice sa (xs.length) (cp))), (112, (Value.pointer (some ⟨b2126, 0, none⟩))), (113, (Value.slice oa2161 (out2160.length) (oc2162))), (114, (Value.bool true)), (115, (Value.bool true)), (116, (Value.bool true)), (117, (Value.bool true)), (118, (Value.bool true)), (4, (Value.bool true))]
          (fun q => SoundCall Try.prog 16 #[(Value.pointer (some ⟨b1722, 0, none⟩))] h1842 (Value.slice oa1997 (out1996.length) (oc1998)) h1994 ∧ SoundCall Try.prog 16 #[(Value.pointer (some ⟨b1738, 0, none⟩))] h1994 (Value.slice oa2031 (out2030.length) (oc2032)) h2028 ∧ SoundCall Try.prog 36 #[(Value.slice oa1997 (out1996.length) (oc1998)), (Value.slice oa2031 (out2030.length) (oc2032))] h2028 (Value.bool true) hh2069 ∧ SoundCall Try.prog 16 #[(Value.pointer (some ⟨b1708, 0, none⟩))] hh2069 (Value.slice oa2083 (out2082.length) (oc2084)) h2080 ∧ SoundCall Try.prog 13 #[(Value.slice sa (xs.length) (cp))] h2080 (Value.pointer (some ⟨b2126, 0, none⟩)) h2128 ∧ SoundCall Try.prog 16 #[(Value.pointer (some ⟨b2126, 0, none⟩))] h2128 (Value.slice oa2161 (out2160.length) (oc2162)) h2158 ∧ SoundCall Try.prog 36 #[(Value.slice oa2083 (out2082.length) (oc2084)), (Value.slice oa2161 (out2160.length) (oc2162))] h2158 (Value.bool true) hh2214 ∧ SoundCall Try.prog 12 #[] hh2214 (Value.bool true) hh2214 ∧ q) (by intro K'; kernel_rfl) (fun _ q => ⟨s1995, s2029, sn2070, s2081, s2129, s2159, sn2215, sn2231, q⟩) ?_
        refine end_at (T := ⟨fun _ _ => none, fun _ => none, none⟩) (A := K (Value.bool true) hh2214) (by kernel_rfl) ?_
        exact hK _ _ (⟨rfl, x2229⟩)
    · obtain ⟨_, _, sn2234, rfl, rfl⟩ := works_ok hh1703
      refine wc_upd (n := 200) (T := ⟨fun r i => match r, i with | 1, 1 => some ((Value.bool true), hh1696) | 1, 5 => some ((Value.bool false), hh1703) | 2, 0 => some ((Value.bool true), hh1703) | _, _ => none, fun _ => none, none⟩) (x := .ret) (h1 := hh1703) [(13, (Value.slice sa (xs.length) (cp))), (14, (Value.bool true)), (15, (Value.bool false)), (16, (Value.bool false)), (17, (Value.slice sb (ys.length) (cq))), (18, (Value.bool false)), (19, (Value.bool true)), (20, (Value.bool true)), (21, (Value.bool true)), (4, (Value.bool true))]
        (fun q => SoundCall Try.prog 11 #[(Value.slice sa (xs.length) (cp)), (Value.int .i64 60)] h (Value.bool true) hh1696 ∧ SoundCall Try.prog 11 #[(Value.slice sb (ys.length) (cq)), (Value.int .i64 60)] hh1696 (Value.bool false) hh1703 ∧ SoundCall Try.prog 12 #[] hh1703 (Value.bool true) hh1703 ∧ q) (by intro K'; kernel_rfl) (fun _ q => ⟨(by rw [← c1700]; exact sn1697), (by rw [← c1707]; exact sn1704), sn2234, q⟩) ?_
      refine end_at (T := ⟨fun _ _ => none, fun _ => none, none⟩) (A := K (Value.bool true) hh1703) (by kernel_rfl) ?_
      exact hK _ _ (⟨rfl, x1706⟩)
  · obtain ⟨_, _, sn2237, rfl, rfl⟩ := works_ok hh1696
    refine wc_upd (n := 200) (T := ⟨fun r i => match r, i with | 1, 1 => some ((Value.bool false), hh1696) | 2, 0 => some ((Value.bool true), hh1696) | _, _ => none, fun _ => none, none⟩) (x := .ret) (h1 := hh1696) [(13, (Value.slice sa (xs.length) (cp))), (14, (Value.bool false)), (15, (Value.bool true)), (16, (Value.bool true)), (17, (Value.tuple #[])), (18, (Value.tuple #[])), (19, (Value.tuple #[])), (20, (Value.bool true)), (21, (Value.bool true)), (4, (Value.bool true))]
      (fun q => SoundCall Try.prog 11 #[(Value.slice sa (xs.length) (cp)), (Value.int .i64 60)] h (Value.bool false) hh1696 ∧ SoundCall Try.prog 12 #[] hh1696 (Value.bool true) hh1696 ∧ q) (by intro K'; kernel_rfl) (fun _ q => ⟨(by rw [← c1700]; exact sn1697), sn2237, q⟩) ?_
    refine end_at (T := ⟨fun _ _ => none, fun _ => none, none⟩) (A := K (Value.bool true) hh1696) (by kernel_rfl) ?_
    exact hK _ _ (⟨rfl, x1699⟩)
end C36
