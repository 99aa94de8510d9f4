/- The reference: its table, and its small functions. -/
import Derived.Test.YtdcboianihplpaaXh
import Derived.KernelRfl
open Go Go.AM Go.Proofs
namespace C36
theorem wc_cut {P : Program} {ro : Option Nat} {c : Code} {a : Act} {h : Heap} {K : Exit → Act → Heap → Prop} (d e : Code) (hc : c = .seq d e) (J : Act → Heap → Prop) (h1 : WCode P ro d a h fun x a1 h1 => match x with | .normal => J a1 h1 | x => K x a1 h1) (h2 : ∀ a1 h1, J a1 h1 → WCode P ro e a1 h1 K) : WCode P ro c a h K := by
  subst hc
  refine wc_seq (h1.mono fun x a1 h1 q => ?_)
  cases x with
  | normal => exact h2 a1 h1 q
  | _ => exact q
/-- A command with where its steps lie. -/
def cmdp (x : CmdM × Option Addr × Nat) : Array Value := #[(vI (x.1.kind)), (vI (x.1.call)), (vI (x.1.saga)), (vI (x.1.e1)), (vI (x.1.e2)), (vI (x.1.e3)), (vS x.1.key), (vI (x.1.delta)), (vI (x.1.move)), (vS x.1.rf), (vS x.1.rt), (vI (x.1.group)), (vS x.1.dn), (vI (x.1.dr)), (vI (x.1.dd)), (Value.slice x.2.1 (x.1.steps.length) (x.2.2)), (vI (x.1.i1)), (vI (x.1.i2)), (vI (x.1.i3)), (vI (x.1.im)), (vB x.1.ii), (vI (x.1.ig)), (vI (x.1.res)), (vS x.1.data)]
theorem cmdp_size (x : CmdM × Option Addr × Nat) : (cmdp x).size = 24 := rfl
/-- A reply. -/
structure RepM where
  err : Int
  num : Int
  text : ByteArray
def repc (r : RepM) : Array Value := #[.int .i64 r.err, .int .i64 r.num, .string r.text]
theorem repc_size (r : RepM) : (repc r).size = 3 := rfl
def bcell (b : Bool) : Array Value := #[.bool b]
theorem bcell_size (b : Bool) : (bcell b).size = 1 := rfl
/-- Where the steps of commands lie. -/
def CStepsAt (h : Heap) (raw : List (CmdM × Option Addr × Nat)) : Prop := ∀ x ∈ raw, OwnAt h 74 stepc x.1.steps (.slice x.2.1 x.1.steps.length x.2.2)
def cfoot (raw : List (CmdM × Option Addr × Nat)) (b : Nat) : Prop := ∃ x ∈ raw, blk (.slice x.2.1 x.1.steps.length x.2.2) b
theorem CStepsAt.keep {h h1 : Heap} {raw : List (CmdM × Option Addr × Nat)} (k : CStepsAt h raw) (w : ∀ b r, cfoot raw b → h[b]? = some r → h1[b]? = some r) : CStepsAt h1 raw := fun x hx => (k x hx).keep fun b r hb q => w b r ⟨x, hx, hb⟩ q
theorem CStepsAt.ne {h : Heap} {raw : List (CmdM × Option Addr × Nat)} (k : CStepsAt h raw) {b b2 : Nat} {c : Array Value} {e2 : TypeId} {fr : Nat × Nat} (hb2 : h[b2]? = some (.cells c e2 fr)) (he : 74 ≠ e2) (hb : cfoot raw b) : b ≠ b2 := by
  obtain ⟨x, hx, hb⟩ := hb; exact (k x hx).ne hb2 he hb
theorem CStepsAt.apart {β : Type} {g : β → Array Value} {h : Heap} {raw : List (CmdM × Option Addr × Nat)} (k : CStepsAt h raw) {e2 : TypeId} {ys : List β} {w : Value} (k2 : OwnAt h e2 g ys w) (he : 74 ≠ e2) {b : Nat} (hb : cfoot raw b) (hb2 : blk w b) : False := by
  obtain ⟨x, hx, hb⟩ := hb; exact (k x hx).apart k2 he hb hb2
theorem CStepsAt.blk_lt {h : Heap} {raw : List (CmdM × Option Addr × Nat)} (k : CStepsAt h raw) {b : Nat} (hb : cfoot raw b) : b < h.size := by
  obtain ⟨x, hx, hb⟩ := hb; exact (k x hx).blk_lt hb
theorem CStepsAt.add {h : Heap} {raw : List (CmdM × Option Addr × Nat)} {x : CmdM × Option Addr × Nat} (k : CStepsAt h raw) (o : OwnAt h 74 stepc x.1.steps (.slice x.2.1 x.1.steps.length x.2.2)) : CStepsAt h (raw ++ [x]) := fun y hy => (List.mem_append.1 hy).elim (k y) fun q => by rw [List.mem_singleton.1 q]; exact o
theorem cfoot_add {O : Nat → Prop} {raw : List (CmdM × Option Addr × Nat)} {x : CmdM × Option Addr × Nat} (k : ∀ b, cfoot raw b → O b) (o : ∀ b, blk (.slice x.2.1 x.1.steps.length x.2.2) b → O b) (b : Nat) (hb : cfoot (raw ++ [x]) b) : O b := by
  obtain ⟨y, hy, hb⟩ := hb
  rcases List.mem_append.1 hy with q | q
  · exact k b ⟨y, q, hb⟩
  · rw [List.mem_singleton.1 q] at hb; exact o b hb
/-- The reference's table. -/
structure RefM where
  cs : List CmdM
  rs : List RepM
  hs : List Bool
  es : List EvM
structure RefRow (h : Heap) (O : Nat → Prop) (t : Nat) (m : RefM) (rc : List (CmdM × Option Addr × Nat)) (re : List (EvM × Option Addr × Nat)) (ac ar ah ae : Option Addr) (cc cr ch ce : Nat) : Prop where
  row : h[t]? = some (.cells #[.bool true, .slice ac rc.length cc, .slice ar m.rs.length cr, .slice ah m.hs.length ch, .slice ae re.length ce] 90 (0, 0))
  c : OwnAt h 43 cmdp rc (.slice ac rc.length cc)
  r : OwnAt h 45 repc m.rs (.slice ar m.rs.length cr)
  hh : OwnAt h 4 bcell m.hs (.slice ah m.hs.length ch)
  e : OwnAt h 47 evc re (.slice ae re.length ce)
  cs : rc.map Prod.fst = m.cs
  es : re.map Prod.fst = m.es
  csteps : CStepsAt h rc
  esteps : StepsAt h re
  inT : O t
  inC : ∀ b, blk (.slice ac rc.length cc) b → O b
  inR : ∀ b, blk (.slice ar m.rs.length cr) b → O b
  inH : ∀ b, blk (.slice ah m.hs.length ch) b → O b
  inE : ∀ b, blk (.slice ae re.length ce) b → O b
  inCS : ∀ b, cfoot rc b → O b
  inES : ∀ b, sfoot re b → O b
def RefAt (h : Heap) (O : Nat → Prop) (t : Nat) (m : RefM) : Prop := ∃ rc re ac ar ah ae cc cr ch ce, RefRow h O t m rc re ac ar ah ae cc cr ch ce
theorem RefRow.clen {h : Heap} {O : Nat → Prop} {t : Nat} {m : RefM} {rc : List (CmdM × Option Addr × Nat)} {re : List (EvM × Option Addr × Nat)} {ac ar ah ae : Option Addr} {cc cr ch ce : Nat} (T : RefRow h O t m rc re ac ar ah ae cc cr ch ce) : rc.length = m.cs.length ∧ re.length = m.es.length := by
  rw [← T.cs, ← T.es]; simp
def RefM.opened (m : RefM) (c : CmdM) : RefM := ⟨m.cs ++ [{ c with call := m.cs.length + 1 }], m.rs ++ [⟨0, 0, .empty⟩], m.hs ++ [false], m.es ++ [⟨m.cs.length + 1, false, { c with call := m.cs.length + 1 }, 0, 0, .empty⟩]⟩
def RefM.closed (m : RefM) (k : Int) (e n : Int) (d : ByteArray) : RefM := ⟨m.cs, m.rs.set (k - 1).toNat ⟨e, n, d⟩, m.hs.set (k - 1).toNat true, m.es ++ [⟨k, true, noCmd, e, n, d⟩]⟩
set_option maxHeartbeats 4000000 in
theorem copy26 (h : Heap) (xs : List StepM) (nm : ByteArray) (rt dl : Int) (sa : Option Addr) (cp : Nat) (hl : SliceAt h stepc 2 xs (.slice sa xs.length cp)) (hlen : xs.length ≤ 1048576) : WCall Try.prog 56 #[(Value.agg #[(vS nm), (vI (rt)), (vI (dl)), (Value.slice sa (xs.length) (cp))])] h (fun v h1 => ∃ w cw, v = .agg #[.string nm, .int .i64 rt, .int .i64 dl, .slice w xs.length cw] ∧ OwnAt h1 74 stepc xs (.slice w xs.length cw) ∧ Ext h h1 ∧ ∀ b, blk (.slice w xs.length cw) b → h.size ≤ b) := by
  obtain ⟨b1594, eb1595⟩ : ∃ zq, zq = h.size := ⟨_, rfl⟩
  obtain ⟨h1592, e1593⟩ : ∃ zq, zq = h.push (.cells #[(vS nm), (vI (rt)), (vI (dl)), (Value.slice sa (xs.length) (cp))] 39 (0, 0)) := ⟨_, rfl⟩
  have f1596 := push_new e1593
  rw [← eb1595] at f1596
  have x1598 : Ext h h1592 := by rw [e1593]; exact Ext.push _ _
  have o1599 : h.size ≤ b1594 := by have := (Ext.refl h).size; omega
  have p1600 := hl.keep fun b r _ q => x1598 b r q
  have x1601 := (Ext.refl h).trans x1598
  obtain ⟨b1604, eb1605⟩ : ∃ zq, zq = h1592.size := ⟨_, rfl⟩
  obtain ⟨h1602, e1603⟩ : ∃ zq, zq = h1592.push (.cells #[(vS .empty), (vI 0), (vI 0), (Value.slice none 0 0)] 39 (0, 0)) := ⟨_, rfl⟩
  have f1606 := push_new e1603
  rw [← eb1605] at f1606
  have n1607 : b1604 ≠ b1594 := by have := row_lt f1596; omega
  have x1609 : Ext h1592 h1602 := by rw [e1603]; exact Ext.push _ _
  have o1610 : h.size ≤ b1604 := by have := x1601.size; omega
  have f1611 := x1609 _ _ f1596
  have p1612 := p1600.keep fun b r _ q => x1609 b r q
  have x1613 := x1601.trans x1609
  obtain ⟨b1616, eb1617⟩ : ∃ zq, zq = h1602.size := ⟨_, rfl⟩
  obtain ⟨h1614, e1615⟩ : ∃ zq, zq = h1602.push (.cells #[] 74 (0, 0)) := ⟨_, rfl⟩
  have f1618 := push_new e1615
  rw [← eb1617] at f1618
  have n1619 : b1616 ≠ b1594 := by have := row_lt f1611; omega
  have n1620 : b1616 ≠ b1604 := by have := row_lt f1606; omega
  have x1622 : Ext h1602 h1614 := by rw [e1615]; exact Ext.push _ _
  have o1623 : h.size ≤ b1616 := by have := x1613.size; omega
  have f1624 := x1622 _ _ f1611
  have f1625 := x1622 _ _ f1606
  have p1626 := p1612.keep fun b r _ q => x1622 b r q
  have x1627 := x1613.trans x1622
  obtain ⟨w1628, h1629, e1630, p1631, x1632, n1633⟩ := own_clone und37 sizeb74 zero74 rfl (by decide) stepc_size f1618 p1626 (by omega) (by unfold maxLen; omega)
  obtain ⟨a1634, c1635, rfl⟩ := (p1631.slice stepc_size).len
  have z1638 : b1616 < h1614.size := row_lt f1618
  have n1637 : ∀ zz, blk (Value.slice a1634 (xs.length) (c1635)) zz → zz = b1616 ∨ h1614.size ≤ zz := fun zz hz => by rcases n1633 zz hz with e | e <;> omega
  have n1639 : ∀ zz, blk (Value.slice a1634 (xs.length) (c1635)) zz → ¬ zz = b1594 := fun zz hz ez => by have := n1619; have := row_lt f1624; rcases n1637 zz hz with g | g <;> omega
  have n1640 : ∀ zz, blk (Value.slice a1634 (xs.length) (c1635)) zz → ¬ zz = b1604 := fun zz hz ez => by have := n1620; have := row_lt f1625; rcases n1637 zz hz with g | g <;> omega
  have o1642 : ∀ zz, blk (Value.slice a1634 (xs.length) (c1635)) zz → h.size ≤ zz := fun zz hz => by have := o1623; have := x1627.size; rcases n1637 zz hz with g | g <;> omega
  have f1643 := x1632 _ _ f1624
  have f1644 := x1632 _ _ f1625
  have x1647 := x1627.trans x1632
  obtain ⟨h1648, e1649⟩ : ∃ zq, zq = h1629.setIfInBounds b1594 (.cells #[(vS nm), (vI (rt)), (vI (dl)), (Value.slice a1634 (xs.length) (c1635))] 39 (0, 0)) := ⟨_, rfl⟩
  have f1650 := set_same e1649 f1643
  have f1652 := set_other e1649 f1644 n1607.symm
  have p1654 := p1631.keep fun b r hb q => (Chg.set e1649).same b r q (n1639 b hb)
  have x1655 := Ext.setNew x1647 e1649 o1599
  obtain ⟨h1656, e1657⟩ : ∃ zq, zq = h1648.setIfInBounds b1604 (.cells #[(vS nm), (vI (rt)), (vI (dl)), (Value.slice a1634 (xs.length) (c1635))] 39 (0, 0)) := ⟨_, rfl⟩
  have f1658 := set_same e1657 f1652
  have p1662 := p1654.keep fun b r hb q => (Chg.set e1657).same b r q (n1640 b hb)
  have x1663 := Ext.setNew x1655 e1657 o1610
  exact hCall_of (n := 200) (T := ⟨fun r i => match r, i with | 0, 0 => some ((vP b1594 0), h1592) | 0, 1 => some ((vP b1604 0), h1602) | 1, 0 => some ((Value.slice (some ⟨b1616, 0, none⟩) 0 0), h1614) | 1, 2 => some ((Value.slice sa (xs.length) (cp)), h1614) | 1, 3 => some ((Value.slice a1634 (xs.length) (c1635)), h1629) | 1, 5 => some (undef, h1648) | 2, 0 => some ((Value.agg #[(vS nm), (vI (rt)), (vI (dl)), (Value.slice a1634 (xs.length) (c1635))]), h1648) | 2, 1 => some (undef, h1656) | _, _ => none, fun _ => none, some [(Value.agg #[(vS nm), (vI (rt)), (vI (dl)), (Value.slice a1634 (xs.length) (c1635))])]⟩)
    (A := ((vP b1594 0) = (Value.pointer (some ⟨h.size, 0, none⟩)) ∧ h1592 = h.push (.cells #[(vS nm), (vI (rt)), (vI (dl)), (Value.slice sa (xs.length) (cp))] 39 (0, 0))) ∧ ((vP b1604 0) = (Value.pointer (some ⟨h1592.size, 0, none⟩)) ∧ h1602 = h1592.push (.cells #[(vS .empty), (vI 0), (vI 0), (Value.slice none 0 0)] 39 (0, 0))) ∧ ((Value.slice (some ⟨b1616, 0, none⟩) 0 0) = (Value.slice (some ⟨h1602.size, 0, none⟩) 0 0) ∧ h1614 = h1602.push (.cells #[] 74 (0, 0))) ∧ (loadT Try.prog h1614 37 (vP b1594 3) = some (Value.slice sa (xs.length) (cp)) ∧ h1614 = h1614) ∧ appendA Try.prog h1614 #[37, 37] #[(Value.slice (some ⟨b1616, 0, none⟩) 0 0), (Value.slice sa (xs.length) (cp))] = some ((Value.slice a1634 (xs.length) (c1635)), h1629) ∧ (storeT Try.prog h1629 37 (vP b1594 3) (Value.slice a1634 (xs.length) (c1635)) = some h1648 ∧ (undef : Value) = undef) ∧ (loadT Try.prog h1648 39 (vP b1594 0) = some (Value.agg #[(vS nm), (vI (rt)), (vI (dl)), (Value.slice a1634 (xs.length) (c1635))]) ∧ h1648 = h1648) ∧ (storeT Try.prog h1648 39 (vP b1604 0) (Value.agg #[(vS nm), (vI (rt)), (vI (dl)), (Value.slice a1634 (xs.length) (c1635))]) = some h1656 ∧ (undef : Value) = undef) ∧ (loadT Try.prog h1656 39 (vP b1604 0) = some (Value.agg #[(vS nm), (vI (rt)), (vI (dl)), (Value.slice a1634 (xs.length) (c1635))]) ∧ True) ∧ (fun v h1 => ∃ w cw, v = .agg #[.string nm, .int .i64 rt, .int .i64 dl, .slice w xs.length cw] ∧ OwnAt h1 74 stepc xs (.slice w xs.length cw) ∧ Ext h h1 ∧ ∀ b, blk (.slice w xs.length cw) b → h.size ≤ b) (Value.agg #[(vS nm), (vI (rt)), (vI (dl)), (Value.slice a1634 (xs.length) (c1635))]) h1656) (by kernel_rfl) ⟨⟨by rw [eb1595], e1593⟩, ⟨by rw [eb1605], e1603⟩, ⟨by rw [eb1617], e1615⟩, ⟨load_cell agg37 f1624 rfl, rfl⟩, e1630, ⟨by rw [e1649]; exact store_cells size37 rfl f1643 (by decide) (by simp) rfl (by kernel_rfl), rfl⟩, ⟨load_agg agg39 size39 f1650 (by simp) (by kernel_rfl), rfl⟩, ⟨by rw [e1657]; exact store_cells size39 rfl f1652 (by decide) (by simp) rfl (by kernel_rfl), rfl⟩, ⟨load_agg agg39 size39 f1658 (by simp) (by kernel_rfl), trivial⟩, ⟨_, _, rfl, p1662, x1663, o1642⟩⟩
set_option maxHeartbeats 4000000 in
theorem copied_ok (h : Heap) (c : CmdM) (sa : Option Addr) (cp : Nat) (hl : SliceAt h stepc 2 c.steps (.slice sa c.steps.length cp)) (hlen : c.steps.length ≤ 1048576) : WCall Try.prog 48 #[(Value.agg (cmdc c (Value.slice sa (c.steps.length) (cp))))] h (fun v h1 => ∃ w cw, v = (Value.agg (cmdc c (Value.slice w (c.steps.length) (cw)))) ∧ OwnAt h1 74 stepc c.steps (.slice w c.steps.length cw) ∧ Ext h h1 ∧ ∀ b, blk (.slice w c.steps.length cw) b → h.size ≤ b) := by
  obtain ⟨b1666, eb1667⟩ : ∃ zq, zq = h.size := ⟨_, rfl⟩
  obtain ⟨h1664, e1665⟩ : ∃ zq, zq = h.push (.cells #[(vI (c.kind)), (vI (c.call)), (vI (c.saga)), (vI (c.e1)), (vI (c.e2)), (vI (c.e3)), (vS c.key), (vI (c.delta)), (vI (c.move)), (vS c.rf), (vS c.rt), (vI (c.group)), (vS c.dn), (vI (c.dr)), (vI (c.dd)), (Value.slice sa (c.steps.length) (cp)), (vI (c.i1)), (vI (c.i2)), (vI (c.i3)), (vI (c.im)), (vB c.ii), (vI (c.ig)), (vI (c.res)), (vS c.data)] 43 (0, 0)) := ⟨_, rfl⟩
  have f1668 := push_new e1665
  rw [← eb1667] at f1668
  have x1670 : Ext h h1664 := by rw [e1665]; exact Ext.push _ _
  have o1671 : h.size ≤ b1666 := by have := (Ext.refl h).size; omega
  have x1672 := (Ext.refl h).trans x1670
  obtain ⟨b1675, eb1676⟩ : ∃ zq, zq = h1664.size := ⟨_, rfl⟩
  obtain ⟨h1673, e1674⟩ : ∃ zq, zq = h1664.push (.cells #[(vI 0), (vI 0), (vI 0), (vI 0), (vI 0), (vI 0), (vS .empty), (vI 0), (vI 0), (vS .empty), (vS .empty), (vI 0), (vS .empty), (vI 0), (vI 0), (Value.slice none 0 0), (vI 0), (vI 0), (vI 0), (vI 0), (vB false), (vI 0), (vI 0), (vS .empty)] 43 (0, 0)) := ⟨_, rfl⟩
  have f1677 := push_new e1674
  rw [← eb1676] at f1677
  have n1678 : b1675 ≠ b1666 := by have := row_lt f1668; omega
  have x1680 : Ext h1664 h1673 := by rw [e1674]; exact Ext.push _ _
  have o1681 : h.size ≤ b1675 := by have := x1672.size; omega
  have f1682 := x1680 _ _ f1668
  have x1683 := x1672.trans x1680
  obtain ⟨_, hh1688, sn1689, w1684, c1685, rfl, o1686, x1690, b1687⟩ := copy26 h1673 c.steps c.dn (c.dr) (c.dd) _ _ (hl.keep fun b r _ q => x1683 b r q) (by omega)
  have f1691 := x1690 _ _ f1682
  have f1692 := x1690 _ _ f1677
  have x1693 := x1683.trans x1690
  have z1695 : h.size ≤ h1673.size := x1683.size
  have n1696 : ∀ zz, blk (Value.slice w1684 (c.steps.length) (c1685)) zz → ¬ zz = b1666 := fun zz hz ez => by have := b1687 zz hz; have := row_lt f1682; omega
  have n1697 : ∀ zz, blk (Value.slice w1684 (c.steps.length) (c1685)) zz → ¬ zz = b1675 := fun zz hz ez => by have := b1687 zz hz; have := row_lt f1677; omega
  have o1699 : ∀ zz, blk (Value.slice w1684 (c.steps.length) (c1685)) zz → h.size ≤ zz := fun zz hz => by have := b1687 zz hz; omega
  obtain ⟨h1700, e1701⟩ : ∃ zq, zq = hh1688.setIfInBounds b1666 (.cells #[(vI (c.kind)), (vI (c.call)), (vI (c.saga)), (vI (c.e1)), (vI (c.e2)), (vI (c.e3)), (vS c.key), (vI (c.delta)), (vI (c.move)), (vS c.rf), (vS c.rt), (vI (c.group)), (vS c.dn), (vI (c.dr)), (vI (c.dd)), (Value.slice w1684 (c.steps.length) (c1685)), (vI (c.i1)), (vI (c.i2)), (vI (c.i3)), (vI (c.im)), (vB c.ii), (vI (c.ig)), (vI (c.res)), (vS c.data)] 43 (0, 0)) := ⟨_, rfl⟩
  have f1702 := set_same e1701 f1691
  have f1704 := set_other e1701 f1692 n1678.symm
  have p1705 := o1686.keep fun b r hb q => (Chg.set e1701).same b r q (n1696 b hb)
  have x1706 := Ext.setNew x1693 e1701 o1671
  obtain ⟨h1707, e1708⟩ : ∃ zq, zq = h1700.setIfInBounds b1675 (.cells #[(vI (c.kind)), (vI (c.call)), (vI (c.saga)), (vI (c.e1)), (vI (c.e2)), (vI (c.e3)), (vS c.key), (vI (c.delta)), (vI (c.move)), (vS c.rf), (vS c.rt), (vI (c.group)), (vS c.dn), (vI (c.dr)), (vI (c.dd)), (Value.slice w1684 (c.steps.length) (c1685)), (vI (c.i1)), (vI (c.i2)), (vI (c.i3)), (vI (c.im)), (vB c.ii), (vI (c.ig)), (vI (c.res)), (vS c.data)] 43 (0, 0)) := ⟨_, rfl⟩
  have f1709 := set_same e1708 f1704
  have p1712 := p1705.keep fun b r hb q => (Chg.set e1708).same b r q (n1697 b hb)
  have x1713 := Ext.setNew x1706 e1708 o1681
  exact hCall_of (n := 200) (T := ⟨fun r i => match r, i with | 0, 0 => some ((vP b1666 0), h1664) | 0, 1 => some ((vP b1675 0), h1673) | 1, 1 => some ((Value.agg #[(vS c.dn), (vI (c.dr)), (vI (c.dd)), (Value.slice sa (c.steps.length) (cp))]), h1673) | 1, 2 => some ((Value.agg #[(vS c.dn), (vI (c.dr)), (vI (c.dd)), (Value.slice w1684 (c.steps.length) (c1685))]), hh1688) | 1, 4 => some (undef, h1700) | 2, 0 => some ((Value.agg (cmdc c (Value.slice w1684 (c.steps.length) (c1685)))), h1700) | 2, 1 => some (undef, h1707) | _, _ => none, fun _ => none, some [(Value.agg (cmdc c (Value.slice w1684 (c.steps.length) (c1685))))]⟩)
    (A := ((vP b1666 0) = (Value.pointer (some ⟨h.size, 0, none⟩)) ∧ h1664 = h.push (.cells #[(vI (c.kind)), (vI (c.call)), (vI (c.saga)), (vI (c.e1)), (vI (c.e2)), (vI (c.e3)), (vS c.key), (vI (c.delta)), (vI (c.move)), (vS c.rf), (vS c.rt), (vI (c.group)), (vS c.dn), (vI (c.dr)), (vI (c.dd)), (Value.slice sa (c.steps.length) (cp)), (vI (c.i1)), (vI (c.i2)), (vI (c.i3)), (vI (c.im)), (vB c.ii), (vI (c.ig)), (vI (c.res)), (vS c.data)] 43 (0, 0))) ∧ ((vP b1675 0) = (Value.pointer (some ⟨h1664.size, 0, none⟩)) ∧ h1673 = h1664.push (.cells #[(vI 0), (vI 0), (vI 0), (vI 0), (vI 0), (vI 0), (vS .empty), (vI 0), (vI 0), (vS .empty), (vS .empty), (vI 0), (vS .empty), (vI 0), (vI 0), (Value.slice none 0 0), (vI 0), (vI 0), (vI 0), (vI 0), (vB false), (vI 0), (vI 0), (vS .empty)] 43 (0, 0))) ∧ (loadT Try.prog h1673 39 (vP b1666 12) = some (Value.agg #[(vS c.dn), (vI (c.dr)), (vI (c.dd)), (Value.slice sa (c.steps.length) (cp))]) ∧ h1673 = h1673) ∧ SoundCall Try.prog 56 #[(Value.agg #[(vS c.dn), (vI (c.dr)), (vI (c.dd)), (Value.slice sa (c.steps.length) (cp))])] h1673 (Value.agg #[(vS c.dn), (vI (c.dr)), (vI (c.dd)), (Value.slice w1684 (c.steps.length) (c1685))]) hh1688 ∧ (storeT Try.prog hh1688 39 (vP b1666 12) (Value.agg #[(vS c.dn), (vI (c.dr)), (vI (c.dd)), (Value.slice w1684 (c.steps.length) (c1685))]) = some h1700 ∧ (undef : Value) = undef) ∧ (loadT Try.prog h1700 43 (vP b1666 0) = some (Value.agg (cmdc c (Value.slice w1684 (c.steps.length) (c1685)))) ∧ h1700 = h1700) ∧ (storeT Try.prog h1700 43 (vP b1675 0) (Value.agg (cmdc c (Value.slice w1684 (c.steps.length) (c1685)))) = some h1707 ∧ (undef : Value) = undef) ∧ (loadT Try.prog h1707 43 (vP b1675 0) = some (Value.agg (cmdc c (Value.slice w1684 (c.steps.length) (c1685)))) ∧ True) ∧ (fun v h1 => ∃ w cw, v = (Value.agg (cmdc c (Value.slice w (c.steps.length) (cw)))) ∧ OwnAt h1 74 stepc c.steps (.slice w c.steps.length cw) ∧ Ext h h1 ∧ ∀ b, blk (.slice w c.steps.length cw) b → h.size ≤ b) (Value.agg (cmdc c (Value.slice w1684 (c.steps.length) (c1685)))) h1707) (by kernel_rfl) ⟨⟨by rw [eb1667], e1665⟩, ⟨by rw [eb1676], e1674⟩, ⟨load_agg agg39 size39 f1682 (by simp) (by kernel_rfl), rfl⟩, sn1689, ⟨by rw [e1701]; exact store_cells size39 rfl f1691 (by decide) (by simp) rfl (by kernel_rfl), rfl⟩, ⟨load_agg agg43 size43 f1702 (by simp) (by kernel_rfl), rfl⟩, ⟨by rw [e1708]; exact store_cells size43 rfl f1704 (by decide) (by simp) rfl (by kernel_rfl), rfl⟩, ⟨load_agg agg43 size43 f1709 (by simp) (by kernel_rfl), trivial⟩, ⟨_, _, rfl, p1712, x1713, o1699⟩⟩
set_option maxHeartbeats 4000000 in
theorem check57 (h : Heap) (e m : Int) (d : ByteArray) : WCall Try.prog 57 #[(Value.agg #[(vI (e)), (vI (m)), (vS d)])] h (fun v h1 => v = .int .i64 (chkR e m d) ∧ Ext h h1) := by
  obtain ⟨b1716, eb1717⟩ : ∃ zq, zq = h.size := ⟨_, rfl⟩
  obtain ⟨h1714, e1715⟩ : ∃ zq, zq = h.push (.cells #[(vI (e)), (vI (m)), (vS d)] 45 (0, 0)) := ⟨_, rfl⟩
  have f1718 := push_new e1715
  rw [← eb1717] at f1718
  have x1719 : Ext h h1714 := by rw [e1715]; exact Ext.push _ _
  have o1720 : h.size ≤ b1716 := by have := (Ext.refl h).size; omega
  have x1721 := (Ext.refl h).trans x1719
  by_cases c1722 : ((e) : Int) < 0
  · exact hCall_of (n := 200) (T := ⟨fun r i => match r, i with | 0, 0 => some ((vP b1716 0), h1714) | 1, 1 => some ((vI (e)), h1714) | 1, 2 => some ((vB true), h1714) | _, _ => none, fun _ => none, none⟩)
      (A := ((vP b1716 0) = (Value.pointer (some ⟨h.size, 0, none⟩)) ∧ h1714 = h.push (.cells #[(vI (e)), (vI (m)), (vS d)] 45 (0, 0))) ∧ (loadT Try.prog h1714 28 (vP b1716 0) = some (vI (e)) ∧ h1714 = h1714) ∧ (binA Try.prog .lss 28 (vI (e)) (vI 0) = some (vB true) ∧ h1714 = h1714) ∧ (fun v h1 => v = .int .i64 (chkR e m d) ∧ Ext h h1) (vI 2) h1714) (by kernel_rfl) ⟨⟨by rw [eb1717], e1715⟩, ⟨load_cell agg28 f1718 rfl, rfl⟩, ⟨cmp_lss (decide_eq_true c1722), rfl⟩, ⟨by congr 1; unfold chkR; (repeat' split) <;> omega, x1721⟩⟩
  · by_cases c1723 : (18 : Int) < (e)
    · exact hCall_of (n := 200) (T := ⟨fun r i => match r, i with | 0, 0 => some ((vP b1716 0), h1714) | 1, 1 => some ((vI (e)), h1714) | 1, 2 => some ((vB false), h1714) | 1, 5 => some ((vI (e)), h1714) | 1, 6 => some ((vB true), h1714) | _, _ => none, fun _ => none, none⟩)
        (A := ((vP b1716 0) = (Value.pointer (some ⟨h.size, 0, none⟩)) ∧ h1714 = h.push (.cells #[(vI (e)), (vI (m)), (vS d)] 45 (0, 0))) ∧ (loadT Try.prog h1714 28 (vP b1716 0) = some (vI (e)) ∧ h1714 = h1714) ∧ (binA Try.prog .lss 28 (vI (e)) (vI 0) = some (vB false) ∧ h1714 = h1714) ∧ (loadT Try.prog h1714 28 (vP b1716 0) = some (vI (e)) ∧ h1714 = h1714) ∧ (binA Try.prog .gtr 28 (vI (e)) (vI 18) = some (vB true) ∧ h1714 = h1714) ∧ (fun v h1 => v = .int .i64 (chkR e m d) ∧ Ext h h1) (vI 2) h1714) (by kernel_rfl) ⟨⟨by rw [eb1717], e1715⟩, ⟨load_cell agg28 f1718 rfl, rfl⟩, ⟨cmp_lss (decide_eq_false c1722), rfl⟩, ⟨load_cell agg28 f1718 rfl, rfl⟩, ⟨cmp_gtr (decide_eq_true c1723), rfl⟩, ⟨by congr 1; unfold chkR; (repeat' split) <;> omega, x1721⟩⟩
    · by_cases c1724 : ((m) : Int) < (-1152921504606846976)
      · exact hCall_of (n := 200) (T := ⟨fun r i => match r, i with | 0, 0 => some ((vP b1716 0), h1714) | 1, 1 => some ((vI (e)), h1714) | 1, 2 => some ((vB false), h1714) | 1, 5 => some ((vI (e)), h1714) | 1, 6 => some ((vB false), h1714) | 1, 10 => some ((vI (m)), h1714) | 1, 11 => some ((vB true), h1714) | _, _ => none, fun _ => none, none⟩)
          (A := ((vP b1716 0) = (Value.pointer (some ⟨h.size, 0, none⟩)) ∧ h1714 = h.push (.cells #[(vI (e)), (vI (m)), (vS d)] 45 (0, 0))) ∧ (loadT Try.prog h1714 28 (vP b1716 0) = some (vI (e)) ∧ h1714 = h1714) ∧ (binA Try.prog .lss 28 (vI (e)) (vI 0) = some (vB false) ∧ h1714 = h1714) ∧ (loadT Try.prog h1714 28 (vP b1716 0) = some (vI (e)) ∧ h1714 = h1714) ∧ (binA Try.prog .gtr 28 (vI (e)) (vI 18) = some (vB false) ∧ h1714 = h1714) ∧ (loadT Try.prog h1714 2 (vP b1716 1) = some (vI (m)) ∧ h1714 = h1714) ∧ (binA Try.prog .lss 2 (vI (m)) (vI (-1152921504606846976)) = some (vB true) ∧ h1714 = h1714) ∧ (fun v h1 => v = .int .i64 (chkR e m d) ∧ Ext h h1) (vI 2) h1714) (by kernel_rfl) ⟨⟨by rw [eb1717], e1715⟩, ⟨load_cell agg28 f1718 rfl, rfl⟩, ⟨cmp_lss (decide_eq_false c1722), rfl⟩, ⟨load_cell agg28 f1718 rfl, rfl⟩, ⟨cmp_gtr (decide_eq_false c1723), rfl⟩, ⟨load_cell agg2 f1718 rfl, rfl⟩, ⟨cmp_lss (decide_eq_true c1724), rfl⟩, ⟨by congr 1; unfold chkR; (repeat' split) <;> omega, x1721⟩⟩
      · by_cases c1725 : (1152921504606846976 : Int) < (m)
        · exact hCall_of (n := 200) (T := ⟨fun r i => match r, i with | 0, 0 => some ((vP b1716 0), h1714) | 1, 1 => some ((vI (e)), h1714) | 1, 2 => some ((vB false), h1714) | 1, 5 => some ((vI (e)), h1714) | 1, 6 => some ((vB false), h1714) | 1, 10 => some ((vI (m)), h1714) | 1, 11 => some ((vB false), h1714) | 1, 15 => some ((vI (m)), h1714) | 1, 16 => some ((vB true), h1714) | _, _ => none, fun _ => none, none⟩)
            (A := ((vP b1716 0) = (Value.pointer (some ⟨h.size, 0, none⟩)) ∧ h1714 = h.push (.cells #[(vI (e)), (vI (m)), (vS d)] 45 (0, 0))) ∧ (loadT Try.prog h1714 28 (vP b1716 0) = some (vI (e)) ∧ h1714 = h1714) ∧ (binA Try.prog .lss 28 (vI (e)) (vI 0) = some (vB false) ∧ h1714 = h1714) ∧ (loadT Try.prog h1714 28 (vP b1716 0) = some (vI (e)) ∧ h1714 = h1714) ∧ (binA Try.prog .gtr 28 (vI (e)) (vI 18) = some (vB false) ∧ h1714 = h1714) ∧ (loadT Try.prog h1714 2 (vP b1716 1) = some (vI (m)) ∧ h1714 = h1714) ∧ (binA Try.prog .lss 2 (vI (m)) (vI (-1152921504606846976)) = some (vB false) ∧ h1714 = h1714) ∧ (loadT Try.prog h1714 2 (vP b1716 1) = some (vI (m)) ∧ h1714 = h1714) ∧ (binA Try.prog .gtr 2 (vI (m)) (vI 1152921504606846976) = some (vB true) ∧ h1714 = h1714) ∧ (fun v h1 => v = .int .i64 (chkR e m d) ∧ Ext h h1) (vI 2) h1714) (by kernel_rfl) ⟨⟨by rw [eb1717], e1715⟩, ⟨load_cell agg28 f1718 rfl, rfl⟩, ⟨cmp_lss (decide_eq_false c1722), rfl⟩, ⟨load_cell agg28 f1718 rfl, rfl⟩, ⟨cmp_gtr (decide_eq_false c1723), rfl⟩, ⟨load_cell agg2 f1718 rfl, rfl⟩, ⟨cmp_lss (decide_eq_false c1724), rfl⟩, ⟨load_cell agg2 f1718 rfl, rfl⟩, ⟨cmp_gtr (decide_eq_true c1725), rfl⟩, ⟨by congr 1; unfold chkR; (repeat' split) <;> omega, x1721⟩⟩
        · by_cases c1726 : (65536 : Int) < ((d.size : Nat))
          · exact hCall_of (n := 200) (T := ⟨fun r i => match r, i with | 0, 0 => some ((vP b1716 0), h1714) | 1, 1 => some ((vI (e)), h1714) | 1, 2 => some ((vB false), h1714) | 1, 5 => some ((vI (e)), h1714) | 1, 6 => some ((vB false), h1714) | 1, 10 => some ((vI (m)), h1714) | 1, 11 => some ((vB false), h1714) | 1, 15 => some ((vI (m)), h1714) | 1, 16 => some ((vB false), h1714) | 1, 20 => some ((vS d), h1714) | 1, 22 => some ((vB true), h1714) | _, _ => none, fun _ => none, none⟩)
              (A := ((vP b1716 0) = (Value.pointer (some ⟨h.size, 0, none⟩)) ∧ h1714 = h.push (.cells #[(vI (e)), (vI (m)), (vS d)] 45 (0, 0))) ∧ (loadT Try.prog h1714 28 (vP b1716 0) = some (vI (e)) ∧ h1714 = h1714) ∧ (binA Try.prog .lss 28 (vI (e)) (vI 0) = some (vB false) ∧ h1714 = h1714) ∧ (loadT Try.prog h1714 28 (vP b1716 0) = some (vI (e)) ∧ h1714 = h1714) ∧ (binA Try.prog .gtr 28 (vI (e)) (vI 18) = some (vB false) ∧ h1714 = h1714) ∧ (loadT Try.prog h1714 2 (vP b1716 1) = some (vI (m)) ∧ h1714 = h1714) ∧ (binA Try.prog .lss 2 (vI (m)) (vI (-1152921504606846976)) = some (vB false) ∧ h1714 = h1714) ∧ (loadT Try.prog h1714 2 (vP b1716 1) = some (vI (m)) ∧ h1714 = h1714) ∧ (binA Try.prog .gtr 2 (vI (m)) (vI 1152921504606846976) = some (vB false) ∧ h1714 = h1714) ∧ (loadT Try.prog h1714 9 (vP b1716 2) = some (vS d) ∧ h1714 = h1714) ∧ (binA Try.prog .gtr 3 (vI ((d.size : Nat))) (vI 65536) = some (vB true) ∧ h1714 = h1714) ∧ (fun v h1 => v = .int .i64 (chkR e m d) ∧ Ext h h1) (vI 2) h1714) (by kernel_rfl) ⟨⟨by rw [eb1717], e1715⟩, ⟨load_cell agg28 f1718 rfl, rfl⟩, ⟨cmp_lss (decide_eq_false c1722), rfl⟩, ⟨load_cell agg28 f1718 rfl, rfl⟩, ⟨cmp_gtr (decide_eq_false c1723), rfl⟩, ⟨load_cell agg2 f1718 rfl, rfl⟩, ⟨cmp_lss (decide_eq_false c1724), rfl⟩, ⟨load_cell agg2 f1718 rfl, rfl⟩, ⟨cmp_gtr (decide_eq_false c1725), rfl⟩, ⟨load_cell agg9 f1718 rfl, rfl⟩, ⟨cmp_gtr (decide_eq_true c1726), rfl⟩, ⟨by congr 1; unfold chkR; (repeat' split) <;> omega, x1721⟩⟩
          · exact hCall_of (n := 200) (T := ⟨fun r i => match r, i with | 0, 0 => some ((vP b1716 0), h1714) | 1, 1 => some ((vI (e)), h1714) | 1, 2 => some ((vB false), h1714) | 1, 5 => some ((vI (e)), h1714) | 1, 6 => some ((vB false), h1714) | 1, 10 => some ((vI (m)), h1714) | 1, 11 => some ((vB false), h1714) | 1, 15 => some ((vI (m)), h1714) | 1, 16 => some ((vB false), h1714) | 1, 20 => some ((vS d), h1714) | 1, 22 => some ((vB false), h1714) | _, _ => none, fun _ => none, none⟩)
              (A := ((vP b1716 0) = (Value.pointer (some ⟨h.size, 0, none⟩)) ∧ h1714 = h.push (.cells #[(vI (e)), (vI (m)), (vS d)] 45 (0, 0))) ∧ (loadT Try.prog h1714 28 (vP b1716 0) = some (vI (e)) ∧ h1714 = h1714) ∧ (binA Try.prog .lss 28 (vI (e)) (vI 0) = some (vB false) ∧ h1714 = h1714) ∧ (loadT Try.prog h1714 28 (vP b1716 0) = some (vI (e)) ∧ h1714 = h1714) ∧ (binA Try.prog .gtr 28 (vI (e)) (vI 18) = some (vB false) ∧ h1714 = h1714) ∧ (loadT Try.prog h1714 2 (vP b1716 1) = some (vI (m)) ∧ h1714 = h1714) ∧ (binA Try.prog .lss 2 (vI (m)) (vI (-1152921504606846976)) = some (vB false) ∧ h1714 = h1714) ∧ (loadT Try.prog h1714 2 (vP b1716 1) = some (vI (m)) ∧ h1714 = h1714) ∧ (binA Try.prog .gtr 2 (vI (m)) (vI 1152921504606846976) = some (vB false) ∧ h1714 = h1714) ∧ (loadT Try.prog h1714 9 (vP b1716 2) = some (vS d) ∧ h1714 = h1714) ∧ (binA Try.prog .gtr 3 (vI ((d.size : Nat))) (vI 65536) = some (vB false) ∧ h1714 = h1714) ∧ (fun v h1 => v = .int .i64 (chkR e m d) ∧ Ext h h1) (vI 0) h1714) (by kernel_rfl) ⟨⟨by rw [eb1717], e1715⟩, ⟨load_cell agg28 f1718 rfl, rfl⟩, ⟨cmp_lss (decide_eq_false c1722), rfl⟩, ⟨load_cell agg28 f1718 rfl, rfl⟩, ⟨cmp_gtr (decide_eq_false c1723), rfl⟩, ⟨load_cell agg2 f1718 rfl, rfl⟩, ⟨cmp_lss (decide_eq_false c1724), rfl⟩, ⟨load_cell agg2 f1718 rfl, rfl⟩, ⟨cmp_gtr (decide_eq_false c1725), rfl⟩, ⟨load_cell agg9 f1718 rfl, rfl⟩, ⟨cmp_gtr (decide_eq_false c1726), rfl⟩, ⟨by congr 1; unfold chkR; (repeat' split) <;> omega, x1721⟩⟩
set_option maxHeartbeats 4000000 in
theorem check49 (h : Heap) (e m : Int) (d : ByteArray) : WCall Try.prog 49 #[(Value.agg #[(vI (e)), (vI (m)), (vS d)])] h (fun v h1 => v = .int .i64 (chkR e m d) ∧ Ext h h1) := by
  obtain ⟨b1729, eb1730⟩ : ∃ zq, zq = h.size := ⟨_, rfl⟩
  obtain ⟨h1727, e1728⟩ : ∃ zq, zq = h.push (.cells #[(vI (e)), (vI (m)), (vS d)] 45 (0, 0)) := ⟨_, rfl⟩
  have f1731 := push_new e1728
  rw [← eb1730] at f1731
  have x1732 : Ext h h1727 := by rw [e1728]; exact Ext.push _ _
  have o1733 : h.size ≤ b1729 := by have := (Ext.refl h).size; omega
  have x1734 := (Ext.refl h).trans x1732
  obtain ⟨_, hh1735, sn1736, rfl, x1737⟩ := check57 h1727 (e) (m) d
  have x1739 := x1734.trans x1737
  exact hCall_of (n := 200) (T := ⟨fun r i => match r, i with | 0, 0 => some ((vP b1729 0), h1727) | 1, 0 => some ((Value.agg #[(vI (e)), (vI (m)), (vS d)]), h1727) | 1, 1 => some ((vI (chkR (e) (m) d)), hh1735) | _, _ => none, fun _ => none, none⟩)
    (A := ((vP b1729 0) = (Value.pointer (some ⟨h.size, 0, none⟩)) ∧ h1727 = h.push (.cells #[(vI (e)), (vI (m)), (vS d)] 45 (0, 0))) ∧ (loadT Try.prog h1727 45 (vP b1729 0) = some (Value.agg #[(vI (e)), (vI (m)), (vS d)]) ∧ h1727 = h1727) ∧ SoundCall Try.prog 57 #[(Value.agg #[(vI (e)), (vI (m)), (vS d)])] h1727 (vI (chkR (e) (m) d)) hh1735 ∧ (fun v h1 => v = .int .i64 (chkR e m d) ∧ Ext h h1) (vI (chkR (e) (m) d)) hh1735) (by kernel_rfl) ⟨⟨by rw [eb1730], e1728⟩, ⟨load_agg agg45 size45 f1731 (by simp) (by kernel_rfl), rfl⟩, sn1736, ⟨rfl, x1739⟩⟩
set_option maxHeartbeats 4000000 in
theorem rvalid_ok (h : Heap) {t : Nat} {c r hh e : Value} {fr : Nat × Nat} (ht : h[t]? = some (.cells #[.bool true, c, r, hh, e] 90 fr)) : WCall Try.prog 47 #[(vP t 0)] h (fun v h1 => v = .bool true ∧ h = h1) := by
  exact hCall_of (n := 200) (T := ⟨fun r i => match r, i with | 1, 6 => some ((vB true), h) | _, _ => none, fun _ => none, none⟩)
    (A := (loadT Try.prog h 4 (vP t 0) = some (vB true) ∧ h = h) ∧ (fun v h1 => v = .bool true ∧ h = h1) (vB true) h) (by kernel_rfl) ⟨⟨load_cell agg4 ht rfl, rfl⟩, ⟨rfl, rfl⟩⟩
end C36
