/- The runs of BudgetStarts, BudgetCounts, BudgetTimes and BudgetNexts. -/
import Derived.Test.YtbhklepkcgbniaaDoorKw
import Derived.KernelRfl
open Go Go.AM Go.Proofs
namespace C27
set_option maxRecDepth 10000 in
set_option maxHeartbeats 4000000 in
theorem law_starts (h : Heap) (d : DefM) (sa : Option Addr) (cp : Nat) (hl : LAt h stepc 2 d.xs (.slice sa d.xs.length cp)) (hlen : d.xs.length ≤ 9223372036854775807) (hnm : d.name.size ≤ 9223372036854775807) (hks : ∀ x ∈ d.xs, x.key.size ≤ 9223372036854775807) (n : Int) (hn9 : -9223372036854775808 ≤ n ∧ n ≤ 9223372036854775807) : WCall Tryd.prog 3 #[(Value.agg #[(vS d.name), (vI (d.rt)), (vI (d.dl)), (Value.slice sa (d.xs.length) (cp))]), (vI (n))] h (fun v h1 => v = .bool true ∧ Ext h h1) := by
  suffices H : ∀ K : Value → Heap → Prop, (∀ v h1, (fun v h1 => v = .bool true ∧ Ext h h1) v h1 → K v h1) → WCall Tryd.prog 3 #[(Value.agg #[(vS d.name), (vI (d.rt)), (vI (d.dl)), (Value.slice sa (d.xs.length) (cp))]), (vI (n))] h K from H _ fun _ _ q => q
  intro K hK
  refine wcall_at { tmps := #[(vA #[(vS d.name), (vI d.rt), (vI d.dl), (vL sa d.xs.length cp)]), (vI n), vZ, vZ, vZ, vZ, vZ, vZ, vZ, vZ, vZ, vZ, vZ, vZ, vZ, vZ, vZ, vZ, vZ, vZ, vZ, vZ, vZ, vZ, vZ, vZ, vZ, vZ, vZ, vZ, vZ, vZ, vZ, vZ, vZ, vZ], defers := [] } (by kernel_rfl) ?_
  obtain ⟨b1479, eb1480⟩ : ∃ zq, zq = h.size := ⟨_, rfl⟩
  obtain ⟨h1477, e1478⟩ : ∃ zq, zq = h.push (.cells #[(vS d.name), (vI (d.rt)), (vI (d.dl)), (Value.slice sa (d.xs.length) (cp))] 24 (0, 0)) := ⟨_, rfl⟩
  have f1481 := push_new e1478
  rw [← eb1480] at f1481
  have x1483 : Ext h h1477 := by rw [e1478]; exact Ext.push _ _
  have o1484 : h.size ≤ b1479 := by have := (Ext.refl h).size; omega
  have x1485 := (Ext.refl h).trans x1483
  obtain ⟨_, hh1487, sn1488, q1486, rfl, x1489⟩ := few_ok h1477 d _ _ (hl.keep fun b r _ q => x1485 b r q) (by omega)
  have f1490 := x1489 _ _ f1481
  have x1491 := x1485.trans x1489
  rcases Bool.eq_false_or_eq_true (q1486) with c1492 | c1492
  · obtain ⟨_, hh1493, sn1494, rfl, x1495⟩ := start_ok hh1487 d _ _ (hl.keep fun b r _ q => x1491 b r q) (by omega) n
    have f1496 := x1495 _ _ f1490
    have x1497 := x1491.trans x1495
    obtain ⟨b1500, eb1501⟩ : ∃ zq, zq = hh1493.size := ⟨_, rfl⟩
    obtain ⟨h1498, e1499⟩ : ∃ zq, zq = hh1493.push (.cells #[(vI 0), (vI 0)] 28 (0, 0)) := ⟨_, rfl⟩
    have f1502 := push_new e1499
    rw [← eb1501] at f1502
    have n1503 : b1500 ≠ b1479 := by have := row_lt f1496; omega
    have x1505 : Ext hh1493 h1498 := by rw [e1499]; exact Ext.push _ _
    have o1506 : h.size ≤ b1500 := by have := x1497.size; omega
    have f1507 := x1505 _ _ f1496
    have x1508 := x1497.trans x1505
    obtain ⟨h1509, e1510⟩ : ∃ zq, zq = h1498.setIfInBounds b1500 (.cells #[(vI 0), (vI (stS d n))] 28 (0, 0)) := ⟨_, rfl⟩
    have f1511 := set_same e1510 f1502
    have f1512 := set_other e1510 f1507 n1503
    have x1514 := Ext.setNew x1508 e1510 o1506
    obtain ⟨_, hh1515, sn1516, rfl, x1517⟩ := rstart_ok h1509 d _ _ (hl.keep fun b r _ q => x1514 b r q) (by omega) hnm hks n
    have f1519 := x1517 _ _ f1511
    have x1520 := x1514.trans x1517
    obtain ⟨b1523, eb1524⟩ : ∃ zq, zq = hh1515.size := ⟨_, rfl⟩
    obtain ⟨h1521, e1522⟩ : ∃ zq, zq = hh1515.push (.cells #[(vI 0), (vI 0)] 32 (0, 0)) := ⟨_, rfl⟩
    have f1525 := push_new e1522
    rw [← eb1524] at f1525
    have n1527 : b1523 ≠ b1500 := by have := row_lt f1519; omega
    have x1529 : Ext hh1515 h1521 := by rw [e1522]; exact Ext.push _ _
    have o1530 : h.size ≤ b1523 := by have := x1520.size; omega
    have f1532 := x1529 _ _ f1519
    have x1533 := x1520.trans x1529
    obtain ⟨h1534, e1535⟩ : ∃ zq, zq = h1521.setIfInBounds b1523 (.cells #[(vI 0), (vI (stS d n))] 32 (0, 0)) := ⟨_, rfl⟩
    have f1536 := set_same e1535 f1525
    have f1538 := set_other e1535 f1532 n1527
    have x1540 := Ext.setNew x1533 e1535 o1530
    obtain ⟨_, hh1541, sn1542, rfl, x1543⟩ := works_ok h1534
    have x1547 := x1540.trans x1543
    refine wc_upd (n := 200) (T := ⟨fun r i => match r, i with | 0, 0 => some ((vP b1479 0), h1477) | 1, 0 => some ((vA #[(vS d.name), (vI d.rt), (vI d.dl), (vL sa d.xs.length cp)]), h1477) | 1, 1 => some ((vB true), hh1487) | 3, 0 => some ((vA #[(vS d.name), (vI d.rt), (vI d.dl), (vL sa d.xs.length cp)]), hh1487) | 3, 2 => some ((vT #[(vA #[(vI 0), (vI (stS d n))]), (vI (chkE true (defB d) (timB n)))]), hh1493) | 3, 6 => some ((vP b1500 0), h1498) | 3, 7 => some (undef, h1509) | 4, 0 => some ((vA #[(vS d.name), (vI d.rt), (vI d.dl), (vL sa d.xs.length cp)]), h1509) | 4, 2 => some ((vT #[(vA #[(vI 0), (vI (stS d n))]), (vI (chkE true (defB d) (timB n)))]), hh1515) | 4, 6 => some ((vP b1523 0), h1521) | 4, 7 => some (undef, h1534) | 5, 0 => some ((vA #[(vI 0), (vI (stS d n))]), h1534) | 5, 1 => some ((vA #[(vI 0), (vI (stS d n))]), h1534) | 5, 2 => some ((vB true), h1534) | 5, 6 => some ((vB true), h1534) | 5, 9 => some ((vB true), hh1541) | _, _ => none, fun _ => none, none⟩) (x := .ret) (h1 := hh1541) [(2, (vP b1479 0)), (4, (vB false)), (9, (vA #[(vS d.name), (vI d.rt), (vI d.dl), (vL sa d.xs.length cp)])), (10, (vB true)), (11, (vB false)), (14, (vA #[(vS d.name), (vI d.rt), (vI d.dl), (vL sa d.xs.length cp)])), (15, (vI n)), (16, (vT #[(vA #[(vI 0), (vI (stS d n))]), (vI (chkE true (defB d) (timB n)))])), (13, (vT #[(vA #[(vI 0), (vI (stS d n))]), (vI (chkE true (defB d) (timB n)))])), (17, (vA #[(vI 0), (vI (stS d n))])), (18, (vI (chkE true (defB d) (timB n)))), (5, (vP b1500 0)), (6, (vI (chkE true (defB d) (timB n)))), (20, (vA #[(vS d.name), (vI d.rt), (vI d.dl), (vL sa d.xs.length cp)])), (21, (vI n)), (22, (vT #[(vA #[(vI 0), (vI (stS d n))]), (vI (chkE true (defB d) (timB n)))])), (19, (vT #[(vA #[(vI 0), (vI (stS d n))]), (vI (chkE true (defB d) (timB n)))])), (23, (vA #[(vI 0), (vI (stS d n))])), (24, (vI (chkE true (defB d) (timB n)))), (7, (vP b1523 0)), (8, (vI (chkE true (defB d) (timB n)))), (25, (vA #[(vI 0), (vI (stS d n))])), (26, (vA #[(vI 0), (vI (stS d n))])), (27, (vB true)), (28, (vB true)), (29, (vI (chkE true (defB d) (timB n)))), (30, (vI (chkE true (defB d) (timB n)))), (31, (vB true)), (32, (vB true)), (33, (vB true)), (34, (vB true)), (35, (vB true)), (4, (vB true))]
      (fun q => ((vP b1479 0) = (Value.pointer (some ⟨h.size, 0, none⟩)) ∧ h1477 = h.push (.cells #[(vS d.name), (vI d.rt), (vI d.dl), (vL sa d.xs.length cp)] 24 (0, 0))) ∧ (loadT Tryd.prog h1477 24 (vP b1479 0) = some (vA #[(vS d.name), (vI d.rt), (vI d.dl), (vL sa d.xs.length cp)]) ∧ h1477 = h1477) ∧ SoundCall Tryd.prog 11 #[(vA #[(vS d.name), (vI d.rt), (vI d.dl), (vL sa d.xs.length cp)])] h1477 (vB true) hh1487 ∧ (loadT Tryd.prog hh1487 24 (vP b1479 0) = some (vA #[(vS d.name), (vI d.rt), (vI d.dl), (vL sa d.xs.length cp)]) ∧ hh1487 = hh1487) ∧ SoundCall Tryd.prog 13 #[(vA #[(vS d.name), (vI d.rt), (vI d.dl), (vL sa d.xs.length cp)]), (vI n)] hh1487 (vT #[(vA #[(vI 0), (vI (stS d n))]), (vI (chkE true (defB d) (timB n)))]) hh1493 ∧ ((vP b1500 0) = (Value.pointer (some ⟨hh1493.size, 0, none⟩)) ∧ h1498 = hh1493.push (.cells #[(vI 0), (vI 0)] 28 (0, 0))) ∧ (storeT Tryd.prog h1498 28 (vP b1500 0) (vA #[(vI 0), (vI (stS d n))]) = some h1509 ∧ (undef : Value) = undef) ∧ (loadT Tryd.prog h1509 24 (vP b1479 0) = some (vA #[(vS d.name), (vI d.rt), (vI d.dl), (vL sa d.xs.length cp)]) ∧ h1509 = h1509) ∧ SoundCall Tryd.prog 14 #[(vA #[(vS d.name), (vI d.rt), (vI d.dl), (vL sa d.xs.length cp)]), (vI n)] h1509 (vT #[(vA #[(vI 0), (vI (stS d n))]), (vI (chkE true (defB d) (timB n)))]) hh1515 ∧ ((vP b1523 0) = (Value.pointer (some ⟨hh1515.size, 0, none⟩)) ∧ h1521 = hh1515.push (.cells #[(vI 0), (vI 0)] 32 (0, 0))) ∧ (storeT Tryd.prog h1521 32 (vP b1523 0) (vA #[(vI 0), (vI (stS d n))]) = some h1534 ∧ (undef : Value) = undef) ∧ (loadT Tryd.prog h1534 28 (vP b1500 0) = some (vA #[(vI 0), (vI (stS d n))]) ∧ h1534 = h1534) ∧ (loadT Tryd.prog h1534 32 (vP b1523 0) = some (vA #[(vI 0), (vI (stS d n))]) ∧ h1534 = h1534) ∧ (binA Tryd.prog .eql 32 (vA #[(vI 0), (vI (stS d n))]) (vA #[(vI 0), (vI (stS d n))]) = some (vB true) ∧ h1534 = h1534) ∧ (binA Tryd.prog .eql 29 (vI (chkE true (defB d) (timB n))) (vI (chkE true (defB d) (timB n))) = some (vB true) ∧ h1534 = h1534) ∧ SoundCall Tryd.prog 12 #[] h1534 (vB true) hh1541 ∧ q) (by intro K'; as_aux_lemma => kernel_rfl) (fun _ q => ⟨⟨by rw [eb1480], e1478⟩, ⟨load_agg agg24 size24 f1481 (by simp) (by kernel_rfl), rfl⟩, (by rw [← c1492]; exact sn1488), ⟨load_agg agg24 size24 f1490 (by simp) (by kernel_rfl), rfl⟩, sn1494, ⟨by rw [eb1501], e1499⟩, ⟨by rw [e1510]; exact store_cells size28 rfl f1502 (by decide) (by simp) rfl (by kernel_rfl), rfl⟩, ⟨load_agg agg24 size24 f1512 (by simp) (by kernel_rfl), rfl⟩, sn1516, ⟨by rw [eb1524], e1522⟩, ⟨by rw [e1535]; exact store_cells size32 rfl f1525 (by decide) (by simp) rfl (by kernel_rfl), rfl⟩, ⟨load_agg agg28 size28 f1538 (by simp) (by kernel_rfl), rfl⟩, ⟨load_agg agg32 size32 f1536 (by simp) (by kernel_rfl), rfl⟩, ⟨cmp32_eql (decide_eq_true ⟨rfl, rfl⟩), rfl⟩, ⟨cmp_eql (decide_eq_true rfl), rfl⟩, sn1542, q⟩) ?_
    refine end_at (T := ⟨fun _ _ => none, fun _ => none, none⟩) (A := K (vB true) hh1541) (by kernel_rfl) ?_
    exact hK _ _ (⟨rfl, x1547⟩)
  · obtain ⟨_, hh1548, sn1549, rfl, x1550⟩ := works_ok hh1487
    have x1552 := x1491.trans x1550
    refine wc_upd (n := 200) (T := ⟨fun r i => match r, i with | 0, 0 => some ((vP b1479 0), h1477) | 1, 0 => some ((vA #[(vS d.name), (vI d.rt), (vI d.dl), (vL sa d.xs.length cp)]), h1477) | 1, 1 => some ((vB false), hh1487) | 2, 0 => some ((vB true), hh1548) | _, _ => none, fun _ => none, none⟩) (x := .ret) (h1 := hh1548) [(2, (vP b1479 0)), (4, (vB false)), (9, (vA #[(vS d.name), (vI d.rt), (vI d.dl), (vL sa d.xs.length cp)])), (10, (vB false)), (11, (vB true)), (12, (vB true)), (4, (vB true))]
      (fun q => ((vP b1479 0) = (Value.pointer (some ⟨h.size, 0, none⟩)) ∧ h1477 = h.push (.cells #[(vS d.name), (vI d.rt), (vI d.dl), (vL sa d.xs.length cp)] 24 (0, 0))) ∧ (loadT Tryd.prog h1477 24 (vP b1479 0) = some (vA #[(vS d.name), (vI d.rt), (vI d.dl), (vL sa d.xs.length cp)]) ∧ h1477 = h1477) ∧ SoundCall Tryd.prog 11 #[(vA #[(vS d.name), (vI d.rt), (vI d.dl), (vL sa d.xs.length cp)])] h1477 (vB false) hh1487 ∧ SoundCall Tryd.prog 12 #[] hh1487 (vB true) hh1548 ∧ q) (by intro K'; as_aux_lemma => kernel_rfl) (fun _ q => ⟨⟨by rw [eb1480], e1478⟩, ⟨load_agg agg24 size24 f1481 (by simp) (by kernel_rfl), rfl⟩, (by rw [← c1492]; exact sn1488), sn1549, q⟩) ?_
    refine end_at (T := ⟨fun _ _ => none, fun _ => none, none⟩) (A := K (vB true) hh1548) (by kernel_rfl) ?_
    exact hK _ _ (⟨rfl, x1552⟩)
set_option maxRecDepth 10000 in
set_option maxHeartbeats 4000000 in
theorem law_counts (h : Heap) (t : Int) (ht9 : -9223372036854775808 ≤ t ∧ t ≤ 9223372036854775807) (b : Int) (hb9 : -9223372036854775808 ≤ b ∧ b ≤ 9223372036854775807) (d : DefM) (sa : Option Addr) (cp : Nat) (hl : LAt h stepc 2 d.xs (.slice sa d.xs.length cp)) (hlen : d.xs.length ≤ 9223372036854775807) (hnm : d.name.size ≤ 9223372036854775807) (hks : ∀ x ∈ d.xs, x.key.size ≤ 9223372036854775807) (n : Int) (hn9 : -9223372036854775808 ≤ n ∧ n ≤ 9223372036854775807) : WCall Tryd.prog 4 #[(Value.agg #[(vI (t)), (vI (b))]), (Value.agg #[(vS d.name), (vI (d.rt)), (vI (d.dl)), (Value.slice sa (d.xs.length) (cp))]), (vI (n))] h (fun v h1 => v = .bool true ∧ Ext h h1) := by
  suffices H : ∀ K : Value → Heap → Prop, (∀ v h1, (fun v h1 => v = .bool true ∧ Ext h h1) v h1 → K v h1) → WCall Tryd.prog 4 #[(Value.agg #[(vI (t)), (vI (b))]), (Value.agg #[(vS d.name), (vI (d.rt)), (vI (d.dl)), (Value.slice sa (d.xs.length) (cp))]), (vI (n))] h K from H _ fun _ _ q => q
  intro K hK
  refine wcall_at { tmps := #[(vA #[(vI t), (vI b)]), (vA #[(vS d.name), (vI d.rt), (vI d.dl), (vL sa d.xs.length cp)]), (vI n), vZ, vZ, vZ, vZ, vZ, vZ, vZ, vZ, vZ, vZ, vZ, vZ, vZ, vZ, vZ, vZ, vZ, vZ, vZ, vZ, vZ, vZ, vZ, vZ, vZ, vZ, vZ, vZ, vZ, vZ, vZ, vZ, vZ, vZ, vZ, vZ, vZ, vZ, vZ, vZ, vZ, vZ, vZ, vZ, vZ, vZ, vZ, vZ, vZ, vZ, vZ, vZ, vZ, vZ, vZ, vZ, vZ, vZ, vZ, vZ, vZ, vZ, vZ, vZ, vZ, vZ, vZ, vZ, vZ, vZ, vZ, vZ, vZ, vZ, vZ, vZ, vZ, vZ, vZ, vZ, vZ, vZ, vZ, vZ, vZ, vZ, vZ, vZ], defers := [] } (by kernel_rfl) ?_
  obtain ⟨b1555, eb1556⟩ : ∃ zq, zq = h.size := ⟨_, rfl⟩
  obtain ⟨h1553, e1554⟩ : ∃ zq, zq = h.push (.cells #[(vI (t)), (vI (b))] 28 (0, 0)) := ⟨_, rfl⟩
  have f1557 := push_new e1554
  rw [← eb1556] at f1557
  have x1559 : Ext h h1553 := by rw [e1554]; exact Ext.push _ _
  have o1560 : h.size ≤ b1555 := by have := (Ext.refl h).size; omega
  have x1561 := (Ext.refl h).trans x1559
  obtain ⟨b1564, eb1565⟩ : ∃ zq, zq = h1553.size := ⟨_, rfl⟩
  obtain ⟨h1562, e1563⟩ : ∃ zq, zq = h1553.push (.cells #[(vS d.name), (vI (d.rt)), (vI (d.dl)), (Value.slice sa (d.xs.length) (cp))] 24 (0, 0)) := ⟨_, rfl⟩
  have f1566 := push_new e1563
  rw [← eb1565] at f1566
  have x1569 : Ext h1553 h1562 := by rw [e1563]; exact Ext.push _ _
  have o1570 : h.size ≤ b1564 := by have := x1561.size; omega
  have f1571 := x1569 _ _ f1557
  have x1572 := x1561.trans x1569
  obtain ⟨_, hh1574, sn1575, q1573, rfl, x1576⟩ := few_ok h1562 d _ _ (hl.keep fun b r _ q => x1572 b r q) (by omega)
  have f1577 := x1576 _ _ f1571
  have f1578 := x1576 _ _ f1566
  have x1579 := x1572.trans x1576
  rcases Bool.eq_false_or_eq_true (q1573) with c1580 | c1580
  · obtain ⟨b1583, eb1584⟩ : ∃ zq, zq = hh1574.size := ⟨_, rfl⟩
    obtain ⟨h1581, e1582⟩ : ∃ zq, zq = hh1574.push (.cells #[(vI 0), (vI 0)] 32 (0, 0)) := ⟨_, rfl⟩
    have f1585 := push_new e1582
    rw [← eb1584] at f1585
    have n1586 : b1583 ≠ b1555 := by have := row_lt f1577; omega
    have n1587 : b1583 ≠ b1564 := by have := row_lt f1578; omega
    have x1589 : Ext hh1574 h1581 := by rw [e1582]; exact Ext.push _ _
    have o1590 : h.size ≤ b1583 := by have := x1579.size; omega
    have f1591 := x1589 _ _ f1577
    have f1592 := x1589 _ _ f1578
    have x1593 := x1579.trans x1589
    obtain ⟨h1594, e1595⟩ : ∃ zq, zq = h1581.setIfInBounds b1583 (.cells #[(vI (t)), (vI (b))] 32 (0, 0)) := ⟨_, rfl⟩
    have f1596 := set_same e1595 f1585
    have f1597 := set_other e1595 f1591 n1586
    have f1598 := set_other e1595 f1592 n1587
    have x1600 := Ext.setNew x1593 e1595 o1590
    obtain ⟨_, hh1601, sn1602, rfl, x1603⟩ := again_ok h1594 t b d _ _ (hl.keep fun b r _ q => x1600 b r q) (by omega) n
    have f1604 := x1603 _ _ f1597
    have f1605 := x1603 _ _ f1598
    have f1606 := x1603 _ _ f1596
    have x1607 := x1600.trans x1603
    obtain ⟨b1610, eb1611⟩ : ∃ zq, zq = hh1601.size := ⟨_, rfl⟩
    obtain ⟨h1608, e1609⟩ : ∃ zq, zq = hh1601.push (.cells #[(vI 0), (vI 0)] 28 (0, 0)) := ⟨_, rfl⟩
    have f1612 := push_new e1609
    rw [← eb1611] at f1612
    have n1613 : b1610 ≠ b1555 := by have := row_lt f1604; omega
    have n1614 : b1610 ≠ b1564 := by have := row_lt f1605; omega
    have n1615 : b1610 ≠ b1583 := by have := row_lt f1606; omega
    have x1617 : Ext hh1601 h1608 := by rw [e1609]; exact Ext.push _ _
    have o1618 : h.size ≤ b1610 := by have := x1607.size; omega
    have f1619 := x1617 _ _ f1604
    have f1620 := x1617 _ _ f1605
    have f1621 := x1617 _ _ f1606
    have x1622 := x1607.trans x1617
    obtain ⟨h1623, e1624⟩ : ∃ zq, zq = h1608.setIfInBounds b1610 (.cells #[(vI (agT t b d n)), (vI (agS t b d n))] 28 (0, 0)) := ⟨_, rfl⟩
    have f1625 := set_same e1624 f1612
    have f1626 := set_other e1624 f1619 n1613
    have f1627 := set_other e1624 f1620 n1614
    have f1628 := set_other e1624 f1621 n1615
    have x1630 := Ext.setNew x1622 e1624 o1618
    obtain ⟨_, hh1631, sn1632, rfl, x1633⟩ := ragain_ok h1623 t b d _ _ (hl.keep fun b r _ q => x1630 b r q) (by omega) hnm hks n
    have f1634 := x1633 _ _ f1626
    have f1635 := x1633 _ _ f1627
    have f1636 := x1633 _ _ f1628
    have f1637 := x1633 _ _ f1625
    have x1638 := x1630.trans x1633
    obtain ⟨b1641, eb1642⟩ : ∃ zq, zq = hh1631.size := ⟨_, rfl⟩
    obtain ⟨h1639, e1640⟩ : ∃ zq, zq = hh1631.push (.cells #[(vI 0), (vI 0)] 32 (0, 0)) := ⟨_, rfl⟩
    have f1643 := push_new e1640
    rw [← eb1642] at f1643
    have n1644 : b1641 ≠ b1555 := by have := row_lt f1634; omega
    have n1645 : b1641 ≠ b1564 := by have := row_lt f1635; omega
    have n1646 : b1641 ≠ b1583 := by have := row_lt f1636; omega
    have n1647 : b1641 ≠ b1610 := by have := row_lt f1637; omega
    have x1649 : Ext hh1631 h1639 := by rw [e1640]; exact Ext.push _ _
    have o1650 : h.size ≤ b1641 := by have := x1638.size; omega
    have f1651 := x1649 _ _ f1634
    have f1652 := x1649 _ _ f1635
    have f1653 := x1649 _ _ f1636
    have f1654 := x1649 _ _ f1637
    have x1655 := x1638.trans x1649
    obtain ⟨h1656, e1657⟩ : ∃ zq, zq = h1639.setIfInBounds b1641 (.cells #[(vI (agT t b d n)), (vI (agS t b d n))] 32 (0, 0)) := ⟨_, rfl⟩
    have f1658 := set_same e1657 f1643
    have f1659 := set_other e1657 f1651 n1644
    have f1660 := set_other e1657 f1652 n1645
    have f1661 := set_other e1657 f1653 n1646
    have f1662 := set_other e1657 f1654 n1647
    have x1664 := Ext.setNew x1655 e1657 o1650
    obtain ⟨_, hh1665, sn1666, rfl, x1667⟩ := left_ok h1656 t b d _ _ (hl.keep fun b r _ q => x1664 b r q) (by omega)
    have f1668 := x1667 _ _ f1659
    have f1669 := x1667 _ _ f1660
    have f1670 := x1667 _ _ f1661
    have f1671 := x1667 _ _ f1662
    have f1672 := x1667 _ _ f1658
    have x1673 := x1664.trans x1667
    obtain ⟨_, hh1674, sn1675, rfl, x1676⟩ := rleft_ok hh1665 t b d _ _ (hl.keep fun b r _ q => x1673 b r q) (by omega) hnm hks
    have f1677 := x1676 _ _ f1668
    have f1679 := x1676 _ _ f1670
    have f1680 := x1676 _ _ f1671
    have f1681 := x1676 _ _ f1672
    have x1682 := x1673.trans x1676
    obtain ⟨_, hh1683, sn1684, rfl, x1685⟩ := next_ok hh1674 t b
    have f1686 := x1685 _ _ f1677
    have f1688 := x1685 _ _ f1679
    have x1691 := x1682.trans x1685
    obtain ⟨_, hh1692, sn1693, rfl, x1694⟩ := rnext_ok hh1683 t b
    have f1695 := x1694 _ _ f1686
    have f1697 := x1694 _ _ f1688
    have x1700 := x1691.trans x1694
    obtain ⟨_, hh1701, sn1702, rfl, x1703⟩ := bcheck_ok hh1692 t b
    have f1706 := x1703 _ _ f1697
    have x1709 := x1700.trans x1703
    obtain ⟨_, hh1710, sn1711, rfl, x1712⟩ := rbcheck_ok hh1701 t b
    have x1718 := x1709.trans x1712
    obtain ⟨_, hh1719, sn1720, rfl, x1721⟩ := works_ok hh1710
    have x1727 := x1718.trans x1721
    refine wc_upd (n := 200) (T := ⟨fun r i => match r, i with | 0, 0 => some ((vP b1555 0), h1553) | 0, 1 => some ((vP b1564 0), h1562) | 1, 0 => some ((vA #[(vS d.name), (vI d.rt), (vI d.dl), (vL sa d.xs.length cp)]), h1562) | 1, 1 => some ((vB true), hh1574) | 3, 0 => some ((vA #[(vI t), (vI b)]), hh1574) | 3, 1 => some ((vP b1583 0), h1581) | 3, 2 => some (undef, h1594) | 4, 0 => some ((vA #[(vI t), (vI b)]), h1594) | 4, 1 => some ((vA #[(vS d.name), (vI d.rt), (vI d.dl), (vL sa d.xs.length cp)]), h1594) | 4, 3 => some ((vT #[(vA #[(vI (agT t b d n)), (vI (agS t b d n))]), (vB (agB t b d n)), (vI (agE t b d n))]), hh1601) | 4, 8 => some ((vP b1610 0), h1608) | 4, 9 => some (undef, h1623) | 5, 0 => some ((vA #[(vI t), (vI b)]), h1623) | 5, 1 => some ((vA #[(vS d.name), (vI d.rt), (vI d.dl), (vL sa d.xs.length cp)]), h1623) | 5, 3 => some ((vT #[(vA #[(vI (agT t b d n)), (vI (agS t b d n))]), (vB (agB t b d n)), (vI (agE t b d n))]), hh1631) | 5, 8 => some ((vP b1641 0), h1639) | 5, 9 => some (undef, h1656) | 6, 0 => some ((vA #[(vI t), (vI b)]), h1656) | 6, 1 => some ((vA #[(vS d.name), (vI d.rt), (vI d.dl), (vL sa d.xs.length cp)]), h1656) | 6, 2 => some ((vT #[(vI (leftV t b d)), (vI (chkE (budB t b) (defB d) true))]), hh1665) | 7, 0 => some ((vA #[(vI t), (vI b)]), hh1665) | 7, 1 => some ((vA #[(vS d.name), (vI d.rt), (vI d.dl), (vL sa d.xs.length cp)]), hh1665) | 7, 2 => some ((vT #[(vI (leftV t b d)), (vI (chkE (budB t b) (defB d) true))]), hh1674) | 8, 0 => some ((vA #[(vI (agT t b d n)), (vI (agS t b d n))]), hh1674) | 8, 1 => some ((vA #[(vI (agT t b d n)), (vI (agS t b d n))]), hh1674) | 8, 2 => some ((vB true), hh1674) | 8, 6 => some ((vB true), hh1674) | 8, 11 => some ((vB true), hh1674) | 8, 16 => some ((vB true), hh1674) | 8, 21 => some ((vB true), hh1674) | 8, 24 => some ((vA #[(vI t), (vI b)]), hh1674) | 8, 26 => some ((vA #[(vI t), (vI b)]), hh1674) | 8, 25 => some ((vA #[(vI 0), (vI b)]), hh1683) | 8, 27 => some ((vA #[(vI 0), (vI b)]), hh1692) | 8, 28 => some ((vB true), hh1692) | 8, 31 => some ((vA #[(vI t), (vI b)]), hh1692) | 8, 33 => some ((vA #[(vI t), (vI b)]), hh1692) | 8, 32 => some ((vI (if budB t b = true then 0 else 2)), hh1701) | 8, 34 => some ((vI (if budB t b = true then 0 else 2)), hh1710) | 8, 35 => some ((vB true), hh1710) | 8, 38 => some ((vB true), hh1719) | _, _ => none, fun _ => none, none⟩) (x := .ret) (h1 := hh1719) [(3, (vP b1555 0)), (4, (vP b1564 0)), (6, (vB false)), (18, (vA #[(vS d.name), (vI d.rt), (vI d.dl), (vL sa d.xs.length cp)])), (19, (vB true)), (20, (vB false)), (22, (vA #[(vI t), (vI b)])), (7, (vP b1583 0)), (24, (vA #[(vI t), (vI b)])), (25, (vA #[(vS d.name), (vI d.rt), (vI d.dl), (vL sa d.xs.length cp)])), (26, (vI n)), (27, (vT #[(vA #[(vI (agT t b d n)), (vI (agS t b d n))]), (vB (agB t b d n)), (vI (agE t b d n))])), (23, (vT #[(vA #[(vI (agT t b d n)), (vI (agS t b d n))]), (vB (agB t b d n)), (vI (agE t b d n))])), (28, (vA #[(vI (agT t b d n)), (vI (agS t b d n))])), (29, (vB (agB t b d n))), (30, (vI (agE t b d n))), (8, (vP b1610 0)), (9, (vB (agB t b d n))), (10, (vI (agE t b d n))), (32, (vA #[(vI t), (vI b)])), (33, (vA #[(vS d.name), (vI d.rt), (vI d.dl), (vL sa d.xs.length cp)])), (34, (vI n)), (35, (vT #[(vA #[(vI (agT t b d n)), (vI (agS t b d n))]), (vB (agB t b d n)), (vI (agE t b d n))])), (31, (vT #[(vA #[(vI (agT t b d n)), (vI (agS t b d n))]), (vB (agB t b d n)), (vI (agE t b d n))])), (36, (vA #[(vI (agT t b d n)), (vI (agS t b d n))])), (37, (vB (agB t b d n))), (38, (vI (agE t b d n))), (11, (vP b1641 0)), (12, (vB (agB t b d n))), (13, (vI (agE t b d n))), (40, (vA #[(vI t), (vI b)])), (41, (vA #[(vS d.name), (vI d.rt), (vI d.dl), (vL sa d.xs.length cp)])), (42, (vT #[(vI (leftV t b d)), (vI (chkE (budB t b) (defB d) true))])), (39, (vT #[(vI (leftV t b d)), (vI (chkE (budB t b) (defB d) true))])), (43, (vI (leftV t b d))), (44, (vI (chkE (budB t b) (defB d) true))), (14, (vI (leftV t b d))), (15, (vI (chkE (budB t b) (defB d) true))), (46, (vA #[(vI t), (vI b)])), (47, (vA #[(vS d.name), (vI d.rt), (vI d.dl), (vL sa d.xs.length cp)])), (48, (vT #[(vI (leftV t b d)), (vI (chkE (budB t b) (defB d) true))])), (45, (vT #[(vI (leftV t b d)), (vI (chkE (budB t b) (defB d) true))])), (49, (vI (leftV t b d))), (50, (vI (chkE (budB t b) (defB d) true))), (16, (vI (leftV t b d))), (17, (vI (chkE (budB t b) (defB d) true))), (51, (vA #[(vI (agT t b d n)), (vI (agS t b d n))])), (52, (vA #[(vI (agT t b d n)), (vI (agS t b d n))])), (53, (vB true)), (54, (vB true)), (55, (vB (agB t b d n))), (56, (vB (agB t b d n))), (57, (vB true)), (58, (vB true)), (59, (vB true)), (60, (vI (agE t b d n))), (61, (vI (agE t b d n))), (62, (vB true)), (63, (vB true)), (64, (vB true)), (65, (vI (leftV t b d))), (66, (vI (leftV t b d))), (67, (vB true)), (68, (vB true)), (69, (vB true)), (70, (vI (chkE (budB t b) (defB d) true))), (71, (vI (chkE (budB t b) (defB d) true))), (72, (vB true)), (73, (vB true)), (74, (vB true)), (75, (vA #[(vI t), (vI b)])), (77, (vA #[(vI t), (vI b)])), (76, (vA #[(vI 0), (vI b)])), (78, (vA #[(vI 0), (vI b)])), (79, (vB true)), (80, (vB true)), (81, (vB true)), (82, (vA #[(vI t), (vI b)])), (84, (vA #[(vI t), (vI b)])), (83, (vI (if budB t b = true then 0 else 2))), (85, (vI (if budB t b = true then 0 else 2))), (86, (vB true)), (87, (vB true)), (88, (vB true)), (89, (vB true)), (90, (vB true)), (6, (vB true))]
      (fun q => ((vP b1555 0) = (Value.pointer (some ⟨h.size, 0, none⟩)) ∧ h1553 = h.push (.cells #[(vI t), (vI b)] 28 (0, 0))) ∧ ((vP b1564 0) = (Value.pointer (some ⟨h1553.size, 0, none⟩)) ∧ h1562 = h1553.push (.cells #[(vS d.name), (vI d.rt), (vI d.dl), (vL sa d.xs.length cp)] 24 (0, 0))) ∧ (loadT Tryd.prog h1562 24 (vP b1564 0) = some (vA #[(vS d.name), (vI d.rt), (vI d.dl), (vL sa d.xs.length cp)]) ∧ h1562 = h1562) ∧ SoundCall Tryd.prog 11 #[(vA #[(vS d.name), (vI d.rt), (vI d.dl), (vL sa d.xs.length cp)])] h1562 (vB true) hh1574 ∧ (loadT Tryd.prog hh1574 28 (vP b1555 0) = some (vA #[(vI t), (vI b)]) ∧ hh1574 = hh1574) ∧ ((vP b1583 0) = (Value.pointer (some ⟨hh1574.size, 0, none⟩)) ∧ h1581 = hh1574.push (.cells #[(vI 0), (vI 0)] 32 (0, 0))) ∧ (storeT Tryd.prog h1581 32 (vP b1583 0) (vA #[(vI t), (vI b)]) = some h1594 ∧ (undef : Value) = undef) ∧ (loadT Tryd.prog h1594 28 (vP b1555 0) = some (vA #[(vI t), (vI b)]) ∧ h1594 = h1594) ∧ (loadT Tryd.prog h1594 24 (vP b1564 0) = some (vA #[(vS d.name), (vI d.rt), (vI d.dl), (vL sa d.xs.length cp)]) ∧ h1594 = h1594) ∧ SoundCall Tryd.prog 15 #[(vA #[(vI t), (vI b)]), (vA #[(vS d.name), (vI d.rt), (vI d.dl), (vL sa d.xs.length cp)]), (vI n)] h1594 (vT #[(vA #[(vI (agT t b d n)), (vI (agS t b d n))]), (vB (agB t b d n)), (vI (agE t b d n))]) hh1601 ∧ ((vP b1610 0) = (Value.pointer (some ⟨hh1601.size, 0, none⟩)) ∧ h1608 = hh1601.push (.cells #[(vI 0), (vI 0)] 28 (0, 0))) ∧ (storeT Tryd.prog h1608 28 (vP b1610 0) (vA #[(vI (agT t b d n)), (vI (agS t b d n))]) = some h1623 ∧ (undef : Value) = undef) ∧ (loadT Tryd.prog h1623 32 (vP b1583 0) = some (vA #[(vI t), (vI b)]) ∧ h1623 = h1623) ∧ (loadT Tryd.prog h1623 24 (vP b1564 0) = some (vA #[(vS d.name), (vI d.rt), (vI d.dl), (vL sa d.xs.length cp)]) ∧ h1623 = h1623) ∧ SoundCall Tryd.prog 16 #[(vA #[(vI t), (vI b)]), (vA #[(vS d.name), (vI d.rt), (vI d.dl), (vL sa d.xs.length cp)]), (vI n)] h1623 (vT #[(vA #[(vI (agT t b d n)), (vI (agS t b d n))]), (vB (agB t b d n)), (vI (agE t b d n))]) hh1631 ∧ ((vP b1641 0) = (Value.pointer (some ⟨hh1631.size, 0, none⟩)) ∧ h1639 = hh1631.push (.cells #[(vI 0), (vI 0)] 32 (0, 0))) ∧ (storeT Tryd.prog h1639 32 (vP b1641 0) (vA #[(vI (agT t b d n)), (vI (agS t b d n))]) = some h1656 ∧ (undef : Value) = undef) ∧ (loadT Tryd.prog h1656 28 (vP b1555 0) = some (vA #[(vI t), (vI b)]) ∧ h1656 = h1656) ∧ (loadT Tryd.prog h1656 24 (vP b1564 0) = some (vA #[(vS d.name), (vI d.rt), (vI d.dl), (vL sa d.xs.length cp)]) ∧ h1656 = h1656) ∧ SoundCall Tryd.prog 17 #[(vA #[(vI t), (vI b)]), (vA #[(vS d.name), (vI d.rt), (vI d.dl), (vL sa d.xs.length cp)])] h1656 (vT #[(vI (leftV t b d)), (vI (chkE (budB t b) (defB d) true))]) hh1665 ∧ (loadT Tryd.prog hh1665 32 (vP b1583 0) = some (vA #[(vI t), (vI b)]) ∧ hh1665 = hh1665) ∧ (loadT Tryd.prog hh1665 24 (vP b1564 0) = some (vA #[(vS d.name), (vI d.rt), (vI d.dl), (vL sa d.xs.length cp)]) ∧ hh1665 = hh1665) ∧ SoundCall Tryd.prog 18 #[(vA #[(vI t), (vI b)]), (vA #[(vS d.name), (vI d.rt), (vI d.dl), (vL sa d.xs.length cp)])] hh1665 (vT #[(vI (leftV t b d)), (vI (chkE (budB t b) (defB d) true))]) hh1674 ∧ (loadT Tryd.prog hh1674 28 (vP b1610 0) = some (vA #[(vI (agT t b d n)), (vI (agS t b d n))]) ∧ hh1674 = hh1674) ∧ (loadT Tryd.prog hh1674 32 (vP b1641 0) = some (vA #[(vI (agT t b d n)), (vI (agS t b d n))]) ∧ hh1674 = hh1674) ∧ (binA Tryd.prog .eql 32 (vA #[(vI (agT t b d n)), (vI (agS t b d n))]) (vA #[(vI (agT t b d n)), (vI (agS t b d n))]) = some (vB true) ∧ hh1674 = hh1674) ∧ (binA Tryd.prog .eql 4 (vB (agB t b d n)) (vB (agB t b d n)) = some (vB true) ∧ hh1674 = hh1674) ∧ (binA Tryd.prog .eql 29 (vI (agE t b d n)) (vI (agE t b d n)) = some (vB true) ∧ hh1674 = hh1674) ∧ (binA Tryd.prog .eql 3 (vI (leftV t b d)) (vI (leftV t b d)) = some (vB true) ∧ hh1674 = hh1674) ∧ (binA Tryd.prog .eql 29 (vI (chkE (budB t b) (defB d) true)) (vI (chkE (budB t b) (defB d) true)) = some (vB true) ∧ hh1674 = hh1674) ∧ (loadT Tryd.prog hh1674 28 (vP b1555 0) = some (vA #[(vI t), (vI b)]) ∧ hh1674 = hh1674) ∧ (loadT Tryd.prog hh1674 32 (vP b1583 0) = some (vA #[(vI t), (vI b)]) ∧ hh1674 = hh1674) ∧ SoundCall Tryd.prog 19 #[(vA #[(vI t), (vI b)])] hh1674 (vA #[(vI 0), (vI b)]) hh1683 ∧ (loadT Tryd.prog hh1683 32 (vP b1583 0) = some (vA #[(vI t), (vI b)]) ∧ hh1683 = hh1683) ∧ SoundCall Tryd.prog 20 #[(vA #[(vI t), (vI b)])] hh1683 (vA #[(vI 0), (vI b)]) hh1692 ∧ (binA Tryd.prog .eql 32 (vA #[(vI 0), (vI b)]) (vA #[(vI 0), (vI b)]) = some (vB true) ∧ hh1692 = hh1692) ∧ (loadT Tryd.prog hh1692 28 (vP b1555 0) = some (vA #[(vI t), (vI b)]) ∧ hh1692 = hh1692) ∧ (loadT Tryd.prog hh1692 32 (vP b1583 0) = some (vA #[(vI t), (vI b)]) ∧ hh1692 = hh1692) ∧ SoundCall Tryd.prog 21 #[(vA #[(vI t), (vI b)])] hh1692 (vI (if budB t b = true then 0 else 2)) hh1701 ∧ (loadT Tryd.prog hh1701 32 (vP b1583 0) = some (vA #[(vI t), (vI b)]) ∧ hh1701 = hh1701) ∧ SoundCall Tryd.prog 22 #[(vA #[(vI t), (vI b)])] hh1701 (vI (if budB t b = true then 0 else 2)) hh1710 ∧ (binA Tryd.prog .eql 29 (vI (if budB t b = true then 0 else 2)) (vI (if budB t b = true then 0 else 2)) = some (vB true) ∧ hh1710 = hh1710) ∧ SoundCall Tryd.prog 12 #[] hh1710 (vB true) hh1719 ∧ q) (by intro K'; as_aux_lemma => kernel_rfl) (fun _ q => ⟨⟨by rw [eb1556], e1554⟩, ⟨by rw [eb1565], e1563⟩, ⟨load_agg agg24 size24 f1566 (by simp) (by kernel_rfl), rfl⟩, (by rw [← c1580]; exact sn1575), ⟨load_agg agg28 size28 f1577 (by simp) (by kernel_rfl), rfl⟩, ⟨by rw [eb1584], e1582⟩, ⟨by rw [e1595]; exact store_cells size32 rfl f1585 (by decide) (by simp) rfl (by kernel_rfl), rfl⟩, ⟨load_agg agg28 size28 f1597 (by simp) (by kernel_rfl), rfl⟩, ⟨load_agg agg24 size24 f1598 (by simp) (by kernel_rfl), rfl⟩, sn1602, ⟨by rw [eb1611], e1609⟩, ⟨by rw [e1624]; exact store_cells size28 rfl f1612 (by decide) (by simp) rfl (by kernel_rfl), rfl⟩, ⟨load_agg agg32 size32 f1628 (by simp) (by kernel_rfl), rfl⟩, ⟨load_agg agg24 size24 f1627 (by simp) (by kernel_rfl), rfl⟩, sn1632, ⟨by rw [eb1642], e1640⟩, ⟨by rw [e1657]; exact store_cells size32 rfl f1643 (by decide) (by simp) rfl (by kernel_rfl), rfl⟩, ⟨load_agg agg28 size28 f1659 (by simp) (by kernel_rfl), rfl⟩, ⟨load_agg agg24 size24 f1660 (by simp) (by kernel_rfl), rfl⟩, sn1666, ⟨load_agg agg32 size32 f1670 (by simp) (by kernel_rfl), rfl⟩, ⟨load_agg agg24 size24 f1669 (by simp) (by kernel_rfl), rfl⟩, sn1675, ⟨load_agg agg28 size28 f1680 (by simp) (by kernel_rfl), rfl⟩, ⟨load_agg agg32 size32 f1681 (by simp) (by kernel_rfl), rfl⟩, ⟨cmp32_eql (decide_eq_true ⟨rfl, rfl⟩), rfl⟩, ⟨by cases ((agB t b d n)) <;> rfl, rfl⟩, ⟨cmp_eql (decide_eq_true rfl), rfl⟩, ⟨cmp_eql (decide_eq_true rfl), rfl⟩, ⟨cmp_eql (decide_eq_true rfl), rfl⟩, ⟨load_agg agg28 size28 f1677 (by simp) (by kernel_rfl), rfl⟩, ⟨load_agg agg32 size32 f1679 (by simp) (by kernel_rfl), rfl⟩, sn1684, ⟨load_agg agg32 size32 f1688 (by simp) (by kernel_rfl), rfl⟩, sn1693, ⟨cmp32_eql (decide_eq_true ⟨rfl, rfl⟩), rfl⟩, ⟨load_agg agg28 size28 f1695 (by simp) (by kernel_rfl), rfl⟩, ⟨load_agg agg32 size32 f1697 (by simp) (by kernel_rfl), rfl⟩, sn1702, ⟨load_agg agg32 size32 f1706 (by simp) (by kernel_rfl), rfl⟩, sn1711, ⟨cmp_eql (decide_eq_true rfl), rfl⟩, sn1720, q⟩) ?_
    refine end_at (T := ⟨fun _ _ => none, fun _ => none, none⟩) (A := K (vB true) hh1719) (by kernel_rfl) ?_
    exact hK _ _ (⟨rfl, x1727⟩)
  · obtain ⟨_, hh1728, sn1729, rfl, x1730⟩ := works_ok hh1574
    have x1733 := x1579.trans x1730
    refine wc_upd (n := 200) (T := ⟨fun r i => match r, i with | 0, 0 => some ((vP b1555 0), h1553) | 0, 1 => some ((vP b1564 0), h1562) | 1, 0 => some ((vA #[(vS d.name), (vI d.rt), (vI d.dl), (vL sa d.xs.length cp)]), h1562) | 1, 1 => some ((vB false), hh1574) | 2, 0 => some ((vB true), hh1728) | _, _ => none, fun _ => none, none⟩) (x := .ret) (h1 := hh1728) [(3, (vP b1555 0)), (4, (vP b1564 0)), (6, (vB false)), (18, (vA #[(vS d.name), (vI d.rt), (vI d.dl), (vL sa d.xs.length cp)])), (19, (vB false)), (20, (vB true)), (21, (vB true)), (6, (vB true))]
      (fun q => ((vP b1555 0) = (Value.pointer (some ⟨h.size, 0, none⟩)) ∧ h1553 = h.push (.cells #[(vI t), (vI b)] 28 (0, 0))) ∧ ((vP b1564 0) = (Value.pointer (some ⟨h1553.size, 0, none⟩)) ∧ h1562 = h1553.push (.cells #[(vS d.name), (vI d.rt), (vI d.dl), (vL sa d.xs.length cp)] 24 (0, 0))) ∧ (loadT Tryd.prog h1562 24 (vP b1564 0) = some (vA #[(vS d.name), (vI d.rt), (vI d.dl), (vL sa d.xs.length cp)]) ∧ h1562 = h1562) ∧ SoundCall Tryd.prog 11 #[(vA #[(vS d.name), (vI d.rt), (vI d.dl), (vL sa d.xs.length cp)])] h1562 (vB false) hh1574 ∧ SoundCall Tryd.prog 12 #[] hh1574 (vB true) hh1728 ∧ q) (by intro K'; as_aux_lemma => kernel_rfl) (fun _ q => ⟨⟨by rw [eb1556], e1554⟩, ⟨by rw [eb1565], e1563⟩, ⟨load_agg agg24 size24 f1566 (by simp) (by kernel_rfl), rfl⟩, (by rw [← c1580]; exact sn1575), sn1729, q⟩) ?_
    refine end_at (T := ⟨fun _ _ => none, fun _ => none, none⟩) (A := K (vB true) hh1728) (by kernel_rfl) ?_
    exact hK _ _ (⟨rfl, x1733⟩)
set_option maxRecDepth 10000 in
set_option maxHeartbeats 4000000 in
theorem law_times (h : Heap) (t : Int) (ht9 : -9223372036854775808 ≤ t ∧ t ≤ 9223372036854775807) (b : Int) (hb9 : -9223372036854775808 ≤ b ∧ b ≤ 9223372036854775807) (d : DefM) (sa : Option Addr) (cp : Nat) (hl : LAt h stepc 2 d.xs (.slice sa d.xs.length cp)) (hlen : d.xs.length ≤ 9223372036854775807) (hnm : d.name.size ≤ 9223372036854775807) (hks : ∀ x ∈ d.xs, x.key.size ≤ 9223372036854775807) (n : Int) (hn9 : -9223372036854775808 ≤ n ∧ n ≤ 9223372036854775807) : WCall Tryd.prog 5 #[(Value.agg #[(vI (t)), (vI (b))]), (Value.agg #[(vS d.name), (vI (d.rt)), (vI (d.dl)), (Value.slice sa (d.xs.length) (cp))]), (vI (n))] h (fun v h1 => v = .bool true ∧ Ext h h1) := by
  suffices H : ∀ K : Value → Heap → Prop, (∀ v h1, (fun v h1 => v = .bool true ∧ Ext h h1) v h1 → K v h1) → WCall Tryd.prog 5 #[(Value.agg #[(vI (t)), (vI (b))]), (Value.agg #[(vS d.name), (vI (d.rt)), (vI (d.dl)), (Value.slice sa (d.xs.length) (cp))]), (vI (n))] h K from H _ fun _ _ q => q
  intro K hK
  refine wcall_at { tmps := #[(vA #[(vI t), (vI b)]), (vA #[(vS d.name), (vI d.rt), (vI d.dl), (vL sa d.xs.length cp)]), (vI n), vZ, vZ, vZ, vZ, vZ, vZ, vZ, vZ, vZ, vZ, vZ, vZ, vZ, vZ, vZ, vZ, vZ, vZ, vZ, vZ, vZ, vZ, vZ, vZ, vZ, vZ, vZ, vZ, vZ, vZ, vZ, vZ, vZ, vZ, vZ, vZ, vZ, vZ, vZ, vZ, vZ, vZ, vZ, vZ, vZ, vZ, vZ, vZ, vZ, vZ, vZ, vZ, vZ, vZ, vZ, vZ, vZ, vZ, vZ, vZ, vZ, vZ, vZ, vZ, vZ, vZ, vZ, vZ, vZ, vZ, vZ, vZ, vZ, vZ], defers := [] } (by kernel_rfl) ?_
  obtain ⟨b1736, eb1737⟩ : ∃ zq, zq = h.size := ⟨_, rfl⟩
  obtain ⟨h1734, e1735⟩ : ∃ zq, zq = h.push (.cells #[(vI (t)), (vI (b))] 28 (0, 0)) := ⟨_, rfl⟩
  have f1738 := push_new e1735
  rw [← eb1737] at f1738
  have x1740 : Ext h h1734 := by rw [e1735]; exact Ext.push _ _
  have o1741 : h.size ≤ b1736 := by have := (Ext.refl h).size; omega
  have x1742 := (Ext.refl h).trans x1740
  obtain ⟨b1745, eb1746⟩ : ∃ zq, zq = h1734.size := ⟨_, rfl⟩
  obtain ⟨h1743, e1744⟩ : ∃ zq, zq = h1734.push (.cells #[(vS d.name), (vI (d.rt)), (vI (d.dl)), (Value.slice sa (d.xs.length) (cp))] 24 (0, 0)) := ⟨_, rfl⟩
  have f1747 := push_new e1744
  rw [← eb1746] at f1747
  have x1750 : Ext h1734 h1743 := by rw [e1744]; exact Ext.push _ _
  have o1751 : h.size ≤ b1745 := by have := x1742.size; omega
  have f1752 := x1750 _ _ f1738
  have x1753 := x1742.trans x1750
  obtain ⟨_, hh1755, sn1756, q1754, rfl, x1757⟩ := few_ok h1743 d _ _ (hl.keep fun b r _ q => x1753 b r q) (by omega)
  have f1758 := x1757 _ _ f1752
  have f1759 := x1757 _ _ f1747
  have x1760 := x1753.trans x1757
  rcases Bool.eq_false_or_eq_true (q1754) with c1761 | c1761
  · obtain ⟨b1764, eb1765⟩ : ∃ zq, zq = hh1755.size := ⟨_, rfl⟩
    obtain ⟨h1762, e1763⟩ : ∃ zq, zq = hh1755.push (.cells #[(vI 0), (vI 0)] 32 (0, 0)) := ⟨_, rfl⟩
    have f1766 := push_new e1763
    rw [← eb1765] at f1766
    have n1767 : b1764 ≠ b1736 := by have := row_lt f1758; omega
    have n1768 : b1764 ≠ b1745 := by have := row_lt f1759; omega
    have x1770 : Ext hh1755 h1762 := by rw [e1763]; exact Ext.push _ _
    have o1771 : h.size ≤ b1764 := by have := x1760.size; omega
    have f1772 := x1770 _ _ f1758
    have f1773 := x1770 _ _ f1759
    have x1774 := x1760.trans x1770
    obtain ⟨h1775, e1776⟩ : ∃ zq, zq = h1762.setIfInBounds b1764 (.cells #[(vI (t)), (vI (b))] 32 (0, 0)) := ⟨_, rfl⟩
    have f1777 := set_same e1776 f1766
    have f1778 := set_other e1776 f1772 n1767
    have f1779 := set_other e1776 f1773 n1768
    have x1781 := Ext.setNew x1774 e1776 o1771
    obtain ⟨_, hh1782, sn1783, rfl, x1784⟩ := late_ok h1775 t b d _ _ (hl.keep fun b r _ q => x1781 b r q) (by omega) n
    have f1785 := x1784 _ _ f1778
    have f1786 := x1784 _ _ f1779
    have f1787 := x1784 _ _ f1777
    have x1788 := x1781.trans x1784
    obtain ⟨_, hh1789, sn1790, rfl, x1791⟩ := rlate_ok hh1782 t b d _ _ (hl.keep fun b r _ q => x1788 b r q) (by omega) hnm hks n
    have f1792 := x1791 _ _ f1785
    have f1793 := x1791 _ _ f1786
    have f1794 := x1791 _ _ f1787
    have x1795 := x1788.trans x1791
    obtain ⟨_, hh1796, sn1797, rfl, x1798⟩ := when_ok hh1789 t b d _ _ (hl.keep fun b r _ q => x1795 b r q) (by omega)
    have f1800 := x1798 _ _ f1793
    have f1801 := x1798 _ _ f1794
    have x1802 := x1795.trans x1798
    obtain ⟨_, hh1803, sn1804, rfl, x1805⟩ := rwhen_ok hh1796 t b d _ _ (hl.keep fun b r _ q => x1802 b r q) (by omega) hnm hks
    have x1809 := x1802.trans x1805
    obtain ⟨_, hh1810, sn1811, rfl, x1812⟩ := works_ok hh1803
    have x1816 := x1809.trans x1812
    refine wc_upd (n := 200) (T := ⟨fun r i => match r, i with | 0, 0 => some ((vP b1736 0), h1734) | 0, 1 => some ((vP b1745 0), h1743) | 1, 0 => some ((vA #[(vS d.name), (vI d.rt), (vI d.dl), (vL sa d.xs.length cp)]), h1743) | 1, 1 => some ((vB true), hh1755) | 3, 0 => some ((vA #[(vI t), (vI b)]), hh1755) | 3, 1 => some ((vP b1764 0), h1762) | 3, 2 => some (undef, h1775) | 4, 0 => some ((vA #[(vI t), (vI b)]), h1775) | 4, 1 => some ((vA #[(vS d.name), (vI d.rt), (vI d.dl), (vL sa d.xs.length cp)]), h1775) | 4, 3 => some ((vT #[(vB (lateM t b d n)), (vI (chkE (budB t b) (defB d) (timB n)))]), hh1782) | 5, 0 => some ((vA #[(vI t), (vI b)]), hh1782) | 5, 1 => some ((vA #[(vS d.name), (vI d.rt), (vI d.dl), (vL sa d.xs.length cp)]), hh1782) | 5, 3 => some ((vT #[(vB (lateM t b d n)), (vI (chkE (budB t b) (defB d) (timB n)))]), hh1789) | 6, 0 => some ((vA #[(vI t), (vI b)]), hh1789) | 6, 1 => some ((vA #[(vS d.name), (vI d.rt), (vI d.dl), (vL sa d.xs.length cp)]), hh1789) | 6, 2 => some ((vT #[(vI (whenV t b d)), (vB (whenB t b d)), (vI (chkE (budB t b) (defB d) true))]), hh1796) | 7, 0 => some ((vA #[(vI t), (vI b)]), hh1796) | 7, 1 => some ((vA #[(vS d.name), (vI d.rt), (vI d.dl), (vL sa d.xs.length cp)]), hh1796) | 7, 2 => some ((vT #[(vI (whenV t b d)), (vB (whenB t b d)), (vI (chkE (budB t b) (defB d) true))]), hh1803) | 8, 2 => some ((vB true), hh1803) | 8, 6 => some ((vB true), hh1803) | 8, 11 => some ((vB true), hh1803) | 8, 16 => some ((vB true), hh1803) | 8, 21 => some ((vB true), hh1803) | 8, 24 => some ((vB true), hh1810) | _, _ => none, fun _ => none, none⟩) (x := .ret) (h1 := hh1810) [(3, (vP b1736 0)), (4, (vP b1745 0)), (6, (vB false)), (18, (vA #[(vS d.name), (vI d.rt), (vI d.dl), (vL sa d.xs.length cp)])), (19, (vB true)), (20, (vB false)), (22, (vA #[(vI t), (vI b)])), (7, (vP b1764 0)), (24, (vA #[(vI t), (vI b)])), (25, (vA #[(vS d.name), (vI d.rt), (vI d.dl), (vL sa d.xs.length cp)])), (26, (vI n)), (27, (vT #[(vB (lateM t b d n)), (vI (chkE (budB t b) (defB d) (timB n)))])), (23, (vT #[(vB (lateM t b d n)), (vI (chkE (budB t b) (defB d) (timB n)))])), (28, (vB (lateM t b d n))), (29, (vI (chkE (budB t b) (defB d) (timB n)))), (8, (vB (lateM t b d n))), (9, (vI (chkE (budB t b) (defB d) (timB n)))), (31, (vA #[(vI t), (vI b)])), (32, (vA #[(vS d.name), (vI d.rt), (vI d.dl), (vL sa d.xs.length cp)])), (33, (vI n)), (34, (vT #[(vB (lateM t b d n)), (vI (chkE (budB t b) (defB d) (timB n)))])), (30, (vT #[(vB (lateM t b d n)), (vI (chkE (budB t b) (defB d) (timB n)))])), (35, (vB (lateM t b d n))), (36, (vI (chkE (budB t b) (defB d) (timB n)))), (10, (vB (lateM t b d n))), (11, (vI (chkE (budB t b) (defB d) (timB n)))), (38, (vA #[(vI t), (vI b)])), (39, (vA #[(vS d.name), (vI d.rt), (vI d.dl), (vL sa d.xs.length cp)])), (40, (vT #[(vI (whenV t b d)), (vB (whenB t b d)), (vI (chkE (budB t b) (defB d) true))])), (37, (vT #[(vI (whenV t b d)), (vB (whenB t b d)), (vI (chkE (budB t b) (defB d) true))])), (41, (vI (whenV t b d))), (42, (vB (whenB t b d))), (43, (vI (chkE (budB t b) (defB d) true))), (12, (vI (whenV t b d))), (13, (vB (whenB t b d))), (14, (vI (chkE (budB t b) (defB d) true))), (45, (vA #[(vI t), (vI b)])), (46, (vA #[(vS d.name), (vI d.rt), (vI d.dl), (vL sa d.xs.length cp)])), (47, (vT #[(vI (whenV t b d)), (vB (whenB t b d)), (vI (chkE (budB t b) (defB d) true))])), (44, (vT #[(vI (whenV t b d)), (vB (whenB t b d)), (vI (chkE (budB t b) (defB d) true))])), (48, (vI (whenV t b d))), (49, (vB (whenB t b d))), (50, (vI (chkE (budB t b) (defB d) true))), (15, (vI (whenV t b d))), (16, (vB (whenB t b d))), (17, (vI (chkE (budB t b) (defB d) true))), (51, (vB (lateM t b d n))), (52, (vB (lateM t b d n))), (53, (vB true)), (54, (vB true)), (55, (vI (chkE (budB t b) (defB d) (timB n)))), (56, (vI (chkE (budB t b) (defB d) (timB n)))), (57, (vB true)), (58, (vB true)), (59, (vB true)), (60, (vI (whenV t b d))), (61, (vI (whenV t b d))), (62, (vB true)), (63, (vB true)), (64, (vB true)), (65, (vB (whenB t b d))), (66, (vB (whenB t b d))), (67, (vB true)), (68, (vB true)), (69, (vB true)), (70, (vI (chkE (budB t b) (defB d) true))), (71, (vI (chkE (budB t b) (defB d) true))), (72, (vB true)), (73, (vB true)), (74, (vB true)), (75, (vB true)), (76, (vB true)), (6, (vB true))]
      (fun q => ((vP b1736 0) = (Value.pointer (some ⟨h.size, 0, none⟩)) ∧ h1734 = h.push (.cells #[(vI t), (vI b)] 28 (0, 0))) ∧ ((vP b1745 0) = (Value.pointer (some ⟨h1734.size, 0, none⟩)) ∧ h1743 = h1734.push (.cells #[(vS d.name), (vI d.rt), (vI d.dl), (vL sa d.xs.length cp)] 24 (0, 0))) ∧ (loadT Tryd.prog h1743 24 (vP b1745 0) = some (vA #[(vS d.name), (vI d.rt), (vI d.dl), (vL sa d.xs.length cp)]) ∧ h1743 = h1743) ∧ SoundCall Tryd.prog 11 #[(vA #[(vS d.name), (vI d.rt), (vI d.dl), (vL sa d.xs.length cp)])] h1743 (vB true) hh1755 ∧ (loadT Tryd.prog hh1755 28 (vP b1736 0) = some (vA #[(vI t), (vI b)]) ∧ hh1755 = hh1755) ∧ ((vP b1764 0) = (Value.pointer (some ⟨hh1755.size, 0, none⟩)) ∧ h1762 = hh1755.push (.cells #[(vI 0), (vI 0)] 32 (0, 0))) ∧ (storeT Tryd.prog h1762 32 (vP b1764 0) (vA #[(vI t), (vI b)]) = some h1775 ∧ (undef : Value) = undef) ∧ (loadT Tryd.prog h1775 28 (vP b1736 0) = some (vA #[(vI t), (vI b)]) ∧ h1775 = h1775) ∧ (loadT Tryd.prog h1775 24 (vP b1745 0) = some (vA #[(vS d.name), (vI d.rt), (vI d.dl), (vL sa d.xs.length cp)]) ∧ h1775 = h1775) ∧ SoundCall Tryd.prog 23 #[(vA #[(vI t), (vI b)]), (vA #[(vS d.name), (vI d.rt), (vI d.dl), (vL sa d.xs.length cp)]), (vI n)] h1775 (vT #[(vB (lateM t b d n)), (vI (chkE (budB t b) (defB d) (timB n)))]) hh1782 ∧ (loadT Tryd.prog hh1782 32 (vP b1764 0) = some (vA #[(vI t), (vI b)]) ∧ hh1782 = hh1782) ∧ (loadT Tryd.prog hh1782 24 (vP b1745 0) = some (vA #[(vS d.name), (vI d.rt), (vI d.dl), (vL sa d.xs.length cp)]) ∧ hh1782 = hh1782) ∧ SoundCall Tryd.prog 24 #[(vA #[(vI t), (vI b)]), (vA #[(vS d.name), (vI d.rt), (vI d.dl), (vL sa d.xs.length cp)]), (vI n)] hh1782 (vT #[(vB (lateM t b d n)), (vI (chkE (budB t b) (defB d) (timB n)))]) hh1789 ∧ (loadT Tryd.prog hh1789 28 (vP b1736 0) = some (vA #[(vI t), (vI b)]) ∧ hh1789 = hh1789) ∧ (loadT Tryd.prog hh1789 24 (vP b1745 0) = some (vA #[(vS d.name), (vI d.rt), (vI d.dl), (vL sa d.xs.length cp)]) ∧ hh1789 = hh1789) ∧ SoundCall Tryd.prog 25 #[(vA #[(vI t), (vI b)]), (vA #[(vS d.name), (vI d.rt), (vI d.dl), (vL sa d.xs.length cp)])] hh1789 (vT #[(vI (whenV t b d)), (vB (whenB t b d)), (vI (chkE (budB t b) (defB d) true))]) hh1796 ∧ (loadT Tryd.prog hh1796 32 (vP b1764 0) = some (vA #[(vI t), (vI b)]) ∧ hh1796 = hh1796) ∧ (loadT Tryd.prog hh1796 24 (vP b1745 0) = some (vA #[(vS d.name), (vI d.rt), (vI d.dl), (vL sa d.xs.length cp)]) ∧ hh1796 = hh1796) ∧ SoundCall Tryd.prog 26 #[(vA #[(vI t), (vI b)]), (vA #[(vS d.name), (vI d.rt), (vI d.dl), (vL sa d.xs.length cp)])] hh1796 (vT #[(vI (whenV t b d)), (vB (whenB t b d)), (vI (chkE (budB t b) (defB d) true))]) hh1803 ∧ (binA Tryd.prog .eql 4 (vB (lateM t b d n)) (vB (lateM t b d n)) = some (vB true) ∧ hh1803 = hh1803) ∧ (binA Tryd.prog .eql 29 (vI (chkE (budB t b) (defB d) (timB n))) (vI (chkE (budB t b) (defB d) (timB n))) = some (vB true) ∧ hh1803 = hh1803) ∧ (binA Tryd.prog .eql 3 (vI (whenV t b d)) (vI (whenV t b d)) = some (vB true) ∧ hh1803 = hh1803) ∧ (binA Tryd.prog .eql 4 (vB (whenB t b d)) (vB (whenB t b d)) = some (vB true) ∧ hh1803 = hh1803) ∧ (binA Tryd.prog .eql 29 (vI (chkE (budB t b) (defB d) true)) (vI (chkE (budB t b) (defB d) true)) = some (vB true) ∧ hh1803 = hh1803) ∧ SoundCall Tryd.prog 12 #[] hh1803 (vB true) hh1810 ∧ q) (by intro K'; as_aux_lemma => kernel_rfl) (fun _ q => ⟨⟨by rw [eb1737], e1735⟩, ⟨by rw [eb1746], e1744⟩, ⟨load_agg agg24 size24 f1747 (by simp) (by kernel_rfl), rfl⟩, (by rw [← c1761]; exact sn1756), ⟨load_agg agg28 size28 f1758 (by simp) (by kernel_rfl), rfl⟩, ⟨by rw [eb1765], e1763⟩, ⟨by rw [e1776]; exact store_cells size32 rfl f1766 (by decide) (by simp) rfl (by kernel_rfl), rfl⟩, ⟨load_agg agg28 size28 f1778 (by simp) (by kernel_rfl), rfl⟩, ⟨load_agg agg24 size24 f1779 (by simp) (by kernel_rfl), rfl⟩, sn1783, ⟨load_agg agg32 size32 f1787 (by simp) (by kernel_rfl), rfl⟩, ⟨load_agg agg24 size24 f1786 (by simp) (by kernel_rfl), rfl⟩, sn1790, ⟨load_agg agg28 size28 f1792 (by simp) (by kernel_rfl), rfl⟩, ⟨load_agg agg24 size24 f1793 (by simp) (by kernel_rfl), rfl⟩, sn1797, ⟨load_agg agg32 size32 f1801 (by simp) (by kernel_rfl), rfl⟩, ⟨load_agg agg24 size24 f1800 (by simp) (by kernel_rfl), rfl⟩, sn1804, ⟨by cases ((lateM t b d n)) <;> rfl, rfl⟩, ⟨cmp_eql (decide_eq_true rfl), rfl⟩, ⟨cmp_eql (decide_eq_true rfl), rfl⟩, ⟨by cases ((whenB t b d)) <;> rfl, rfl⟩, ⟨cmp_eql (decide_eq_true rfl), rfl⟩, sn1811, q⟩) ?_
    refine end_at (T := ⟨fun _ _ => none, fun _ => none, none⟩) (A := K (vB true) hh1810) (by kernel_rfl) ?_
    exact hK _ _ (⟨rfl, x1816⟩)
  · obtain ⟨_, hh1817, sn1818, rfl, x1819⟩ := works_ok hh1755
    have x1822 := x1760.trans x1819
    refine wc_upd (n := 200) (T := ⟨fun r i => match r, i with | 0, 0 => some ((vP b1736 0), h1734) | 0, 1 => some ((vP b1745 0), h1743) | 1, 0 => some ((vA #[(vS d.name), (vI d.rt), (vI d.dl), (vL sa d.xs.length cp)]), h1743) | 1, 1 => some ((vB false), hh1755) | 2, 0 => some ((vB true), hh1817) | _, _ => none, fun _ => none, none⟩) (x := .ret) (h1 := hh1817) [(3, (vP b1736 0)), (4, (vP b1745 0)), (6, (vB false)), (18, (vA #[(vS d.name), (vI d.rt), (vI d.dl), (vL sa d.xs.length cp)])), (19, (vB false)), (20, (vB true)), (21, (vB true)), (6, (vB true))]
      (fun q => ((vP b1736 0) = (Value.pointer (some ⟨h.size, 0, none⟩)) ∧ h1734 = h.push (.cells #[(vI t), (vI b)] 28 (0, 0))) ∧ ((vP b1745 0) = (Value.pointer (some ⟨h1734.size, 0, none⟩)) ∧ h1743 = h1734.push (.cells #[(vS d.name), (vI d.rt), (vI d.dl), (vL sa d.xs.length cp)] 24 (0, 0))) ∧ (loadT Tryd.prog h1743 24 (vP b1745 0) = some (vA #[(vS d.name), (vI d.rt), (vI d.dl), (vL sa d.xs.length cp)]) ∧ h1743 = h1743) ∧ SoundCall Tryd.prog 11 #[(vA #[(vS d.name), (vI d.rt), (vI d.dl), (vL sa d.xs.length cp)])] h1743 (vB false) hh1755 ∧ SoundCall Tryd.prog 12 #[] hh1755 (vB true) hh1817 ∧ q) (by intro K'; as_aux_lemma => kernel_rfl) (fun _ q => ⟨⟨by rw [eb1737], e1735⟩, ⟨by rw [eb1746], e1744⟩, ⟨load_agg agg24 size24 f1747 (by simp) (by kernel_rfl), rfl⟩, (by rw [← c1761]; exact sn1756), sn1818, q⟩) ?_
    refine end_at (T := ⟨fun _ _ => none, fun _ => none, none⟩) (A := K (vB true) hh1817) (by kernel_rfl) ?_
    exact hK _ _ (⟨rfl, x1822⟩)
set_option maxRecDepth 10000 in
set_option maxHeartbeats 4000000 in
theorem law_nexts (h : Heap) (t : Int) (ht9 : -9223372036854775808 ≤ t ∧ t ≤ 9223372036854775807) (b : Int) (hb9 : -9223372036854775808 ≤ b ∧ b ≤ 9223372036854775807) : WCall Tryd.prog 10 #[(vI (t)), (vI (b))] h (fun v h1 => v = .bool true ∧ Ext h h1) := by
  suffices H : ∀ K : Value → Heap → Prop, (∀ v h1, (fun v h1 => v = .bool true ∧ Ext h h1) v h1 → K v h1) → WCall Tryd.prog 10 #[(vI (t)), (vI (b))] h K from H _ fun _ _ q => q
  intro K hK
  refine wcall_at { tmps := #[(vI t), (vI b), vZ, vZ, vZ, vZ, vZ, vZ, vZ, vZ, vZ, vZ, vZ, vZ, vZ, vZ, vZ, vZ, vZ, vZ, vZ, vZ, vZ], defers := [] } (by kernel_rfl) ?_
  obtain ⟨_, hh1823, sn1824, rfl, x1825⟩ := next_ok h t b
  have x1826 := (Ext.refl h).trans x1825
  obtain ⟨b1829, eb1830⟩ : ∃ zq, zq = hh1823.size := ⟨_, rfl⟩
  obtain ⟨h1827, e1828⟩ : ∃ zq, zq = hh1823.push (.cells #[(vI 0), (vI 0)] 28 (0, 0)) := ⟨_, rfl⟩
  have f1831 := push_new e1828
  rw [← eb1830] at f1831
  have x1832 : Ext hh1823 h1827 := by rw [e1828]; exact Ext.push _ _
  have o1833 : h.size ≤ b1829 := by have := x1826.size; omega
  have x1834 := x1826.trans x1832
  obtain ⟨h1835, e1836⟩ : ∃ zq, zq = h1827.setIfInBounds b1829 (.cells #[(vI 0), (vI (b))] 28 (0, 0)) := ⟨_, rfl⟩
  have f1837 := set_same e1836 f1831
  have x1839 := Ext.setNew x1834 e1836 o1833
  obtain ⟨_, hh1840, sn1841, rfl, x1842⟩ := next_ok h1835 0 b
  have f1843 := x1842 _ _ f1837
  have x1844 := x1839.trans x1842
  obtain ⟨_, hh1845, sn1846, rfl, x1847⟩ := works_ok hh1840
  have x1849 := x1844.trans x1847
  refine wc_upd (n := 200) (T := ⟨fun r i => match r, i with | 1, 3 => some ((vA #[(vI 0), (vI b)]), hh1823) | 1, 4 => some ((vP b1829 0), h1827) | 1, 5 => some (undef, h1835) | 2, 0 => some ((vA #[(vI 0), (vI b)]), h1835) | 2, 3 => some ((vB true), h1835) | 2, 5 => some ((vA #[(vI 0), (vI b)]), h1835) | 2, 7 => some ((vA #[(vI 0), (vI b)]), h1835) | 2, 6 => some ((vA #[(vI 0), (vI b)]), hh1840) | 2, 8 => some ((vB true), hh1840) | 2, 11 => some ((vB true), hh1845) | _, _ => none, fun _ => none, none⟩) (x := .ret) (h1 := hh1845) [(4, (vB false)), (6, (vI t)), (7, (vI b)), (8, (vA #[(vI t), (vI b)])), (9, (vA #[(vI 0), (vI b)])), (5, (vP b1829 0)), (10, (vA #[(vI 0), (vI b)])), (11, (vI b)), (12, (vA #[(vI 0), (vI b)])), (13, (vB true)), (14, (vB true)), (15, (vA #[(vI 0), (vI b)])), (17, (vA #[(vI 0), (vI b)])), (16, (vA #[(vI 0), (vI b)])), (18, (vB true)), (19, (vB true)), (20, (vB true)), (21, (vB true)), (22, (vB true)), (4, (vB true))]
    (fun q => SoundCall Tryd.prog 19 #[(vA #[(vI t), (vI b)])] h (vA #[(vI 0), (vI b)]) hh1823 ∧ ((vP b1829 0) = (Value.pointer (some ⟨hh1823.size, 0, none⟩)) ∧ h1827 = hh1823.push (.cells #[(vI 0), (vI 0)] 28 (0, 0))) ∧ (storeT Tryd.prog h1827 28 (vP b1829 0) (vA #[(vI 0), (vI b)]) = some h1835 ∧ (undef : Value) = undef) ∧ (loadT Tryd.prog h1835 28 (vP b1829 0) = some (vA #[(vI 0), (vI b)]) ∧ h1835 = h1835) ∧ (binA Tryd.prog .eql 28 (vA #[(vI 0), (vI b)]) (vA #[(vI 0), (vI b)]) = some (vB true) ∧ h1835 = h1835) ∧ (loadT Tryd.prog h1835 28 (vP b1829 0) = some (vA #[(vI 0), (vI b)]) ∧ h1835 = h1835) ∧ (loadT Tryd.prog h1835 28 (vP b1829 0) = some (vA #[(vI 0), (vI b)]) ∧ h1835 = h1835) ∧ SoundCall Tryd.prog 19 #[(vA #[(vI 0), (vI b)])] h1835 (vA #[(vI 0), (vI b)]) hh1840 ∧ (loadT Tryd.prog hh1840 28 (vP b1829 0) = some (vA #[(vI 0), (vI b)]) ∧ hh1840 = hh1840) ∧ (binA Tryd.prog .eql 28 (vA #[(vI 0), (vI b)]) (vA #[(vI 0), (vI b)]) = some (vB true) ∧ hh1840 = hh1840) ∧ SoundCall Tryd.prog 12 #[] hh1840 (vB true) hh1845 ∧ q) (by intro K'; as_aux_lemma => kernel_rfl) (fun _ q => ⟨sn1824, ⟨by rw [eb1830], e1828⟩, ⟨by rw [e1836]; exact store_cells size28 rfl f1831 (by decide) (by simp) rfl (by kernel_rfl), rfl⟩, ⟨load_agg agg28 size28 f1837 (by simp) (by kernel_rfl), rfl⟩, ⟨cmp28_eql (decide_eq_true ⟨rfl, rfl⟩), rfl⟩, ⟨load_agg agg28 size28 f1837 (by simp) (by kernel_rfl), rfl⟩, ⟨load_agg agg28 size28 f1837 (by simp) (by kernel_rfl), rfl⟩, sn1841, ⟨load_agg agg28 size28 f1843 (by simp) (by kernel_rfl), rfl⟩, ⟨cmp28_eql (decide_eq_true ⟨rfl, rfl⟩), rfl⟩, sn1846, q⟩) ?_
  refine end_at (T := ⟨fun _ _ => none, fun _ => none, none⟩) (A := K (vB true) hh1845) (by kernel_rfl) ?_
  exact hK _ _ (⟨rfl, x1849⟩)
end C27
