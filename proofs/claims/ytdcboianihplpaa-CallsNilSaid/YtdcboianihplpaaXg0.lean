/- Tables that there are not. -/
import Derived.Test.YtdcboianihplpaaXe
import Derived.KernelRfl
open Go Go.AM Go.Proofs
namespace C36
set_option maxHeartbeats 4000000 in
theorem open_nil (h : Heap) (c : CmdM) (sa : Option Addr) (cp : Nat) : WCall Try.prog 18 #[(Value.pointer none), (Value.agg #[(Value.int .i64 (c.kind)), (Value.int .i64 (c.call)), (Value.int .i64 (c.saga)), (Value.int .i64 (c.e1)), (Value.int .i64 (c.e2)), (Value.int .i64 (c.e3)), (Value.string c.key), (Value.int .i64 (c.delta)), (Value.int .i64 (c.move)), (Value.string c.rf), (Value.string c.rt), (Value.int .i64 (c.group)), (Value.string c.dn), (Value.int .i64 (c.dr)), (Value.int .i64 (c.dd)), (Value.slice sa (c.steps.length) (cp)), (Value.int .i64 (c.i1)), (Value.int .i64 (c.i2)), (Value.int .i64 (c.i3)), (Value.int .i64 (c.im)), (Value.bool c.ii), (Value.int .i64 (c.ig)), (Value.int .i64 (c.res)), (Value.string c.data)])] h (fun v h1 => v = .tuple #[.int .i64 0, .int .i64 1] ∧ Ext h h1) := by
  obtain ⟨b1410, eb1411⟩ : ∃ zq, zq = h.size := ⟨_, rfl⟩
  obtain ⟨h1408, e1409⟩ : ∃ zq, zq = h.push (.cells #[(Value.int .i64 (c.kind)), (Value.int .i64 (c.call)), (Value.int .i64 (c.saga)), (Value.int .i64 (c.e1)), (Value.int .i64 (c.e2)), (Value.int .i64 (c.e3)), (Value.string c.key), (Value.int .i64 (c.delta)), (Value.int .i64 (c.move)), (Value.string c.rf), (Value.string c.rt), (Value.int .i64 (c.group)), (Value.string c.dn), (Value.int .i64 (c.dr)), (Value.int .i64 (c.dd)), (Value.slice sa (c.steps.length) (cp)), (Value.int .i64 (c.i1)), (Value.int .i64 (c.i2)), (Value.int .i64 (c.i3)), (Value.int .i64 (c.im)), (Value.bool c.ii), (Value.int .i64 (c.ig)), (Value.int .i64 (c.res)), (Value.string c.data)] 43 (0, 0)) := ⟨_, rfl⟩
  have f1412 := push_new e1409
  rw [← eb1411] at f1412
  have x1413 : Ext h h1408 := by rw [e1409]; exact Ext.push _ _
  have o1414 : h.size ≤ b1410 := by have := (Ext.refl h).size; omega
  have x1415 := (Ext.refl h).trans x1413
  obtain ⟨_, _, sn1417, rfl, rfl⟩ := valid_nil h1408
  exact hCall_of (n := 200) (T := ⟨fun r i => match r, i with | 0, 0 => some ((Value.pointer (some ⟨b1410, 0, none⟩)), h1408) | 1, 1 => some ((Value.bool false), h1408) | _, _ => none, fun _ => none, none⟩)
    (A := ((Value.pointer (some ⟨b1410, 0, none⟩)) = (Value.pointer (some ⟨h.size, 0, none⟩)) ∧ h1408 = h.push (.cells #[(Value.int .i64 (c.kind)), (Value.int .i64 (c.call)), (Value.int .i64 (c.saga)), (Value.int .i64 (c.e1)), (Value.int .i64 (c.e2)), (Value.int .i64 (c.e3)), (Value.string c.key), (Value.int .i64 (c.delta)), (Value.int .i64 (c.move)), (Value.string c.rf), (Value.string c.rt), (Value.int .i64 (c.group)), (Value.string c.dn), (Value.int .i64 (c.dr)), (Value.int .i64 (c.dd)), (Value.slice sa (c.steps.length) (cp)), (Value.int .i64 (c.i1)), (Value.int .i64 (c.i2)), (Value.int .i64 (c.i3)), (Value.int .i64 (c.im)), (Value.bool c.ii), (Value.int .i64 (c.ig)), (Value.int .i64 (c.res)), (Value.string c.data)] 43 (0, 0))) ∧ SoundCall Try.prog 39 #[(Value.pointer none)] h1408 (Value.bool false) h1408 ∧ (fun v h1 => v = .tuple #[.int .i64 0, .int .i64 1] ∧ Ext h h1) (Value.tuple #[(Value.int .i64 0), (Value.int .i64 1)]) h1408) (by kernel_rfl) ⟨⟨by rw [eb1411], e1409⟩, sn1417, ⟨rfl, x1415⟩⟩
set_option maxHeartbeats 4000000 in
theorem get_nil (h : Heap) (k : Int) : WCall Try.prog 21 #[(Value.pointer none), (Value.int .i64 (k))] h (fun v h1 => v = (Value.tuple #[(Value.agg #[(Value.int .i64 0), (Value.int .i64 0), (Value.int .i64 0), (Value.int .i64 0), (Value.int .i64 0), (Value.int .i64 0), (Value.string .empty), (Value.int .i64 0), (Value.int .i64 0), (Value.string .empty), (Value.string .empty), (Value.int .i64 0), (Value.string .empty), (Value.int .i64 0), (Value.int .i64 0), (Value.slice none 0 0), (Value.int .i64 0), (Value.int .i64 0), (Value.int .i64 0), (Value.int .i64 0), (Value.bool false), (Value.int .i64 0), (Value.int .i64 0), (Value.string .empty)]), (Value.agg #[(Value.int .i64 0), (Value.int .i64 0), (Value.string .empty)]), (Value.bool false), (Value.int .i64 1)]) ∧ Ext h h1) := by
  obtain ⟨b1421, eb1422⟩ : ∃ zq, zq = h.size := ⟨_, rfl⟩
  obtain ⟨h1419, e1420⟩ : ∃ zq, zq = h.push (.cells #[(Value.int .i64 0), (Value.int .i64 0), (Value.int .i64 0), (Value.int .i64 0), (Value.int .i64 0), (Value.int .i64 0), (Value.string .empty), (Value.int .i64 0), (Value.int .i64 0), (Value.string .empty), (Value.string .empty), (Value.int .i64 0), (Value.string .empty), (Value.int .i64 0), (Value.int .i64 0), (Value.slice none 0 0), (Value.int .i64 0), (Value.int .i64 0), (Value.int .i64 0), (Value.int .i64 0), (Value.bool false), (Value.int .i64 0), (Value.int .i64 0), (Value.string .empty)] 43 (0, 0)) := ⟨_, rfl⟩
  have f1423 := push_new e1420
  rw [← eb1422] at f1423
  have x1424 : Ext h h1419 := by rw [e1420]; exact Ext.push _ _
  have o1425 : h.size ≤ b1421 := by have := (Ext.refl h).size; omega
  have x1426 := (Ext.refl h).trans x1424
  obtain ⟨b1429, eb1430⟩ : ∃ zq, zq = h1419.size := ⟨_, rfl⟩
  obtain ⟨h1427, e1428⟩ : ∃ zq, zq = h1419.push (.cells #[(Value.int .i64 0), (Value.int .i64 0), (Value.string .empty)] 45 (0, 0)) := ⟨_, rfl⟩
  have f1431 := push_new e1428
  rw [← eb1430] at f1431
  have n1432 : b1429 ≠ b1421 := by have := row_lt f1423; omega
  have x1433 : Ext h1419 h1427 := by rw [e1428]; exact Ext.push _ _
  have o1434 : h.size ≤ b1429 := by have := x1426.size; omega
  have f1435 := x1433 _ _ f1423
  have x1436 := x1426.trans x1433
  obtain ⟨_, _, sn1438, rfl, rfl⟩ := find_nil h1427 (k)
  obtain ⟨h1440, e1441⟩ : ∃ zq, zq = h1427.setIfInBounds b1421 (.cells #[(Value.int .i64 0), (Value.int .i64 0), (Value.int .i64 0), (Value.int .i64 0), (Value.int .i64 0), (Value.int .i64 0), (Value.string .empty), (Value.int .i64 0), (Value.int .i64 0), (Value.string .empty), (Value.string .empty), (Value.int .i64 0), (Value.string .empty), (Value.int .i64 0), (Value.int .i64 0), (Value.slice none 0 0), (Value.int .i64 0), (Value.int .i64 0), (Value.int .i64 0), (Value.int .i64 0), (Value.bool false), (Value.int .i64 0), (Value.int .i64 0), (Value.string .empty)] 43 (0, 0)) := ⟨_, rfl⟩
  have f1442 := set_same e1441 f1435
  have f1444 := set_other e1441 f1431 n1432.symm
  have x1445 := Ext.setNew x1436 e1441 o1425
  obtain ⟨h1446, e1447⟩ : ∃ zq, zq = h1440.setIfInBounds b1429 (.cells #[(Value.int .i64 0), (Value.int .i64 0), (Value.string .empty)] 45 (0, 0)) := ⟨_, rfl⟩
  have f1448 := set_same e1447 f1444
  have f1449 := set_other e1447 f1442 n1432
  have x1451 := Ext.setNew x1445 e1447 o1434
  exact hCall_of (n := 200) (T := ⟨fun r i => match r, i with | 0, 0 => some ((Value.pointer (some ⟨b1421, 0, none⟩)), h1419) | 0, 1 => some ((Value.pointer (some ⟨b1429, 0, none⟩)), h1427) | 1, 2 => some ((Value.int .i64 1), h1427) | 3, 3 => some (undef, h1440) | 3, 4 => some (undef, h1446) | _, _ => none, fun _ => none, some [(Value.agg #[(Value.int .i64 0), (Value.int .i64 0), (Value.int .i64 0), (Value.int .i64 0), (Value.int .i64 0), (Value.int .i64 0), (Value.string .empty), (Value.int .i64 0), (Value.int .i64 0), (Value.string .empty), (Value.string .empty), (Value.int .i64 0), (Value.string .empty), (Value.int .i64 0), (Value.int .i64 0), (Value.slice none 0 0), (Value.int .i64 0), (Value.int .i64 0), (Value.int .i64 0), (Value.int .i64 0), (Value.bool false), (Value.int .i64 0), (Value.int .i64 0), (Value.string .empty)]), (Value.agg #[(Value.int .i64 0), (Value.int .i64 0), (Value.string .empty)]), (Value.bool false), (Value.int .i64 1)]⟩)
    (A := ((Value.pointer (some ⟨b1421, 0, none⟩)) = (Value.pointer (some ⟨h.size, 0, none⟩)) ∧ h1419 = h.push (.cells #[(Value.int .i64 0), (Value.int .i64 0), (Value.int .i64 0), (Value.int .i64 0), (Value.int .i64 0), (Value.int .i64 0), (Value.string .empty), (Value.int .i64 0), (Value.int .i64 0), (Value.string .empty), (Value.string .empty), (Value.int .i64 0), (Value.string .empty), (Value.int .i64 0), (Value.int .i64 0), (Value.slice none 0 0), (Value.int .i64 0), (Value.int .i64 0), (Value.int .i64 0), (Value.int .i64 0), (Value.bool false), (Value.int .i64 0), (Value.int .i64 0), (Value.string .empty)] 43 (0, 0))) ∧ ((Value.pointer (some ⟨b1429, 0, none⟩)) = (Value.pointer (some ⟨h1419.size, 0, none⟩)) ∧ h1427 = h1419.push (.cells #[(Value.int .i64 0), (Value.int .i64 0), (Value.string .empty)] 45 (0, 0))) ∧ SoundCall Try.prog 40 #[(Value.pointer none), (Value.int .i64 (k))] h1427 (Value.int .i64 1) h1427 ∧ (storeT Try.prog h1427 43 (Value.pointer (some ⟨b1421, 0, none⟩)) (Value.agg #[(Value.int .i64 0), (Value.int .i64 0), (Value.int .i64 0), (Value.int .i64 0), (Value.int .i64 0), (Value.int .i64 0), (Value.string .empty), (Value.int .i64 0), (Value.int .i64 0), (Value.string .empty), (Value.string .empty), (Value.int .i64 0), (Value.string .empty), (Value.int .i64 0), (Value.int .i64 0), (Value.slice none 0 0), (Value.int .i64 0), (Value.int .i64 0), (Value.int .i64 0), (Value.int .i64 0), (Value.bool false), (Value.int .i64 0), (Value.int .i64 0), (Value.string .empty)]) = some h1440 ∧ (undef : Value) = undef) ∧ (storeT Try.prog h1440 45 (Value.pointer (some ⟨b1429, 0, none⟩)) (Value.agg #[(Value.int .i64 0), (Value.int .i64 0), (Value.string .empty)]) = some h1446 ∧ (undef : Value) = undef) ∧ (loadT Try.prog h1446 43 (Value.pointer (some ⟨b1421, 0, none⟩)) = some (Value.agg #[(Value.int .i64 0), (Value.int .i64 0), (Value.int .i64 0), (Value.int .i64 0), (Value.int .i64 0), (Value.int .i64 0), (Value.string .empty), (Value.int .i64 0), (Value.int .i64 0), (Value.string .empty), (Value.string .empty), (Value.int .i64 0), (Value.string .empty), (Value.int .i64 0), (Value.int .i64 0), (Value.slice none 0 0), (Value.int .i64 0), (Value.int .i64 0), (Value.int .i64 0), (Value.int .i64 0), (Value.bool false), (Value.int .i64 0), (Value.int .i64 0), (Value.string .empty)]) ∧ loadT Try.prog h1446 45 (Value.pointer (some ⟨b1429, 0, none⟩)) = some (Value.agg #[(Value.int .i64 0), (Value.int .i64 0), (Value.string .empty)]) ∧ (Value.bool false) = (Value.bool false) ∧ (Value.int .i64 1) = (Value.int .i64 1) ∧ True) ∧ (fun v h1 => v = (Value.tuple #[(Value.agg #[(Value.int .i64 0), (Value.int .i64 0), (Value.int .i64 0), (Value.int .i64 0), (Value.int .i64 0), (Value.int .i64 0), (Value.string .empty), (Value.int .i64 0), (Value.int .i64 0), (Value.string .empty), (Value.string .empty), (Value.int .i64 0), (Value.string .empty), (Value.int .i64 0), (Value.int .i64 0), (Value.slice none 0 0), (Value.int .i64 0), (Value.int .i64 0), (Value.int .i64 0), (Value.int .i64 0), (Value.bool false), (Value.int .i64 0), (Value.int .i64 0), (Value.string .empty)]), (Value.agg #[(Value.int .i64 0), (Value.int .i64 0), (Value.string .empty)]), (Value.bool false), (Value.int .i64 1)]) ∧ Ext h h1) (Value.tuple #[(Value.agg #[(Value.int .i64 0), (Value.int .i64 0), (Value.int .i64 0), (Value.int .i64 0), (Value.int .i64 0), (Value.int .i64 0), (Value.string .empty), (Value.int .i64 0), (Value.int .i64 0), (Value.string .empty), (Value.string .empty), (Value.int .i64 0), (Value.string .empty), (Value.int .i64 0), (Value.int .i64 0), (Value.slice none 0 0), (Value.int .i64 0), (Value.int .i64 0), (Value.int .i64 0), (Value.int .i64 0), (Value.bool false), (Value.int .i64 0), (Value.int .i64 0), (Value.string .empty)]), (Value.agg #[(Value.int .i64 0), (Value.int .i64 0), (Value.string .empty)]), (Value.bool false), (Value.int .i64 1)]) h1446) (by kernel_rfl) ⟨⟨by rw [eb1422], e1420⟩, ⟨by rw [eb1430], e1428⟩, sn1438, ⟨by rw [e1441]; exact store_cells size43 rfl f1435 (by decide) (by simp) rfl (by kernel_rfl), rfl⟩, ⟨by rw [e1447]; exact store_cells size45 rfl f1444 (by decide) (by simp) rfl (by kernel_rfl), rfl⟩, ⟨load_agg agg43 size43 f1449 (by simp) (by kernel_rfl), load_agg agg45 size45 f1448 (by simp) (by kernel_rfl), rfl, rfl, trivial⟩, ⟨rfl, x1451⟩⟩
set_option maxHeartbeats 4000000 in
theorem before_nil (h : Heap) (a b : Int) : WCall Try.prog 15 #[(Value.pointer none), (Value.int .i64 (a)), (Value.int .i64 (b))] h (fun v h1 => v = .tuple #[.bool false, .int .i64 1] ∧ Ext h h1) := by
  suffices H : ∀ K : Value → Heap → Prop, (∀ v h1, (fun v h1 => v = .tuple #[.bool false, .int .i64 1] ∧ Ext h h1) v h1 → K v h1) → WCall Try.prog 15 #[(Value.pointer none), (Value.int .i64 (a)), (Value.int .i64 (b))] h K from H _ fun _ _ q => q
  intro K hK
  refine wcall_at { tmps := #[(Value.pointer none), (Value.int .i64 (a)), (Value.int .i64 (b)), (Value.tuple #[]), (Value.tuple #[]), (Value.tuple #[]), (Value.tuple #[]), (Value.tuple #[]), (Value.tuple #[]), (Value.tuple #[]), (Value.tuple #[]), (Value.tuple #[]), (Value.tuple #[]), (Value.tuple #[]), (Value.tuple #[]), (Value.tuple #[]), (Value.tuple #[]), (Value.tuple #[]), (Value.tuple #[]), (Value.tuple #[]), (Value.tuple #[]), (Value.tuple #[]), (Value.tuple #[]), (Value.tuple #[]), (Value.tuple #[]), (Value.tuple #[]), (Value.tuple #[]), (Value.tuple #[]), (Value.tuple #[]), (Value.tuple #[]), (Value.tuple #[]), (Value.tuple #[]), (Value.tuple #[]), (Value.tuple #[]), (Value.tuple #[]), (Value.tuple #[]), (Value.tuple #[]), (Value.tuple #[]), (Value.tuple #[]), (Value.tuple #[]), (Value.tuple #[]), (Value.tuple #[]), (Value.tuple #[]), (Value.tuple #[]), (Value.tuple #[]), (Value.tuple #[]), (Value.tuple #[])], defers := [] } (by kernel_rfl) ?_
  refine wc_seq' (subc (bodyOf Try.prog 15) [0]) (subc (bodyOf Try.prog 15) [1]) (by kernel_rfl) ?_
  refine wc_upd (n := 200) (T := ⟨fun r i => match r, i with | _, _ => none, fun _ => none, none⟩) (x := .normal) (h1 := h) [(6, (Value.bool false)), (7, (Value.int .i64 0))]
    (fun q => q) (by intro K'; kernel_rfl) (fun _ q => q) ?_
  refine wc_seq' (subc (bodyOf Try.prog 15) [1, 0]) (subc (bodyOf Try.prog 15) [1, 1]) (by kernel_rfl) ?_
  refine wc_seq' (subc (bodyOf Try.prog 15) [1, 0, 0]) (subc (bodyOf Try.prog 15) [1, 0, 1]) (by kernel_rfl) ?_
  refine wc_upd (n := 200) (T := ⟨fun r i => match r, i with | _, _ => none, fun _ => none, none⟩) (x := .normal) (h1 := h) [(12, (Value.int .i64 (a))), (13, (Value.int .i64 (b))), (14, (Value.agg #[(Value.int .i64 (a)), (Value.int .i64 (b))])), (15, (Value.int .i64 0))]
    (fun q => q) (by intro K'; kernel_rfl) (fun _ q => q) ?_
  refine wc_block' 0 (subc (bodyOf Try.prog 15) [1, 0, 1, 0]) (by kernel_rfl) ?_
  refine wc_once (subc (bodyOf Try.prog 15) [1, 0, 1, 0, 0]) (by kernel_rfl) ?_
  obtain ⟨_, _, sn1453, rfl, rfl⟩ := find_nil h (a)
  refine wc_upd (n := 200) (T := ⟨fun r i => match r, i with | 4, 2 => some ((Value.int .i64 1), h) | _, _ => none, fun _ => none, none⟩) (x := .ret) (h1 := h) [(16, (Value.bool true)), (17, (Value.int .i64 (a))), (9, (Value.int .i64 (a))), (18, (Value.pointer none)), (19, (Value.int .i64 (a))), (20, (Value.int .i64 1)), (10, (Value.int .i64 1)), (21, (Value.int .i64 1)), (22, (Value.bool true)), (23, (Value.int .i64 1)), (6, (Value.bool false)), (7, (Value.int .i64 1))]
    (fun q => SoundCall Try.prog 40 #[(Value.pointer none), (Value.int .i64 (a))] h (Value.int .i64 1) h ∧ q) (by intro K'; kernel_rfl) (fun _ q => ⟨sn1453, q⟩) ?_
  refine end_at (T := ⟨fun _ _ => none, fun _ => none, none⟩) (A := K (Value.tuple #[(Value.bool false), (Value.int .i64 1)]) h) (by kernel_rfl) ?_
  exact hK _ _ (⟨rfl, (Ext.refl h)⟩)
set_option maxHeartbeats 4000000 in
theorem close_nil (h : Heap) (k e n : Int) (d : ByteArray) : WCall Try.prog 19 #[(Value.pointer none), (Value.int .i64 (k)), (Value.agg #[(Value.int .i64 (e)), (Value.int .i64 (n)), (Value.string d)])] h (fun v h1 => v = .int .i64 1 ∧ Ext h h1) := by
  obtain ⟨b1457, eb1458⟩ : ∃ zq, zq = h.size := ⟨_, rfl⟩
  obtain ⟨h1455, e1456⟩ : ∃ zq, zq = h.push (.cells #[(Value.int .i64 (e)), (Value.int .i64 (n)), (Value.string d)] 45 (0, 0)) := ⟨_, rfl⟩
  have f1459 := push_new e1456
  rw [← eb1458] at f1459
  have x1460 : Ext h h1455 := by rw [e1456]; exact Ext.push _ _
  have o1461 : h.size ≤ b1457 := by have := (Ext.refl h).size; omega
  have x1462 := (Ext.refl h).trans x1460
  obtain ⟨_, _, sn1464, rfl, rfl⟩ := find_nil h1455 (k)
  exact hCall_of (n := 200) (T := ⟨fun r i => match r, i with | 0, 0 => some ((Value.pointer (some ⟨b1457, 0, none⟩)), h1455) | 1, 2 => some ((Value.int .i64 1), h1455) | _, _ => none, fun _ => none, none⟩)
    (A := ((Value.pointer (some ⟨b1457, 0, none⟩)) = (Value.pointer (some ⟨h.size, 0, none⟩)) ∧ h1455 = h.push (.cells #[(Value.int .i64 (e)), (Value.int .i64 (n)), (Value.string d)] 45 (0, 0))) ∧ SoundCall Try.prog 40 #[(Value.pointer none), (Value.int .i64 (k))] h1455 (Value.int .i64 1) h1455 ∧ (fun v h1 => v = .int .i64 1 ∧ Ext h h1) (Value.int .i64 1) h1455) (by kernel_rfl) ⟨⟨by rw [eb1458], e1456⟩, sn1464, ⟨rfl, x1462⟩⟩
set_option maxHeartbeats 4000000 in
theorem waiting_nil (h : Heap)  : WCall Try.prog 20 #[(Value.pointer none)] h (fun v h1 => v = .slice none 0 0 ∧ Ext h h1) := by
  suffices H : ∀ K : Value → Heap → Prop, (∀ v h1, (fun v h1 => v = .slice none 0 0 ∧ Ext h h1) v h1 → K v h1) → WCall Try.prog 20 #[(Value.pointer none)] h K from H _ fun _ _ q => q
  intro K hK
  refine wcall_at { tmps := #[(Value.pointer none), (Value.tuple #[]), (Value.tuple #[]), (Value.tuple #[]), (Value.tuple #[]), (Value.tuple #[]), (Value.tuple #[]), (Value.tuple #[]), (Value.tuple #[]), (Value.tuple #[]), (Value.tuple #[]), (Value.tuple #[]), (Value.tuple #[]), (Value.tuple #[]), (Value.tuple #[]), (Value.tuple #[]), (Value.tuple #[]), (Value.tuple #[]), (Value.tuple #[]), (Value.tuple #[]), (Value.tuple #[]), (Value.tuple #[]), (Value.tuple #[]), (Value.tuple #[]), (Value.tuple #[]), (Value.tuple #[]), (Value.tuple #[]), (Value.tuple #[])], defers := [] } (by kernel_rfl) ?_
  refine wc_seq' (subc (bodyOf Try.prog 20) [0]) (subc (bodyOf Try.prog 20) [1]) (by kernel_rfl) ?_
  refine wc_upd (n := 200) (T := ⟨fun r i => match r, i with | _, _ => none, fun _ => none, none⟩) (x := .normal) (h1 := h) [(2, (Value.slice none 0 0))]
    (fun q => q) (by intro K'; kernel_rfl) (fun _ q => q) ?_
  refine wc_seq' (subc (bodyOf Try.prog 20) [1, 0]) (subc (bodyOf Try.prog 20) [1, 1]) (by kernel_rfl) ?_
  obtain ⟨_, _, sn1467, rfl, rfl⟩ := valid_nil h
  refine wc_upd (n := 200) (T := ⟨fun r i => match r, i with | 1, 1 => some ((Value.bool false), h) | _, _ => none, fun _ => none, none⟩) (x := .ret) (h1 := h) [(6, (Value.pointer none)), (7, (Value.bool false)), (8, (Value.bool true)), (2, (Value.slice none 0 0))]
    (fun q => SoundCall Try.prog 39 #[(Value.pointer none)] h (Value.bool false) h ∧ q) (by intro K'; kernel_rfl) (fun _ q => ⟨sn1467, q⟩) ?_
  refine end_at (T := ⟨fun _ _ => none, fun _ => none, none⟩) (A := K (Value.slice none 0 0) h) (by kernel_rfl) ?_
  exact hK _ _ (⟨rfl, (Ext.refl h)⟩)
set_option maxHeartbeats 4000000 in
theorem len_nil (h : Heap)  : WCall Try.prog 14 #[(Value.pointer none)] h (fun v h1 => v = .int .i64 0 ∧ Ext h h1) := by
  obtain ⟨_, _, sn1470, rfl, rfl⟩ := valid_nil h
  exact hCall_of (n := 200) (T := ⟨fun r i => match r, i with | 1, 1 => some ((Value.bool false), h) | _, _ => none, fun _ => none, none⟩)
    (A := SoundCall Try.prog 39 #[(Value.pointer none)] h (Value.bool false) h ∧ (fun v h1 => v = .int .i64 0 ∧ Ext h h1) (Value.int .i64 0) h) (by kernel_rfl) ⟨sn1470, ⟨rfl, (Ext.refl h)⟩⟩
set_option maxHeartbeats 4000000 in
theorem copy_nil (h : Heap)  : WCall Try.prog 24 #[(Value.pointer none)] h (fun v h1 => v = .pointer none ∧ Ext h h1) := by
  obtain ⟨_, _, sn1473, rfl, rfl⟩ := valid_nil h
  exact hCall_of (n := 200) (T := ⟨fun r i => match r, i with | 1, 1 => some ((Value.bool false), h) | _, _ => none, fun _ => none, none⟩)
    (A := SoundCall Try.prog 39 #[(Value.pointer none)] h (Value.bool false) h ∧ (fun v h1 => v = .pointer none ∧ Ext h h1) (Value.pointer none) h) (by kernel_rfl) ⟨sn1473, ⟨rfl, (Ext.refl h)⟩⟩
set_option maxHeartbeats 4000000 in
theorem each_nil (h : Heap) (l : Nat) (bx : Nat) (hx : h[bx]? = some (.cells #[(Value.pointer none)] 25 (0, 0))) : WCall Try.prog 53 #[(Value.func (.yield l) #[] #[]), (Value.pointer (some ⟨bx, 0, none⟩))] h (fun _ h1 => h = h1) := by
  suffices H : ∀ K : Value → Heap → Prop, (∀ v h1, (fun _ h1 => h = h1) v h1 → K v h1) → WCall Try.prog 53 #[(Value.func (.yield l) #[] #[]), (Value.pointer (some ⟨bx, 0, none⟩))] h K from H _ fun _ _ q => q
  intro K hK
  refine wcall_at { tmps := #[(Value.func (.yield l) #[] #[]), (Value.pointer (some ⟨bx, 0, none⟩)), (Value.tuple #[]), (Value.tuple #[]), (Value.tuple #[]), (Value.tuple #[]), (Value.tuple #[]), (Value.tuple #[]), (Value.tuple #[]), (Value.tuple #[]), (Value.tuple #[]), (Value.tuple #[]), (Value.tuple #[]), (Value.tuple #[]), (Value.tuple #[]), (Value.tuple #[]), (Value.tuple #[]), (Value.tuple #[]), (Value.tuple #[]), (Value.tuple #[]), (Value.tuple #[]), (Value.tuple #[]), (Value.tuple #[]), (Value.tuple #[]), (Value.tuple #[]), (Value.tuple #[]), (Value.tuple #[]), (Value.tuple #[])], defers := [] } (by kernel_rfl) ?_
  refine wc_seq' (subc (bodyOf Try.prog 53) [0]) (subc (bodyOf Try.prog 53) [1]) (by kernel_rfl) ?_
  obtain ⟨_, _, sn1476, rfl, rfl⟩ := valid_nil h
  refine wc_upd (n := 200) (T := ⟨fun r i => match r, i with | 0, 0 => some ((Value.pointer none), h) | 0, 1 => some ((Value.bool false), h) | _, _ => none, fun _ => none, none⟩) (x := .ret) (h1 := h) [(5, (Value.pointer none)), (6, (Value.bool false)), (7, (Value.bool true))]
    (fun q => (loadT Try.prog h 25 (Value.pointer (some ⟨bx, 0, none⟩)) = some (Value.pointer none) ∧ h = h) ∧ SoundCall Try.prog 39 #[(Value.pointer none)] h (Value.bool false) h ∧ q) (by intro K'; kernel_rfl) (fun _ q => ⟨⟨load_cell agg25 hx rfl, rfl⟩, sn1476, q⟩) ?_
  refine end_at (T := ⟨fun _ _ => none, fun _ => none, none⟩) (A := K (Value.tuple #[]) h) (by kernel_rfl) ?_
  exact hK _ _ (rfl)
set_option maxHeartbeats 4000000 in
theorem append_nil (h : Heap) (bx : Nat) (hx : h[bx]? = some (.cells #[(Value.pointer none)] 25 (0, 0))) : WCall Try.prog 52 #[(Value.slice none 0 0), (Value.func (.func 53) #[] #[(Value.pointer (some ⟨bx, 0, none⟩))])] h (fun v h1 => v = .slice none 0 0 ∧ Ext h h1) := by
  suffices H : ∀ K : Value → Heap → Prop, (∀ v h1, (fun v h1 => v = .slice none 0 0 ∧ Ext h h1) v h1 → K v h1) → WCall Try.prog 52 #[(Value.slice none 0 0), (Value.func (.func 53) #[] #[(Value.pointer (some ⟨bx, 0, none⟩))])] h K from H _ fun _ _ q => q
  intro K hK
  refine wcall_at { tmps := #[(Value.slice none 0 0), (Value.func (.func 53) #[] #[(Value.pointer (some ⟨bx, 0, none⟩))]), (Value.tuple #[]), (Value.tuple #[]), (Value.tuple #[]), (Value.tuple #[]), (Value.tuple #[]), (Value.tuple #[]), (Value.tuple #[]), (Value.tuple #[]), (Value.tuple #[]), (Value.tuple #[]), (Value.tuple #[])], defers := [] } (by kernel_rfl) ?_
  refine wc_seq' (subc (bodyOf Try.prog 52) [0]) (subc (bodyOf Try.prog 52) [1]) (by kernel_rfl) ?_
  obtain ⟨b1480, eb1481⟩ : ∃ zq, zq = h.size := ⟨_, rfl⟩
  obtain ⟨h1478, e1479⟩ : ∃ zq, zq = h.push (.cells #[(Value.slice none 0 0)] 31 (0, 0)) := ⟨_, rfl⟩
  have f1482 := push_new e1479
  rw [← eb1481] at f1482
  have n1483 : b1480 ≠ bx := by have := row_lt hx; omega
  have x1484 : Ext h h1478 := by rw [e1479]; exact Ext.push _ _
  have o1485 : h.size ≤ b1480 := by have := (Ext.refl h).size; omega
  have f1486 := x1484 _ _ hx
  have x1487 := (Ext.refl h).trans x1484
  refine wc_upd (n := 200) (T := ⟨fun r i => match r, i with | 0, 0 => some ((Value.pointer (some ⟨b1480, 0, none⟩)), h1478) | _, _ => none, fun _ => none, none⟩) (x := .normal) (h1 := h1478) [(2, (Value.pointer (some ⟨b1480, 0, none⟩))), (4, (Value.slice none 0 0))]
    (fun q => ((Value.pointer (some ⟨b1480, 0, none⟩)) = (Value.pointer (some ⟨h.size, 0, none⟩)) ∧ h1478 = h.push (.cells #[(Value.slice none 0 0)] 31 (0, 0))) ∧ q) (by intro K'; kernel_rfl) (fun _ q => ⟨⟨by rw [eb1481], e1479⟩, q⟩) ?_
  refine wc_seq' (subc (bodyOf Try.prog 52) [1, 0]) (subc (bodyOf Try.prog 52) [1, 1]) (by kernel_rfl) ?_
  refine wc_seq' (subc (bodyOf Try.prog 52) [1, 0, 0]) (subc (bodyOf Try.prog 52) [1, 0, 1]) (by kernel_rfl) ?_
  refine wc_upd (n := 200) (T := ⟨fun r i => match r, i with | _, _ => none, fun _ => none, none⟩) (x := .normal) (h1 := h1478) [(6, (Value.func (.func 53) #[] #[(Value.pointer (some ⟨bx, 0, none⟩))]))]
    (fun q => q) (by intro K'; kernel_rfl) (fun _ q => q) ?_
  refine wc_block' 0 (subc (bodyOf Try.prog 52) [1, 0, 1, 0]) (by kernel_rfl) ?_
  obtain ⟨dv, edv⟩ : ∃ zq, zq = h1478.size := ⟨_, rfl⟩
  obtain ⟨l, el⟩ : ∃ zq, zq = h1478.size + 1 := ⟨_, rfl⟩
  obtain ⟨h9, e9⟩ : ∃ zq, zq = (h1478.push (.deferred (some []))).push (.loop (evLoop b1480 dv (Value.slice none 0 0) (Value.func (.func 53) #[] #[(Value.pointer (some ⟨bx, 0, none⟩))]) (Value.tuple #[]) (Value.slice none 0 0) (Value.tuple #[]) (Value.func (.func 53) #[] #[(Value.pointer (some ⟨bx, 0, none⟩))]) (Value.tuple #[]) (Value.tuple #[]) (Value.tuple #[]) (Value.tuple #[]) (Value.tuple #[]) (Value.tuple #[]))) := ⟨_, rfl⟩
  have x9 : Ext h1478 h9 := by rw [e9]; exact (Ext.push _ _).trans (Ext.push _ _)
  have pl : At h9 l (.loop (evLoop b1480 dv (Value.slice none 0 0) (Value.func (.func 53) #[] #[(Value.pointer (some ⟨bx, 0, none⟩))]) (Value.tuple #[]) (Value.slice none 0 0) (Value.tuple #[]) (Value.func (.func 53) #[] #[(Value.pointer (some ⟨bx, 0, none⟩))]) (Value.tuple #[]) (Value.tuple #[]) (Value.tuple #[]) (Value.tuple #[]) (Value.tuple #[]) (Value.tuple #[]))) := by rw [e9, el, show h1478.size + 1 = (h1478.push (.deferred (some []))).size by simp]; exact push_new rfl
  have pd : At h9 dv (.deferred (some [])) := by rw [e9, edv]; exact push_old (b := h1478.size) rfl (push_new rfl)
  have lb : b1480 < h1478.size := row_lt f1482
  have z0 : h.size ≤ h1478.size := x1487.size
  refine wc_range (h1 := h9) (c := (subc (bodyOf Try.prog 52) [1, 0, 1, 0])) (g := .tmp 6) (params := #[7]) (assign := subc (bodyOf Try.prog 52) [1, 0, 1, 0, 0]) (body := subc (bodyOf Try.prog 52) [1, 0, 1, 0, 1]) (by kernel_rfl) 53 #[] #[(.pointer (some ⟨bx, 0, none⟩))] l [{ target := .collected dv, args := #[] }] #[(Value.func (.yield l) #[] #[]), (.pointer (some ⟨bx, 0, none⟩))] (by rfl) rfl rfl (by kernel_rfl) (by rw [e9, el, edv]; rfl) ?_
  refine (each_nil h9 l bx (x9 _ _ f1486)).mono fun _ h8 q => ?_
  subst q
  refine ⟨_, pl, rfl, rfl, ?_⟩
  obtain ⟨h7, e7⟩ : ∃ zq, zq = h9.setIfInBounds l (.loop { evLoop b1480 dv (Value.slice none 0 0) (Value.func (.func 53) #[] #[(Value.pointer (some ⟨bx, 0, none⟩))]) (Value.tuple #[]) (Value.slice none 0 0) (Value.tuple #[]) (Value.func (.func 53) #[] #[(Value.pointer (some ⟨bx, 0, none⟩))]) (Value.tuple #[]) (Value.tuple #[]) (Value.tuple #[]) (Value.tuple #[]) (Value.tuple #[]) (Value.tuple #[]) with state := .exhausted }) := ⟨_, rfl⟩
  rw [← e7]
  have rb : h7[b1480]? = some (.cells #[.slice none 0 0] 31 (0, 0)) := set_other e7 (x9 _ _ f1482) (by omega)
  have pd7 : At h7 dv (.deferred (some [])) := set_other e7 (show h9[dv]? = some _ from pd) (by omega)
  have x7 : Ext h h7 := Ext.setNew (x1487.trans x9) e7 (by omega)
  refine wc_upd (n := 200) (T := ⟨fun r i => match r, i with | 4, 0 => some ((Value.slice none 0 0), h7) | _, _ => none, fun _ => none, none⟩) (x := .ret) (h1 := h7) [(12, (Value.slice none 0 0)), (4, (Value.slice none 0 0))]
    (fun q => (loadT Try.prog h7 31 (Value.pointer (some ⟨b1480, 0, none⟩)) = some (Value.slice none 0 0) ∧ h7 = h7) ∧ q) (by intro K'; kernel_rfl) (fun _ q => ⟨⟨load_cell agg31 rb rfl, rfl⟩, q⟩) ?_
  refine end_mark (dv := dv) (Value.slice none 0 0) (.inr rfl) rfl pd7 (by intro h2; kernel_rfl) ?_
  obtain ⟨h6, e6⟩ : ∃ zq, zq = h7.setIfInBounds dv (.deferred none) := ⟨_, rfl⟩
  rw [← e6]
  exact hK _ _ ⟨rfl, Ext.setNew x7 e6 (by omega)⟩
set_option maxHeartbeats 4000000 in
theorem collect_nil (h : Heap) (bx : Nat) (hx : h[bx]? = some (.cells #[(Value.pointer none)] 25 (0, 0))) : WCall Try.prog 41 #[(Value.func (.func 53) #[] #[(Value.pointer (some ⟨bx, 0, none⟩))])] h (fun v h1 => v = .slice none 0 0 ∧ Ext h h1) := by
  obtain ⟨_, hh1488, sn1489, rfl, x1490⟩ := append_nil h _ hx
  have f1491 := x1490 _ _ hx
  have x1492 := (Ext.refl h).trans x1490
  exact hCall_of (n := 200) (T := ⟨fun r i => match r, i with | 1, 1 => some ((Value.slice none 0 0), hh1488) | _, _ => none, fun _ => none, none⟩)
    (A := SoundCall Try.prog 52 #[(Value.slice none 0 0), (Value.func (.func 53) #[] #[(Value.pointer (some ⟨bx, 0, none⟩))])] h (Value.slice none 0 0) hh1488 ∧ (fun v h1 => v = .slice none 0 0 ∧ Ext h h1) (Value.slice none 0 0) hh1488) (by kernel_rfl) ⟨sn1489, ⟨rfl, x1492⟩⟩
set_option maxHeartbeats 4000000 in
theorem seq_nil (h : Heap)  : WCall Try.prog 42 #[(Value.pointer none)] h (fun v h1 => ∃ b, v = .func (.func 53) #[] #[.pointer (some ⟨b, 0, none⟩)] ∧ h1[b]? = some (.cells #[(Value.pointer none)] 25 (0, 0)) ∧ Ext h h1) := by
  obtain ⟨b1495, eb1496⟩ : ∃ zq, zq = h.size := ⟨_, rfl⟩
  obtain ⟨h1493, e1494⟩ : ∃ zq, zq = h.push (.cells #[(Value.pointer none)] 25 (0, 0)) := ⟨_, rfl⟩
  have f1497 := push_new e1494
  rw [← eb1496] at f1497
  have x1498 : Ext h h1493 := by rw [e1494]; exact Ext.push _ _
  have o1499 : h.size ≤ b1495 := by have := (Ext.refl h).size; omega
  have x1500 := (Ext.refl h).trans x1498
  exact hCall_of (n := 200) (T := ⟨fun r i => match r, i with | 0, 0 => some ((Value.pointer (some ⟨b1495, 0, none⟩)), h1493) | _, _ => none, fun _ => none, none⟩)
    (A := ((Value.pointer (some ⟨b1495, 0, none⟩)) = (Value.pointer (some ⟨h.size, 0, none⟩)) ∧ h1493 = h.push (.cells #[(Value.pointer none)] 25 (0, 0))) ∧ (fun v h1 => ∃ b, v = .func (.func 53) #[] #[.pointer (some ⟨b, 0, none⟩)] ∧ h1[b]? = some (.cells #[(Value.pointer none)] 25 (0, 0)) ∧ Ext h h1) (Value.func (.func 53) #[] #[(Value.pointer (some ⟨b1495, 0, none⟩))]) h1493) (by kernel_rfl) ⟨⟨by rw [eb1496], e1494⟩, ⟨_, rfl, f1497, x1500⟩⟩
set_option maxHeartbeats 4000000 in
theorem events_nil (h : Heap)  : WCall Try.prog 16 #[(Value.pointer none)] h (fun v h1 => v = .slice none 0 0 ∧ Ext h h1) := by
  obtain ⟨_, h1502, s1503, b1501, rfl, f1504, x1505⟩ := seq_nil h
  have x1506 := (Ext.refl h).trans x1505
  obtain ⟨_, hh1507, sn1508, rfl, x1509⟩ := collect_nil h1502 _ f1504
  have x1510 := x1506.trans x1509
  exact hCall_of (n := 200) (T := ⟨fun r i => match r, i with | 1, 1 => some ((Value.func (.func 53) #[] #[(Value.pointer (some ⟨b1501, 0, none⟩))]), h1502) | 1, 2 => some ((Value.slice none 0 0), hh1507) | _, _ => none, fun _ => none, none⟩)
    (A := SoundCall Try.prog 42 #[(Value.pointer none)] h (Value.func (.func 53) #[] #[(Value.pointer (some ⟨b1501, 0, none⟩))]) h1502 ∧ SoundCall Try.prog 41 #[(Value.func (.func 53) #[] #[(Value.pointer (some ⟨b1501, 0, none⟩))])] h1502 (Value.slice none 0 0) hh1507 ∧ (fun v h1 => v = .slice none 0 0 ∧ Ext h h1) (Value.slice none 0 0) hh1507) (by kernel_rfl) ⟨s1503, sn1508, ⟨rfl, x1510⟩⟩
set_option maxHeartbeats 4000000 in
theorem open_un (h : Heap) {t : Nat} (ht : h[t]? = some (.cells #[.bool false, .slice none 0 0, .slice none 0 0, .slice none 0 0] 68 (0, 0))) (c : CmdM) (sa : Option Addr) (cp : Nat) : WCall Try.prog 18 #[(Value.pointer (some ⟨t, 0, none⟩)), (Value.agg #[(Value.int .i64 (c.kind)), (Value.int .i64 (c.call)), (Value.int .i64 (c.saga)), (Value.int .i64 (c.e1)), (Value.int .i64 (c.e2)), (Value.int .i64 (c.e3)), (Value.string c.key), (Value.int .i64 (c.delta)), (Value.int .i64 (c.move)), (Value.string c.rf), (Value.string c.rt), (Value.int .i64 (c.group)), (Value.string c.dn), (Value.int .i64 (c.dr)), (Value.int .i64 (c.dd)), (Value.slice sa (c.steps.length) (cp)), (Value.int .i64 (c.i1)), (Value.int .i64 (c.i2)), (Value.int .i64 (c.i3)), (Value.int .i64 (c.im)), (Value.bool c.ii), (Value.int .i64 (c.ig)), (Value.int .i64 (c.res)), (Value.string c.data)])] h (fun v h1 => v = .tuple #[.int .i64 0, .int .i64 1] ∧ Ext h h1) := by
  obtain ⟨b1513, eb1514⟩ : ∃ zq, zq = h.size := ⟨_, rfl⟩
  obtain ⟨h1511, e1512⟩ : ∃ zq, zq = h.push (.cells #[(Value.int .i64 (c.kind)), (Value.int .i64 (c.call)), (Value.int .i64 (c.saga)), (Value.int .i64 (c.e1)), (Value.int .i64 (c.e2)), (Value.int .i64 (c.e3)), (Value.string c.key), (Value.int .i64 (c.delta)), (Value.int .i64 (c.move)), (Value.string c.rf), (Value.string c.rt), (Value.int .i64 (c.group)), (Value.string c.dn), (Value.int .i64 (c.dr)), (Value.int .i64 (c.dd)), (Value.slice sa (c.steps.length) (cp)), (Value.int .i64 (c.i1)), (Value.int .i64 (c.i2)), (Value.int .i64 (c.i3)), (Value.int .i64 (c.im)), (Value.bool c.ii), (Value.int .i64 (c.ig)), (Value.int .i64 (c.res)), (Value.string c.data)] 43 (0, 0)) := ⟨_, rfl⟩
  have f1515 := push_new e1512
  rw [← eb1514] at f1515
  have n1516 : b1513 ≠ t := by have := row_lt ht; omega
  have x1517 : Ext h h1511 := by rw [e1512]; exact Ext.push _ _
  have o1518 : h.size ≤ b1513 := by have := (Ext.refl h).size; omega
  have f1519 := x1517 _ _ ht
  have x1520 := (Ext.refl h).trans x1517
  obtain ⟨_, _, sn1522, rfl, rfl⟩ := valid_bad h1511 f1519
  exact hCall_of (n := 200) (T := ⟨fun r i => match r, i with | 0, 0 => some ((Value.pointer (some ⟨b1513, 0, none⟩)), h1511) | 1, 1 => some ((Value.bool false), h1511) | _, _ => none, fun _ => none, none⟩)
    (A := ((Value.pointer (some ⟨b1513, 0, none⟩)) = (Value.pointer (some ⟨h.size, 0, none⟩)) ∧ h1511 = h.push (.cells #[(Value.int .i64 (c.kind)), (Value.int .i64 (c.call)), (Value.int .i64 (c.saga)), (Value.int .i64 (c.e1)), (Value.int .i64 (c.e2)), (Value.int .i64 (c.e3)), (Value.string c.key), (Value.int .i64 (c.delta)), (Value.int .i64 (c.move)), (Value.string c.rf), (Value.string c.rt), (Value.int .i64 (c.group)), (Value.string c.dn), (Value.int .i64 (c.dr)), (Value.int .i64 (c.dd)), (Value.slice sa (c.steps.length) (cp)), (Value.int .i64 (c.i1)), (Value.int .i64 (c.i2)), (Value.int .i64 (c.i3)), (Value.int .i64 (c.im)), (Value.bool c.ii), (Value.int .i64 (c.ig)), (Value.int .i64 (c.res)), (Value.string c.data)] 43 (0, 0))) ∧ SoundCall Try.prog 39 #[(Value.pointer (some ⟨t, 0, none⟩))] h1511 (Value.bool false) h1511 ∧ (fun v h1 => v = .tuple #[.int .i64 0, .int .i64 1] ∧ Ext h h1) (Value.tuple #[(Value.int .i64 0), (Value.int .i64 1)]) h1511) (by kernel_rfl) ⟨⟨by rw [eb1514], e1512⟩, sn1522, ⟨rfl, x1520⟩⟩
set_option maxHeartbeats 4000000 in
theorem get_un (h : Heap) {t : Nat} (ht : h[t]? = some (.cells #[.bool false, .slice none 0 0, .slice none 0 0, .slice none 0 0] 68 (0, 0))) (k : Int) : WCall Try.prog 21 #[(Value.pointer (some ⟨t, 0, none⟩)), (Value.int .i64 (k))] h (fun v h1 => v = (Value.tuple #[(Value.agg #[(Value.int .i64 0), (Value.int .i64 0), (Value.int .i64 0), (Value.int .i64 0), (Value.int .i64 0), (Value.int .i64 0), (Value.string .empty), (Value.int .i64 0), (Value.int .i64 0), (Value.string .empty), (Value.string .empty), (Value.int .i64 0), (Value.string .empty), (Value.int .i64 0), (Value.int .i64 0), (Value.slice none 0 0), (Value.int .i64 0), (Value.int .i64 0), (Value.int .i64 0), (Value.int .i64 0), (Value.bool false), (Value.int .i64 0), (Value.int .i64 0), (Value.string .empty)]), (Value.agg #[(Value.int .i64 0), (Value.int .i64 0), (Value.string .empty)]), (Value.bool false), (Value.int .i64 1)]) ∧ Ext h h1) := by
  obtain ⟨b1526, eb1527⟩ : ∃ zq, zq = h.size := ⟨_, rfl⟩
  obtain ⟨h1524, e1525⟩ : ∃ zq, zq = h.push (.cells #[(Value.int .i64 0), (Value.int .i64 0), (Value.int .i64 0), (Value.int .i64 0), (Value.int .i64 0), (Value.int .i64 0), (Value.string .empty), (Value.int .i64 0), (Value.int .i64 0), (Value.string .empty), (Value.string .empty), (Value.int .i64 0), (Value.string .empty), (Value.int .i64 0), (Value.int .i64 0), (Value.slice none 0 0), (Value.int .i64 0), (Value.int .i64 0), (Value.int .i64 0), (Value.int .i64 0), (Value.bool false), (Value.int .i64 0), (Value.int .i64 0), (Value.string .empty)] 43 (0, 0)) := ⟨_, rfl⟩
  have f1528 := push_new e1525
  rw [← eb1527] at f1528
  have n1529 : b1526 ≠ t := by have := row_lt ht; omega
  have x1530 : Ext h h1524 := by rw [e1525]; exact Ext.push _ _
  have o1531 : h.size ≤ b1526 := by have := (Ext.refl h).size; omega
  have f1532 := x1530 _ _ ht
  have x1533 := (Ext.refl h).trans x1530
  obtain ⟨b1536, eb1537⟩ : ∃ zq, zq = h1524.size := ⟨_, rfl⟩
  obtain ⟨h1534, e1535⟩ : ∃ zq, zq = h1524.push (.cells #[(Value.int .i64 0), (Value.int .i64 0), (Value.string .empty)] 45 (0, 0)) := ⟨_, rfl⟩
  have f1538 := push_new e1535
  rw [← eb1537] at f1538
  have n1539 : b1536 ≠ t := by have := row_lt f1532; omega
  have n1540 : b1536 ≠ b1526 := by have := row_lt f1528; omega
  have x1541 : Ext h1524 h1534 := by rw [e1535]; exact Ext.push _ _
  have o1542 : h.size ≤ b1536 := by have := x1533.size; omega
  have f1543 := x1541 _ _ f1532
  have f1544 := x1541 _ _ f1528
  have x1545 := x1533.trans x1541
  obtain ⟨_, _, sn1547, rfl, rfl⟩ := find_bad h1534 f1543 (k)
  obtain ⟨h1549, e1550⟩ : ∃ zq, zq = h1534.setIfInBounds b1526 (.cells #[(Value.int .i64 0), (Value.int .i64 0), (Value.int .i64 0), (Value.int .i64 0), (Value.int .i64 0), (Value.int .i64 0), (Value.string .empty), (Value.int .i64 0), (Value.int .i64 0), (Value.string .empty), (Value.string .empty), (Value.int .i64 0), (Value.string .empty), (Value.int .i64 0), (Value.int .i64 0), (Value.slice none 0 0), (Value.int .i64 0), (Value.int .i64 0), (Value.int .i64 0), (Value.int .i64 0), (Value.bool false), (Value.int .i64 0), (Value.int .i64 0), (Value.string .empty)] 43 (0, 0)) := ⟨_, rfl⟩
  have f1551 := set_same e1550 f1544
  have f1552 := set_other e1550 f1543 n1529
  have f1554 := set_other e1550 f1538 n1540.symm
  have x1555 := Ext.setNew x1545 e1550 o1531
  obtain ⟨h1556, e1557⟩ : ∃ zq, zq = h1549.setIfInBounds b1536 (.cells #[(Value.int .i64 0), (Value.int .i64 0), (Value.string .empty)] 45 (0, 0)) := ⟨_, rfl⟩
  have f1558 := set_same e1557 f1554
  have f1559 := set_other e1557 f1552 n1539
  have f1560 := set_other e1557 f1551 n1540
  have x1562 := Ext.setNew x1555 e1557 o1542
  exact hCall_of (n := 200) (T := ⟨fun r i => match r, i with | 0, 0 => some ((Value.pointer (some ⟨b1526, 0, none⟩)), h1524) | 0, 1 => some ((Value.pointer (some ⟨b1536, 0, none⟩)), h1534) | 1, 2 => some ((Value.int .i64 1), h1534) | 3, 3 => some (undef, h1549) | 3, 4 => some (undef, h1556) | _, _ => none, fun _ => none, some [(Value.agg #[(Value.int .i64 0), (Value.int .i64 0), (Value.int .i64 0), (Value.int .i64 0), (Value.int .i64 0), (Value.int .i64 0), (Value.string .empty), (Value.int .i64 0), (Value.int .i64 0), (Value.string .empty), (Value.string .empty), (Value.int .i64 0), (Value.string .empty), (Value.int .i64 0), (Value.int .i64 0), (Value.slice none 0 0), (Value.int .i64 0), (Value.int .i64 0), (Value.int .i64 0), (Value.int .i64 0), (Value.bool false), (Value.int .i64 0), (Value.int .i64 0), (Value.string .empty)]), (Value.agg #[(Value.int .i64 0), (Value.int .i64 0), (Value.string .empty)]), (Value.bool false), (Value.int .i64 1)]⟩)
    (A := ((Value.pointer (some ⟨b1526, 0, none⟩)) = (Value.pointer (some ⟨h.size, 0, none⟩)) ∧ h1524 = h.push (.cells #[(Value.int .i64 0), (Value.int .i64 0), (Value.int .i64 0), (Value.int .i64 0), (Value.int .i64 0), (Value.int .i64 0), (Value.string .empty), (Value.int .i64 0), (Value.int .i64 0), (Value.string .empty), (Value.string .empty), (Value.int .i64 0), (Value.string .empty), (Value.int .i64 0), (Value.int .i64 0), (Value.slice none 0 0), (Value.int .i64 0), (Value.int .i64 0), (Value.int .i64 0), (Value.int .i64 0), (Value.bool false), (Value.int .i64 0), (Value.int .i64 0), (Value.string .empty)] 43 (0, 0))) ∧ ((Value.pointer (some ⟨b1536, 0, none⟩)) = (Value.pointer (some ⟨h1524.size, 0, none⟩)) ∧ h1534 = h1524.push (.cells #[(Value.int .i64 0), (Value.int .i64 0), (Value.string .empty)] 45 (0, 0))) ∧ SoundCall Try.prog 40 #[(Value.pointer (some ⟨t, 0, none⟩)), (Value.int .i64 (k))] h1534 (Value.int .i64 1) h1534 ∧ (storeT Try.prog h1534 43 (Value.pointer (some ⟨b1526, 0, none⟩)) (Value.agg #[(Value.int .i64 0), (Value.int .i64 0), (Value.int .i64 0), (Value.int .i64 0), (Value.int .i64 0), (Value.int .i64 0), (Value.string .empty), (Value.int .i64 0), (Value.int .i64 0), (Value.string .empty), (Value.string .empty), (Value.int .i64 0), (Value.string .empty), (Value.int .i64 0), (Value.int .i64 0), (Value.slice none 0 0), (Value.int .i64 0), (Value.int .i64 0), (Value.int .i64 0), (Value.int .i64 0), (Value.bool false), (Value.int .i64 0), (Value.int .i64 0), (Value.string .empty)]) = some h1549 ∧ (undef : Value) = undef) ∧ (storeT Try.prog h1549 45 (Value.pointer (some ⟨b1536, 0, none⟩)) (Value.agg #[(Value.int .i64 0), (Value.int .i64 0), (Value.string .empty)]) = some h1556 ∧ (undef : Value) = undef) ∧ (loadT Try.prog h1556 43 (Value.pointer (some ⟨b1526, 0, none⟩)) = some (Value.agg #[(Value.int .i64 0), (Value.int .i64 0), (Value.int .i64 0), (Value.int .i64 0), (Value.int .i64 0), (Value.int .i64 0), (Value.string .empty), (Value.int .i64 0), (Value.int .i64 0), (Value.string .empty), (Value.string .empty), (Value.int .i64 0), (Value.string .empty), (Value.int .i64 0), (Value.int .i64 0), (Value.slice none 0 0), (Value.int .i64 0), (Value.int .i64 0), (Value.int .i64 0), (Value.int .i64 0), (Value.bool false), (Value.int .i64 0), (Value.int .i64 0), (Value.string .empty)]) ∧ loadT Try.prog h1556 45 (Value.pointer (some ⟨b1536, 0, none⟩)) = some (Value.agg #[(Value.int .i64 0), (Value.int .i64 0), (Value.string .empty)]) ∧ (Value.bool false) = (Value.bool false) ∧ (Value.int .i64 1) = (Value.int .i64 1) ∧ True) ∧ (fun v h1 => v = (Value.tuple #[(Value.agg #[(Value.int .i64 0), (Value.int .i64 0), (Value.int .i64 0), (Value.int .i64 0), (Value.int .i64 0), (Value.int .i64 0), (Value.string .empty), (Value.int .i64 0), (Value.int .i64 0), (Value.string .empty), (Value.string .empty), (Value.int .i64 0), (Value.string .empty), (Value.int .i64 0), (Value.int .i64 0), (Value.slice none 0 0), (Value.int .i64 0), (Value.int .i64 0), (Value.int .i64 0), (Value.int .i64 0), (Value.bool false), (Value.int .i64 0), (Value.int .i64 0), (Value.string .empty)]), (Value.agg #[(Value.int .i64 0), (Value.int .i64 0), (Value.string .empty)]), (Value.bool false), (Value.int .i64 1)]) ∧ Ext h h1) (Value.tuple #[(Value.agg #[(Value.int .i64 0), (Value.int .i64 0), (Value.int .i64 0), (Value.int .i64 0), (Value.int .i64 0), (Value.int .i64 0), (Value.string .empty), (Value.int .i64 0), (Value.int .i64 0), (Value.string .empty), (Value.string .empty), (Value.int .i64 0), (Value.string .empty), (Value.int .i64 0), (Value.int .i64 0), (Value.slice none 0 0), (Value.int .i64 0), (Value.int .i64 0), (Value.int .i64 0), (Value.int .i64 0), (Value.bool false), (Value.int .i64 0), (Value.int .i64 0), (Value.string .empty)]), (Value.agg #[(Value.int .i64 0), (Value.int .i64 0), (Value.string .empty)]), (Value.bool false), (Value.int .i64 1)]) h1556) (by kernel_rfl) ⟨⟨by rw [eb1527], e1525⟩, ⟨by rw [eb1537], e1535⟩, sn1547, ⟨by rw [e1550]; exact store_cells size43 rfl f1544 (by decide) (by simp) rfl (by kernel_rfl), rfl⟩, ⟨by rw [e1557]; exact store_cells size45 rfl f1554 (by decide) (by simp) rfl (by kernel_rfl), rfl⟩, ⟨load_agg agg43 size43 f1560 (by simp) (by kernel_rfl), load_agg agg45 size45 f1558 (by simp) (by kernel_rfl), rfl, rfl, trivial⟩, ⟨rfl, x1562⟩⟩
set_option maxHeartbeats 4000000 in
theorem before_un (h : Heap) {t : Nat} (ht : h[t]? = some (.cells #[.bool false, .slice none 0 0, .slice none 0 0, .slice none 0 0] 68 (0, 0))) (a b : Int) : WCall Try.prog 15 #[(Value.pointer (some ⟨t, 0, none⟩)), (Value.int .i64 (a)), (Value.int .i64 (b))] h (fun v h1 => v = .tuple #[.bool false, .int .i64 1] ∧ Ext h h1) := by
  suffices H : ∀ K : Value → Heap → Prop, (∀ v h1, (fun v h1 => v = .tuple #[.bool false, .int .i64 1] ∧ Ext h h1) v h1 → K v h1) → WCall Try.prog 15 #[(Value.pointer (some ⟨t, 0, none⟩)), (Value.int .i64 (a)), (Value.int .i64 (b))] h K from H _ fun _ _ q => q
  intro K hK
  refine wcall_at { tmps := #[(Value.pointer (some ⟨t, 0, none⟩)), (Value.int .i64 (a)), (Value.int .i64 (b)), (Value.tuple #[]), (Value.tuple #[]), (Value.tuple #[]), (Value.tuple #[]), (Value.tuple #[]), (Value.tuple #[]), (Value.tuple #[]), (Value.tuple #[]), (Value.tuple #[]), (Value.tuple #[]), (Value.tuple #[]), (Value.tuple #[]), (Value.tuple #[]), (Value.tuple #[]), (Value.tuple #[]), (Value.tuple #[]), (Value.tuple #[]), (Value.tuple #[]), (Value.tuple #[]), (Value.tuple #[]), (Value.tuple #[]), (Value.tuple #[]), (Value.tuple #[]), (Value.tuple #[]), (Value.tuple #[]), (Value.tuple #[]), (Value.tuple #[]), (Value.tuple #[]), (Value.tuple #[]), (Value.tuple #[]), (Value.tuple #[]), (Value.tuple #[]), (Value.tuple #[]), (Value.tuple #[]), (Value.tuple #[]), (Value.tuple #[]), (Value.tuple #[]), (Value.tuple #[]), (Value.tuple #[]), (Value.tuple #[]), (Value.tuple #[]), (Value.tuple #[]), (Value.tuple #[]), (Value.tuple #[])], defers := [] } (by kernel_rfl) ?_
  refine wc_seq' (subc (bodyOf Try.prog 15) [0]) (subc (bodyOf Try.prog 15) [1]) (by kernel_rfl) ?_
  refine wc_upd (n := 200) (T := ⟨fun r i => match r, i with | _, _ => none, fun _ => none, none⟩) (x := .normal) (h1 := h) [(6, (Value.bool false)), (7, (Value.int .i64 0))]
    (fun q => q) (by intro K'; kernel_rfl) (fun _ q => q) ?_
  refine wc_seq' (subc (bodyOf Try.prog 15) [1, 0]) (subc (bodyOf Try.prog 15) [1, 1]) (by kernel_rfl) ?_
  refine wc_seq' (subc (bodyOf Try.prog 15) [1, 0, 0]) (subc (bodyOf Try.prog 15) [1, 0, 1]) (by kernel_rfl) ?_
  refine wc_upd (n := 200) (T := ⟨fun r i => match r, i with | _, _ => none, fun _ => none, none⟩) (x := .normal) (h1 := h) [(12, (Value.int .i64 (a))), (13, (Value.int .i64 (b))), (14, (Value.agg #[(Value.int .i64 (a)), (Value.int .i64 (b))])), (15, (Value.int .i64 0))]
    (fun q => q) (by intro K'; kernel_rfl) (fun _ q => q) ?_
  refine wc_block' 0 (subc (bodyOf Try.prog 15) [1, 0, 1, 0]) (by kernel_rfl) ?_
  refine wc_once (subc (bodyOf Try.prog 15) [1, 0, 1, 0, 0]) (by kernel_rfl) ?_
  obtain ⟨_, _, sn1564, rfl, rfl⟩ := find_bad h ht (a)
  refine wc_upd (n := 200) (T := ⟨fun r i => match r, i with | 4, 2 => some ((Value.int .i64 1), h) | _, _ => none, fun _ => none, none⟩) (x := .ret) (h1 := h) [(16, (Value.bool true)), (17, (Value.int .i64 (a))), (9, (Value.int .i64 (a))), (18, (Value.pointer (some ⟨t, 0, none⟩))), (19, (Value.int .i64 (a))), (20, (Value.int .i64 1)), (10, (Value.int .i64 1)), (21, (Value.int .i64 1)), (22, (Value.bool true)), (23, (Value.int .i64 1)), (6, (Value.bool false)), (7, (Value.int .i64 1))]
    (fun q => SoundCall Try.prog 40 #[(Value.pointer (some ⟨t, 0, none⟩)), (Value.int .i64 (a))] h (Value.int .i64 1) h ∧ q) (by intro K'; kernel_rfl) (fun _ q => ⟨sn1564, q⟩) ?_
  refine end_at (T := ⟨fun _ _ => none, fun _ => none, none⟩) (A := K (Value.tuple #[(Value.bool false), (Value.int .i64 1)]) h) (by kernel_rfl) ?_
  exact hK _ _ (⟨rfl, (Ext.refl h)⟩)
set_option maxHeartbeats 4000000 in
theorem close_un (h : Heap) {t : Nat} (ht : h[t]? = some (.cells #[.bool false, .slice none 0 0, .slice none 0 0, .slice none 0 0] 68 (0, 0))) (k e n : Int) (d : ByteArray) : WCall Try.prog 19 #[(Value.pointer (some ⟨t, 0, none⟩)), (Value.int .i64 (k)), (Value.agg #[(Value.int .i64 (e)), (Value.int .i64 (n)), (Value.string d)])] h (fun v h1 => v = .int .i64 1 ∧ Ext h h1) := by
  obtain ⟨b1568, eb1569⟩ : ∃ zq, zq = h.size := ⟨_, rfl⟩
  obtain ⟨h1566, e1567⟩ : ∃ zq, zq = h.push (.cells #[(Value.int .i64 (e)), (Value.int .i64 (n)), (Value.string d)] 45 (0, 0)) := ⟨_, rfl⟩
  have f1570 := push_new e1567
  rw [← eb1569] at f1570
  have n1571 : b1568 ≠ t := by have := row_lt ht; omega
  have x1572 : Ext h h1566 := by rw [e1567]; exact Ext.push _ _
  have o1573 : h.size ≤ b1568 := by have := (Ext.refl h).size; omega
  have f1574 := x1572 _ _ ht
  have x1575 := (Ext.refl h).trans x1572
  obtain ⟨_, _, sn1577, rfl, rfl⟩ := find_bad h1566 f1574 (k)
  exact hCall_of (n := 200) (T := ⟨fun r i => match r, i with | 0, 0 => some ((Value.pointer (some ⟨b1568, 0, none⟩)), h1566) | 1, 2 => some ((Value.int .i64 1), h1566) | _, _ => none, fun _ => none, none⟩)
    (A := ((Value.pointer (some ⟨b1568, 0, none⟩)) = (Value.pointer (some ⟨h.size, 0, none⟩)) ∧ h1566 = h.push (.cells #[(Value.int .i64 (e)), (Value.int .i64 (n)), (Value.string d)] 45 (0, 0))) ∧ SoundCall Try.prog 40 #[(Value.pointer (some ⟨t, 0, none⟩)), (Value.int .i64 (k))] h1566 (Value.int .i64 1) h1566 ∧ (fun v h1 => v = .int .i64 1 ∧ Ext h h1) (Value.int .i64 1) h1566) (by kernel_rfl) ⟨⟨by rw [eb1569], e1567⟩, sn1577, ⟨rfl, x1575⟩⟩
set_option maxHeartbeats 4000000 in
theorem waiting_un (h : Heap) {t : Nat} (ht : h[t]? = some (.cells #[.bool false, .slice none 0 0, .slice none 0 0, .slice none 0 0] 68 (0, 0)))  : WCall Try.prog 20 #[(Value.pointer (some ⟨t, 0, none⟩))] h (fun v h1 => v = .slice none 0 0 ∧ Ext h h1) := by
  suffices H : ∀ K : Value → Heap → Prop, (∀ v h1, (fun v h1 => v = .slice none 0 0 ∧ Ext h h1) v h1 → K v h1) → WCall Try.prog 20 #[(Value.pointer (some ⟨t, 0, none⟩))] h K from H _ fun _ _ q => q
  intro K hK
  refine wcall_at { tmps := #[(Value.pointer (some ⟨t, 0, none⟩)), (Value.tuple #[]), (Value.tuple #[]), (Value.tuple #[]), (Value.tuple #[]), (Value.tuple #[]), (Value.tuple #[]), (Value.tuple #[]), (Value.tuple #[]), (Value.tuple #[]), (Value.tuple #[]), (Value.tuple #[]), (Value.tuple #[]), (Value.tuple #[]), (Value.tuple #[]), (Value.tuple #[]), (Value.tuple #[]), (Value.tuple #[]), (Value.tuple #[]), (Value.tuple #[]), (Value.tuple #[]), (Value.tuple #[]), (Value.tuple #[]), (Value.tuple #[]), (Value.tuple #[]), (Value.tuple #[]), (Value.tuple #[]), (Value.tuple #[])], defers := [] } (by kernel_rfl) ?_
  refine wc_seq' (subc (bodyOf Try.prog 20) [0]) (subc (bodyOf Try.prog 20) [1]) (by kernel_rfl) ?_
  refine wc_upd (n := 200) (T := ⟨fun r i => match r, i with | _, _ => none, fun _ => none, none⟩) (x := .normal) (h1 := h) [(2, (Value.slice none 0 0))]
    (fun q => q) (by intro K'; kernel_rfl) (fun _ q => q) ?_
  refine wc_seq' (subc (bodyOf Try.prog 20) [1, 0]) (subc (bodyOf Try.prog 20) [1, 1]) (by kernel_rfl) ?_
  obtain ⟨_, _, sn1580, rfl, rfl⟩ := valid_bad h ht
  refine wc_upd (n := 200) (T := ⟨fun r i => match r, i with | 1, 1 => some ((Value.bool false), h) | _, _ => none, fun _ => none, none⟩) (x := .ret) (h1 := h) [(6, (Value.pointer (some ⟨t, 0, none⟩))), (7, (Value.bool false)), (8, (Value.bool true)), (2, (Value.slice none 0 0))]
    (fun q => SoundCall Try.prog 39 #[(Value.pointer (some ⟨t, 0, none⟩))] h (Value.bool false) h ∧ q) (by intro K'; kernel_rfl) (fun _ q => ⟨sn1580, q⟩) ?_
  refine end_at (T := ⟨fun _ _ => none, fun _ => none, none⟩) (A := K (Value.slice none 0 0) h) (by kernel_rfl) ?_
  exact hK _ _ (⟨rfl, (Ext.refl h)⟩)
set_option maxHeartbeats 4000000 in
theorem len_un (h : Heap) {t : Nat} (ht : h[t]? = some (.cells #[.bool false, .slice none 0 0, .slice none 0 0, .slice none 0 0] 68 (0, 0)))  : WCall Try.prog 14 #[(Value.pointer (some ⟨t, 0, none⟩))] h (fun v h1 => v = .int .i64 0 ∧ Ext h h1) := by
  obtain ⟨_, _, sn1583, rfl, rfl⟩ := valid_bad h ht
  exact hCall_of (n := 200) (T := ⟨fun r i => match r, i with | 1, 1 => some ((Value.bool false), h) | _, _ => none, fun _ => none, none⟩)
    (A := SoundCall Try.prog 39 #[(Value.pointer (some ⟨t, 0, none⟩))] h (Value.bool false) h ∧ (fun v h1 => v = .int .i64 0 ∧ Ext h h1) (Value.int .i64 0) h) (by kernel_rfl) ⟨sn1583, ⟨rfl, (Ext.refl h)⟩⟩
set_option maxHeartbeats 4000000 in
theorem copy_un (h : Heap) {t : Nat} (ht : h[t]? = some (.cells #[.bool false, .slice none 0 0, .slice none 0 0, .slice none 0 0] 68 (0, 0)))  : WCall Try.prog 24 #[(Value.pointer (some ⟨t, 0, none⟩))] h (fun v h1 => v = .pointer none ∧ Ext h h1) := by
  obtain ⟨_, _, sn1586, rfl, rfl⟩ := valid_bad h ht
  exact hCall_of (n := 200) (T := ⟨fun r i => match r, i with | 1, 1 => some ((Value.bool false), h) | _, _ => none, fun _ => none, none⟩)
    (A := SoundCall Try.prog 39 #[(Value.pointer (some ⟨t, 0, none⟩))] h (Value.bool false) h ∧ (fun v h1 => v = .pointer none ∧ Ext h h1) (Value.pointer none) h) (by kernel_rfl) ⟨sn1586, ⟨rfl, (Ext.refl h)⟩⟩
set_option maxHeartbeats 4000000 in
theorem each_un (h : Heap) {t : Nat} (ht : h[t]? = some (.cells #[.bool false, .slice none 0 0, .slice none 0 0, .slice none 0 0] 68 (0, 0))) (l : Nat) (bx : Nat) (hx : h[bx]? = some (.cells #[(Value.pointer (some ⟨t, 0, none⟩))] 25 (0, 0))) : WCall Try.prog 53 #[(Value.func (.yield l) #[] #[]), (Value.pointer (some ⟨bx, 0, none⟩))] h (fun _ h1 => h = h1) := by
  suffices H : ∀ K : Value → Heap → Prop, (∀ v h1, (fun _ h1 => h = h1) v h1 → K v h1) → WCall Try.prog 53 #[(Value.func (.yield l) #[] #[]), (Value.pointer (some ⟨bx, 0, none⟩))] h K from H _ fun _ _ q => q
  intro K hK
  refine wcall_at { tmps := #[(Value.func (.yield l) #[] #[]), (Value.pointer (some ⟨bx, 0, none⟩)), (Value.tuple #[]), (Value.tuple #[]), (Value.tuple #[]), (Value.tuple #[]), (Value.tuple #[]), (Value.tuple #[]), (Value.tuple #[]), (Value.tuple #[]), (Value.tuple #[]), (Value.tuple #[]), (Value.tuple #[]), (Value.tuple #[]), (Value.tuple #[]), (Value.tuple #[]), (Value.tuple #[]), (Value.tuple #[]), (Value.tuple #[]), (Value.tuple #[]), (Value.tuple #[]), (Value.tuple #[]), (Value.tuple #[]), (Value.tuple #[]), (Value.tuple #[]), (Value.tuple #[]), (Value.tuple #[]), (Value.tuple #[])], defers := [] } (by kernel_rfl) ?_
  refine wc_seq' (subc (bodyOf Try.prog 53) [0]) (subc (bodyOf Try.prog 53) [1]) (by kernel_rfl) ?_
  obtain ⟨_, _, sn1589, rfl, rfl⟩ := valid_bad h ht
  refine wc_upd (n := 200) (T := ⟨fun r i => match r, i with | 0, 0 => some ((Value.pointer (some ⟨t, 0, none⟩)), h) | 0, 1 => some ((Value.bool false), h) | _, _ => none, fun _ => none, none⟩) (x := .ret) (h1 := h) [(5, (Value.pointer (some ⟨t, 0, none⟩))), (6, (Value.bool false)), (7, (Value.bool true))]
    (fun q => (loadT Try.prog h 25 (Value.pointer (some ⟨bx, 0, none⟩)) = some (Value.pointer (some ⟨t, 0, none⟩)) ∧ h = h) ∧ SoundCall Try.prog 39 #[(Value.pointer (some ⟨t, 0, none⟩))] h (Value.bool false) h ∧ q) (by intro K'; kernel_rfl) (fun _ q => ⟨⟨load_cell agg25 hx rfl, rfl⟩, sn1589, q⟩) ?_
  refine end_at (T := ⟨fun _ _ => none, fun _ => none, none⟩) (A := K (Value.tuple #[]) h) (by kernel_rfl) ?_
  exact hK _ _ (rfl)
set_option maxHeartbeats 4000000 in
theorem append_un (h : Heap) {t : Nat} (ht : h[t]? = some (.cells #[.bool false, .slice none 0 0, .slice none 0 0, .slice none 0 0] 68 (0, 0))) (bx : Nat) (hx : h[bx]? = some (.cells #[(Value.pointer (some ⟨t, 0, none⟩))] 25 (0, 0))) : WCall Try.prog 52 #[(Value.slice none 0 0), (Value.func (.func 53) #[] #[(Value.pointer (some ⟨bx, 0, none⟩))])] h (fun v h1 => v = .slice none 0 0 ∧ Ext h h1) := by
  suffices H : ∀ K : Value → Heap → Prop, (∀ v h1, (fun v h1 => v = .slice none 0 0 ∧ Ext h h1) v h1 → K v h1) → WCall Try.prog 52 #[(Value.slice none 0 0), (Value.func (.func 53) #[] #[(Value.pointer (some ⟨bx, 0, none⟩))])] h K from H _ fun _ _ q => q
  intro K hK
  refine wcall_at { tmps := #[(Value.slice none 0 0), (Value.func (.func 53) #[] #[(Value.pointer (some ⟨bx, 0, none⟩))]), (Value.tuple #[]), (Value.tuple #[]), (Value.tuple #[]), (Value.tuple #[]), (Value.tuple #[]), (Value.tuple #[]), (Value.tuple #[]), (Value.tuple #[]), (Value.tuple #[]), (Value.tuple #[]), (Value.tuple #[])], defers := [] } (by kernel_rfl) ?_
  refine wc_seq' (subc (bodyOf Try.prog 52) [0]) (subc (bodyOf Try.prog 52) [1]) (by kernel_rfl) ?_
  obtain ⟨b1593, eb1594⟩ : ∃ zq, zq = h.size := ⟨_, rfl⟩
  obtain ⟨h1591, e1592⟩ : ∃ zq, zq = h.push (.cells #[(Value.slice none 0 0)] 31 (0, 0)) := ⟨_, rfl⟩
  have f1595 := push_new e1592
  rw [← eb1594] at f1595
  have n1596 : b1593 ≠ t := by have := row_lt ht; omega
  have n1597 : b1593 ≠ bx := by have := row_lt hx; omega
  have x1598 : Ext h h1591 := by rw [e1592]; exact Ext.push _ _
  have o1599 : h.size ≤ b1593 := by have := (Ext.refl h).size; omega
  have f1600 := x1598 _ _ ht
  have f1601 := x1598 _ _ hx
  have x1602 := (Ext.refl h).trans x1598
  refine wc_upd (n := 200) (T := ⟨fun r i => match r, i with | 0, 0 => some ((Value.pointer (some ⟨b1593, 0, none⟩)), h1591) | _, _ => none, fun _ => none, none⟩) (x := .normal) (h1 := h1591) [(2, (Value.pointer (some ⟨b1593, 0, none⟩))), (4, (Value.slice none 0 0))]
    (fun q => ((Value.pointer (some ⟨b1593, 0, none⟩)) = (Value.pointer (some ⟨h.size, 0, none⟩)) ∧ h1591 = h.push (.cells #[(Value.slice none 0 0)] 31 (0, 0))) ∧ q) (by intro K'; kernel_rfl) (fun _ q => ⟨⟨by rw [eb1594], e1592⟩, q⟩) ?_
  refine wc_seq' (subc (bodyOf Try.prog 52) [1, 0]) (subc (bodyOf Try.prog 52) [1, 1]) (by kernel_rfl) ?_
  refine wc_seq' (subc (bodyOf Try.prog 52) [1, 0, 0]) (subc (bodyOf Try.prog 52) [1, 0, 1]) (by kernel_rfl) ?_
  refine wc_upd (n := 200) (T := ⟨fun r i => match r, i with | _, _ => none, fun _ => none, none⟩) (x := .normal) (h1 := h1591) [(6, (Value.func (.func 53) #[] #[(Value.pointer (some ⟨bx, 0, none⟩))]))]
    (fun q => q) (by intro K'; kernel_rfl) (fun _ q => q) ?_
  refine wc_block' 0 (subc (bodyOf Try.prog 52) [1, 0, 1, 0]) (by kernel_rfl) ?_
  obtain ⟨dv, edv⟩ : ∃ zq, zq = h1591.size := ⟨_, rfl⟩
  obtain ⟨l, el⟩ : ∃ zq, zq = h1591.size + 1 := ⟨_, rfl⟩
  obtain ⟨h9, e9⟩ : ∃ zq, zq = (h1591.push (.deferred (some []))).push (.loop (evLoop b1593 dv (Value.slice none 0 0) (Value.func (.func 53) #[] #[(Value.pointer (some ⟨bx, 0, none⟩))]) (Value.tuple #[]) (Value.slice none 0 0) (Value.tuple #[]) (Value.func (.func 53) #[] #[(Value.pointer (some ⟨bx, 0, none⟩))]) (Value.tuple #[]) (Value.tuple #[]) (Value.tuple #[]) (Value.tuple #[]) (Value.tuple #[]) (Value.tuple #[]))) := ⟨_, rfl⟩
  have x9 : Ext h1591 h9 := by rw [e9]; exact (Ext.push _ _).trans (Ext.push _ _)
  have pl : At h9 l (.loop (evLoop b1593 dv (Value.slice none 0 0) (Value.func (.func 53) #[] #[(Value.pointer (some ⟨bx, 0, none⟩))]) (Value.tuple #[]) (Value.slice none 0 0) (Value.tuple #[]) (Value.func (.func 53) #[] #[(Value.pointer (some ⟨bx, 0, none⟩))]) (Value.tuple #[]) (Value.tuple #[]) (Value.tuple #[]) (Value.tuple #[]) (Value.tuple #[]) (Value.tuple #[]))) := by rw [e9, el, show h1591.size + 1 = (h1591.push (.deferred (some []))).size by simp]; exact push_new rfl
  have pd : At h9 dv (.deferred (some [])) := by rw [e9, edv]; exact push_old (b := h1591.size) rfl (push_new rfl)
  have lb : b1593 < h1591.size := row_lt f1595
  have z0 : h.size ≤ h1591.size := x1602.size
  refine wc_range (h1 := h9) (c := (subc (bodyOf Try.prog 52) [1, 0, 1, 0])) (g := .tmp 6) (params := #[7]) (assign := subc (bodyOf Try.prog 52) [1, 0, 1, 0, 0]) (body := subc (bodyOf Try.prog 52) [1, 0, 1, 0, 1]) (by kernel_rfl) 53 #[] #[(.pointer (some ⟨bx, 0, none⟩))] l [{ target := .collected dv, args := #[] }] #[(Value.func (.yield l) #[] #[]), (.pointer (some ⟨bx, 0, none⟩))] (by rfl) rfl rfl (by kernel_rfl) (by rw [e9, el, edv]; rfl) ?_
  refine (each_un h9 (x9 _ _ f1600) l bx (x9 _ _ f1601)).mono fun _ h8 q => ?_
  subst q
  refine ⟨_, pl, rfl, rfl, ?_⟩
  obtain ⟨h7, e7⟩ : ∃ zq, zq = h9.setIfInBounds l (.loop { evLoop b1593 dv (Value.slice none 0 0) (Value.func (.func 53) #[] #[(Value.pointer (some ⟨bx, 0, none⟩))]) (Value.tuple #[]) (Value.slice none 0 0) (Value.tuple #[]) (Value.func (.func 53) #[] #[(Value.pointer (some ⟨bx, 0, none⟩))]) (Value.tuple #[]) (Value.tuple #[]) (Value.tuple #[]) (Value.tuple #[]) (Value.tuple #[]) (Value.tuple #[]) with state := .exhausted }) := ⟨_, rfl⟩
  rw [← e7]
  have rb : h7[b1593]? = some (.cells #[.slice none 0 0] 31 (0, 0)) := set_other e7 (x9 _ _ f1595) (by omega)
  have pd7 : At h7 dv (.deferred (some [])) := set_other e7 (show h9[dv]? = some _ from pd) (by omega)
  have x7 : Ext h h7 := Ext.setNew (x1602.trans x9) e7 (by omega)
  refine wc_upd (n := 200) (T := ⟨fun r i => match r, i with | 4, 0 => some ((Value.slice none 0 0), h7) | _, _ => none, fun _ => none, none⟩) (x := .ret) (h1 := h7) [(12, (Value.slice none 0 0)), (4, (Value.slice none 0 0))]
    (fun q => (loadT Try.prog h7 31 (Value.pointer (some ⟨b1593, 0, none⟩)) = some (Value.slice none 0 0) ∧ h7 = h7) ∧ q) (by intro K'; kernel_rfl) (fun _ q => ⟨⟨load_cell agg31 rb rfl, rfl⟩, q⟩) ?_
  refine end_mark (dv := dv) (Value.slice none 0 0) (.inr rfl) rfl pd7 (by intro h2; kernel_rfl) ?_
  obtain ⟨h6, e6⟩ : ∃ zq, zq = h7.setIfInBounds dv (.deferred none) := ⟨_, rfl⟩
  rw [← e6]
  exact hK _ _ ⟨rfl, Ext.setNew x7 e6 (by omega)⟩
set_option maxHeartbeats 4000000 in
theorem collect_un (h : Heap) {t : Nat} (ht : h[t]? = some (.cells #[.bool false, .slice none 0 0, .slice none 0 0, .slice none 0 0] 68 (0, 0))) (bx : Nat) (hx : h[bx]? = some (.cells #[(Value.pointer (some ⟨t, 0, none⟩))] 25 (0, 0))) : WCall Try.prog 41 #[(Value.func (.func 53) #[] #[(Value.pointer (some ⟨bx, 0, none⟩))])] h (fun v h1 => v = .slice none 0 0 ∧ Ext h h1) := by
  obtain ⟨_, hh1603, sn1604, rfl, x1605⟩ := append_un h ht _ hx
  have f1606 := x1605 _ _ ht
  have f1607 := x1605 _ _ hx
  have x1608 := (Ext.refl h).trans x1605
  exact hCall_of (n := 200) (T := ⟨fun r i => match r, i with | 1, 1 => some ((Value.slice none 0 0), hh1603) | _, _ => none, fun _ => none, none⟩)
    (A := SoundCall Try.prog 52 #[(Value.slice none 0 0), (Value.func (.func 53) #[] #[(Value.pointer (some ⟨bx, 0, none⟩))])] h (Value.slice none 0 0) hh1603 ∧ (fun v h1 => v = .slice none 0 0 ∧ Ext h h1) (Value.slice none 0 0) hh1603) (by kernel_rfl) ⟨sn1604, ⟨rfl, x1608⟩⟩
set_option maxHeartbeats 4000000 in
theorem seq_un (h : Heap) (t : Nat) : WCall Try.prog 42 #[(Value.pointer (some ⟨t, 0, none⟩))] h (fun v h1 => ∃ b, v = .func (.func 53) #[] #[.pointer (some ⟨b, 0, none⟩)] ∧ h1[b]? = some (.cells #[(Value.pointer (some ⟨t, 0, none⟩))] 25 (0, 0)) ∧ Ext h h1) := by
  obtain ⟨b1611, eb1612⟩ : ∃ zq, zq = h.size := ⟨_, rfl⟩
  obtain ⟨h1609, e1610⟩ : ∃ zq, zq = h.push (.cells #[(Value.pointer (some ⟨t, 0, none⟩))] 25 (0, 0)) := ⟨_, rfl⟩
  have f1613 := push_new e1610
  rw [← eb1612] at f1613
  have x1614 : Ext h h1609 := by rw [e1610]; exact Ext.push _ _
  have o1615 : h.size ≤ b1611 := by have := (Ext.refl h).size; omega
  have x1616 := (Ext.refl h).trans x1614
  exact hCall_of (n := 200) (T := ⟨fun r i => match r, i with | 0, 0 => some ((Value.pointer (some ⟨b1611, 0, none⟩)), h1609) | _, _ => none, fun _ => none, none⟩)
    (A := ((Value.pointer (some ⟨b1611, 0, none⟩)) = (Value.pointer (some ⟨h.size, 0, none⟩)) ∧ h1609 = h.push (.cells #[(Value.pointer (some ⟨t, 0, none⟩))] 25 (0, 0))) ∧ (fun v h1 => ∃ b, v = .func (.func 53) #[] #[.pointer (some ⟨b, 0, none⟩)] ∧ h1[b]? = some (.cells #[(Value.pointer (some ⟨t, 0, none⟩))] 25 (0, 0)) ∧ Ext h h1) (Value.func (.func 53) #[] #[(Value.pointer (some ⟨b1611, 0, none⟩))]) h1609) (by kernel_rfl) ⟨⟨by rw [eb1612], e1610⟩, ⟨_, rfl, f1613, x1616⟩⟩
set_option maxHeartbeats 4000000 in
theorem events_un (h : Heap) {t : Nat} (ht : h[t]? = some (.cells #[.bool false, .slice none 0 0, .slice none 0 0, .slice none 0 0] 68 (0, 0)))  : WCall Try.prog 16 #[(Value.pointer (some ⟨t, 0, none⟩))] h (fun v h1 => v = .slice none 0 0 ∧ Ext h h1) := by
  obtain ⟨_, h1618, s1619, b1617, rfl, f1620, x1621⟩ := seq_un h t
  have f1622 := x1621 _ _ ht
  have x1623 := (Ext.refl h).trans x1621
  obtain ⟨_, hh1624, sn1625, rfl, x1626⟩ := collect_un h1618 f1622 _ f1620
  have f1627 := x1626 _ _ f1622
  have x1628 := x1623.trans x1626
  exact hCall_of (n := 200) (T := ⟨fun r i => match r, i with | 1, 1 => some ((Value.func (.func 53) #[] #[(Value.pointer (some ⟨b1617, 0, none⟩))]), h1618) | 1, 2 => some ((Value.slice none 0 0), hh1624) | _, _ => none, fun _ => none, none⟩)
    (A := SoundCall Try.prog 42 #[(Value.pointer (some ⟨t, 0, none⟩))] h (Value.func (.func 53) #[] #[(Value.pointer (some ⟨b1617, 0, none⟩))]) h1618 ∧ SoundCall Try.prog 41 #[(Value.func (.func 53) #[] #[(Value.pointer (some ⟨b1617, 0, none⟩))])] h1618 (Value.slice none 0 0) hh1624 ∧ (fun v h1 => v = .slice none 0 0 ∧ Ext h h1) (Value.slice none 0 0) hh1624) (by kernel_rfl) ⟨s1619, sn1625, ⟨rfl, x1628⟩⟩
end C36
