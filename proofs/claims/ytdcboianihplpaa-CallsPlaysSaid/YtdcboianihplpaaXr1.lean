/- The reference: New and Open. -/
import Derived.Test.YtdcboianihplpaaXr0
import Derived.KernelRfl
open Go Go.AM Go.Proofs
namespace C36
theorem agg86 : isAggA Try.prog 86 = some false := by kernel_rfl
theorem agg87 : isAggA Try.prog 87 = some false := by kernel_rfl
theorem agg88 : isAggA Try.prog 88 = some false := by kernel_rfl
theorem size86 : (Try.prog.info? 86).map (·.size) = some 1 := by kernel_rfl
theorem size87 : (Try.prog.info? 87).map (·.size) = some 1 := by kernel_rfl
theorem size88 : (Try.prog.info? 88).map (·.size) = some 1 := by kernel_rfl
theorem sizeb4 : (Try.prog.info? 4).map (fun i => (i.size, i.bytes)) = some (1, 1) := by kernel_rfl
theorem sizeb43 : (Try.prog.info? 43).map (fun i => (i.size, i.bytes)) = some (24, 248) := by kernel_rfl
theorem sizeb45 : (Try.prog.info? 45).map (fun i => (i.size, i.bytes)) = some (3, 32) := by kernel_rfl
theorem und86 : Try.prog.underlying 86 = some (.slice 43) := by kernel_rfl
theorem und87 : Try.prog.underlying 87 = some (.slice 45) := by kernel_rfl
theorem und88 : Try.prog.underlying 88 = some (.slice 4) := by kernel_rfl
theorem zero4 : zeroA Try.prog 4 = some (Value.bool false) := by kernel_rfl
theorem zero43 : zeroA Try.prog 43 = some (Value.agg #[(Value.int .i64 0), (Value.int .i64 0), (Value.int .i64 0), (Value.int .i64 0), (Value.int .i64 0), (Value.int .i64 0), (Value.string .empty), (Value.int .i64 0), (Value.int .i64 0), (Value.string .empty), (Value.string .empty), (Value.int .i64 0), (Value.string .empty), (Value.int .i64 0), (Value.int .i64 0), (Value.slice none 0 0), (Value.int .i64 0), (Value.int .i64 0), (Value.int .i64 0), (Value.int .i64 0), (Value.bool false), (Value.int .i64 0), (Value.int .i64 0), (Value.string .empty)]) := by kernel_rfl
theorem zero45 : zeroA Try.prog 45 = some (Value.agg #[(Value.int .i64 0), (Value.int .i64 0), (Value.string .empty)]) := by kernel_rfl
set_option maxHeartbeats 4000000 in
theorem rnew_ok (h : Heap)  : WCall Try.prog 23 #[] h (fun v h1 => ∃ b, v = .pointer (some ⟨b, 0, none⟩) ∧ RefAt h1 (fun k => k = b) b ⟨[], [], [], []⟩ ∧ Ext h h1 ∧ h.size ≤ b) := by
  obtain ⟨b1742, eb1743⟩ : ∃ zq, zq = h.size := ⟨_, rfl⟩
  obtain ⟨h1740, e1741⟩ : ∃ zq, zq = h.push (.cells #[(vB true), (Value.slice none 0 0), (Value.slice none 0 0), (Value.slice none 0 0), (Value.slice none 0 0)] 90 (0, 0)) := ⟨_, rfl⟩
  have f1744 := push_new e1741
  rw [← eb1743] at f1744
  have x1745 : Ext h h1740 := by rw [e1741]; exact Ext.push _ _
  have o1746 : h.size ≤ b1742 := by have := (Ext.refl h).size; omega
  have x1747 := (Ext.refl h).trans x1745
  exact hCall_of (n := 200) (T := ⟨fun r i => match r, i with | 1, 1 => some ((vP b1742 0), h1740) | _, _ => none, fun _ => none, none⟩)
    (A := ((vP b1742 0) = (Value.pointer (some ⟨h.size, 0, none⟩)) ∧ h1740 = h.push (.cells #[(vB true), (Value.slice none 0 0), (Value.slice none 0 0), (Value.slice none 0 0), (Value.slice none 0 0)] 90 (0, 0))) ∧ (fun v h1 => ∃ b, v = .pointer (some ⟨b, 0, none⟩) ∧ RefAt h1 (fun k => k = b) b ⟨[], [], [], []⟩ ∧ Ext h h1 ∧ h.size ≤ b) (vP b1742 0) h1740) (by kernel_rfl) ⟨⟨by rw [eb1743], e1741⟩, ⟨_, rfl, ⟨[], [], none, none, none, none, 0, 0, 0, 0, f1744, .inl ⟨rfl, rfl⟩, .inl ⟨rfl, rfl⟩, .inl ⟨rfl, rfl⟩, .inl ⟨rfl, rfl⟩, rfl, rfl, (fun x hx => by cases hx), (fun x hx => by cases hx), rfl, fun b hb => hb.elim, fun b hb => hb.elim, fun b hb => hb.elim, fun b hb => hb.elim, fun b hb => (by obtain ⟨x, hx, _⟩ := hb; cases hx), fun b hb => (by obtain ⟨x, hx, _⟩ := hb; cases hx)⟩, x1747, o1746⟩⟩
set_option maxHeartbeats 4000000 in
theorem ropen_ok (h : Heap) {O : Nat → Prop} {t : Nat} {m : RefM} (hT : RefAt h O t m) (hm : m.es.length ≤ 100000) (hr : m.rs.length = m.cs.length) (hh : m.hs.length = m.cs.length) (c : CmdM) (sa : Option Addr) (cp : Nat) (hl : SliceAt h stepc 2 c.steps (.slice sa c.steps.length cp)) (hlen : c.steps.length ≤ 1048576) : WCall Try.prog 27 #[(vP t 0), (Value.agg (cmdc c (Value.slice sa (c.steps.length) (cp))))] h (fun v h1 => ((c.call ≠ 0 ∨ ¬ c.kind ∈ ([2, 11, 12, 13, 14] : List Int)) → v = .tuple #[.int .i64 0, .int .i64 2] ∧ Ext h h1) ∧ (¬ (c.call ≠ 0 ∨ ¬ c.kind ∈ ([2, 11, 12, 13, 14] : List Int)) ∧ 2000 ≤ m.cs.length → v = .tuple #[.int .i64 0, .int .i64 4] ∧ Ext h h1) ∧ (¬ (c.call ≠ 0 ∨ ¬ c.kind ∈ ([2, 11, 12, 13, 14] : List Int)) ∧ m.cs.length < 2000 → v = .tuple #[.int .i64 ((m.cs.length : Nat) + 1), .int .i64 0] ∧ Chg O h h1 ∧ RefAt h1 (fun b => O b ∨ h.size ≤ b) t (m.opened c))) := by
  obtain ⟨rc1749, re1750, ac1751, ar1752, ah1753, ae1754, cc1755, cr1756, ch1757, ce1758, T1748⟩ := hT
  have el := T1748.clen.1
  have ee := T1748.clen.2
  suffices H : ∀ K : Value → Heap → Prop, (∀ v h1, (fun v h1 => ((c.call ≠ 0 ∨ ¬ c.kind ∈ ([2, 11, 12, 13, 14] : List Int)) → v = .tuple #[.int .i64 0, .int .i64 2] ∧ Ext h h1) ∧ (¬ (c.call ≠ 0 ∨ ¬ c.kind ∈ ([2, 11, 12, 13, 14] : List Int)) ∧ 2000 ≤ m.cs.length → v = .tuple #[.int .i64 0, .int .i64 4] ∧ Ext h h1) ∧ (¬ (c.call ≠ 0 ∨ ¬ c.kind ∈ ([2, 11, 12, 13, 14] : List Int)) ∧ m.cs.length < 2000 → v = .tuple #[.int .i64 ((m.cs.length : Nat) + 1), .int .i64 0] ∧ Chg O h h1 ∧ RefAt h1 (fun b => O b ∨ h.size ≤ b) t (m.opened c))) v h1 → K v h1) → WCall Try.prog 27 #[(vP t 0), (Value.agg (cmdc c (Value.slice sa (c.steps.length) (cp))))] h K from H _ fun _ _ q => q
  intro K hK
  refine wcall_at { tmps := #[(vP t 0), (Value.agg (cmdc c (Value.slice sa (c.steps.length) (cp)))), (Value.tuple #[]), (Value.tuple #[]), (Value.tuple #[]), (Value.tuple #[]), (Value.tuple #[]), (Value.tuple #[]), (Value.tuple #[]), (Value.tuple #[]), (Value.tuple #[]), (Value.tuple #[]), (Value.tuple #[]), (Value.tuple #[]), (Value.tuple #[]), (Value.tuple #[]), (Value.tuple #[]), (Value.tuple #[]), (Value.tuple #[]), (Value.tuple #[]), (Value.tuple #[]), (Value.tuple #[]), (Value.tuple #[]), (Value.tuple #[]), (Value.tuple #[]), (Value.tuple #[]), (Value.tuple #[]), (Value.tuple #[]), (Value.tuple #[]), (Value.tuple #[]), (Value.tuple #[]), (Value.tuple #[]), (Value.tuple #[]), (Value.tuple #[]), (Value.tuple #[]), (Value.tuple #[]), (Value.tuple #[]), (Value.tuple #[]), (Value.tuple #[]), (Value.tuple #[]), (Value.tuple #[]), (Value.tuple #[]), (Value.tuple #[]), (Value.tuple #[]), (Value.tuple #[]), (Value.tuple #[]), (Value.tuple #[]), (Value.tuple #[]), (Value.tuple #[]), (Value.tuple #[]), (Value.tuple #[]), (Value.tuple #[]), (Value.tuple #[]), (Value.tuple #[]), (Value.tuple #[]), (Value.tuple #[]), (Value.tuple #[]), (Value.tuple #[]), (Value.tuple #[]), (Value.tuple #[]), (Value.tuple #[]), (Value.tuple #[]), (Value.tuple #[]), (Value.tuple #[]), (Value.tuple #[]), (Value.tuple #[]), (Value.tuple #[]), (Value.tuple #[]), (Value.tuple #[]), (Value.tuple #[]), (Value.tuple #[]), (Value.tuple #[]), (Value.tuple #[]), (Value.tuple #[]), (Value.tuple #[]), (Value.tuple #[]), (Value.tuple #[]), (Value.tuple #[]), (Value.tuple #[]), (Value.tuple #[]), (Value.tuple #[]), (Value.tuple #[]), (Value.tuple #[]), (Value.tuple #[]), (Value.tuple #[]), (Value.tuple #[]), (Value.tuple #[]), (Value.tuple #[]), (Value.tuple #[]), (Value.tuple #[]), (Value.tuple #[]), (Value.tuple #[]), (Value.tuple #[]), (Value.tuple #[]), (Value.tuple #[]), (Value.tuple #[]), (Value.tuple #[]), (Value.tuple #[]), (Value.tuple #[]), (Value.tuple #[]), (Value.tuple #[]), (Value.tuple #[])], defers := [] } (by kernel_rfl) ?_
  refine wc_seq' (subc (bodyOf Try.prog 27) [0]) (subc (bodyOf Try.prog 27) [1]) (by kernel_rfl) ?_
  obtain ⟨b1761, eb1762⟩ : ∃ zq, zq = h.size := ⟨_, rfl⟩
  obtain ⟨h1759, e1760⟩ : ∃ zq, zq = h.push (.cells #[(vI (c.kind)), (vI (c.call)), (vI (c.saga)), (vI (c.e1)), (vI (c.e2)), (vI (c.e3)), (vS c.key), (vI (c.delta)), (vI (c.move)), (vS c.rf), (vS c.rt), (vI (c.group)), (vS c.dn), (vI (c.dr)), (vI (c.dd)), (Value.slice sa (c.steps.length) (cp)), (vI (c.i1)), (vI (c.i2)), (vI (c.i3)), (vI (c.im)), (vB c.ii), (vI (c.ig)), (vI (c.res)), (vS c.data)] 43 (0, 0)) := ⟨_, rfl⟩
  have f1763 := push_new e1760
  rw [← eb1762] at f1763
  have n1764 : b1761 ≠ t := by have := row_lt T1748.row; omega
  have n1765 : ∀ zz, (blk (Value.slice ac1751 (rc1749.length) (cc1755))) zz → ¬ zz = b1761 := fun zz hz ez => by have := T1748.c.blk_lt hz; omega
  have n1766 : ∀ zz, (blk (Value.slice ar1752 (m.rs.length) (cr1756))) zz → ¬ zz = b1761 := fun zz hz ez => by have := T1748.r.blk_lt hz; omega
  have n1767 : ∀ zz, (blk (Value.slice ah1753 (m.hs.length) (ch1757))) zz → ¬ zz = b1761 := fun zz hz ez => by have := T1748.hh.blk_lt hz; omega
  have n1768 : ∀ zz, (blk (Value.slice ae1754 (re1750.length) (ce1758))) zz → ¬ zz = b1761 := fun zz hz ez => by have := T1748.e.blk_lt hz; omega
  have n1769 : ∀ zz, (cfoot rc1749) zz → ¬ zz = b1761 := fun zz hz ez => by have := T1748.csteps.blk_lt hz; omega
  have n1770 : ∀ zz, (sfoot re1750) zz → ¬ zz = b1761 := fun zz hz ez => by have := T1748.esteps.blk_lt hz; omega
  have x1772 : Ext h h1759 := by rw [e1760]; exact Ext.push _ _
  have o1773 : h.size ≤ b1761 := by have := (Chg.refl (O := O) h).size; omega
  have f1774 := x1772 _ _ T1748.row
  have p1775 := T1748.c.keep fun b r _ q => x1772 b r q
  have p1776 := T1748.r.keep fun b r _ q => x1772 b r q
  have p1777 := T1748.hh.keep fun b r _ q => x1772 b r q
  have p1778 := T1748.e.keep fun b r _ q => x1772 b r q
  have p1779 := T1748.csteps.keep fun b r _ q => x1772 b r q
  have p1780 := T1748.esteps.keep fun b r _ q => x1772 b r q
  have p1781 := hl.keep fun b r _ q => x1772 b r q
  have x1782 := (Chg.refl (O := O) h).trans (Chg.ext x1772)
  have y1783 := (Ext.refl h).trans x1772
  refine wc_upd (n := 200) (T := ⟨fun r i => match r, i with | 0, 0 => some ((vP b1761 0), h1759) | _, _ => none, fun _ => none, none⟩) (x := .normal) (h1 := h1759) [(3, (vP b1761 0)), (4, (vI 0)), (5, (vI 0))]
    (fun q => ((vP b1761 0) = (Value.pointer (some ⟨h.size, 0, none⟩)) ∧ h1759 = h.push (.cells #[(vI (c.kind)), (vI (c.call)), (vI (c.saga)), (vI (c.e1)), (vI (c.e2)), (vI (c.e3)), (vS c.key), (vI (c.delta)), (vI (c.move)), (vS c.rf), (vS c.rt), (vI (c.group)), (vS c.dn), (vI (c.dr)), (vI (c.dd)), (Value.slice sa (c.steps.length) (cp)), (vI (c.i1)), (vI (c.i2)), (vI (c.i3)), (vI (c.im)), (vB c.ii), (vI (c.ig)), (vI (c.res)), (vS c.data)] 43 (0, 0))) ∧ q) (by intro K'; kernel_rfl) (fun _ q => ⟨⟨by rw [eb1762], e1760⟩, q⟩) ?_
  refine wc_seq' (subc (bodyOf Try.prog 27) [1, 0]) (subc (bodyOf Try.prog 27) [1, 1]) (by kernel_rfl) ?_
  obtain ⟨_, _, sn1785, rfl, rfl⟩ := rvalid_ok h1759 f1774
  refine wc_upd (n := 200) (T := ⟨fun r i => match r, i with | 1, 1 => some ((vB true), h1759) | _, _ => none, fun _ => none, none⟩) (x := .normal) (h1 := h1759) [(7, (vP t 0)), (8, (vB true)), (9, (vB false))]
    (fun q => SoundCall Try.prog 47 #[(vP t 0)] h1759 (vB true) h1759 ∧ q) (by intro K'; kernel_rfl) (fun _ q => ⟨sn1785, q⟩) ?_
  refine wc_seq' (subc (bodyOf Try.prog 27) [1, 1, 0]) (subc (bodyOf Try.prog 27) [1, 1, 1]) (by kernel_rfl) ?_
  refine wc_upd (n := 200) (T := ⟨fun r i => match r, i with | 3, 1 => some ((vI (c.kind)), h1759) | _, _ => none, fun _ => none, none⟩) (x := .normal) (h1 := h1759) [(10, (vP b1761 0)), (11, (vI (c.kind))), (6, (vI (c.kind)))]
    (fun q => (loadT Try.prog h1759 3 (vP b1761 0) = some (vI (c.kind)) ∧ h1759 = h1759) ∧ q) (by intro K'; kernel_rfl) (fun _ q => ⟨⟨load_cell agg3 f1763 rfl, rfl⟩, q⟩) ?_
  refine wc_cut (subc (bodyOf Try.prog 27) [1, 1, 1, 0]) (subc (bodyOf Try.prog 27) [1, 1, 1, 1]) (by kernel_rfl) (fun a1 h1 => ∃ gc1787 : Nat → Value, a1 = { tmps := #[(vP t 0), (Value.agg (cmdc c (Value.slice sa (c.steps.length) (cp)))), (Value.tuple #[]), (vP b1761 0), (gc1787 4), (gc1787 5), (vI (c.kind)), (vP t 0), (vB true), (vB false), (vP b1761 0), (vI (c.kind)), (gc1787 12), (gc1787 13), (gc1787 14), (gc1787 15), (gc1787 16), (gc1787 17), (gc1787 18), (gc1787 19), (gc1787 20), (gc1787 21), (gc1787 22), (gc1787 23), (gc1787 24), (gc1787 25), (gc1787 26), (gc1787 27), (gc1787 28), (gc1787 29), (gc1787 30), (gc1787 31), (gc1787 32), (gc1787 33), (gc1787 34), (Value.tuple #[]), (Value.tuple #[]), (Value.tuple #[]), (Value.tuple #[]), (Value.tuple #[]), (Value.tuple #[]), (Value.tuple #[]), (Value.tuple #[]), (Value.tuple #[]), (Value.tuple #[]), (Value.tuple #[]), (Value.tuple #[]), (Value.tuple #[]), (Value.tuple #[]), (Value.tuple #[]), (Value.tuple #[]), (Value.tuple #[]), (Value.tuple #[]), (Value.tuple #[]), (Value.tuple #[]), (Value.tuple #[]), (Value.tuple #[]), (Value.tuple #[]), (Value.tuple #[]), (Value.tuple #[]), (Value.tuple #[]), (Value.tuple #[]), (Value.tuple #[]), (Value.tuple #[]), (Value.tuple #[]), (Value.tuple #[]), (Value.tuple #[]), (Value.tuple #[]), (Value.tuple #[]), (Value.tuple #[]), (Value.tuple #[]), (Value.tuple #[]), (Value.tuple #[]), (Value.tuple #[]), (Value.tuple #[]), (Value.tuple #[]), (Value.tuple #[]), (Value.tuple #[]), (Value.tuple #[]), (Value.tuple #[]), (Value.tuple #[]), (Value.tuple #[]), (Value.tuple #[]), (Value.tuple #[]), (Value.tuple #[]), (Value.tuple #[]), (Value.tuple #[]), (Value.tuple #[]), (Value.tuple #[]), (Value.tuple #[]), (Value.tuple #[]), (Value.tuple #[]), (Value.tuple #[]), (Value.tuple #[]), (Value.tuple #[]), (Value.tuple #[]), (Value.tuple #[]), (Value.tuple #[]), (Value.tuple #[]), (Value.tuple #[]), (Value.tuple #[]), (Value.tuple #[])], defers := [] } ∧ h1759 = h1 ∧ ¬ (c.call ≠ 0 ∨ ¬ c.kind ∈ ([2, 11, 12, 13, 14] : List Int))) ?_ ?_
  · by_cases c1789 : ((c.kind) : Int) = 2
    · by_cases c1790 : ((c.call) : Int) = 0
      · refine wc_upd (n := 200) (T := ⟨fun r i => match r, i with | 4, 1 => some ((vB false), h1759) | 4, 20 => some ((vI (c.call)), h1759) | 4, 21 => some ((vB false), h1759) | _, _ => none, fun _ => none, none⟩) (x := .normal) (h1 := h1759) [(12, (vI (c.kind))), (13, (vB false)), (14, (vB false)), (15, (Value.tuple #[])), (16, (Value.tuple #[])), (17, (vB false)), (18, (vB false)), (19, (Value.tuple #[])), (20, (Value.tuple #[])), (21, (vB false)), (22, (vB false)), (23, (Value.tuple #[])), (24, (Value.tuple #[])), (25, (vB false)), (26, (vB false)), (27, (Value.tuple #[])), (28, (Value.tuple #[])), (29, (vB false)), (30, (vB false)), (31, (vP b1761 1)), (32, (vI (c.call))), (33, (vB false)), (34, (vB false))]
          (fun q => (binA Try.prog .neq 3 (vI (c.kind)) (vI 2) = some (vB false) ∧ h1759 = h1759) ∧ (loadT Try.prog h1759 3 (vP b1761 1) = some (vI (c.call)) ∧ h1759 = h1759) ∧ (binA Try.prog .neq 3 (vI (c.call)) (vI 0) = some (vB false) ∧ h1759 = h1759) ∧ q) (by intro K'; kernel_rfl) (fun _ q => ⟨⟨cmp_neq (decide_eq_false (not_not_intro c1789)), rfl⟩, ⟨load_cell agg3 f1763 rfl, rfl⟩, ⟨cmp_neq (decide_eq_false (not_not_intro c1790)), rfl⟩, q⟩) ?_
        exact ⟨(fun i => ([undef, undef, undef, undef, (vI 0), (vI 0), undef, undef, undef, undef, undef, undef, (vI (c.kind)), (vB false), (vB false), (Value.tuple #[]), (Value.tuple #[]), (vB false), (vB false), (Value.tuple #[]), (Value.tuple #[]), (vB false), (vB false), (Value.tuple #[]), (Value.tuple #[]), (vB false), (vB false), (Value.tuple #[]), (Value.tuple #[]), (vB false), (vB false), (vP b1761 1), (vI (c.call)), (vB false), (vB false)] : List Value).getD i undef), by kernel_rfl, rfl, by simp only [List.mem_cons, List.not_mem_nil, or_false]; omega⟩
      · refine wc_upd (n := 200) (T := ⟨fun r i => match r, i with | 4, 1 => some ((vB false), h1759) | 4, 20 => some ((vI (c.call)), h1759) | 4, 21 => some ((vB true), h1759) | _, _ => none, fun _ => none, none⟩) (x := .ret) (h1 := h1759) [(12, (vI (c.kind))), (13, (vB false)), (14, (vB false)), (15, (Value.tuple #[])), (16, (Value.tuple #[])), (17, (vB false)), (18, (vB false)), (19, (Value.tuple #[])), (20, (Value.tuple #[])), (21, (vB false)), (22, (vB false)), (23, (Value.tuple #[])), (24, (Value.tuple #[])), (25, (vB false)), (26, (vB false)), (27, (Value.tuple #[])), (28, (Value.tuple #[])), (29, (vB false)), (30, (vB false)), (31, (vP b1761 1)), (32, (vI (c.call))), (33, (vB true)), (34, (vB true)), (4, (vI 0)), (5, (vI 2))]
          (fun q => (binA Try.prog .neq 3 (vI (c.kind)) (vI 2) = some (vB false) ∧ h1759 = h1759) ∧ (loadT Try.prog h1759 3 (vP b1761 1) = some (vI (c.call)) ∧ h1759 = h1759) ∧ (binA Try.prog .neq 3 (vI (c.call)) (vI 0) = some (vB true) ∧ h1759 = h1759) ∧ q) (by intro K'; kernel_rfl) (fun _ q => ⟨⟨cmp_neq (decide_eq_false (not_not_intro c1789)), rfl⟩, ⟨load_cell agg3 f1763 rfl, rfl⟩, ⟨cmp_neq (decide_eq_true c1790), rfl⟩, q⟩) ?_
        have hbad : (c.call ≠ 0 ∨ ¬ c.kind ∈ ([2, 11, 12, 13, 14] : List Int)) := by simp only [List.mem_cons, List.not_mem_nil, or_false]; omega
        refine end_at (T := ⟨fun _ _ => none, fun _ => none, none⟩) (A := K (Value.tuple #[(vI 0), (vI 2)]) h1759) (by kernel_rfl) ?_
        exact hK _ _ (⟨fun _ => ⟨rfl, y1783⟩, fun q => absurd hbad q.1, fun q => absurd hbad q.1⟩)
    · by_cases c1791 : ((c.kind) : Int) = 11
      · by_cases c1792 : ((c.call) : Int) = 0
        · refine wc_upd (n := 200) (T := ⟨fun r i => match r, i with | 4, 1 => some ((vB true), h1759) | 4, 4 => some ((vB false), h1759) | 4, 20 => some ((vI (c.call)), h1759) | 4, 21 => some ((vB false), h1759) | _, _ => none, fun _ => none, none⟩) (x := .normal) (h1 := h1759) [(12, (vI (c.kind))), (13, (vB true)), (14, (vB true)), (15, (vI (c.kind))), (16, (vB false)), (17, (vB false)), (18, (vB false)), (19, (Value.tuple #[])), (20, (Value.tuple #[])), (21, (vB false)), (22, (vB false)), (23, (Value.tuple #[])), (24, (Value.tuple #[])), (25, (vB false)), (26, (vB false)), (27, (Value.tuple #[])), (28, (Value.tuple #[])), (29, (vB false)), (30, (vB false)), (31, (vP b1761 1)), (32, (vI (c.call))), (33, (vB false)), (34, (vB false))]
            (fun q => (binA Try.prog .neq 3 (vI (c.kind)) (vI 2) = some (vB true) ∧ h1759 = h1759) ∧ (binA Try.prog .neq 3 (vI (c.kind)) (vI 11) = some (vB false) ∧ h1759 = h1759) ∧ (loadT Try.prog h1759 3 (vP b1761 1) = some (vI (c.call)) ∧ h1759 = h1759) ∧ (binA Try.prog .neq 3 (vI (c.call)) (vI 0) = some (vB false) ∧ h1759 = h1759) ∧ q) (by intro K'; kernel_rfl) (fun _ q => ⟨⟨cmp_neq (decide_eq_true c1789), rfl⟩, ⟨cmp_neq (decide_eq_false (not_not_intro c1791)), rfl⟩, ⟨load_cell agg3 f1763 rfl, rfl⟩, ⟨cmp_neq (decide_eq_false (not_not_intro c1792)), rfl⟩, q⟩) ?_
          exact ⟨(fun i => ([undef, undef, undef, undef, (vI 0), (vI 0), undef, undef, undef, undef, undef, undef, (vI (c.kind)), (vB true), (vB true), (vI (c.kind)), (vB false), (vB false), (vB false), (Value.tuple #[]), (Value.tuple #[]), (vB false), (vB false), (Value.tuple #[]), (Value.tuple #[]), (vB false), (vB false), (Value.tuple #[]), (Value.tuple #[]), (vB false), (vB false), (vP b1761 1), (vI (c.call)), (vB false), (vB false)] : List Value).getD i undef), by kernel_rfl, rfl, by simp only [List.mem_cons, List.not_mem_nil, or_false]; omega⟩
        · refine wc_upd (n := 200) (T := ⟨fun r i => match r, i with | 4, 1 => some ((vB true), h1759) | 4, 4 => some ((vB false), h1759) | 4, 20 => some ((vI (c.call)), h1759) | 4, 21 => some ((vB true), h1759) | _, _ => none, fun _ => none, none⟩) (x := .ret) (h1 := h1759) [(12, (vI (c.kind))), (13, (vB true)), (14, (vB true)), (15, (vI (c.kind))), (16, (vB false)), (17, (vB false)), (18, (vB false)), (19, (Value.tuple #[])), (20, (Value.tuple #[])), (21, (vB false)), (22, (vB false)), (23, (Value.tuple #[])), (24, (Value.tuple #[])), (25, (vB false)), (26, (vB false)), (27, (Value.tuple #[])), (28, (Value.tuple #[])), (29, (vB false)), (30, (vB false)), (31, (vP b1761 1)), (32, (vI (c.call))), (33, (vB true)), (34, (vB true)), (4, (vI 0)), (5, (vI 2))]
            (fun q => (binA Try.prog .neq 3 (vI (c.kind)) (vI 2) = some (vB true) ∧ h1759 = h1759) ∧ (binA Try.prog .neq 3 (vI (c.kind)) (vI 11) = some (vB false) ∧ h1759 = h1759) ∧ (loadT Try.prog h1759 3 (vP b1761 1) = some (vI (c.call)) ∧ h1759 = h1759) ∧ (binA Try.prog .neq 3 (vI (c.call)) (vI 0) = some (vB true) ∧ h1759 = h1759) ∧ q) (by intro K'; kernel_rfl) (fun _ q => ⟨⟨cmp_neq (decide_eq_true c1789), rfl⟩, ⟨cmp_neq (decide_eq_false (not_not_intro c1791)), rfl⟩, ⟨load_cell agg3 f1763 rfl, rfl⟩, ⟨cmp_neq (decide_eq_true c1792), rfl⟩, q⟩) ?_
          have hbad : (c.call ≠ 0 ∨ ¬ c.kind ∈ ([2, 11, 12, 13, 14] : List Int)) := by simp only [List.mem_cons, List.not_mem_nil, or_false]; omega
          refine end_at (T := ⟨fun _ _ => none, fun _ => none, none⟩) (A := K (Value.tuple #[(vI 0), (vI 2)]) h1759) (by kernel_rfl) ?_
          exact hK _ _ (⟨fun _ => ⟨rfl, y1783⟩, fun q => absurd hbad q.1, fun q => absurd hbad q.1⟩)
      · by_cases c1793 : ((c.kind) : Int) = 12
        · by_cases c1794 : ((c.call) : Int) = 0
          · refine wc_upd (n := 200) (T := ⟨fun r i => match r, i with | 4, 1 => some ((vB true), h1759) | 4, 4 => some ((vB true), h1759) | 4, 8 => some ((vB false), h1759) | 4, 20 => some ((vI (c.call)), h1759) | 4, 21 => some ((vB false), h1759) | _, _ => none, fun _ => none, none⟩) (x := .normal) (h1 := h1759) [(12, (vI (c.kind))), (13, (vB true)), (14, (vB true)), (15, (vI (c.kind))), (16, (vB true)), (17, (vB true)), (18, (vB true)), (19, (vI (c.kind))), (20, (vB false)), (21, (vB false)), (22, (vB false)), (23, (Value.tuple #[])), (24, (Value.tuple #[])), (25, (vB false)), (26, (vB false)), (27, (Value.tuple #[])), (28, (Value.tuple #[])), (29, (vB false)), (30, (vB false)), (31, (vP b1761 1)), (32, (vI (c.call))), (33, (vB false)), (34, (vB false))]
              (fun q => (binA Try.prog .neq 3 (vI (c.kind)) (vI 2) = some (vB true) ∧ h1759 = h1759) ∧ (binA Try.prog .neq 3 (vI (c.kind)) (vI 11) = some (vB true) ∧ h1759 = h1759) ∧ (binA Try.prog .neq 3 (vI (c.kind)) (vI 12) = some (vB false) ∧ h1759 = h1759) ∧ (loadT Try.prog h1759 3 (vP b1761 1) = some (vI (c.call)) ∧ h1759 = h1759) ∧ (binA Try.prog .neq 3 (vI (c.call)) (vI 0) = some (vB false) ∧ h1759 = h1759) ∧ q) (by intro K'; kernel_rfl) (fun _ q => ⟨⟨cmp_neq (decide_eq_true c1789), rfl⟩, ⟨cmp_neq (decide_eq_true c1791), rfl⟩, ⟨cmp_neq (decide_eq_false (not_not_intro c1793)), rfl⟩, ⟨load_cell agg3 f1763 rfl, rfl⟩, ⟨cmp_neq (decide_eq_false (not_not_intro c1794)), rfl⟩, q⟩) ?_
            exact ⟨(fun i => ([undef, undef, undef, undef, (vI 0), (vI 0), undef, undef, undef, undef, undef, undef, (vI (c.kind)), (vB true), (vB true), (vI (c.kind)), (vB true), (vB true), (vB true), (vI (c.kind)), (vB false), (vB false), (vB false), (Value.tuple #[]), (Value.tuple #[]), (vB false), (vB false), (Value.tuple #[]), (Value.tuple #[]), (vB false), (vB false), (vP b1761 1), (vI (c.call)), (vB false), (vB false)] : List Value).getD i undef), by kernel_rfl, rfl, by simp only [List.mem_cons, List.not_mem_nil, or_false]; omega⟩
          · refine wc_upd (n := 200) (T := ⟨fun r i => match r, i with | 4, 1 => some ((vB true), h1759) | 4, 4 => some ((vB true), h1759) | 4, 8 => some ((vB false), h1759) | 4, 20 => some ((vI (c.call)), h1759) | 4, 21 => some ((vB true), h1759) | _, _ => none, fun _ => none, none⟩) (x := .ret) (h1 := h1759) [(12, (vI (c.kind))), (13, (vB true)), (14, (vB true)), (15, (vI (c.kind))), (16, (vB true)), (17, (vB true)), (18, (vB true)), (19, (vI (c.kind))), (20, (vB false)), (21, (vB false)), (22, (vB false)), (23, (Value.tuple #[])), (24, (Value.tuple #[])), (25, (vB false)), (26, (vB false)), (27, (Value.tuple #[])), (28, (Value.tuple #[])), (29, (vB false)), (30, (vB false)), (31, (vP b1761 1)), (32, (vI (c.call))), (33, (vB true)), (34, (vB true)), (4, (vI 0)), (5, (vI 2))]
              (fun q => (binA Try.prog .neq 3 (vI (c.kind)) (vI 2) = some (vB true) ∧ h1759 = h1759) ∧ (binA Try.prog .neq 3 (vI (c.kind)) (vI 11) = some (vB true) ∧ h1759 = h1759) ∧ (binA Try.prog .neq 3 (vI (c.kind)) (vI 12) = some (vB false) ∧ h1759 = h1759) ∧ (loadT Try.prog h1759 3 (vP b1761 1) = some (vI (c.call)) ∧ h1759 = h1759) ∧ (binA Try.prog .neq 3 (vI (c.call)) (vI 0) = some (vB true) ∧ h1759 = h1759) ∧ q) (by intro K'; kernel_rfl) (fun _ q => ⟨⟨cmp_neq (decide_eq_true c1789), rfl⟩, ⟨cmp_neq (decide_eq_true c1791), rfl⟩, ⟨cmp_neq (decide_eq_false (not_not_intro c1793)), rfl⟩, ⟨load_cell agg3 f1763 rfl, rfl⟩, ⟨cmp_neq (decide_eq_true c1794), rfl⟩, q⟩) ?_
            have hbad : (c.call ≠ 0 ∨ ¬ c.kind ∈ ([2, 11, 12, 13, 14] : List Int)) := by simp only [List.mem_cons, List.not_mem_nil, or_false]; omega
            refine end_at (T := ⟨fun _ _ => none, fun _ => none, none⟩) (A := K (Value.tuple #[(vI 0), (vI 2)]) h1759) (by kernel_rfl) ?_
            exact hK _ _ (⟨fun _ => ⟨rfl, y1783⟩, fun q => absurd hbad q.1, fun q => absurd hbad q.1⟩)
        · by_cases c1795 : ((c.kind) : Int) = 13
          · by_cases c1796 : ((c.call) : Int) = 0
            · refine wc_upd (n := 200) (T := ⟨fun r i => match r, i with | 4, 1 => some ((vB true), h1759) | 4, 4 => some ((vB true), h1759) | 4, 8 => some ((vB true), h1759) | 4, 12 => some ((vB false), h1759) | 4, 20 => some ((vI (c.call)), h1759) | 4, 21 => some ((vB false), h1759) | _, _ => none, fun _ => none, none⟩) (x := .normal) (h1 := h1759) [(12, (vI (c.kind))), (13, (vB true)), (14, (vB true)), (15, (vI (c.kind))), (16, (vB true)), (17, (vB true)), (18, (vB true)), (19, (vI (c.kind))), (20, (vB true)), (21, (vB true)), (22, (vB true)), (23, (vI (c.kind))), (24, (vB false)), (25, (vB false)), (26, (vB false)), (27, (Value.tuple #[])), (28, (Value.tuple #[])), (29, (vB false)), (30, (vB false)), (31, (vP b1761 1)), (32, (vI (c.call))), (33, (vB false)), (34, (vB false))]
                (fun q => (binA Try.prog .neq 3 (vI (c.kind)) (vI 2) = some (vB true) ∧ h1759 = h1759) ∧ (binA Try.prog .neq 3 (vI (c.kind)) (vI 11) = some (vB true) ∧ h1759 = h1759) ∧ (binA Try.prog .neq 3 (vI (c.kind)) (vI 12) = some (vB true) ∧ h1759 = h1759) ∧ (binA Try.prog .neq 3 (vI (c.kind)) (vI 13) = some (vB false) ∧ h1759 = h1759) ∧ (loadT Try.prog h1759 3 (vP b1761 1) = some (vI (c.call)) ∧ h1759 = h1759) ∧ (binA Try.prog .neq 3 (vI (c.call)) (vI 0) = some (vB false) ∧ h1759 = h1759) ∧ q) (by intro K'; kernel_rfl) (fun _ q => ⟨⟨cmp_neq (decide_eq_true c1789), rfl⟩, ⟨cmp_neq (decide_eq_true c1791), rfl⟩, ⟨cmp_neq (decide_eq_true c1793), rfl⟩, ⟨cmp_neq (decide_eq_false (not_not_intro c1795)), rfl⟩, ⟨load_cell agg3 f1763 rfl, rfl⟩, ⟨cmp_neq (decide_eq_false (not_not_intro c1796)), rfl⟩, q⟩) ?_
              exact ⟨(fun i => ([undef, undef, undef, undef, (vI 0), (vI 0), undef, undef, undef, undef, undef, undef, (vI (c.kind)), (vB true), (vB true), (vI (c.kind)), (vB true), (vB true), (vB true), (vI (c.kind)), (vB true), (vB true), (vB true), (vI (c.kind)), (vB false), (vB false), (vB false), (Value.tuple #[]), (Value.tuple #[]), (vB false), (vB false), (vP b1761 1), (vI (c.call)), (vB false), (vB false)] : List Value).getD i undef), by kernel_rfl, rfl, by simp only [List.mem_cons, List.not_mem_nil, or_false]; omega⟩
            · refine wc_upd (n := 200) (T := ⟨fun r i => match r, i with | 4, 1 => some ((vB true), h1759) | 4, 4 => some ((vB true), h1759) | 4, 8 => some ((vB true), h1759) | 4, 12 => some ((vB false), h1759) | 4, 20 => some ((vI (c.call)), h1759) | 4, 21 => some ((vB true), h1759) | _, _ => none, fun _ => none, none⟩) (x := .ret) (h1 := h1759) [(12, (vI (c.kind))), (13, (vB true)), (14, (vB true)), (15, (vI (c.kind))), (16, (vB true)), (17, (vB true)), (18, (vB true)), (19, (vI (c.kind))), (20, (vB true)), (21, (vB true)), (22, (vB true)), (23, (vI (c.kind))), (24, (vB false)), (25, (vB false)), (26, (vB false)), (27, (Value.tuple #[])), (28, (Value.tuple #[])), (29, (vB false)), (30, (vB false)), (31, (vP b1761 1)), (32, (vI (c.call))), (33, (vB true)), (34, (vB true)), (4, (vI 0)), (5, (vI 2))]
                (fun q => (binA Try.prog .neq 3 (vI (c.kind)) (vI 2) = some (vB true) ∧ h1759 = h1759) ∧ (binA Try.prog .neq 3 (vI (c.kind)) (vI 11) = some (vB true) ∧ h1759 = h1759) ∧ (binA Try.prog .neq 3 (vI (c.kind)) (vI 12) = some (vB true) ∧ h1759 = h1759) ∧ (binA Try.prog .neq 3 (vI (c.kind)) (vI 13) = some (vB false) ∧ h1759 = h1759) ∧ (loadT Try.prog h1759 3 (vP b1761 1) = some (vI (c.call)) ∧ h1759 = h1759) ∧ (binA Try.prog .neq 3 (vI (c.call)) (vI 0) = some (vB true) ∧ h1759 = h1759) ∧ q) (by intro K'; kernel_rfl) (fun _ q => ⟨⟨cmp_neq (decide_eq_true c1789), rfl⟩, ⟨cmp_neq (decide_eq_true c1791), rfl⟩, ⟨cmp_neq (decide_eq_true c1793), rfl⟩, ⟨cmp_neq (decide_eq_false (not_not_intro c1795)), rfl⟩, ⟨load_cell agg3 f1763 rfl, rfl⟩, ⟨cmp_neq (decide_eq_true c1796), rfl⟩, q⟩) ?_
              have hbad : (c.call ≠ 0 ∨ ¬ c.kind ∈ ([2, 11, 12, 13, 14] : List Int)) := by simp only [List.mem_cons, List.not_mem_nil, or_false]; omega
              refine end_at (T := ⟨fun _ _ => none, fun _ => none, none⟩) (A := K (Value.tuple #[(vI 0), (vI 2)]) h1759) (by kernel_rfl) ?_
              exact hK _ _ (⟨fun _ => ⟨rfl, y1783⟩, fun q => absurd hbad q.1, fun q => absurd hbad q.1⟩)
          · by_cases c1797 : ((c.kind) : Int) = 14
            · by_cases c1798 : ((c.call) : Int) = 0
              · refine wc_upd (n := 200) (T := ⟨fun r i => match r, i with | 4, 1 => some ((vB true), h1759) | 4, 4 => some ((vB true), h1759) | 4, 8 => some ((vB true), h1759) | 4, 12 => some ((vB true), h1759) | 4, 16 => some ((vB false), h1759) | 4, 20 => some ((vI (c.call)), h1759) | 4, 21 => some ((vB false), h1759) | _, _ => none, fun _ => none, none⟩) (x := .normal) (h1 := h1759) [(12, (vI (c.kind))), (13, (vB true)), (14, (vB true)), (15, (vI (c.kind))), (16, (vB true)), (17, (vB true)), (18, (vB true)), (19, (vI (c.kind))), (20, (vB true)), (21, (vB true)), (22, (vB true)), (23, (vI (c.kind))), (24, (vB true)), (25, (vB true)), (26, (vB true)), (27, (vI (c.kind))), (28, (vB false)), (29, (vB false)), (30, (vB false)), (31, (vP b1761 1)), (32, (vI (c.call))), (33, (vB false)), (34, (vB false))]
                  (fun q => (binA Try.prog .neq 3 (vI (c.kind)) (vI 2) = some (vB true) ∧ h1759 = h1759) ∧ (binA Try.prog .neq 3 (vI (c.kind)) (vI 11) = some (vB true) ∧ h1759 = h1759) ∧ (binA Try.prog .neq 3 (vI (c.kind)) (vI 12) = some (vB true) ∧ h1759 = h1759) ∧ (binA Try.prog .neq 3 (vI (c.kind)) (vI 13) = some (vB true) ∧ h1759 = h1759) ∧ (binA Try.prog .neq 3 (vI (c.kind)) (vI 14) = some (vB false) ∧ h1759 = h1759) ∧ (loadT Try.prog h1759 3 (vP b1761 1) = some (vI (c.call)) ∧ h1759 = h1759) ∧ (binA Try.prog .neq 3 (vI (c.call)) (vI 0) = some (vB false) ∧ h1759 = h1759) ∧ q) (by intro K'; kernel_rfl) (fun _ q => ⟨⟨cmp_neq (decide_eq_true c1789), rfl⟩, ⟨cmp_neq (decide_eq_true c1791), rfl⟩, ⟨cmp_neq (decide_eq_true c1793), rfl⟩, ⟨cmp_neq (decide_eq_true c1795), rfl⟩, ⟨cmp_neq (decide_eq_false (not_not_intro c1797)), rfl⟩, ⟨load_cell agg3 f1763 rfl, rfl⟩, ⟨cmp_neq (decide_eq_false (not_not_intro c1798)), rfl⟩, q⟩) ?_
                exact ⟨(fun i => ([undef, undef, undef, undef, (vI 0), (vI 0), undef, undef, undef, undef, undef, undef, (vI (c.kind)), (vB true), (vB true), (vI (c.kind)), (vB true), (vB true), (vB true), (vI (c.kind)), (vB true), (vB true), (vB true), (vI (c.kind)), (vB true), (vB true), (vB true), (vI (c.kind)), (vB false), (vB false), (vB false), (vP b1761 1), (vI (c.call)), (vB false), (vB false)] : List Value).getD i undef), by kernel_rfl, rfl, by simp only [List.mem_cons, List.not_mem_nil, or_false]; omega⟩
              · refine wc_upd (n := 200) (T := ⟨fun r i => match r, i with | 4, 1 => some ((vB true), h1759) | 4, 4 => some ((vB true), h1759) | 4, 8 => some ((vB true), h1759) | 4, 12 => some ((vB true), h1759) | 4, 16 => some ((vB false), h1759) | 4, 20 => some ((vI (c.call)), h1759) | 4, 21 => some ((vB true), h1759) | _, _ => none, fun _ => none, none⟩) (x := .ret) (h1 := h1759) [(12, (vI (c.kind))), (13, (vB true)), (14, (vB true)), (15, (vI (c.kind))), (16, (vB true)), (17, (vB true)), (18, (vB true)), (19, (vI (c.kind))), (20, (vB true)), (21, (vB true)), (22, (vB true)), (23, (vI (c.kind))), (24, (vB true)), (25, (vB true)), (26, (vB true)), (27, (vI (c.kind))), (28, (vB false)), (29, (vB false)), (30, (vB false)), (31, (vP b1761 1)), (32, (vI (c.call))), (33, (vB true)), (34, (vB true)), (4, (vI 0)), (5, (vI 2))]
                  (fun q => (binA Try.prog .neq 3 (vI (c.kind)) (vI 2) = some (vB true) ∧ h1759 = h1759) ∧ (binA Try.prog .neq 3 (vI (c.kind)) (vI 11) = some (vB true) ∧ h1759 = h1759) ∧ (binA Try.prog .neq 3 (vI (c.kind)) (vI 12) = some (vB true) ∧ h1759 = h1759) ∧ (binA Try.prog .neq 3 (vI (c.kind)) (vI 13) = some (vB true) ∧ h1759 = h1759) ∧ (binA Try.prog .neq 3 (vI (c.kind)) (vI 14) = some (vB false) ∧ h1759 = h1759) ∧ (loadT Try.prog h1759 3 (vP b1761 1) = some (vI (c.call)) ∧ h1759 = h1759) ∧ (binA Try.prog .neq 3 (vI (c.call)) (vI 0) = some (vB true) ∧ h1759 = h1759) ∧ q) (by intro K'; kernel_rfl) (fun _ q => ⟨⟨cmp_neq (decide_eq_true c1789), rfl⟩, ⟨cmp_neq (decide_eq_true c1791), rfl⟩, ⟨cmp_neq (decide_eq_true c1793), rfl⟩, ⟨cmp_neq (decide_eq_true c1795), rfl⟩, ⟨cmp_neq (decide_eq_false (not_not_intro c1797)), rfl⟩, ⟨load_cell agg3 f1763 rfl, rfl⟩, ⟨cmp_neq (decide_eq_true c1798), rfl⟩, q⟩) ?_
                have hbad : (c.call ≠ 0 ∨ ¬ c.kind ∈ ([2, 11, 12, 13, 14] : List Int)) := by simp only [List.mem_cons, List.not_mem_nil, or_false]; omega
                refine end_at (T := ⟨fun _ _ => none, fun _ => none, none⟩) (A := K (Value.tuple #[(vI 0), (vI 2)]) h1759) (by kernel_rfl) ?_
                exact hK _ _ (⟨fun _ => ⟨rfl, y1783⟩, fun q => absurd hbad q.1, fun q => absurd hbad q.1⟩)
            · refine wc_upd (n := 200) (T := ⟨fun r i => match r, i with | 4, 1 => some ((vB true), h1759) | 4, 4 => some ((vB true), h1759) | 4, 8 => some ((vB true), h1759) | 4, 12 => some ((vB true), h1759) | 4, 16 => some ((vB true), h1759) | _, _ => none, fun _ => none, none⟩) (x := .ret) (h1 := h1759) [(12, (vI (c.kind))), (13, (vB true)), (14, (vB true)), (15, (vI (c.kind))), (16, (vB true)), (17, (vB true)), (18, (vB true)), (19, (vI (c.kind))), (20, (vB true)), (21, (vB true)), (22, (vB true)), (23, (vI (c.kind))), (24, (vB true)), (25, (vB true)), (26, (vB true)), (27, (vI (c.kind))), (28, (vB true)), (29, (vB true)), (30, (vB true)), (31, (Value.tuple #[])), (32, (Value.tuple #[])), (33, (Value.tuple #[])), (34, (vB true)), (4, (vI 0)), (5, (vI 2))]
                (fun q => (binA Try.prog .neq 3 (vI (c.kind)) (vI 2) = some (vB true) ∧ h1759 = h1759) ∧ (binA Try.prog .neq 3 (vI (c.kind)) (vI 11) = some (vB true) ∧ h1759 = h1759) ∧ (binA Try.prog .neq 3 (vI (c.kind)) (vI 12) = some (vB true) ∧ h1759 = h1759) ∧ (binA Try.prog .neq 3 (vI (c.kind)) (vI 13) = some (vB true) ∧ h1759 = h1759) ∧ (binA Try.prog .neq 3 (vI (c.kind)) (vI 14) = some (vB true) ∧ h1759 = h1759) ∧ q) (by intro K'; kernel_rfl) (fun _ q => ⟨⟨cmp_neq (decide_eq_true c1789), rfl⟩, ⟨cmp_neq (decide_eq_true c1791), rfl⟩, ⟨cmp_neq (decide_eq_true c1793), rfl⟩, ⟨cmp_neq (decide_eq_true c1795), rfl⟩, ⟨cmp_neq (decide_eq_true c1797), rfl⟩, q⟩) ?_
              have hbad : (c.call ≠ 0 ∨ ¬ c.kind ∈ ([2, 11, 12, 13, 14] : List Int)) := by simp only [List.mem_cons, List.not_mem_nil, or_false]; omega
              refine end_at (T := ⟨fun _ _ => none, fun _ => none, none⟩) (A := K (Value.tuple #[(vI 0), (vI 2)]) h1759) (by kernel_rfl) ?_
              exact hK _ _ (⟨fun _ => ⟨rfl, y1783⟩, fun q => absurd hbad q.1, fun q => absurd hbad q.1⟩)
  · rintro _ _ ⟨gc1787, rfl, rfl, f1788⟩
    by_cases c1799 : (2000 : Int) ≤ ((rc1749.length : Nat))
    · refine wc_upd (n := 200) (T := ⟨fun r i => match r, i with | 6, 3 => some ((Value.slice ac1751 (rc1749.length) (cc1755)), h1759) | 6, 5 => some ((vB true), h1759) | _, _ => none, fun _ => none, none⟩) (x := .ret) (h1 := h1759) [(35, (vP t 0)), (36, (vP t 0)), (37, (vP t 1)), (38, (Value.slice ac1751 (rc1749.length) (cc1755))), (39, (vI ((rc1749.length : Nat)))), (40, (vB true)), (4, (vI 0)), (5, (vI 4))]
        (fun q => (loadT Try.prog h1759 86 (vP t 1) = some (Value.slice ac1751 (rc1749.length) (cc1755)) ∧ h1759 = h1759) ∧ (binA Try.prog .geq 3 (vI ((rc1749.length : Nat))) (vI 2000) = some (vB true) ∧ h1759 = h1759) ∧ q) (by intro K'; kernel_rfl) (fun _ q => ⟨⟨load_cell agg86 f1774 rfl, rfl⟩, ⟨cmp_geq (decide_eq_true c1799), rfl⟩, q⟩) ?_
      have hgood : ¬ (c.call ≠ 0 ∨ ¬ c.kind ∈ ([2, 11, 12, 13, 14] : List Int)) := f1788
      refine end_at (T := ⟨fun _ _ => none, fun _ => none, none⟩) (A := K (Value.tuple #[(vI 0), (vI 4)]) h1759) (by kernel_rfl) ?_
      exact hK _ _ (⟨fun q => absurd q hgood, fun _ => ⟨rfl, y1783⟩, fun q => absurd q.2 (by omega)⟩)
    · obtain ⟨_, hh1804, sn1805, w1800, c1801, rfl, o1802, x1806, b1803⟩ := copied_ok h1759 c _ _ p1781 (by omega)
      have f1807 := x1806 _ _ f1774
      have f1808 := x1806 _ _ f1763
      have p1809 := p1775.keep fun b r _ q => x1806 b r q
      have p1810 := p1776.keep fun b r _ q => x1806 b r q
      have p1811 := p1777.keep fun b r _ q => x1806 b r q
      have p1812 := p1778.keep fun b r _ q => x1806 b r q
      have p1813 := p1779.keep fun b r _ q => x1806 b r q
      have p1814 := p1780.keep fun b r _ q => x1806 b r q
      have x1816 := x1782.trans (Chg.ext x1806)
      have y1817 := y1783.trans x1806
      have z1819 : h.size ≤ h1759.size := x1782.size
      have n1820 : ∀ zz, blk (Value.slice w1800 (c.steps.length) (c1801)) zz → ¬ zz = t := fun zz hz ez => by have := b1803 zz hz; have := row_lt f1774; omega
      have n1821 : ∀ zz, blk (Value.slice w1800 (c.steps.length) (c1801)) zz → ¬ zz = b1761 := fun zz hz ez => by have := b1803 zz hz; have := row_lt f1763; omega
      have o1829 : ∀ zz, blk (Value.slice w1800 (c.steps.length) (c1801)) zz → h.size ≤ zz := fun zz hz => by have := b1803 zz hz; omega
      obtain ⟨h1830, e1831⟩ : ∃ zq, zq = hh1804.setIfInBounds b1761 (.cells #[(vI (c.kind)), (vI (c.call)), (vI (c.saga)), (vI (c.e1)), (vI (c.e2)), (vI (c.e3)), (vS c.key), (vI (c.delta)), (vI (c.move)), (vS c.rf), (vS c.rt), (vI (c.group)), (vS c.dn), (vI (c.dr)), (vI (c.dd)), (Value.slice w1800 (c.steps.length) (c1801)), (vI (c.i1)), (vI (c.i2)), (vI (c.i3)), (vI (c.im)), (vB c.ii), (vI (c.ig)), (vI (c.res)), (vS c.data)] 43 (0, 0)) := ⟨_, rfl⟩
      have f1832 := set_same e1831 f1808
      have f1833 := set_other e1831 f1807 n1764
      have p1835 := p1809.keep fun b r hb q => (Chg.set e1831).same b r q (n1765 b hb)
      have p1836 := p1810.keep fun b r hb q => (Chg.set e1831).same b r q (n1766 b hb)
      have p1837 := p1811.keep fun b r hb q => (Chg.set e1831).same b r q (n1767 b hb)
      have p1838 := p1812.keep fun b r hb q => (Chg.set e1831).same b r q (n1768 b hb)
      have p1839 := p1813.keep fun b r hb q => (Chg.set e1831).same b r q (n1769 b hb)
      have p1840 := p1814.keep fun b r hb q => (Chg.set e1831).same b r q (n1770 b hb)
      have p1841 := o1802.keep fun b r hb q => (Chg.set e1831).same b r q (n1821 b hb)
      have x1842 := x1816.then (Chg.set e1831) (fun b hb => by subst hb; exact (.inr o1773))
      have y1843 := Ext.setNew y1817 e1831 o1773
      obtain ⟨h1844, e1845⟩ : ∃ zq, zq = h1830.setIfInBounds b1761 (.cells #[(vI (c.kind)), (vI (((rc1749.length : Nat)) + 1)), (vI (c.saga)), (vI (c.e1)), (vI (c.e2)), (vI (c.e3)), (vS c.key), (vI (c.delta)), (vI (c.move)), (vS c.rf), (vS c.rt), (vI (c.group)), (vS c.dn), (vI (c.dr)), (vI (c.dd)), (Value.slice w1800 (c.steps.length) (c1801)), (vI (c.i1)), (vI (c.i2)), (vI (c.i3)), (vI (c.im)), (vB c.ii), (vI (c.ig)), (vI (c.res)), (vS c.data)] 43 (0, 0)) := ⟨_, rfl⟩
      have f1846 := set_same e1845 f1832
      have f1847 := set_other e1845 f1833 n1764
      have p1849 := p1835.keep fun b r hb q => (Chg.set e1845).same b r q (n1765 b hb)
      have p1850 := p1836.keep fun b r hb q => (Chg.set e1845).same b r q (n1766 b hb)
      have p1851 := p1837.keep fun b r hb q => (Chg.set e1845).same b r q (n1767 b hb)
      have p1852 := p1838.keep fun b r hb q => (Chg.set e1845).same b r q (n1768 b hb)
      have p1853 := p1839.keep fun b r hb q => (Chg.set e1845).same b r q (n1769 b hb)
      have p1854 := p1840.keep fun b r hb q => (Chg.set e1845).same b r q (n1770 b hb)
      have p1855 := p1841.keep fun b r hb q => (Chg.set e1845).same b r q (n1821 b hb)
      have x1856 := x1842.then (Chg.set e1845) (fun b hb => by subst hb; exact (.inr o1773))
      have y1857 := Ext.setNew y1843 e1845 o1773
      obtain ⟨b1860, eb1861⟩ : ∃ zq, zq = h1844.size := ⟨_, rfl⟩
      obtain ⟨h1858, e1859⟩ : ∃ zq, zq = h1844.push (.cells #[] 43 (0, 0)) := ⟨_, rfl⟩
      have f1862 := push_new e1859
      rw [← eb1861] at f1862
      have n1863 : b1860 ≠ t := by have := row_lt f1847; omega
      have n1864 : b1860 ≠ b1761 := by have := row_lt f1846; omega
      have n1866 : ∀ zz, (blk (Value.slice ar1752 (m.rs.length) (cr1756))) zz → ¬ zz = b1860 := fun zz hz ez => by have := p1850.blk_lt hz; omega
      have n1867 : ∀ zz, (blk (Value.slice ah1753 (m.hs.length) (ch1757))) zz → ¬ zz = b1860 := fun zz hz ez => by have := p1851.blk_lt hz; omega
      have n1868 : ∀ zz, (blk (Value.slice ae1754 (re1750.length) (ce1758))) zz → ¬ zz = b1860 := fun zz hz ez => by have := p1852.blk_lt hz; omega
      have n1869 : ∀ zz, (cfoot rc1749) zz → ¬ zz = b1860 := fun zz hz ez => by have := p1853.blk_lt hz; omega
      have n1870 : ∀ zz, (sfoot re1750) zz → ¬ zz = b1860 := fun zz hz ez => by have := p1854.blk_lt hz; omega
      have n1871 : ∀ zz, (blk (Value.slice w1800 (c.steps.length) (c1801))) zz → ¬ zz = b1860 := fun zz hz ez => by have := p1855.blk_lt hz; omega
      have x1872 : Ext h1844 h1858 := by rw [e1859]; exact Ext.push _ _
      have o1873 : h.size ≤ b1860 := by have := x1856.size; omega
      have f1874 := x1872 _ _ f1847
      have f1875 := x1872 _ _ f1846
      have p1876 := p1849.keep fun b r _ q => x1872 b r q
      have p1877 := p1850.keep fun b r _ q => x1872 b r q
      have p1878 := p1851.keep fun b r _ q => x1872 b r q
      have p1879 := p1852.keep fun b r _ q => x1872 b r q
      have p1880 := p1853.keep fun b r _ q => x1872 b r q
      have p1881 := p1854.keep fun b r _ q => x1872 b r q
      have p1882 := p1855.keep fun b r _ q => x1872 b r q
      have x1883 := x1856.trans (Chg.ext x1872)
      have y1884 := y1857.trans x1872
      obtain ⟨b1887, eb1888⟩ : ∃ zq, zq = h1858.size := ⟨_, rfl⟩
      obtain ⟨h1885, e1886⟩ : ∃ zq, zq = h1858.push (.cells #[(vI (c.kind)), (vI (((rc1749.length : Nat)) + 1)), (vI (c.saga)), (vI (c.e1)), (vI (c.e2)), (vI (c.e3)), (vS c.key), (vI (c.delta)), (vI (c.move)), (vS c.rf), (vS c.rt), (vI (c.group)), (vS c.dn), (vI (c.dr)), (vI (c.dd)), (Value.slice w1800 (c.steps.length) (c1801)), (vI (c.i1)), (vI (c.i2)), (vI (c.i3)), (vI (c.im)), (vB c.ii), (vI (c.ig)), (vI (c.res)), (vS c.data)] 43 (0, 0)) := ⟨_, rfl⟩
      have f1889 := push_new e1886
      rw [← eb1888] at f1889
      have x1900 : Ext h1858 h1885 := by rw [e1886]; exact Ext.push _ _
      have o1901 : h.size ≤ b1887 := by have := x1883.size; omega
      have f1902 := x1900 _ _ f1874
      have f1903 := x1900 _ _ f1875
      have f1904 := x1900 _ _ f1862
      have p1905 := p1876.keep fun b r _ q => x1900 b r q
      have p1906 := p1877.keep fun b r _ q => x1900 b r q
      have p1907 := p1878.keep fun b r _ q => x1900 b r q
      have p1908 := p1879.keep fun b r _ q => x1900 b r q
      have p1909 := p1880.keep fun b r _ q => x1900 b r q
      have p1910 := p1881.keep fun b r _ q => x1900 b r q
      have p1911 := p1882.keep fun b r _ q => x1900 b r q
      have x1912 := x1883.trans (Chg.ext x1900)
      have y1913 := y1884.trans x1900
      obtain ⟨w1914, h1915, e1916, p1917, x1918, n1919⟩ := own_clone und86 sizeb43 zero43 rfl (by decide) cmdp_size f1904 (p1905.slice cmdp_size) (by omega) (by unfold maxLen; omega)
      obtain ⟨a1920, c1921, rfl⟩ := (p1917.slice cmdp_size).len
      have z1924 : b1860 < h1885.size := row_lt f1904
      have n1923 : ∀ zz, blk (Value.slice a1920 (rc1749.length) (c1921)) zz → zz = b1860 ∨ h1885.size ≤ zz := fun zz hz => by rcases n1919 zz hz with e | e <;> omega
      have n1925 : ∀ zz, blk (Value.slice a1920 (rc1749.length) (c1921)) zz → ¬ zz = t := fun zz hz ez => by have := n1863; have := row_lt f1902; rcases n1923 zz hz with g | g <;> omega
      have n1926 : ∀ zz, blk (Value.slice a1920 (rc1749.length) (c1921)) zz → ¬ zz = b1761 := fun zz hz ez => by have := n1864; have := row_lt f1903; rcases n1923 zz hz with g | g <;> omega
      have n1929 : ∀ zz, blk (Value.slice a1920 (rc1749.length) (c1921)) zz → ¬ (blk (Value.slice ar1752 (m.rs.length) (cr1756))) zz := fun zz hz ez => by have := p1906.blk_lt ez; rcases n1923 zz hz with g | g; (subst g; exact n1866 _ ez rfl); omega
      have n1930 : ∀ zz, blk (Value.slice a1920 (rc1749.length) (c1921)) zz → ¬ (blk (Value.slice ah1753 (m.hs.length) (ch1757))) zz := fun zz hz ez => by have := p1907.blk_lt ez; rcases n1923 zz hz with g | g; (subst g; exact n1867 _ ez rfl); omega
      have n1931 : ∀ zz, blk (Value.slice a1920 (rc1749.length) (c1921)) zz → ¬ (blk (Value.slice ae1754 (re1750.length) (ce1758))) zz := fun zz hz ez => by have := p1908.blk_lt ez; rcases n1923 zz hz with g | g; (subst g; exact n1868 _ ez rfl); omega
      have n1932 : ∀ zz, blk (Value.slice a1920 (rc1749.length) (c1921)) zz → ¬ (cfoot rc1749) zz := fun zz hz ez => by have := p1909.blk_lt ez; rcases n1923 zz hz with g | g; (subst g; exact n1869 _ ez rfl); omega
      have n1933 : ∀ zz, blk (Value.slice a1920 (rc1749.length) (c1921)) zz → ¬ (sfoot re1750) zz := fun zz hz ez => by have := p1910.blk_lt ez; rcases n1923 zz hz with g | g; (subst g; exact n1870 _ ez rfl); omega
      have n1934 : ∀ zz, blk (Value.slice a1920 (rc1749.length) (c1921)) zz → ¬ (blk (Value.slice w1800 (c.steps.length) (c1801))) zz := fun zz hz ez => by have := p1911.blk_lt ez; rcases n1923 zz hz with g | g; (subst g; exact n1871 _ ez rfl); omega
      have o1935 : ∀ zz, blk (Value.slice a1920 (rc1749.length) (c1921)) zz → h.size ≤ zz := fun zz hz => by have := o1873; have := x1912.size; rcases n1923 zz hz with g | g <;> omega
      have f1936 := x1918 _ _ f1902
      have f1937 := x1918 _ _ f1903
      have f1939 := x1918 _ _ f1889
      have p1941 := p1906.keep fun b r _ q => x1918 b r q
      have p1942 := p1907.keep fun b r _ q => x1918 b r q
      have p1943 := p1908.keep fun b r _ q => x1918 b r q
      have p1944 := p1909.keep fun b r _ q => x1918 b r q
      have p1945 := p1910.keep fun b r _ q => x1918 b r q
      have p1946 := p1911.keep fun b r _ q => x1918 b r q
      have x1947 := x1912.trans (Chg.ext x1918)
      have y1948 := y1913.trans x1918
      obtain ⟨w1949, h1950, e1951, p1952, c1953, n1954, z1955⟩ := own_append und86 sizeb43 zero43 rfl (by decide) cmdp_size (x := (((CmdM.mk (c.kind : Int) (((rc1749.length : Nat)) + 1 : Int) (c.saga : Int) (c.e1 : Int) (c.e2 : Int) (c.e3 : Int) (c.key : ByteArray) (c.delta : Int) (c.move : Int) (c.rf : ByteArray) (c.rt : ByteArray) (c.group : Int) (c.dn : ByteArray) (c.dr : Int) (c.dd : Int) c.steps (c.i1 : Int) (c.i2 : Int) (c.i3 : Int) (c.im : Int) (c.ii : Bool) (c.ig : Int) (c.res : Int) (c.data : ByteArray)), w1800, c1801) : CmdM × Option Addr × Nat)) p1917 f1939 rfl (by omega) (by unfold maxLen; omega)
      obtain ⟨a1956, c1957, rfl⟩ := (p1952.slice cmdp_size).len
      have z1958 : h.size ≤ h1915.size := x1947.size
      have x1959 := x1947.then c1953 (fun b hb => .inr (o1935 b hb))
      have f1960 := c1953.same _ _ f1936 (fun hb => n1925 _ hb rfl)
      have f1961 := c1953.same _ _ f1937 (fun hb => n1926 _ hb rfl)
      have p1964 := p1941.keep fun b r hb q => c1953.same b r q ((fun b hb hb2 => n1929 b hb2 hb) b hb)
      have p1965 := p1942.keep fun b r hb q => c1953.same b r q ((fun b hb hb2 => n1930 b hb2 hb) b hb)
      have p1966 := p1943.keep fun b r hb q => c1953.same b r q ((fun b hb hb2 => n1931 b hb2 hb) b hb)
      have p1967 := p1944.keep fun b r hb q => c1953.same b r q ((fun b hb hb2 => n1932 b hb2 hb) b hb)
      have p1968 := p1945.keep fun b r hb q => c1953.same b r q ((fun b hb hb2 => n1933 b hb2 hb) b hb)
      have p1969 := p1946.keep fun b r hb q => c1953.same b r q ((fun b hb hb2 => n1934 b hb2 hb) b hb)
      have n1971 : ∀ zz, blk (Value.slice a1956 ((rc1749 ++ [(((CmdM.mk (c.kind : Int) (((rc1749.length : Nat)) + 1 : Int) (c.saga : Int) (c.e1 : Int) (c.e2 : Int) (c.e3 : Int) (c.key : ByteArray) (c.delta : Int) (c.move : Int) (c.rf : ByteArray) (c.rt : ByteArray) (c.group : Int) (c.dn : ByteArray) (c.dr : Int) (c.dd : Int) c.steps (c.i1 : Int) (c.i2 : Int) (c.i3 : Int) (c.im : Int) (c.ii : Bool) (c.ig : Int) (c.res : Int) (c.data : ByteArray)), w1800, c1801) : CmdM × Option Addr × Nat)]).length) (c1957)) zz → ¬ zz = t := fun zz hz ez => by have := n1954 zz hz; have := row_lt f1936; omega
      have o1981 : ∀ zz, blk (Value.slice a1956 ((rc1749 ++ [(((CmdM.mk (c.kind : Int) (((rc1749.length : Nat)) + 1 : Int) (c.saga : Int) (c.e1 : Int) (c.e2 : Int) (c.e3 : Int) (c.key : ByteArray) (c.delta : Int) (c.move : Int) (c.rf : ByteArray) (c.rt : ByteArray) (c.group : Int) (c.dn : ByteArray) (c.dr : Int) (c.dd : Int) c.steps (c.i1 : Int) (c.i2 : Int) (c.i3 : Int) (c.im : Int) (c.ii : Bool) (c.ig : Int) (c.res : Int) (c.data : ByteArray)), w1800, c1801) : CmdM × Option Addr × Nat)]).length) (c1957)) zz → h.size ≤ zz := fun zz hz => by have := n1954 zz hz; have := z1958; omega
      obtain ⟨h1982, e1983⟩ : ∃ zq, zq = h1950.setIfInBounds t (.cells #[(vB true), (Value.slice a1956 ((rc1749 ++ [(((CmdM.mk (c.kind : Int) (((rc1749.length : Nat)) + 1 : Int) (c.saga : Int) (c.e1 : Int) (c.e2 : Int) (c.e3 : Int) (c.key : ByteArray) (c.delta : Int) (c.move : Int) (c.rf : ByteArray) (c.rt : ByteArray) (c.group : Int) (c.dn : ByteArray) (c.dr : Int) (c.dd : Int) c.steps (c.i1 : Int) (c.i2 : Int) (c.i3 : Int) (c.im : Int) (c.ii : Bool) (c.ig : Int) (c.res : Int) (c.data : ByteArray)), w1800, c1801) : CmdM × Option Addr × Nat)]).length) (c1957)), (Value.slice ar1752 (m.rs.length) (cr1756)), (Value.slice ah1753 (m.hs.length) (ch1757)), (Value.slice ae1754 (re1750.length) (ce1758))] 90 (0, 0)) := ⟨_, rfl⟩
      have f1984 := set_same e1983 f1960
      have f1986 := set_other e1983 f1961 n1764.symm
      have p1989 := p1964.keep fun b r hb q => (Chg.set e1983).same b r q ((fun b hb => p1964.ne f1960 (by decide) hb) b hb)
      have p1990 := p1965.keep fun b r hb q => (Chg.set e1983).same b r q ((fun b hb => p1965.ne f1960 (by decide) hb) b hb)
      have p1991 := p1966.keep fun b r hb q => (Chg.set e1983).same b r q ((fun b hb => p1966.ne f1960 (by decide) hb) b hb)
      have p1992 := p1967.keep fun b r hb q => (Chg.set e1983).same b r q ((fun b hb => p1967.ne f1960 (by decide) hb) b hb)
      have p1993 := p1968.keep fun b r hb q => (Chg.set e1983).same b r q ((fun b hb => p1968.ne f1960 (by decide) hb) b hb)
      have p1994 := p1969.keep fun b r hb q => (Chg.set e1983).same b r q (n1820 b hb)
      have p1995 := p1952.keep fun b r hb q => (Chg.set e1983).same b r q (n1971 b hb)
      have x1996 := x1959.then (Chg.set e1983) (fun b hb => by subst hb; exact (.inl T1748.inT))
      obtain ⟨b1999, eb2000⟩ : ∃ zq, zq = h1982.size := ⟨_, rfl⟩
      obtain ⟨h1997, e1998⟩ : ∃ zq, zq = h1982.push (.cells #[] 45 (0, 0)) := ⟨_, rfl⟩
      have f2001 := push_new e1998
      rw [← eb2000] at f2001
      have n2002 : b1999 ≠ t := by have := row_lt f1984; omega
      have n2003 : b1999 ≠ b1761 := by have := row_lt f1986; omega
      have n2007 : ∀ zz, (blk (Value.slice ah1753 (m.hs.length) (ch1757))) zz → ¬ zz = b1999 := fun zz hz ez => by have := p1990.blk_lt hz; omega
      have n2008 : ∀ zz, (blk (Value.slice ae1754 (re1750.length) (ce1758))) zz → ¬ zz = b1999 := fun zz hz ez => by have := p1991.blk_lt hz; omega
      have n2009 : ∀ zz, (cfoot rc1749) zz → ¬ zz = b1999 := fun zz hz ez => by have := p1992.blk_lt hz; omega
      have n2010 : ∀ zz, (sfoot re1750) zz → ¬ zz = b1999 := fun zz hz ez => by have := p1993.blk_lt hz; omega
      have n2011 : ∀ zz, (blk (Value.slice w1800 (c.steps.length) (c1801))) zz → ¬ zz = b1999 := fun zz hz ez => by have := p1994.blk_lt hz; omega
      have n2012 : ∀ zz, (blk (Value.slice a1956 ((rc1749 ++ [(((CmdM.mk (c.kind : Int) (((rc1749.length : Nat)) + 1 : Int) (c.saga : Int) (c.e1 : Int) (c.e2 : Int) (c.e3 : Int) (c.key : ByteArray) (c.delta : Int) (c.move : Int) (c.rf : ByteArray) (c.rt : ByteArray) (c.group : Int) (c.dn : ByteArray) (c.dr : Int) (c.dd : Int) c.steps (c.i1 : Int) (c.i2 : Int) (c.i3 : Int) (c.im : Int) (c.ii : Bool) (c.ig : Int) (c.res : Int) (c.data : ByteArray)), w1800, c1801) : CmdM × Option Addr × Nat)]).length) (c1957))) zz → ¬ zz = b1999 := fun zz hz ez => by have := p1995.blk_lt hz; omega
      have x2013 : Ext h1982 h1997 := by rw [e1998]; exact Ext.push _ _
      have o2014 : h.size ≤ b1999 := by have := x1996.size; omega
      have f2015 := x2013 _ _ f1984
      have f2016 := x2013 _ _ f1986
      have p2019 := p1989.keep fun b r _ q => x2013 b r q
      have p2020 := p1990.keep fun b r _ q => x2013 b r q
      have p2021 := p1991.keep fun b r _ q => x2013 b r q
      have p2022 := p1992.keep fun b r _ q => x2013 b r q
      have p2023 := p1993.keep fun b r _ q => x2013 b r q
      have p2024 := p1994.keep fun b r _ q => x2013 b r q
      have p2025 := p1995.keep fun b r _ q => x2013 b r q
      have x2026 := x1996.trans (Chg.ext x2013)
      obtain ⟨w2027, h2028, e2029, p2030, x2031, n2032⟩ := own_clone und87 sizeb45 zero45 rfl (by decide) repc_size f2001 (p2019.slice repc_size) (by omega) (by unfold maxLen; omega)
      obtain ⟨a2033, c2034, rfl⟩ := (p2030.slice repc_size).len
      have z2037 : b1999 < h1997.size := row_lt f2001
      have n2036 : ∀ zz, blk (Value.slice a2033 (m.rs.length) (c2034)) zz → zz = b1999 ∨ h1997.size ≤ zz := fun zz hz => by rcases n2032 zz hz with e | e <;> omega
      have n2038 : ∀ zz, blk (Value.slice a2033 (m.rs.length) (c2034)) zz → ¬ zz = t := fun zz hz ez => by have := n2002; have := row_lt f2015; rcases n2036 zz hz with g | g <;> omega
      have n2039 : ∀ zz, blk (Value.slice a2033 (m.rs.length) (c2034)) zz → ¬ zz = b1761 := fun zz hz ez => by have := n2003; have := row_lt f2016; rcases n2036 zz hz with g | g <;> omega
      have n2043 : ∀ zz, blk (Value.slice a2033 (m.rs.length) (c2034)) zz → ¬ (blk (Value.slice ah1753 (m.hs.length) (ch1757))) zz := fun zz hz ez => by have := p2020.blk_lt ez; rcases n2036 zz hz with g | g; (subst g; exact n2007 _ ez rfl); omega
      have n2044 : ∀ zz, blk (Value.slice a2033 (m.rs.length) (c2034)) zz → ¬ (blk (Value.slice ae1754 (re1750.length) (ce1758))) zz := fun zz hz ez => by have := p2021.blk_lt ez; rcases n2036 zz hz with g | g; (subst g; exact n2008 _ ez rfl); omega
      have n2045 : ∀ zz, blk (Value.slice a2033 (m.rs.length) (c2034)) zz → ¬ (cfoot rc1749) zz := fun zz hz ez => by have := p2022.blk_lt ez; rcases n2036 zz hz with g | g; (subst g; exact n2009 _ ez rfl); omega
      have n2046 : ∀ zz, blk (Value.slice a2033 (m.rs.length) (c2034)) zz → ¬ (sfoot re1750) zz := fun zz hz ez => by have := p2023.blk_lt ez; rcases n2036 zz hz with g | g; (subst g; exact n2010 _ ez rfl); omega
      have n2047 : ∀ zz, blk (Value.slice a2033 (m.rs.length) (c2034)) zz → ¬ (blk (Value.slice w1800 (c.steps.length) (c1801))) zz := fun zz hz ez => by have := p2024.blk_lt ez; rcases n2036 zz hz with g | g; (subst g; exact n2011 _ ez rfl); omega
      have n2048 : ∀ zz, blk (Value.slice a2033 (m.rs.length) (c2034)) zz → ¬ (blk (Value.slice a1956 ((rc1749 ++ [(((CmdM.mk (c.kind : Int) (((rc1749.length : Nat)) + 1 : Int) (c.saga : Int) (c.e1 : Int) (c.e2 : Int) (c.e3 : Int) (c.key : ByteArray) (c.delta : Int) (c.move : Int) (c.rf : ByteArray) (c.rt : ByteArray) (c.group : Int) (c.dn : ByteArray) (c.dr : Int) (c.dd : Int) c.steps (c.i1 : Int) (c.i2 : Int) (c.i3 : Int) (c.im : Int) (c.ii : Bool) (c.ig : Int) (c.res : Int) (c.data : ByteArray)), w1800, c1801) : CmdM × Option Addr × Nat)]).length) (c1957))) zz := fun zz hz ez => by have := p2025.blk_lt ez; rcases n2036 zz hz with g | g; (subst g; exact n2012 _ ez rfl); omega
      have o2049 : ∀ zz, blk (Value.slice a2033 (m.rs.length) (c2034)) zz → h.size ≤ zz := fun zz hz => by have := o2014; have := x2026.size; rcases n2036 zz hz with g | g <;> omega
      have f2050 := x2031 _ _ f2015
      have f2051 := x2031 _ _ f2016
      have p2056 := p2020.keep fun b r _ q => x2031 b r q
      have p2057 := p2021.keep fun b r _ q => x2031 b r q
      have p2058 := p2022.keep fun b r _ q => x2031 b r q
      have p2059 := p2023.keep fun b r _ q => x2031 b r q
      have p2060 := p2024.keep fun b r _ q => x2031 b r q
      have p2061 := p2025.keep fun b r _ q => x2031 b r q
      have x2062 := x2026.trans (Chg.ext x2031)
      obtain ⟨b2065, eb2066⟩ : ∃ zq, zq = h2028.size := ⟨_, rfl⟩
      obtain ⟨h2063, e2064⟩ : ∃ zq, zq = h2028.push (.cells #[(vI 0), (vI 0), (vS .empty)] 45 (0, 0)) := ⟨_, rfl⟩
      have f2067 := push_new e2064
      rw [← eb2066] at f2067
      have x2080 : Ext h2028 h2063 := by rw [e2064]; exact Ext.push _ _
      have o2081 : h.size ≤ b2065 := by have := x2062.size; omega
      have f2082 := x2080 _ _ f2050
      have f2083 := x2080 _ _ f2051
      have p2087 := p2056.keep fun b r _ q => x2080 b r q
      have p2088 := p2057.keep fun b r _ q => x2080 b r q
      have p2089 := p2058.keep fun b r _ q => x2080 b r q
      have p2090 := p2059.keep fun b r _ q => x2080 b r q
      have p2091 := p2060.keep fun b r _ q => x2080 b r q
      have p2092 := p2061.keep fun b r _ q => x2080 b r q
      have p2093 := p2030.keep fun b r _ q => x2080 b r q
      have x2094 := x2062.trans (Chg.ext x2080)
      obtain ⟨w2095, h2096, e2097, p2098, c2099, n2100, z2101⟩ := own_append und87 sizeb45 zero45 rfl (by decide) repc_size (x := (RepM.mk (0 : Int) (0 : Int) (.empty : ByteArray))) p2093 f2067 rfl (by omega) (by unfold maxLen; omega)
      obtain ⟨a2102, c2103, rfl⟩ := (p2098.slice repc_size).len
      have z2104 : h.size ≤ h2063.size := x2094.size
      have x2105 := x2094.then c2099 (fun b hb => .inr (o2049 b hb))
      have f2106 := c2099.same _ _ f2082 (fun hb => n2038 _ hb rfl)
      have f2107 := c2099.same _ _ f2083 (fun hb => n2039 _ hb rfl)
      have p2112 := p2087.keep fun b r hb q => c2099.same b r q ((fun b hb hb2 => n2043 b hb2 hb) b hb)
      have p2113 := p2088.keep fun b r hb q => c2099.same b r q ((fun b hb hb2 => n2044 b hb2 hb) b hb)
      have p2114 := p2089.keep fun b r hb q => c2099.same b r q ((fun b hb hb2 => n2045 b hb2 hb) b hb)
      have p2115 := p2090.keep fun b r hb q => c2099.same b r q ((fun b hb hb2 => n2046 b hb2 hb) b hb)
      have p2116 := p2091.keep fun b r hb q => c2099.same b r q ((fun b hb hb2 => n2047 b hb2 hb) b hb)
      have p2117 := p2092.keep fun b r hb q => c2099.same b r q ((fun b hb hb2 => n2048 b hb2 hb) b hb)
      have n2119 : ∀ zz, blk (Value.slice a2102 ((m.rs ++ [(RepM.mk (0 : Int) (0 : Int) (.empty : ByteArray))]).length) (c2103)) zz → ¬ zz = t := fun zz hz ez => by have := n2100 zz hz; have := row_lt f2082; omega
      have o2131 : ∀ zz, blk (Value.slice a2102 ((m.rs ++ [(RepM.mk (0 : Int) (0 : Int) (.empty : ByteArray))]).length) (c2103)) zz → h.size ≤ zz := fun zz hz => by have := n2100 zz hz; have := z2104; omega
      obtain ⟨h2132, e2133⟩ : ∃ zq, zq = h2096.setIfInBounds t (.cells #[(vB true), (Value.slice a1956 ((rc1749 ++ [(((CmdM.mk (c.kind : Int) (((rc1749.length : Nat)) + 1 : Int) (c.saga : Int) (c.e1 : Int) (c.e2 : Int) (c.e3 : Int) (c.key : ByteArray) (c.delta : Int) (c.move : Int) (c.rf : ByteArray) (c.rt : ByteArray) (c.group : Int) (c.dn : ByteArray) (c.dr : Int) (c.dd : Int) c.steps (c.i1 : Int) (c.i2 : Int) (c.i3 : Int) (c.im : Int) (c.ii : Bool) (c.ig : Int) (c.res : Int) (c.data : ByteArray)), w1800, c1801) : CmdM × Option Addr × Nat)]).length) (c1957)), (Value.slice a2102 ((m.rs ++ [(RepM.mk (0 : Int) (0 : Int) (.empty : ByteArray))]).length) (c2103)), (Value.slice ah1753 (m.hs.length) (ch1757)), (Value.slice ae1754 (re1750.length) (ce1758))] 90 (0, 0)) := ⟨_, rfl⟩
      have f2134 := set_same e2133 f2106
      have f2136 := set_other e2133 f2107 n1764.symm
      have p2141 := p2112.keep fun b r hb q => (Chg.set e2133).same b r q ((fun b hb => p2112.ne f2106 (by decide) hb) b hb)
      have p2142 := p2113.keep fun b r hb q => (Chg.set e2133).same b r q ((fun b hb => p2113.ne f2106 (by decide) hb) b hb)
      have p2143 := p2114.keep fun b r hb q => (Chg.set e2133).same b r q ((fun b hb => p2114.ne f2106 (by decide) hb) b hb)
      have p2144 := p2115.keep fun b r hb q => (Chg.set e2133).same b r q ((fun b hb => p2115.ne f2106 (by decide) hb) b hb)
      have p2145 := p2116.keep fun b r hb q => (Chg.set e2133).same b r q (n1820 b hb)
      have p2146 := p2117.keep fun b r hb q => (Chg.set e2133).same b r q (n1971 b hb)
      have p2147 := p2098.keep fun b r hb q => (Chg.set e2133).same b r q (n2119 b hb)
      have x2148 := x2105.then (Chg.set e2133) (fun b hb => by subst hb; exact (.inl T1748.inT))
      obtain ⟨b2151, eb2152⟩ : ∃ zq, zq = h2132.size := ⟨_, rfl⟩
      obtain ⟨h2149, e2150⟩ : ∃ zq, zq = h2132.push (.cells #[] 4 (0, 0)) := ⟨_, rfl⟩
      have f2153 := push_new e2150
      rw [← eb2152] at f2153
      have n2154 : b2151 ≠ t := by have := row_lt f2134; omega
      have n2155 : b2151 ≠ b1761 := by have := row_lt f2136; omega
      have n2161 : ∀ zz, (blk (Value.slice ae1754 (re1750.length) (ce1758))) zz → ¬ zz = b2151 := fun zz hz ez => by have := p2142.blk_lt hz; omega
      have n2162 : ∀ zz, (cfoot rc1749) zz → ¬ zz = b2151 := fun zz hz ez => by have := p2143.blk_lt hz; omega
      have n2163 : ∀ zz, (sfoot re1750) zz → ¬ zz = b2151 := fun zz hz ez => by have := p2144.blk_lt hz; omega
      have n2164 : ∀ zz, (blk (Value.slice w1800 (c.steps.length) (c1801))) zz → ¬ zz = b2151 := fun zz hz ez => by have := p2145.blk_lt hz; omega
      have n2165 : ∀ zz, (blk (Value.slice a1956 ((rc1749 ++ [(((CmdM.mk (c.kind : Int) (((rc1749.length : Nat)) + 1 : Int) (c.saga : Int) (c.e1 : Int) (c.e2 : Int) (c.e3 : Int) (c.key : ByteArray) (c.delta : Int) (c.move : Int) (c.rf : ByteArray) (c.rt : ByteArray) (c.group : Int) (c.dn : ByteArray) (c.dr : Int) (c.dd : Int) c.steps (c.i1 : Int) (c.i2 : Int) (c.i3 : Int) (c.im : Int) (c.ii : Bool) (c.ig : Int) (c.res : Int) (c.data : ByteArray)), w1800, c1801) : CmdM × Option Addr × Nat)]).length) (c1957))) zz → ¬ zz = b2151 := fun zz hz ez => by have := p2146.blk_lt hz; omega
      have n2166 : ∀ zz, (blk (Value.slice a2102 ((m.rs ++ [(RepM.mk (0 : Int) (0 : Int) (.empty : ByteArray))]).length) (c2103))) zz → ¬ zz = b2151 := fun zz hz ez => by have := p2147.blk_lt hz; omega
      have x2167 : Ext h2132 h2149 := by rw [e2150]; exact Ext.push _ _
      have o2168 : h.size ≤ b2151 := by have := x2148.size; omega
      have f2169 := x2167 _ _ f2134
      have f2170 := x2167 _ _ f2136
      have p2175 := p2141.keep fun b r _ q => x2167 b r q
      have p2176 := p2142.keep fun b r _ q => x2167 b r q
      have p2177 := p2143.keep fun b r _ q => x2167 b r q
      have p2178 := p2144.keep fun b r _ q => x2167 b r q
      have p2179 := p2145.keep fun b r _ q => x2167 b r q
      have p2180 := p2146.keep fun b r _ q => x2167 b r q
      have p2181 := p2147.keep fun b r _ q => x2167 b r q
      have x2182 := x2148.trans (Chg.ext x2167)
      obtain ⟨w2183, h2184, e2185, p2186, x2187, n2188⟩ := own_clone und88 sizeb4 zero4 rfl (by decide) bcell_size f2153 (p2175.slice bcell_size) (by omega) (by unfold maxLen; omega)
      obtain ⟨a2189, c2190, rfl⟩ := (p2186.slice bcell_size).len
      have z2193 : b2151 < h2149.size := row_lt f2153
      have n2192 : ∀ zz, blk (Value.slice a2189 (m.hs.length) (c2190)) zz → zz = b2151 ∨ h2149.size ≤ zz := fun zz hz => by rcases n2188 zz hz with e | e <;> omega
      have n2194 : ∀ zz, blk (Value.slice a2189 (m.hs.length) (c2190)) zz → ¬ zz = t := fun zz hz ez => by have := n2154; have := row_lt f2169; rcases n2192 zz hz with g | g <;> omega
      have n2195 : ∀ zz, blk (Value.slice a2189 (m.hs.length) (c2190)) zz → ¬ zz = b1761 := fun zz hz ez => by have := n2155; have := row_lt f2170; rcases n2192 zz hz with g | g <;> omega
      have n2201 : ∀ zz, blk (Value.slice a2189 (m.hs.length) (c2190)) zz → ¬ (blk (Value.slice ae1754 (re1750.length) (ce1758))) zz := fun zz hz ez => by have := p2176.blk_lt ez; rcases n2192 zz hz with g | g; (subst g; exact n2161 _ ez rfl); omega
      have n2202 : ∀ zz, blk (Value.slice a2189 (m.hs.length) (c2190)) zz → ¬ (cfoot rc1749) zz := fun zz hz ez => by have := p2177.blk_lt ez; rcases n2192 zz hz with g | g; (subst g; exact n2162 _ ez rfl); omega
      have n2203 : ∀ zz, blk (Value.slice a2189 (m.hs.length) (c2190)) zz → ¬ (sfoot re1750) zz := fun zz hz ez => by have := p2178.blk_lt ez; rcases n2192 zz hz with g | g; (subst g; exact n2163 _ ez rfl); omega
      have n2204 : ∀ zz, blk (Value.slice a2189 (m.hs.length) (c2190)) zz → ¬ (blk (Value.slice w1800 (c.steps.length) (c1801))) zz := fun zz hz ez => by have := p2179.blk_lt ez; rcases n2192 zz hz with g | g; (subst g; exact n2164 _ ez rfl); omega
      have n2205 : ∀ zz, blk (Value.slice a2189 (m.hs.length) (c2190)) zz → ¬ (blk (Value.slice a1956 ((rc1749 ++ [(((CmdM.mk (c.kind : Int) (((rc1749.length : Nat)) + 1 : Int) (c.saga : Int) (c.e1 : Int) (c.e2 : Int) (c.e3 : Int) (c.key : ByteArray) (c.delta : Int) (c.move : Int) (c.rf : ByteArray) (c.rt : ByteArray) (c.group : Int) (c.dn : ByteArray) (c.dr : Int) (c.dd : Int) c.steps (c.i1 : Int) (c.i2 : Int) (c.i3 : Int) (c.im : Int) (c.ii : Bool) (c.ig : Int) (c.res : Int) (c.data : ByteArray)), w1800, c1801) : CmdM × Option Addr × Nat)]).length) (c1957))) zz := fun zz hz ez => by have := p2180.blk_lt ez; rcases n2192 zz hz with g | g; (subst g; exact n2165 _ ez rfl); omega
      have n2206 : ∀ zz, blk (Value.slice a2189 (m.hs.length) (c2190)) zz → ¬ (blk (Value.slice a2102 ((m.rs ++ [(RepM.mk (0 : Int) (0 : Int) (.empty : ByteArray))]).length) (c2103))) zz := fun zz hz ez => by have := p2181.blk_lt ez; rcases n2192 zz hz with g | g; (subst g; exact n2166 _ ez rfl); omega
      have o2207 : ∀ zz, blk (Value.slice a2189 (m.hs.length) (c2190)) zz → h.size ≤ zz := fun zz hz => by have := o2168; have := x2182.size; rcases n2192 zz hz with g | g <;> omega
      have f2208 := x2187 _ _ f2169
      have f2209 := x2187 _ _ f2170
      have p2216 := p2176.keep fun b r _ q => x2187 b r q
      have p2217 := p2177.keep fun b r _ q => x2187 b r q
      have p2218 := p2178.keep fun b r _ q => x2187 b r q
      have p2219 := p2179.keep fun b r _ q => x2187 b r q
      have p2220 := p2180.keep fun b r _ q => x2187 b r q
      have p2221 := p2181.keep fun b r _ q => x2187 b r q
      have x2222 := x2182.trans (Chg.ext x2187)
      obtain ⟨b2225, eb2226⟩ : ∃ zq, zq = h2184.size := ⟨_, rfl⟩
      obtain ⟨h2223, e2224⟩ : ∃ zq, zq = h2184.push (.cells #[(vB false)] 4 (0, 0)) := ⟨_, rfl⟩
      have f2227 := push_new e2224
      rw [← eb2226] at f2227
      have x2242 : Ext h2184 h2223 := by rw [e2224]; exact Ext.push _ _
      have o2243 : h.size ≤ b2225 := by have := x2222.size; omega
      have f2244 := x2242 _ _ f2208
      have f2245 := x2242 _ _ f2209
      have p2251 := p2216.keep fun b r _ q => x2242 b r q
      have p2252 := p2217.keep fun b r _ q => x2242 b r q
      have p2253 := p2218.keep fun b r _ q => x2242 b r q
      have p2254 := p2219.keep fun b r _ q => x2242 b r q
      have p2255 := p2220.keep fun b r _ q => x2242 b r q
      have p2256 := p2221.keep fun b r _ q => x2242 b r q
      have p2257 := p2186.keep fun b r _ q => x2242 b r q
      have x2258 := x2222.trans (Chg.ext x2242)
      obtain ⟨w2259, h2260, e2261, p2262, c2263, n2264, z2265⟩ := own_append und88 sizeb4 zero4 rfl (by decide) bcell_size (x := (false : Bool)) p2257 f2227 rfl (by omega) (by unfold maxLen; omega)
      obtain ⟨a2266, c2267, rfl⟩ := (p2262.slice bcell_size).len
      have z2268 : h.size ≤ h2223.size := x2258.size
      have x2269 := x2258.then c2263 (fun b hb => .inr (o2207 b hb))
      have f2270 := c2263.same _ _ f2244 (fun hb => n2194 _ hb rfl)
      have f2271 := c2263.same _ _ f2245 (fun hb => n2195 _ hb rfl)
      have p2278 := p2251.keep fun b r hb q => c2263.same b r q ((fun b hb hb2 => n2201 b hb2 hb) b hb)
      have p2279 := p2252.keep fun b r hb q => c2263.same b r q ((fun b hb hb2 => n2202 b hb2 hb) b hb)
      have p2280 := p2253.keep fun b r hb q => c2263.same b r q ((fun b hb hb2 => n2203 b hb2 hb) b hb)
      have p2281 := p2254.keep fun b r hb q => c2263.same b r q ((fun b hb hb2 => n2204 b hb2 hb) b hb)
      have p2282 := p2255.keep fun b r hb q => c2263.same b r q ((fun b hb hb2 => n2205 b hb2 hb) b hb)
      have p2283 := p2256.keep fun b r hb q => c2263.same b r q ((fun b hb hb2 => n2206 b hb2 hb) b hb)
      have n2285 : ∀ zz, blk (Value.slice a2266 ((m.hs ++ [(false : Bool)]).length) (c2267)) zz → ¬ zz = t := fun zz hz ez => by have := n2264 zz hz; have := row_lt f2244; omega
      have o2299 : ∀ zz, blk (Value.slice a2266 ((m.hs ++ [(false : Bool)]).length) (c2267)) zz → h.size ≤ zz := fun zz hz => by have := n2264 zz hz; have := z2268; omega
      obtain ⟨h2300, e2301⟩ : ∃ zq, zq = h2260.setIfInBounds t (.cells #[(vB true), (Value.slice a1956 ((rc1749 ++ [(((CmdM.mk (c.kind : Int) (((rc1749.length : Nat)) + 1 : Int) (c.saga : Int) (c.e1 : Int) (c.e2 : Int) (c.e3 : Int) (c.key : ByteArray) (c.delta : Int) (c.move : Int) (c.rf : ByteArray) (c.rt : ByteArray) (c.group : Int) (c.dn : ByteArray) (c.dr : Int) (c.dd : Int) c.steps (c.i1 : Int) (c.i2 : Int) (c.i3 : Int) (c.im : Int) (c.ii : Bool) (c.ig : Int) (c.res : Int) (c.data : ByteArray)), w1800, c1801) : CmdM × Option Addr × Nat)]).length) (c1957)), (Value.slice a2102 ((m.rs ++ [(RepM.mk (0 : Int) (0 : Int) (.empty : ByteArray))]).length) (c2103)), (Value.slice a2266 ((m.hs ++ [(false : Bool)]).length) (c2267)), (Value.slice ae1754 (re1750.length) (ce1758))] 90 (0, 0)) := ⟨_, rfl⟩
      have f2302 := set_same e2301 f2270
      have f2304 := set_other e2301 f2271 n1764.symm
      have p2311 := p2278.keep fun b r hb q => (Chg.set e2301).same b r q ((fun b hb => p2278.ne f2270 (by decide) hb) b hb)
      have p2312 := p2279.keep fun b r hb q => (Chg.set e2301).same b r q ((fun b hb => p2279.ne f2270 (by decide) hb) b hb)
      have p2313 := p2280.keep fun b r hb q => (Chg.set e2301).same b r q ((fun b hb => p2280.ne f2270 (by decide) hb) b hb)
      have p2314 := p2281.keep fun b r hb q => (Chg.set e2301).same b r q (n1820 b hb)
      have p2315 := p2282.keep fun b r hb q => (Chg.set e2301).same b r q (n1971 b hb)
      have p2316 := p2283.keep fun b r hb q => (Chg.set e2301).same b r q (n2119 b hb)
      have p2317 := p2262.keep fun b r hb q => (Chg.set e2301).same b r q (n2285 b hb)
      have x2318 := x2269.then (Chg.set e2301) (fun b hb => by subst hb; exact (.inl T1748.inT))
      obtain ⟨b2321, eb2322⟩ : ∃ zq, zq = h2300.size := ⟨_, rfl⟩
      obtain ⟨h2319, e2320⟩ : ∃ zq, zq = h2300.push (.cells #[] 47 (0, 0)) := ⟨_, rfl⟩
      have f2323 := push_new e2320
      rw [← eb2322] at f2323
      have n2324 : b2321 ≠ t := by have := row_lt f2302; omega
      have n2325 : b2321 ≠ b1761 := by have := row_lt f2304; omega
      have n2333 : ∀ zz, (cfoot rc1749) zz → ¬ zz = b2321 := fun zz hz ez => by have := p2312.blk_lt hz; omega
      have n2334 : ∀ zz, (sfoot re1750) zz → ¬ zz = b2321 := fun zz hz ez => by have := p2313.blk_lt hz; omega
      have n2335 : ∀ zz, (blk (Value.slice w1800 (c.steps.length) (c1801))) zz → ¬ zz = b2321 := fun zz hz ez => by have := p2314.blk_lt hz; omega
      have n2336 : ∀ zz, (blk (Value.slice a1956 ((rc1749 ++ [(((CmdM.mk (c.kind : Int) (((rc1749.length : Nat)) + 1 : Int) (c.saga : Int) (c.e1 : Int) (c.e2 : Int) (c.e3 : Int) (c.key : ByteArray) (c.delta : Int) (c.move : Int) (c.rf : ByteArray) (c.rt : ByteArray) (c.group : Int) (c.dn : ByteArray) (c.dr : Int) (c.dd : Int) c.steps (c.i1 : Int) (c.i2 : Int) (c.i3 : Int) (c.im : Int) (c.ii : Bool) (c.ig : Int) (c.res : Int) (c.data : ByteArray)), w1800, c1801) : CmdM × Option Addr × Nat)]).length) (c1957))) zz → ¬ zz = b2321 := fun zz hz ez => by have := p2315.blk_lt hz; omega
      have n2337 : ∀ zz, (blk (Value.slice a2102 ((m.rs ++ [(RepM.mk (0 : Int) (0 : Int) (.empty : ByteArray))]).length) (c2103))) zz → ¬ zz = b2321 := fun zz hz ez => by have := p2316.blk_lt hz; omega
      have n2338 : ∀ zz, (blk (Value.slice a2266 ((m.hs ++ [(false : Bool)]).length) (c2267))) zz → ¬ zz = b2321 := fun zz hz ez => by have := p2317.blk_lt hz; omega
      have x2339 : Ext h2300 h2319 := by rw [e2320]; exact Ext.push _ _
      have o2340 : h.size ≤ b2321 := by have := x2318.size; omega
      have f2341 := x2339 _ _ f2302
      have f2342 := x2339 _ _ f2304
      have p2349 := p2311.keep fun b r _ q => x2339 b r q
      have p2350 := p2312.keep fun b r _ q => x2339 b r q
      have p2351 := p2313.keep fun b r _ q => x2339 b r q
      have p2352 := p2314.keep fun b r _ q => x2339 b r q
      have p2353 := p2315.keep fun b r _ q => x2339 b r q
      have p2354 := p2316.keep fun b r _ q => x2339 b r q
      have p2355 := p2317.keep fun b r _ q => x2339 b r q
      have x2356 := x2318.trans (Chg.ext x2339)
      obtain ⟨b2359, eb2360⟩ : ∃ zq, zq = h2319.size := ⟨_, rfl⟩
      obtain ⟨h2357, e2358⟩ : ∃ zq, zq = h2319.push (.cells #[(vI (((rc1749.length : Nat)) + 1)), (vB false), (vI (c.kind)), (vI (((rc1749.length : Nat)) + 1)), (vI (c.saga)), (vI (c.e1)), (vI (c.e2)), (vI (c.e3)), (vS c.key), (vI (c.delta)), (vI (c.move)), (vS c.rf), (vS c.rt), (vI (c.group)), (vS c.dn), (vI (c.dr)), (vI (c.dd)), (Value.slice w1800 (c.steps.length) (c1801)), (vI (c.i1)), (vI (c.i2)), (vI (c.i3)), (vI (c.im)), (vB c.ii), (vI (c.ig)), (vI (c.res)), (vS c.data), (vI 0), (vI 0), (vS .empty)] 47 (0, 0)) := ⟨_, rfl⟩
      have f2361 := push_new e2358
      rw [← eb2360] at f2361
      have x2378 : Ext h2319 h2357 := by rw [e2358]; exact Ext.push _ _
      have o2379 : h.size ≤ b2359 := by have := x2356.size; omega
      have f2380 := x2378 _ _ f2341
      have f2381 := x2378 _ _ f2342
      have f2385 := x2378 _ _ f2323
      have p2389 := p2349.keep fun b r _ q => x2378 b r q
      have p2390 := p2350.keep fun b r _ q => x2378 b r q
      have p2391 := p2351.keep fun b r _ q => x2378 b r q
      have p2392 := p2352.keep fun b r _ q => x2378 b r q
      have p2393 := p2353.keep fun b r _ q => x2378 b r q
      have p2394 := p2354.keep fun b r _ q => x2378 b r q
      have p2395 := p2355.keep fun b r _ q => x2378 b r q
      have x2396 := x2356.trans (Chg.ext x2378)
      obtain ⟨w2397, h2398, e2399, p2400, x2401, n2402⟩ := own_clone und31 sizeb47 zero47 rfl (by decide) evc_size f2385 (p2389.slice evc_size) (by omega) (by unfold maxLen; omega)
      obtain ⟨a2403, c2404, rfl⟩ := (p2400.slice evc_size).len
      have z2407 : b2321 < h2357.size := row_lt f2385
      have n2406 : ∀ zz, blk (Value.slice a2403 (re1750.length) (c2404)) zz → zz = b2321 ∨ h2357.size ≤ zz := fun zz hz => by rcases n2402 zz hz with e | e <;> omega
      have n2408 : ∀ zz, blk (Value.slice a2403 (re1750.length) (c2404)) zz → ¬ zz = t := fun zz hz ez => by have := n2324; have := row_lt f2380; rcases n2406 zz hz with g | g <;> omega
      have n2409 : ∀ zz, blk (Value.slice a2403 (re1750.length) (c2404)) zz → ¬ zz = b1761 := fun zz hz ez => by have := n2325; have := row_lt f2381; rcases n2406 zz hz with g | g <;> omega
      have n2418 : ∀ zz, blk (Value.slice a2403 (re1750.length) (c2404)) zz → ¬ (cfoot rc1749) zz := fun zz hz ez => by have := p2390.blk_lt ez; rcases n2406 zz hz with g | g; (subst g; exact n2333 _ ez rfl); omega
      have n2419 : ∀ zz, blk (Value.slice a2403 (re1750.length) (c2404)) zz → ¬ (sfoot re1750) zz := fun zz hz ez => by have := p2391.blk_lt ez; rcases n2406 zz hz with g | g; (subst g; exact n2334 _ ez rfl); omega
      have n2420 : ∀ zz, blk (Value.slice a2403 (re1750.length) (c2404)) zz → ¬ (blk (Value.slice w1800 (c.steps.length) (c1801))) zz := fun zz hz ez => by have := p2392.blk_lt ez; rcases n2406 zz hz with g | g; (subst g; exact n2335 _ ez rfl); omega
      have n2421 : ∀ zz, blk (Value.slice a2403 (re1750.length) (c2404)) zz → ¬ (blk (Value.slice a1956 ((rc1749 ++ [(((CmdM.mk (c.kind : Int) (((rc1749.length : Nat)) + 1 : Int) (c.saga : Int) (c.e1 : Int) (c.e2 : Int) (c.e3 : Int) (c.key : ByteArray) (c.delta : Int) (c.move : Int) (c.rf : ByteArray) (c.rt : ByteArray) (c.group : Int) (c.dn : ByteArray) (c.dr : Int) (c.dd : Int) c.steps (c.i1 : Int) (c.i2 : Int) (c.i3 : Int) (c.im : Int) (c.ii : Bool) (c.ig : Int) (c.res : Int) (c.data : ByteArray)), w1800, c1801) : CmdM × Option Addr × Nat)]).length) (c1957))) zz := fun zz hz ez => by have := p2393.blk_lt ez; rcases n2406 zz hz with g | g; (subst g; exact n2336 _ ez rfl); omega
      have n2422 : ∀ zz, blk (Value.slice a2403 (re1750.length) (c2404)) zz → ¬ (blk (Value.slice a2102 ((m.rs ++ [(RepM.mk (0 : Int) (0 : Int) (.empty : ByteArray))]).length) (c2103))) zz := fun zz hz ez => by have := p2394.blk_lt ez; rcases n2406 zz hz with g | g; (subst g; exact n2337 _ ez rfl); omega
      have n2423 : ∀ zz, blk (Value.slice a2403 (re1750.length) (c2404)) zz → ¬ (blk (Value.slice a2266 ((m.hs ++ [(false : Bool)]).length) (c2267))) zz := fun zz hz ez => by have := p2395.blk_lt ez; rcases n2406 zz hz with g | g; (subst g; exact n2338 _ ez rfl); omega
      have o2424 : ∀ zz, blk (Value.slice a2403 (re1750.length) (c2404)) zz → h.size ≤ zz := fun zz hz => by have := o2340; have := x2396.size; rcases n2406 zz hz with g | g <;> omega
      have f2425 := x2401 _ _ f2380
      have f2426 := x2401 _ _ f2381
      have f2431 := x2401 _ _ f2361
      have p2436 := p2390.keep fun b r _ q => x2401 b r q
      have p2437 := p2391.keep fun b r _ q => x2401 b r q
      have p2438 := p2392.keep fun b r _ q => x2401 b r q
      have p2439 := p2393.keep fun b r _ q => x2401 b r q
      have p2440 := p2394.keep fun b r _ q => x2401 b r q
      have p2441 := p2395.keep fun b r _ q => x2401 b r q
      have x2442 := x2396.trans (Chg.ext x2401)
      obtain ⟨w2443, h2444, e2445, p2446, c2447, n2448, z2449⟩ := own_append und31 sizeb47 zero47 rfl (by decide) evc_size (x := ((EvM.mk (((rc1749.length : Nat)) + 1 : Int) (false : Bool) (CmdM.mk (c.kind : Int) (((rc1749.length : Nat)) + 1 : Int) (c.saga : Int) (c.e1 : Int) (c.e2 : Int) (c.e3 : Int) (c.key : ByteArray) (c.delta : Int) (c.move : Int) (c.rf : ByteArray) (c.rt : ByteArray) (c.group : Int) (c.dn : ByteArray) (c.dr : Int) (c.dd : Int) c.steps (c.i1 : Int) (c.i2 : Int) (c.i3 : Int) (c.im : Int) (c.ii : Bool) (c.ig : Int) (c.res : Int) (c.data : ByteArray)) (0 : Int) (0 : Int) (.empty : ByteArray), w1800, c1801) : EvM × Option Addr × Nat)) p2400 f2431 rfl (by omega) (by unfold maxLen; omega)
      obtain ⟨a2450, c2451, rfl⟩ := (p2446.slice evc_size).len
      have z2452 : h.size ≤ h2398.size := x2442.size
      have x2453 := x2442.then c2447 (fun b hb => .inr (o2424 b hb))
      have f2454 := c2447.same _ _ f2425 (fun hb => n2408 _ hb rfl)
      have f2455 := c2447.same _ _ f2426 (fun hb => n2409 _ hb rfl)
      have p2464 := p2436.keep fun b r hb q => c2447.same b r q ((fun b hb hb2 => n2418 b hb2 hb) b hb)
      have p2465 := p2437.keep fun b r hb q => c2447.same b r q ((fun b hb hb2 => n2419 b hb2 hb) b hb)
      have p2466 := p2438.keep fun b r hb q => c2447.same b r q ((fun b hb hb2 => n2420 b hb2 hb) b hb)
      have p2467 := p2439.keep fun b r hb q => c2447.same b r q ((fun b hb hb2 => n2421 b hb2 hb) b hb)
      have p2468 := p2440.keep fun b r hb q => c2447.same b r q ((fun b hb hb2 => n2422 b hb2 hb) b hb)
      have p2469 := p2441.keep fun b r hb q => c2447.same b r q ((fun b hb hb2 => n2423 b hb2 hb) b hb)
      have n2471 : ∀ zz, blk (Value.slice a2450 ((re1750 ++ [((EvM.mk (((rc1749.length : Nat)) + 1 : Int) (false : Bool) (CmdM.mk (c.kind : Int) (((rc1749.length : Nat)) + 1 : Int) (c.saga : Int) (c.e1 : Int) (c.e2 : Int) (c.e3 : Int) (c.key : ByteArray) (c.delta : Int) (c.move : Int) (c.rf : ByteArray) (c.rt : ByteArray) (c.group : Int) (c.dn : ByteArray) (c.dr : Int) (c.dd : Int) c.steps (c.i1 : Int) (c.i2 : Int) (c.i3 : Int) (c.im : Int) (c.ii : Bool) (c.ig : Int) (c.res : Int) (c.data : ByteArray)) (0 : Int) (0 : Int) (.empty : ByteArray), w1800, c1801) : EvM × Option Addr × Nat)]).length) (c2451)) zz → ¬ zz = t := fun zz hz ez => by have := n2448 zz hz; have := row_lt f2425; omega
      have o2487 : ∀ zz, blk (Value.slice a2450 ((re1750 ++ [((EvM.mk (((rc1749.length : Nat)) + 1 : Int) (false : Bool) (CmdM.mk (c.kind : Int) (((rc1749.length : Nat)) + 1 : Int) (c.saga : Int) (c.e1 : Int) (c.e2 : Int) (c.e3 : Int) (c.key : ByteArray) (c.delta : Int) (c.move : Int) (c.rf : ByteArray) (c.rt : ByteArray) (c.group : Int) (c.dn : ByteArray) (c.dr : Int) (c.dd : Int) c.steps (c.i1 : Int) (c.i2 : Int) (c.i3 : Int) (c.im : Int) (c.ii : Bool) (c.ig : Int) (c.res : Int) (c.data : ByteArray)) (0 : Int) (0 : Int) (.empty : ByteArray), w1800, c1801) : EvM × Option Addr × Nat)]).length) (c2451)) zz → h.size ≤ zz := fun zz hz => by have := n2448 zz hz; have := z2452; omega
      obtain ⟨h2488, e2489⟩ : ∃ zq, zq = h2444.setIfInBounds t (.cells #[(vB true), (Value.slice a1956 ((rc1749 ++ [(((CmdM.mk (c.kind : Int) (((rc1749.length : Nat)) + 1 : Int) (c.saga : Int) (c.e1 : Int) (c.e2 : Int) (c.e3 : Int) (c.key : ByteArray) (c.delta : Int) (c.move : Int) (c.rf : ByteArray) (c.rt : ByteArray) (c.group : Int) (c.dn : ByteArray) (c.dr : Int) (c.dd : Int) c.steps (c.i1 : Int) (c.i2 : Int) (c.i3 : Int) (c.im : Int) (c.ii : Bool) (c.ig : Int) (c.res : Int) (c.data : ByteArray)), w1800, c1801) : CmdM × Option Addr × Nat)]).length) (c1957)), (Value.slice a2102 ((m.rs ++ [(RepM.mk (0 : Int) (0 : Int) (.empty : ByteArray))]).length) (c2103)), (Value.slice a2266 ((m.hs ++ [(false : Bool)]).length) (c2267)), (Value.slice a2450 ((re1750 ++ [((EvM.mk (((rc1749.length : Nat)) + 1 : Int) (false : Bool) (CmdM.mk (c.kind : Int) (((rc1749.length : Nat)) + 1 : Int) (c.saga : Int) (c.e1 : Int) (c.e2 : Int) (c.e3 : Int) (c.key : ByteArray) (c.delta : Int) (c.move : Int) (c.rf : ByteArray) (c.rt : ByteArray) (c.group : Int) (c.dn : ByteArray) (c.dr : Int) (c.dd : Int) c.steps (c.i1 : Int) (c.i2 : Int) (c.i3 : Int) (c.im : Int) (c.ii : Bool) (c.ig : Int) (c.res : Int) (c.data : ByteArray)) (0 : Int) (0 : Int) (.empty : ByteArray), w1800, c1801) : EvM × Option Addr × Nat)]).length) (c2451))] 90 (0, 0)) := ⟨_, rfl⟩
      have f2490 := set_same e2489 f2454
      have f2492 := set_other e2489 f2455 n1764.symm
      have p2501 := p2464.keep fun b r hb q => (Chg.set e2489).same b r q ((fun b hb => p2464.ne f2454 (by decide) hb) b hb)
      have p2502 := p2465.keep fun b r hb q => (Chg.set e2489).same b r q ((fun b hb => p2465.ne f2454 (by decide) hb) b hb)
      have p2503 := p2466.keep fun b r hb q => (Chg.set e2489).same b r q (n1820 b hb)
      have p2504 := p2467.keep fun b r hb q => (Chg.set e2489).same b r q (n1971 b hb)
      have p2505 := p2468.keep fun b r hb q => (Chg.set e2489).same b r q (n2119 b hb)
      have p2506 := p2469.keep fun b r hb q => (Chg.set e2489).same b r q (n2285 b hb)
      have p2507 := p2446.keep fun b r hb q => (Chg.set e2489).same b r q (n2471 b hb)
      have x2508 := x2453.then (Chg.set e2489) (fun b hb => by subst hb; exact (.inl T1748.inT))
      refine wc_upd (n := 200) (T := ⟨fun r i => match r, i with | 6, 3 => some ((Value.slice ac1751 (rc1749.length) (cc1755)), h1759) | 6, 5 => some ((vB false), h1759) | 8, 0 => some ((Value.agg (cmdc c (Value.slice sa (c.steps.length) (cp)))), h1759) | 8, 1 => some ((Value.agg (cmdc c (Value.slice w1800 (c.steps.length) (c1801)))), hh1804) | 8, 2 => some (undef, h1830) | 9, 3 => some ((Value.slice ac1751 (rc1749.length) (cc1755)), h1830) | 9, 5 => some ((vI (((rc1749.length : Nat)) + 1)), h1830) | 9, 7 => some (undef, h1844) | 10, 1 => some ((Value.slice (some ⟨b1860, 0, none⟩) 0 0), h1858) | 10, 5 => some ((Value.slice ac1751 (rc1749.length) (cc1755)), h1858) | 10, 7 => some ((Value.agg #[(vI (c.kind)), (vI (((rc1749.length : Nat)) + 1)), (vI (c.saga)), (vI (c.e1)), (vI (c.e2)), (vI (c.e3)), (vS c.key), (vI (c.delta)), (vI (c.move)), (vS c.rf), (vS c.rt), (vI (c.group)), (vS c.dn), (vI (c.dr)), (vI (c.dd)), (Value.slice w1800 (c.steps.length) (c1801)), (vI (c.i1)), (vI (c.i2)), (vI (c.i3)), (vI (c.im)), (vB c.ii), (vI (c.ig)), (vI (c.res)), (vS c.data)]), h1858) | 10, 8 => some ((Value.slice (some ⟨b1887, 0, none⟩) 1 1), h1885) | 10, 6 => some ((Value.slice a1920 (rc1749.length) (c1921)), h1915) | 10, 9 => some ((Value.slice a1956 ((rc1749 ++ [(((CmdM.mk (c.kind : Int) (((rc1749.length : Nat)) + 1 : Int) (c.saga : Int) (c.e1 : Int) (c.e2 : Int) (c.e3 : Int) (c.key : ByteArray) (c.delta : Int) (c.move : Int) (c.rf : ByteArray) (c.rt : ByteArray) (c.group : Int) (c.dn : ByteArray) (c.dr : Int) (c.dd : Int) c.steps (c.i1 : Int) (c.i2 : Int) (c.i3 : Int) (c.im : Int) (c.ii : Bool) (c.ig : Int) (c.res : Int) (c.data : ByteArray)), w1800, c1801) : CmdM × Option Addr × Nat)]).length) (c1957)), h1950) | 10, 12 => some (undef, h1982) | 11, 1 => some ((Value.slice (some ⟨b1999, 0, none⟩) 0 0), h1997) | 11, 5 => some ((Value.slice ar1752 (m.rs.length) (cr1756)), h1997) | 11, 6 => some ((Value.slice a2033 (m.rs.length) (c2034)), h2028) | 11, 8 => some ((Value.slice (some ⟨b2065, 0, none⟩) 1 1), h2063) | 11, 9 => some ((Value.slice a2102 ((m.rs ++ [(RepM.mk (0 : Int) (0 : Int) (.empty : ByteArray))]).length) (c2103)), h2096) | 11, 12 => some (undef, h2132) | 12, 1 => some ((Value.slice (some ⟨b2151, 0, none⟩) 0 0), h2149) | 12, 5 => some ((Value.slice ah1753 (m.hs.length) (ch1757)), h2149) | 12, 6 => some ((Value.slice a2189 (m.hs.length) (c2190)), h2184) | 12, 7 => some ((Value.slice (some ⟨b2225, 0, none⟩) 1 1), h2223) | 12, 8 => some ((Value.slice a2266 ((m.hs ++ [(false : Bool)]).length) (c2267)), h2260) | 12, 11 => some (undef, h2300) | 13, 1 => some ((Value.slice (some ⟨b2321, 0, none⟩) 0 0), h2319) | 13, 5 => some ((Value.slice ae1754 (re1750.length) (ce1758)), h2319) | 13, 8 => some ((vI (((rc1749.length : Nat)) + 1)), h2319) | 13, 9 => some ((Value.agg #[(vI (c.kind)), (vI (((rc1749.length : Nat)) + 1)), (vI (c.saga)), (vI (c.e1)), (vI (c.e2)), (vI (c.e3)), (vS c.key), (vI (c.delta)), (vI (c.move)), (vS c.rf), (vS c.rt), (vI (c.group)), (vS c.dn), (vI (c.dr)), (vI (c.dd)), (Value.slice w1800 (c.steps.length) (c1801)), (vI (c.i1)), (vI (c.i2)), (vI (c.i3)), (vI (c.im)), (vB c.ii), (vI (c.ig)), (vI (c.res)), (vS c.data)]), h2319) | 13, 11 => some ((Value.slice (some ⟨b2359, 0, none⟩) 1 1), h2357) | 13, 6 => some ((Value.slice a2403 (re1750.length) (c2404)), h2398) | 13, 12 => some ((Value.slice a2450 ((re1750 ++ [((EvM.mk (((rc1749.length : Nat)) + 1 : Int) (false : Bool) (CmdM.mk (c.kind : Int) (((rc1749.length : Nat)) + 1 : Int) (c.saga : Int) (c.e1 : Int) (c.e2 : Int) (c.e3 : Int) (c.key : ByteArray) (c.delta : Int) (c.move : Int) (c.rf : ByteArray) (c.rt : ByteArray) (c.group : Int) (c.dn : ByteArray) (c.dr : Int) (c.dd : Int) c.steps (c.i1 : Int) (c.i2 : Int) (c.i3 : Int) (c.im : Int) (c.ii : Bool) (c.ig : Int) (c.res : Int) (c.data : ByteArray)) (0 : Int) (0 : Int) (.empty : ByteArray), w1800, c1801) : EvM × Option Addr × Nat)]).length) (c2451)), h2444) | 13, 15 => some (undef, h2488) | 14, 1 => some ((vI (((rc1749.length : Nat)) + 1)), h2488) | _, _ => none, fun _ => none, none⟩) (x := .ret) (h1 := h2488) [(35, (vP t 0)), (36, (vP t 0)), (37, (vP t 1)), (38, (Value.slice ac1751 (rc1749.length) (cc1755))), (39, (vI ((rc1749.length : Nat)))), (40, (vB false)), (41, (Value.agg (cmdc c (Value.slice sa (c.steps.length) (cp))))), (42, (Value.agg (cmdc c (Value.slice w1800 (c.steps.length) (c1801))))), (43, (vP t 0)), (44, (vP t 0)), (45, (vP t 1)), (46, (Value.slice ac1751 (rc1749.length) (cc1755))), (47, (vI ((rc1749.length : Nat)))), (48, (vI (((rc1749.length : Nat)) + 1))), (49, (vP b1761 1)), (50, (vP t 0)), (51, (Value.slice (some ⟨b1860, 0, none⟩) 0 0)), (52, (vP t 0)), (53, (vP t 0)), (54, (vP t 1)), (55, (Value.slice ac1751 (rc1749.length) (cc1755))), (57, (Value.agg #[(vI (c.kind)), (vI (((rc1749.length : Nat)) + 1)), (vI (c.saga)), (vI (c.e1)), (vI (c.e2)), (vI (c.e3)), (vS c.key), (vI (c.delta)), (vI (c.move)), (vS c.rf), (vS c.rt), (vI (c.group)), (vS c.dn), (vI (c.dr)), (vI (c.dd)), (Value.slice w1800 (c.steps.length) (c1801)), (vI (c.i1)), (vI (c.i2)), (vI (c.i3)), (vI (c.im)), (vB c.ii), (vI (c.ig)), (vI (c.res)), (vS c.data)])), (58, (Value.slice (some ⟨b1887, 0, none⟩) 1 1)), (56, (Value.slice a1920 (rc1749.length) (c1921))), (59, (Value.slice a1956 ((rc1749 ++ [(((CmdM.mk (c.kind : Int) (((rc1749.length : Nat)) + 1 : Int) (c.saga : Int) (c.e1 : Int) (c.e2 : Int) (c.e3 : Int) (c.key : ByteArray) (c.delta : Int) (c.move : Int) (c.rf : ByteArray) (c.rt : ByteArray) (c.group : Int) (c.dn : ByteArray) (c.dr : Int) (c.dd : Int) c.steps (c.i1 : Int) (c.i2 : Int) (c.i3 : Int) (c.im : Int) (c.ii : Bool) (c.ig : Int) (c.res : Int) (c.data : ByteArray)), w1800, c1801) : CmdM × Option Addr × Nat)]).length) (c1957))), (60, (vP t 0)), (61, (vP t 1)), (62, (vP t 0)), (63, (Value.slice (some ⟨b1999, 0, none⟩) 0 0)), (64, (vP t 0)), (65, (vP t 0)), (66, (vP t 2)), (67, (Value.slice ar1752 (m.rs.length) (cr1756))), (68, (Value.slice a2033 (m.rs.length) (c2034))), (69, (Value.agg #[(vI 0), (vI 0), (vS .empty)])), (70, (Value.slice (some ⟨b2065, 0, none⟩) 1 1)), (71, (Value.slice a2102 ((m.rs ++ [(RepM.mk (0 : Int) (0 : Int) (.empty : ByteArray))]).length) (c2103))), (72, (vP t 0)), (73, (vP t 2)), (74, (vP t 0)), (75, (Value.slice (some ⟨b2151, 0, none⟩) 0 0)), (76, (vP t 0)), (77, (vP t 0)), (78, (vP t 3)), (79, (Value.slice ah1753 (m.hs.length) (ch1757))), (80, (Value.slice a2189 (m.hs.length) (c2190))), (81, (Value.slice (some ⟨b2225, 0, none⟩) 1 1)), (82, (Value.slice a2266 ((m.hs ++ [(false : Bool)]).length) (c2267))), (83, (vP t 0)), (84, (vP t 3)), (85, (vP t 0)), (86, (Value.slice (some ⟨b2321, 0, none⟩) 0 0)), (87, (vP t 0)), (88, (vP t 0)), (89, (vP t 4)), (90, (Value.slice ae1754 (re1750.length) (ce1758))), (92, (vP b1761 1)), (93, (vI (((rc1749.length : Nat)) + 1))), (94, (Value.agg #[(vI (c.kind)), (vI (((rc1749.length : Nat)) + 1)), (vI (c.saga)), (vI (c.e1)), (vI (c.e2)), (vI (c.e3)), (vS c.key), (vI (c.delta)), (vI (c.move)), (vS c.rf), (vS c.rt), (vI (c.group)), (vS c.dn), (vI (c.dr)), (vI (c.dd)), (Value.slice w1800 (c.steps.length) (c1801)), (vI (c.i1)), (vI (c.i2)), (vI (c.i3)), (vI (c.im)), (vB c.ii), (vI (c.ig)), (vI (c.res)), (vS c.data)])), (95, (Value.agg #[(vI (((rc1749.length : Nat)) + 1)), (vB false), (vI (c.kind)), (vI (((rc1749.length : Nat)) + 1)), (vI (c.saga)), (vI (c.e1)), (vI (c.e2)), (vI (c.e3)), (vS c.key), (vI (c.delta)), (vI (c.move)), (vS c.rf), (vS c.rt), (vI (c.group)), (vS c.dn), (vI (c.dr)), (vI (c.dd)), (Value.slice w1800 (c.steps.length) (c1801)), (vI (c.i1)), (vI (c.i2)), (vI (c.i3)), (vI (c.im)), (vB c.ii), (vI (c.ig)), (vI (c.res)), (vS c.data), (vI 0), (vI 0), (vS .empty)])), (96, (Value.slice (some ⟨b2359, 0, none⟩) 1 1)), (91, (Value.slice a2403 (re1750.length) (c2404))), (97, (Value.slice a2450 ((re1750 ++ [((EvM.mk (((rc1749.length : Nat)) + 1 : Int) (false : Bool) (CmdM.mk (c.kind : Int) (((rc1749.length : Nat)) + 1 : Int) (c.saga : Int) (c.e1 : Int) (c.e2 : Int) (c.e3 : Int) (c.key : ByteArray) (c.delta : Int) (c.move : Int) (c.rf : ByteArray) (c.rt : ByteArray) (c.group : Int) (c.dn : ByteArray) (c.dr : Int) (c.dd : Int) c.steps (c.i1 : Int) (c.i2 : Int) (c.i3 : Int) (c.im : Int) (c.ii : Bool) (c.ig : Int) (c.res : Int) (c.data : ByteArray)) (0 : Int) (0 : Int) (.empty : ByteArray), w1800, c1801) : EvM × Option Addr × Nat)]).length) (c2451))), (98, (vP t 0)), (99, (vP t 4)), (100, (vP b1761 1)), (101, (vI (((rc1749.length : Nat)) + 1))), (4, (vI (((rc1749.length : Nat)) + 1))), (5, (vI 0))]
        (fun q => (loadT Try.prog h1759 86 (vP t 1) = some (Value.slice ac1751 (rc1749.length) (cc1755)) ∧ h1759 = h1759) ∧ (binA Try.prog .geq 3 (vI ((rc1749.length : Nat))) (vI 2000) = some (vB false) ∧ h1759 = h1759) ∧ (loadT Try.prog h1759 43 (vP b1761 0) = some (Value.agg (cmdc c (Value.slice sa (c.steps.length) (cp)))) ∧ h1759 = h1759) ∧ SoundCall Try.prog 48 #[(Value.agg (cmdc c (Value.slice sa (c.steps.length) (cp))))] h1759 (Value.agg (cmdc c (Value.slice w1800 (c.steps.length) (c1801)))) hh1804 ∧ (storeT Try.prog hh1804 43 (vP b1761 0) (Value.agg (cmdc c (Value.slice w1800 (c.steps.length) (c1801)))) = some h1830 ∧ (undef : Value) = undef) ∧ (loadT Try.prog h1830 86 (vP t 1) = some (Value.slice ac1751 (rc1749.length) (cc1755)) ∧ h1830 = h1830) ∧ (binA Try.prog .add 3 (vI ((rc1749.length : Nat))) (vI 1) = some (vI (((rc1749.length : Nat)) + 1)) ∧ h1830 = h1830) ∧ (storeT Try.prog h1830 3 (vP b1761 1) (vI (((rc1749.length : Nat)) + 1)) = some h1844 ∧ (undef : Value) = undef) ∧ ((Value.slice (some ⟨b1860, 0, none⟩) 0 0) = (Value.slice (some ⟨h1844.size, 0, none⟩) 0 0) ∧ h1858 = h1844.push (.cells #[] 43 (0, 0))) ∧ (loadT Try.prog h1858 86 (vP t 1) = some (Value.slice ac1751 (rc1749.length) (cc1755)) ∧ h1858 = h1858) ∧ (loadT Try.prog h1858 43 (vP b1761 0) = some (Value.agg #[(vI (c.kind)), (vI (((rc1749.length : Nat)) + 1)), (vI (c.saga)), (vI (c.e1)), (vI (c.e2)), (vI (c.e3)), (vS c.key), (vI (c.delta)), (vI (c.move)), (vS c.rf), (vS c.rt), (vI (c.group)), (vS c.dn), (vI (c.dr)), (vI (c.dd)), (Value.slice w1800 (c.steps.length) (c1801)), (vI (c.i1)), (vI (c.i2)), (vI (c.i3)), (vI (c.im)), (vB c.ii), (vI (c.ig)), (vI (c.res)), (vS c.data)]) ∧ h1858 = h1858) ∧ ((Value.slice (some ⟨b1887, 0, none⟩) 1 1) = (Value.slice (some ⟨h1858.size, 0, none⟩) 1 1) ∧ h1885 = h1858.push (.cells #[(vI (c.kind)), (vI (((rc1749.length : Nat)) + 1)), (vI (c.saga)), (vI (c.e1)), (vI (c.e2)), (vI (c.e3)), (vS c.key), (vI (c.delta)), (vI (c.move)), (vS c.rf), (vS c.rt), (vI (c.group)), (vS c.dn), (vI (c.dr)), (vI (c.dd)), (Value.slice w1800 (c.steps.length) (c1801)), (vI (c.i1)), (vI (c.i2)), (vI (c.i3)), (vI (c.im)), (vB c.ii), (vI (c.ig)), (vI (c.res)), (vS c.data)] 43 (0, 0))) ∧ appendA Try.prog h1885 #[86, 86] #[(Value.slice (some ⟨b1860, 0, none⟩) 0 0), (Value.slice ac1751 (rc1749.length) (cc1755))] = some ((Value.slice a1920 (rc1749.length) (c1921)), h1915) ∧ (loadT Try.prog h1915 43 (vP b1761 0) = some (Value.agg #[(vI (c.kind)), (vI (((rc1749.length : Nat)) + 1)), (vI (c.saga)), (vI (c.e1)), (vI (c.e2)), (vI (c.e3)), (vS c.key), (vI (c.delta)), (vI (c.move)), (vS c.rf), (vS c.rt), (vI (c.group)), (vS c.dn), (vI (c.dr)), (vI (c.dd)), (Value.slice w1800 (c.steps.length) (c1801)), (vI (c.i1)), (vI (c.i2)), (vI (c.i3)), (vI (c.im)), (vB c.ii), (vI (c.ig)), (vI (c.res)), (vS c.data)]) ∧ h1915 = h1915) ∧ appendA Try.prog h1915 #[86, 86] #[(Value.slice a1920 (rc1749.length) (c1921)), (Value.slice (some ⟨b1887, 0, none⟩) 1 1)] = some ((Value.slice a1956 ((rc1749 ++ [(((CmdM.mk (c.kind : Int) (((rc1749.length : Nat)) + 1 : Int) (c.saga : Int) (c.e1 : Int) (c.e2 : Int) (c.e3 : Int) (c.key : ByteArray) (c.delta : Int) (c.move : Int) (c.rf : ByteArray) (c.rt : ByteArray) (c.group : Int) (c.dn : ByteArray) (c.dr : Int) (c.dd : Int) c.steps (c.i1 : Int) (c.i2 : Int) (c.i3 : Int) (c.im : Int) (c.ii : Bool) (c.ig : Int) (c.res : Int) (c.data : ByteArray)), w1800, c1801) : CmdM × Option Addr × Nat)]).length) (c1957)), h1950) ∧ (storeT Try.prog h1950 86 (vP t 1) (Value.slice a1956 ((rc1749 ++ [(((CmdM.mk (c.kind : Int) (((rc1749.length : Nat)) + 1 : Int) (c.saga : Int) (c.e1 : Int) (c.e2 : Int) (c.e3 : Int) (c.key : ByteArray) (c.delta : Int) (c.move : Int) (c.rf : ByteArray) (c.rt : ByteArray) (c.group : Int) (c.dn : ByteArray) (c.dr : Int) (c.dd : Int) c.steps (c.i1 : Int) (c.i2 : Int) (c.i3 : Int) (c.im : Int) (c.ii : Bool) (c.ig : Int) (c.res : Int) (c.data : ByteArray)), w1800, c1801) : CmdM × Option Addr × Nat)]).length) (c1957)) = some h1982 ∧ (undef : Value) = undef) ∧ ((Value.slice (some ⟨b1999, 0, none⟩) 0 0) = (Value.slice (some ⟨h1982.size, 0, none⟩) 0 0) ∧ h1997 = h1982.push (.cells #[] 45 (0, 0))) ∧ (loadT Try.prog h1997 87 (vP t 2) = some (Value.slice ar1752 (m.rs.length) (cr1756)) ∧ h1997 = h1997) ∧ appendA Try.prog h1997 #[87, 87] #[(Value.slice (some ⟨b1999, 0, none⟩) 0 0), (Value.slice ar1752 (m.rs.length) (cr1756))] = some ((Value.slice a2033 (m.rs.length) (c2034)), h2028) ∧ ((Value.slice (some ⟨b2065, 0, none⟩) 1 1) = (Value.slice (some ⟨h2028.size, 0, none⟩) 1 1) ∧ h2063 = h2028.push (.cells #[(vI 0), (vI 0), (vS .empty)] 45 (0, 0))) ∧ appendA Try.prog h2063 #[87, 87] #[(Value.slice a2033 (m.rs.length) (c2034)), (Value.slice (some ⟨b2065, 0, none⟩) 1 1)] = some ((Value.slice a2102 ((m.rs ++ [(RepM.mk (0 : Int) (0 : Int) (.empty : ByteArray))]).length) (c2103)), h2096) ∧ (storeT Try.prog h2096 87 (vP t 2) (Value.slice a2102 ((m.rs ++ [(RepM.mk (0 : Int) (0 : Int) (.empty : ByteArray))]).length) (c2103)) = some h2132 ∧ (undef : Value) = undef) ∧ ((Value.slice (some ⟨b2151, 0, none⟩) 0 0) = (Value.slice (some ⟨h2132.size, 0, none⟩) 0 0) ∧ h2149 = h2132.push (.cells #[] 4 (0, 0))) ∧ (loadT Try.prog h2149 88 (vP t 3) = some (Value.slice ah1753 (m.hs.length) (ch1757)) ∧ h2149 = h2149) ∧ appendA Try.prog h2149 #[88, 88] #[(Value.slice (some ⟨b2151, 0, none⟩) 0 0), (Value.slice ah1753 (m.hs.length) (ch1757))] = some ((Value.slice a2189 (m.hs.length) (c2190)), h2184) ∧ ((Value.slice (some ⟨b2225, 0, none⟩) 1 1) = (Value.slice (some ⟨h2184.size, 0, none⟩) 1 1) ∧ h2223 = h2184.push (.cells #[(vB false)] 4 (0, 0))) ∧ appendA Try.prog h2223 #[88, 88] #[(Value.slice a2189 (m.hs.length) (c2190)), (Value.slice (some ⟨b2225, 0, none⟩) 1 1)] = some ((Value.slice a2266 ((m.hs ++ [(false : Bool)]).length) (c2267)), h2260) ∧ (storeT Try.prog h2260 88 (vP t 3) (Value.slice a2266 ((m.hs ++ [(false : Bool)]).length) (c2267)) = some h2300 ∧ (undef : Value) = undef) ∧ ((Value.slice (some ⟨b2321, 0, none⟩) 0 0) = (Value.slice (some ⟨h2300.size, 0, none⟩) 0 0) ∧ h2319 = h2300.push (.cells #[] 47 (0, 0))) ∧ (loadT Try.prog h2319 31 (vP t 4) = some (Value.slice ae1754 (re1750.length) (ce1758)) ∧ h2319 = h2319) ∧ (loadT Try.prog h2319 3 (vP b1761 1) = some (vI (((rc1749.length : Nat)) + 1)) ∧ h2319 = h2319) ∧ (loadT Try.prog h2319 43 (vP b1761 0) = some (Value.agg #[(vI (c.kind)), (vI (((rc1749.length : Nat)) + 1)), (vI (c.saga)), (vI (c.e1)), (vI (c.e2)), (vI (c.e3)), (vS c.key), (vI (c.delta)), (vI (c.move)), (vS c.rf), (vS c.rt), (vI (c.group)), (vS c.dn), (vI (c.dr)), (vI (c.dd)), (Value.slice w1800 (c.steps.length) (c1801)), (vI (c.i1)), (vI (c.i2)), (vI (c.i3)), (vI (c.im)), (vB c.ii), (vI (c.ig)), (vI (c.res)), (vS c.data)]) ∧ h2319 = h2319) ∧ ((Value.slice (some ⟨b2359, 0, none⟩) 1 1) = (Value.slice (some ⟨h2319.size, 0, none⟩) 1 1) ∧ h2357 = h2319.push (.cells #[(vI (((rc1749.length : Nat)) + 1)), (vB false), (vI (c.kind)), (vI (((rc1749.length : Nat)) + 1)), (vI (c.saga)), (vI (c.e1)), (vI (c.e2)), (vI (c.e3)), (vS c.key), (vI (c.delta)), (vI (c.move)), (vS c.rf), (vS c.rt), (vI (c.group)), (vS c.dn), (vI (c.dr)), (vI (c.dd)), (Value.slice w1800 (c.steps.length) (c1801)), (vI (c.i1)), (vI (c.i2)), (vI (c.i3)), (vI (c.im)), (vB c.ii), (vI (c.ig)), (vI (c.res)), (vS c.data), (vI 0), (vI 0), (vS .empty)] 47 (0, 0))) ∧ appendA Try.prog h2357 #[31, 31] #[(Value.slice (some ⟨b2321, 0, none⟩) 0 0), (Value.slice ae1754 (re1750.length) (ce1758))] = some ((Value.slice a2403 (re1750.length) (c2404)), h2398) ∧ (loadT Try.prog h2398 43 (vP b1761 0) = some (Value.agg #[(vI (c.kind)), (vI (((rc1749.length : Nat)) + 1)), (vI (c.saga)), (vI (c.e1)), (vI (c.e2)), (vI (c.e3)), (vS c.key), (vI (c.delta)), (vI (c.move)), (vS c.rf), (vS c.rt), (vI (c.group)), (vS c.dn), (vI (c.dr)), (vI (c.dd)), (Value.slice w1800 (c.steps.length) (c1801)), (vI (c.i1)), (vI (c.i2)), (vI (c.i3)), (vI (c.im)), (vB c.ii), (vI (c.ig)), (vI (c.res)), (vS c.data)]) ∧ h2398 = h2398) ∧ (loadT Try.prog h2398 3 (vP b1761 1) = some (vI (((rc1749.length : Nat)) + 1)) ∧ h2398 = h2398) ∧ appendA Try.prog h2398 #[31, 31] #[(Value.slice a2403 (re1750.length) (c2404)), (Value.slice (some ⟨b2359, 0, none⟩) 1 1)] = some ((Value.slice a2450 ((re1750 ++ [((EvM.mk (((rc1749.length : Nat)) + 1 : Int) (false : Bool) (CmdM.mk (c.kind : Int) (((rc1749.length : Nat)) + 1 : Int) (c.saga : Int) (c.e1 : Int) (c.e2 : Int) (c.e3 : Int) (c.key : ByteArray) (c.delta : Int) (c.move : Int) (c.rf : ByteArray) (c.rt : ByteArray) (c.group : Int) (c.dn : ByteArray) (c.dr : Int) (c.dd : Int) c.steps (c.i1 : Int) (c.i2 : Int) (c.i3 : Int) (c.im : Int) (c.ii : Bool) (c.ig : Int) (c.res : Int) (c.data : ByteArray)) (0 : Int) (0 : Int) (.empty : ByteArray), w1800, c1801) : EvM × Option Addr × Nat)]).length) (c2451)), h2444) ∧ (storeT Try.prog h2444 31 (vP t 4) (Value.slice a2450 ((re1750 ++ [((EvM.mk (((rc1749.length : Nat)) + 1 : Int) (false : Bool) (CmdM.mk (c.kind : Int) (((rc1749.length : Nat)) + 1 : Int) (c.saga : Int) (c.e1 : Int) (c.e2 : Int) (c.e3 : Int) (c.key : ByteArray) (c.delta : Int) (c.move : Int) (c.rf : ByteArray) (c.rt : ByteArray) (c.group : Int) (c.dn : ByteArray) (c.dr : Int) (c.dd : Int) c.steps (c.i1 : Int) (c.i2 : Int) (c.i3 : Int) (c.im : Int) (c.ii : Bool) (c.ig : Int) (c.res : Int) (c.data : ByteArray)) (0 : Int) (0 : Int) (.empty : ByteArray), w1800, c1801) : EvM × Option Addr × Nat)]).length) (c2451)) = some h2488 ∧ (undef : Value) = undef) ∧ (loadT Try.prog h2488 3 (vP b1761 1) = some (vI (((rc1749.length : Nat)) + 1)) ∧ h2488 = h2488) ∧ q) (by intro K'; kernel_rfl) (fun _ q => ⟨⟨load_cell agg86 f1774 rfl, rfl⟩, ⟨cmp_geq (decide_eq_false c1799), rfl⟩, ⟨load_agg agg43 size43 f1763 (by simp) (by kernel_rfl), rfl⟩, sn1805, ⟨by rw [e1831]; exact store_cells size43 rfl f1808 (by decide) (by simp) rfl (by kernel_rfl), rfl⟩, ⟨load_cell agg86 f1833 rfl, rfl⟩, ⟨add_i64 (by omega) (by omega), rfl⟩, ⟨by rw [e1845]; exact store_cells size3 rfl f1832 (by decide) (by simp) rfl (by kernel_rfl), rfl⟩, ⟨by rw [eb1861], e1859⟩, ⟨load_cell agg86 f1874 rfl, rfl⟩, ⟨load_agg agg43 size43 f1875 (by simp) (by kernel_rfl), rfl⟩, ⟨by rw [eb1888], e1886⟩, e1916, ⟨load_agg agg43 size43 f1937 (by simp) (by kernel_rfl), rfl⟩, e1951, ⟨by rw [e1983]; exact store_cells size86 rfl f1960 (by decide) (by simp) rfl (by kernel_rfl), rfl⟩, ⟨by rw [eb2000], e1998⟩, ⟨load_cell agg87 f2015 rfl, rfl⟩, e2029, ⟨by rw [eb2066], e2064⟩, e2097, ⟨by rw [e2133]; exact store_cells size87 rfl f2106 (by decide) (by simp) rfl (by kernel_rfl), rfl⟩, ⟨by rw [eb2152], e2150⟩, ⟨load_cell agg88 f2169 rfl, rfl⟩, e2185, ⟨by rw [eb2226], e2224⟩, e2261, ⟨by rw [e2301]; exact store_cells size88 rfl f2270 (by decide) (by simp) rfl (by kernel_rfl), rfl⟩, ⟨by rw [eb2322], e2320⟩, ⟨load_cell agg31 f2341 rfl, rfl⟩, ⟨load_cell agg3 f2342 rfl, rfl⟩, ⟨load_agg agg43 size43 f2342 (by simp) (by kernel_rfl), rfl⟩, ⟨by rw [eb2360], e2358⟩, e2399, ⟨load_agg agg43 size43 f2426 (by simp) (by kernel_rfl), rfl⟩, ⟨load_cell agg3 f2426 rfl, rfl⟩, e2445, ⟨by rw [e2489]; exact store_cells size31 rfl f2454 (by decide) (by simp) rfl (by kernel_rfl), rfl⟩, ⟨load_cell agg3 f2492 rfl, rfl⟩, q⟩) ?_
      have hgood : ¬ (c.call ≠ 0 ∨ ¬ c.kind ∈ ([2, 11, 12, 13, 14] : List Int)) := f1788
      skip
      have tb : RefAt h2488 (fun b => O b ∨ h.size ≤ b) t (m.opened c) := ⟨rc1749 ++ [_], re1750 ++ [_], _, _, _, _, _, _, _, _, ⟨f2490, p2504, p2505, p2506, p2507, by simp [RefM.opened, T1748.cs, el], by simp [RefM.opened, T1748.es, el], (p2501).add p2503, (p2502).add p2503, .inl T1748.inT, fun b hb => .inr (o1981 b hb), fun b hb => .inr (o2131 b hb), fun b hb => .inr (o2299 b hb), fun b hb => .inr (o2487 b hb), cfoot_add (fun b hb => .inl (T1748.inCS b hb)) (fun b hb => .inr (o1829 b hb)), sfoot_add (fun b hb => .inl (T1748.inES b hb)) (fun b hb => .inr (o1829 b hb))⟩⟩
      refine end_at (T := ⟨fun _ _ => none, fun _ => none, none⟩) (A := K (Value.tuple #[(vI (((rc1749.length : Nat)) + 1)), (vI 0)]) h2488) (by kernel_rfl) ?_
      exact hK _ _ (⟨fun q => absurd q hgood, fun q => absurd q.2 (by omega), fun _ => ⟨by rw [el], x2508, tb⟩⟩)
end C36
