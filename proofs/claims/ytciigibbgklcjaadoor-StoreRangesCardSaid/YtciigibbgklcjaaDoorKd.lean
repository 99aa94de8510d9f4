/- Ranges. -/
import Derived.Test.YtciigibbgklcjaaDoorKc
import Derived.KernelRfl
open Go Go.AM Go.Proofs
namespace C08
theorem agg9 : isAggA Tryd.prog 9 = some false := by kernel_rfl
theorem agg24 : isAggA Tryd.prog 24 = some true := by kernel_rfl
theorem size24 : (Tryd.prog.info? 24).map (·.size) = some 2 := by kernel_rfl
/-- The order of texts. -/
def sl (a b : ByteArray) : Bool := Op.bytesLess a.toList b.toList
theorem bl_irrefl : ∀ x : List UInt8, Op.bytesLess x x = false
  | [] => rfl
  | a :: x => by simp [Op.bytesLess, bl_irrefl x, UInt8.lt_irrefl]
theorem bl_trans : ∀ {x y z : List UInt8}, Op.bytesLess x y = true → Op.bytesLess y z = true → Op.bytesLess x z = true
  | [], [], _, h, _ => by simp [Op.bytesLess] at h
  | _ :: _, [], _, h, _ => by simp [Op.bytesLess] at h
  | [], b :: y, [], _, h => by simp [Op.bytesLess] at h
  | a :: x, b :: y, [], _, h => by simp [Op.bytesLess] at h
  | [], b :: y, c :: z, _, _ => by simp [Op.bytesLess]
  | a :: x, b :: y, c :: z, h1, h2 => by
    simp only [Op.bytesLess, Bool.or_eq_true, decide_eq_true_eq, Bool.and_eq_true, beq_iff_eq] at *
    rcases h1 with h1 | ⟨h1, h3⟩ <;> rcases h2 with h2 | ⟨h2, h4⟩
    · exact .inl (UInt8.lt_trans h1 h2)
    · exact .inl (h2 ▸ h1)
    · exact .inl (h1 ▸ h2)
    · exact .inr ⟨h1.trans h2, bl_trans h3 h4⟩
theorem bl_total : ∀ {x y : List UInt8}, Op.bytesLess x y = false → Op.bytesLess y x = false → x = y
  | [], [], _, _ => rfl
  | _ :: _, [], _, h => by simp [Op.bytesLess] at h
  | [], _ :: _, h, _ => by simp [Op.bytesLess] at h
  | a :: x, b :: y, h1, h2 => by
    simp only [Op.bytesLess, Bool.or_eq_false_iff, decide_eq_false_iff_not, Bool.and_eq_false_imp, beq_iff_eq] at *
    have e : a = b := UInt8.le_antisymm (UInt8.not_lt.1 h2.1) (UInt8.not_lt.1 h1.1)
    subst e
    rw [bl_total (h1.2 rfl) (h2.2 rfl)]
theorem sl_irrefl (a : ByteArray) : sl a a = false := bl_irrefl _
theorem sl_trans {a b c : ByteArray} (h1 : sl a b = true) (h2 : sl b c = true) : sl a c = true := bl_trans h1 h2
theorem sl_total {a b : ByteArray} (h1 : sl a b = false) (h2 : sl b a = false) : a = b := toList_inj (bl_total h1 h2)
theorem sl_asymm {a b : ByteArray} (h : sl a b = true) : sl b a = false := Bool.eq_false_iff.2 fun w => by have := sl_trans h w; rw [sl_irrefl] at this; cases this
theorem sl_le_trans {a b c : ByteArray} (h1 : sl b a = false) (h2 : sl b c = true) : sl a c = true := by
  cases h : sl a b with
  | true => exact sl_trans h h2
  | false => rw [sl_total h h1]; exact h2
theorem sl_lt_le {a b c : ByteArray} (h1 : sl a b = true) (h2 : sl c b = false) : sl a c = true := by
  cases h : sl b c with
  | true => exact sl_trans h1 h
  | false => rw [← sl_total h h2]; exact h1
theorem sl_le_le {a b c : ByteArray} (h1 : sl b a = false) (h2 : sl c b = false) : sl c a = false := by
  cases h : sl c a with
  | true => exfalso; have := sl_lt_le h h1; rw [h2] at this; cases this
  | false => rfl
theorem sl_or (a b : ByteArray) : (Op.bytesLess a.toList b.toList || a.toList == b.toList) = !sl b a := by
  rw [str_beq]
  show (sl a b || decide (a = b)) = !sl b a
  by_cases e : a = b
  · subst e; simp [sl_irrefl]
  · simp only [e, decide_false, Bool.or_false]
    cases h : sl a b with
    | true => rw [sl_asymm h]; rfl
    | false =>
      cases h2 : sl b a with
      | true => rfl
      | false => exact absurd (sl_total h h2) e
section
variable {P : Program} {t : TypeId} {a b : ByteArray} {r : Bool}
theorem str_lss (e : sl a b = r) : binA P .lss t (.string a) (.string b) = some (.bool r) := by subst e; rfl
theorem str_leq (e : sl b a = r) : binA P .leq t (.string a) (.string b) = some (.bool (!r)) := by subst e; simp only [binA, strBinA, sl_or]
theorem str_gtr (e : sl b a = r) : binA P .gtr t (.string a) (.string b) = some (.bool r) := by subst e; simp only [binA, strBinA, sl_or, Bool.not_not]
theorem str_geq (e : sl a b = r) : binA P .geq t (.string a) (.string b) = some (.bool (!r)) := by subst e; rfl
end
/-- The later of two texts. -/
def mxS (a b : ByteArray) : ByteArray := if !Op.bytesLess a.toList b.toList then a else b
theorem mxS_eq (a b : ByteArray) : mxS a b = if sl a b = true then b else a := by
  show (if (!sl a b) = true then a else b) = _
  cases sl a b <;> rfl
set_option maxHeartbeats 4000000 in
theorem nanS_ok (h : Heap) (a : ByteArray) : WCall Tryd.prog 66 #[(vS a)] h (fun v h1 => v = (vB false) ∧ h = h1) := by
  exact hCall_ev [snF 1 2 9 (Eq.refl (a : ByteArray))] [] (vB false) h ⟨rfl, rfl⟩
/-- What cmp.Compare[string] gives. -/
def cmpS (a : ByteArray) (b : ByteArray) : Int := if sl a b = true then (-1) else (if sl b a = true then 1 else 0)
set_option maxHeartbeats 4000000 in
theorem cmpS_ok (h : Heap) (a : ByteArray) (b : ByteArray) : WCall Tryd.prog 50 #[(vS a), (vS b)] h (fun v h1 => v = (vI ((cmpS a b))) ∧ h = h1) := by
  obtain ⟨_, _, sn1, rfl, rfl⟩ := nanS_ok h a 
  obtain ⟨_, _, sn2, rfl, rfl⟩ := nanS_ok h b 
  rcases Bool.eq_false_or_eq_true (sl a b) with c3 | c3
  · have e4 : (cmpS a b) = (-1) := by unfold cmpS; rw [if_pos c3]
    exact hCall_ev [evF 1 1 sn1, evF 2 1 sn2, evV 9 2 (vB true) (show binA Tryd.prog .lss 9 (vS a) (vS b) = some (vB true) from str_lss c3)] [] (vI (-1)) h ⟨by rw [e4], rfl⟩
  · rcases Bool.eq_false_or_eq_true (sl b a) with c5 | c5
    · have e6 : (cmpS a b) = 1 := by unfold cmpS; rw [if_neg (Bool.eq_false_iff.1 c3), if_pos c5]
      exact hCall_ev [evF 1 1 sn1, evF 2 1 sn2, evV 9 2 (vB false) (show binA Tryd.prog .lss 9 (vS a) (vS b) = some (vB false) from str_lss c3), evV 11 2 (vB true) (show binA Tryd.prog .gtr 9 (vS a) (vS b) = some (vB true) from str_gtr c5)] [] (vI 1) h ⟨by rw [e6], rfl⟩
    · have e7 : (cmpS a b) = 0 := by unfold cmpS; rw [if_neg (Bool.eq_false_iff.1 c3), if_neg (Bool.eq_false_iff.1 c5)]
      exact hCall_ev [evF 1 1 sn1, evF 2 1 sn2, evV 9 2 (vB false) (show binA Tryd.prog .lss 9 (vS a) (vS b) = some (vB false) from str_lss c3), evV 11 2 (vB false) (show binA Tryd.prog .gtr 9 (vS a) (vS b) = some (vB false) from str_gtr c5)] [] (vI 0) h ⟨by rw [e7], rfl⟩
/-- What ranges.ends$1 gives. -/
def endC (a : ByteArray) (b : ByteArray) : Int := if (a : ByteArray) = b then 0 else (if (a : ByteArray) = .empty then 1 else (if (b : ByteArray) = .empty then (-1) else ((cmpS a b))))
set_option maxHeartbeats 4000000 in
theorem endC_ok (h : Heap) (a : ByteArray) (b : ByteArray) : WCall Tryd.prog 49 #[(vS a), (vS b)] h (fun v h1 => v = (vI ((endC a b))) ∧ h = h1) := by
  by_cases c1 : (a : ByteArray) = b
  · have e2 : (endC a b) = 0 := by unfold endC; rw [if_pos c1]
    exact hCall_ev [seT 1 2 9 c1] [] (vI 0) h ⟨by rw [e2], rfl⟩
  · by_cases c3 : (a : ByteArray) = .empty
    · have e4 : (endC a b) = 1 := by unfold endC; rw [if_neg c1, if_pos c3]
      exact hCall_ev [seF 1 2 9 c1, seT 3 1 9 c3] [] (vI 1) h ⟨by rw [e4], rfl⟩
    · by_cases c5 : (b : ByteArray) = .empty
      · have e6 : (endC a b) = (-1) := by unfold endC; rw [if_neg c1, if_neg c3, if_pos c5]
        exact hCall_ev [seF 1 2 9 c1, seF 3 1 9 c3, seT 5 1 9 c5] [] (vI (-1)) h ⟨by rw [e6], rfl⟩
      · obtain ⟨_, _, sn7, rfl, rfl⟩ := cmpS_ok h a b 
        have e8 : (endC a b) = ((cmpS a b)) := by unfold endC; rw [if_neg c1, if_neg c3, if_neg c5]
        exact hCall_ev [seF 1 2 9 c1, seF 3 1 9 c3, seF 5 1 9 c5, evF 7 2 sn7] [] (vI ((cmpS a b))) h ⟨by rw [e8], rfl⟩
/-- What ranges.Check gives. -/
def rchk (r0 : ByteArray) (r1 : ByteArray) : Int := if (r0 : ByteArray) = .empty then (if (r1 : ByteArray) = .empty then 0 else (if (nameB r1) = true then (if sl r0 r1 = true then 0 else 2) else 2)) else (if (nameB r0) = true then (if (r1 : ByteArray) = .empty then 0 else (if (nameB r1) = true then (if sl r0 r1 = true then 0 else 2) else 2)) else 2)
set_option maxHeartbeats 4000000 in
theorem rchk_ok (h : Heap) (r0 : ByteArray) (r1 : ByteArray) : WCall Tryd.prog 15 #[(Value.agg #[(vS r0), (vS r1)])] h (fun v h1 => v = (vI ((rchk r0 r1))) ∧ Ext h h1) := by
  suffices H : ∀ K : Value → Heap → Prop, (∀ v h1, (fun v h1 => v = (vI ((rchk r0 r1))) ∧ Ext h h1) v h1 → K v h1) → WCall Tryd.prog 15 #[(Value.agg #[(vS r0), (vS r1)])] h K from H _ fun _ _ q => q
  intro K hK
  refine wcall_at { tmps := #[(vA #[(vS r0), (vS r1)]), vZ, vZ, vZ, vZ, vZ, vZ, vZ, vZ, vZ, vZ, vZ, vZ, vZ, vZ, vZ, vZ, vZ, vZ, vZ, vZ, vZ, vZ, vZ, vZ, vZ, vZ, vZ, vZ, vZ, vZ, vZ, vZ], defers := [] } (by kernel_rfl) ?_
  refine wc_seq' (subc (bodyOf Tryd.prog 15) [0]) (subc (bodyOf Tryd.prog 15) [1]) (by kernel_rfl) ?_
  obtain ⟨b1, eb2⟩ : ∃ zq, zq = h.size := ⟨_, rfl⟩
  obtain ⟨h3, e4⟩ : ∃ zq, zq = h.push (.cells #[(vS r0), (vS r1)] 24 (0, 0)) := ⟨_, rfl⟩
  have f5 := push_new e4
  rw [← eb2] at f5
  have x6 : Ext h h3 := by rw [e4]; exact Ext.push _ _
  have o7 : h.size ≤ b1 := by have := (Ext.refl h).size; omega
  have x8 := (Ext.refl h).trans x6
  refine wc_ev [evA 0 0 eb2 e4] .normal h3 [(1, (vP b1 0)), (2, (vI 0))] ?_
  refine wc_seq' (subc (bodyOf Tryd.prog 15) [1, 0]) (subc (bodyOf Tryd.prog 15) [1, 1]) (by kernel_rfl) ?_
  refine wc_seq' (subc (bodyOf Tryd.prog 15) [1, 0, 0]) (subc (bodyOf Tryd.prog 15) [1, 0, 1]) (by kernel_rfl) ?_
  obtain ⟨b9, eb10⟩ : ∃ zq, zq = h3.size := ⟨_, rfl⟩
  obtain ⟨h11, e12⟩ : ∃ zq, zq = h3.push (.cells #[(vS r0), (vS r1)] 9 (0, 0)) := ⟨_, rfl⟩
  have f13 := push_new e12
  rw [← eb10] at f13
  have x14 : Ext h3 h11 := by rw [e12]; exact Ext.push _ _
  have o15 : h.size ≤ b9 := by have := x8.size; omega
  have f17 := x14 _ _ f5
  have x18 := x8.trans x14
  refine wc_ev [evC 1 1 0 agg9 f5, evC 1 3 1 agg9 f5, evS 1 4 2 eb10 e12] .normal h11 [(5, (vP b1 0)), (6, (vS r0)), (7, (vP b1 1)), (8, (vS r1)), (9, (vL (some ⟨b9, 0, none⟩) 2 2)), (10, (vI 2)), (11, (vI 0))] ?_
  refine wc_block' 0 (subc (bodyOf Tryd.prog 15) [1, 0, 1, 0]) (by kernel_rfl) ?_
  refine wc_once (subc (bodyOf Tryd.prog 15) [1, 0, 1, 0, 0]) (by kernel_rfl) ?_
  by_cases c19 : (r0 : ByteArray) = .empty
  · refine wc_ev [evC 3 1 0 agg9 f13, snF 4 1 9 c19] .normal h11 [(12, (vB true)), (13, (vP b9 0)), (14, (vS r0)), (4, (vS r0)), (15, (vS r0)), (16, (vB false)), (17, (vB false)), (18, vZ), (19, vZ), (20, vZ), (21, (vB false)), (22, (vI 1)), (11, (vI 1))] ?_
    refine wc_once (subc (bodyOf Tryd.prog 15) [1, 0, 1, 0, 0]) rfl ?_
    by_cases c20 : (r1 : ByteArray) = .empty
    · refine wc_ev [evC 3 1 1 agg9 f13, snF 4 1 9 c20] .normal h11 [(12, (vB true)), (13, (vP b9 1)), (14, (vS r1)), (4, (vS r1)), (15, (vS r1)), (16, (vB false)), (17, (vB false)), (18, vZ), (19, vZ), (20, vZ), (21, (vB false)), (22, (vI 2)), (11, (vI 2))] ?_
      refine wc_once (subc (bodyOf Tryd.prog 15) [1, 0, 1, 0, 0]) rfl ?_
      refine wc_act { tmps := #[(vA #[(vS r0), (vS r1)]), (vP b1 0), (vI 0), vZ, (vS r1), (vP b1 0), (vS r0), (vP b1 1), (vS r1), (vL (some ⟨b9, 0, none⟩) 2 2), (vI 2), (vI 2), (vB true), (vP b9 1), (vS r1), (vS r1), (vB false), (vB false), vZ, vZ, vZ, (vB false), (vI 2), vZ, vZ, vZ, vZ, vZ, vZ, vZ, vZ, vZ, vZ], defers := [] } (by as_aux_lemma => kernel_rfl) ?_
      refine wc_ev [] (.exit 0) h11 [(12, (vB false))] ?_
      refine wc_ev [evC 7 1 1 agg9 f17, snF 7 2 9 c20] .ret h11 [(23, (vP b1 1)), (24, (vS r1)), (25, (vB false)), (26, (vB false)), (27, vZ), (28, vZ), (29, vZ), (30, vZ), (31, vZ), (32, (vB false)), (2, (vI 0))] ?_
      have e21 : (rchk r0 r1) = 0 := by unfold rchk; rw [if_pos c19, if_pos c20]
      exact end_ev [] (vI 0) (hK _ _ (⟨by rw [e21], x18⟩))
    · obtain ⟨_, hh22, sn23, rfl, x24⟩ := name_ok h11 r1
      have f25 := x24 _ _ f17
      have x26 := x18.trans x24
      rcases Bool.eq_false_or_eq_true ((nameB r1)) with c27 | c27
      · refine wc_ev [evC 3 1 1 agg9 f13, snT 4 1 9 c20, evFb 4 4 c27 sn23] .normal hh22 [(12, (vB true)), (13, (vP b9 1)), (14, (vS r1)), (4, (vS r1)), (15, (vS r1)), (16, (vB true)), (17, (vB true)), (18, (vS r1)), (19, (vB true)), (20, (vB false)), (21, (vB false)), (22, (vI 2)), (11, (vI 2))] ?_
        refine wc_once (subc (bodyOf Tryd.prog 15) [1, 0, 1, 0, 0]) rfl ?_
        refine wc_act { tmps := #[(vA #[(vS r0), (vS r1)]), (vP b1 0), (vI 0), vZ, (vS r1), (vP b1 0), (vS r0), (vP b1 1), (vS r1), (vL (some ⟨b9, 0, none⟩) 2 2), (vI 2), (vI 2), (vB true), (vP b9 1), (vS r1), (vS r1), (vB true), (vB true), (vS r1), (vB true), (vB false), (vB false), (vI 2), vZ, vZ, vZ, vZ, vZ, vZ, vZ, vZ, vZ, vZ], defers := [] } (by as_aux_lemma => kernel_rfl) ?_
        refine wc_ev [] (.exit 0) hh22 [(12, (vB false))] ?_
        rcases Bool.eq_false_or_eq_true (sl r0 r1) with c28 | c28
        · refine wc_ev [evC 7 1 1 agg9 f25, snT 7 2 9 c20, evC 7 5 1 agg9 f25, evC 7 7 0 agg9 f25, evV 7 8 (vB false) (show binA Tryd.prog .leq 9 (vS r1) (vS r0) = some (vB false) from str_leq c28)] .ret hh22 [(23, (vP b1 1)), (24, (vS r1)), (25, (vB true)), (26, (vB true)), (27, (vP b1 1)), (28, (vS r1)), (29, (vP b1 0)), (30, (vS r0)), (31, (vB false)), (32, (vB false)), (2, (vI 0))] ?_
          have e29 : (rchk r0 r1) = 0 := by unfold rchk; rw [if_pos c19, if_neg c20, if_pos c27, if_pos c28]
          exact end_ev [] (vI 0) (hK _ _ (⟨by rw [e29], x26⟩))
        · refine wc_ev [evC 7 1 1 agg9 f25, snT 7 2 9 c20, evC 7 5 1 agg9 f25, evC 7 7 0 agg9 f25, evV 7 8 (vB true) (show binA Tryd.prog .leq 9 (vS r1) (vS r0) = some (vB true) from str_leq c28)] .ret hh22 [(23, (vP b1 1)), (24, (vS r1)), (25, (vB true)), (26, (vB true)), (27, (vP b1 1)), (28, (vS r1)), (29, (vP b1 0)), (30, (vS r0)), (31, (vB true)), (32, (vB true)), (2, (vI 2))] ?_
          have e30 : (rchk r0 r1) = 2 := by unfold rchk; rw [if_pos c19, if_neg c20, if_pos c27, if_neg (Bool.eq_false_iff.1 c28)]
          exact end_ev [] (vI 2) (hK _ _ (⟨by rw [e30], x26⟩))
      · refine wc_ev [evC 3 1 1 agg9 f13, snT 4 1 9 c20, evFb 4 4 c27 sn23] .ret hh22 [(12, (vB true)), (13, (vP b9 1)), (14, (vS r1)), (4, (vS r1)), (15, (vS r1)), (16, (vB true)), (17, (vB true)), (18, (vS r1)), (19, (vB false)), (20, (vB true)), (21, (vB true)), (2, (vI 2))] ?_
        have e31 : (rchk r0 r1) = 2 := by unfold rchk; rw [if_pos c19, if_neg c20, if_neg (Bool.eq_false_iff.1 c27)]
        exact end_ev [] (vI 2) (hK _ _ (⟨by rw [e31], x26⟩))
  · obtain ⟨_, hh32, sn33, rfl, x34⟩ := name_ok h11 r0
    have f35 := x34 _ _ f17
    have f36 := x34 _ _ f13
    have x37 := x18.trans x34
    rcases Bool.eq_false_or_eq_true ((nameB r0)) with c38 | c38
    · refine wc_ev [evC 3 1 0 agg9 f13, snT 4 1 9 c19, evFb 4 4 c38 sn33] .normal hh32 [(12, (vB true)), (13, (vP b9 0)), (14, (vS r0)), (4, (vS r0)), (15, (vS r0)), (16, (vB true)), (17, (vB true)), (18, (vS r0)), (19, (vB true)), (20, (vB false)), (21, (vB false)), (22, (vI 1)), (11, (vI 1))] ?_
      refine wc_once (subc (bodyOf Tryd.prog 15) [1, 0, 1, 0, 0]) rfl ?_
      by_cases c39 : (r1 : ByteArray) = .empty
      · refine wc_ev [evC 3 1 1 agg9 f36, snF 4 1 9 c39] .normal hh32 [(12, (vB true)), (13, (vP b9 1)), (14, (vS r1)), (4, (vS r1)), (15, (vS r1)), (16, (vB false)), (17, (vB false)), (18, vZ), (19, vZ), (20, vZ), (21, (vB false)), (22, (vI 2)), (11, (vI 2))] ?_
        refine wc_once (subc (bodyOf Tryd.prog 15) [1, 0, 1, 0, 0]) rfl ?_
        refine wc_act { tmps := #[(vA #[(vS r0), (vS r1)]), (vP b1 0), (vI 0), vZ, (vS r1), (vP b1 0), (vS r0), (vP b1 1), (vS r1), (vL (some ⟨b9, 0, none⟩) 2 2), (vI 2), (vI 2), (vB true), (vP b9 1), (vS r1), (vS r1), (vB false), (vB false), vZ, vZ, vZ, (vB false), (vI 2), vZ, vZ, vZ, vZ, vZ, vZ, vZ, vZ, vZ, vZ], defers := [] } (by as_aux_lemma => kernel_rfl) ?_
        refine wc_ev [] (.exit 0) hh32 [(12, (vB false))] ?_
        refine wc_ev [evC 7 1 1 agg9 f35, snF 7 2 9 c39] .ret hh32 [(23, (vP b1 1)), (24, (vS r1)), (25, (vB false)), (26, (vB false)), (27, vZ), (28, vZ), (29, vZ), (30, vZ), (31, vZ), (32, (vB false)), (2, (vI 0))] ?_
        have e40 : (rchk r0 r1) = 0 := by unfold rchk; rw [if_neg c19, if_pos c38, if_pos c39]
        exact end_ev [] (vI 0) (hK _ _ (⟨by rw [e40], x37⟩))
      · obtain ⟨_, hh41, sn42, rfl, x43⟩ := name_ok hh32 r1
        have f44 := x43 _ _ f35
        have x45 := x37.trans x43
        rcases Bool.eq_false_or_eq_true ((nameB r1)) with c46 | c46
        · refine wc_ev [evC 3 1 1 agg9 f36, snT 4 1 9 c39, evFb 4 4 c46 sn42] .normal hh41 [(12, (vB true)), (13, (vP b9 1)), (14, (vS r1)), (4, (vS r1)), (15, (vS r1)), (16, (vB true)), (17, (vB true)), (18, (vS r1)), (19, (vB true)), (20, (vB false)), (21, (vB false)), (22, (vI 2)), (11, (vI 2))] ?_
          refine wc_once (subc (bodyOf Tryd.prog 15) [1, 0, 1, 0, 0]) rfl ?_
          refine wc_act { tmps := #[(vA #[(vS r0), (vS r1)]), (vP b1 0), (vI 0), vZ, (vS r1), (vP b1 0), (vS r0), (vP b1 1), (vS r1), (vL (some ⟨b9, 0, none⟩) 2 2), (vI 2), (vI 2), (vB true), (vP b9 1), (vS r1), (vS r1), (vB true), (vB true), (vS r1), (vB true), (vB false), (vB false), (vI 2), vZ, vZ, vZ, vZ, vZ, vZ, vZ, vZ, vZ, vZ], defers := [] } (by as_aux_lemma => kernel_rfl) ?_
          refine wc_ev [] (.exit 0) hh41 [(12, (vB false))] ?_
          rcases Bool.eq_false_or_eq_true (sl r0 r1) with c47 | c47
          · refine wc_ev [evC 7 1 1 agg9 f44, snT 7 2 9 c39, evC 7 5 1 agg9 f44, evC 7 7 0 agg9 f44, evV 7 8 (vB false) (show binA Tryd.prog .leq 9 (vS r1) (vS r0) = some (vB false) from str_leq c47)] .ret hh41 [(23, (vP b1 1)), (24, (vS r1)), (25, (vB true)), (26, (vB true)), (27, (vP b1 1)), (28, (vS r1)), (29, (vP b1 0)), (30, (vS r0)), (31, (vB false)), (32, (vB false)), (2, (vI 0))] ?_
            have e48 : (rchk r0 r1) = 0 := by unfold rchk; rw [if_neg c19, if_pos c38, if_neg c39, if_pos c46, if_pos c47]
            exact end_ev [] (vI 0) (hK _ _ (⟨by rw [e48], x45⟩))
          · refine wc_ev [evC 7 1 1 agg9 f44, snT 7 2 9 c39, evC 7 5 1 agg9 f44, evC 7 7 0 agg9 f44, evV 7 8 (vB true) (show binA Tryd.prog .leq 9 (vS r1) (vS r0) = some (vB true) from str_leq c47)] .ret hh41 [(23, (vP b1 1)), (24, (vS r1)), (25, (vB true)), (26, (vB true)), (27, (vP b1 1)), (28, (vS r1)), (29, (vP b1 0)), (30, (vS r0)), (31, (vB true)), (32, (vB true)), (2, (vI 2))] ?_
            have e49 : (rchk r0 r1) = 2 := by unfold rchk; rw [if_neg c19, if_pos c38, if_neg c39, if_pos c46, if_neg (Bool.eq_false_iff.1 c47)]
            exact end_ev [] (vI 2) (hK _ _ (⟨by rw [e49], x45⟩))
        · refine wc_ev [evC 3 1 1 agg9 f36, snT 4 1 9 c39, evFb 4 4 c46 sn42] .ret hh41 [(12, (vB true)), (13, (vP b9 1)), (14, (vS r1)), (4, (vS r1)), (15, (vS r1)), (16, (vB true)), (17, (vB true)), (18, (vS r1)), (19, (vB false)), (20, (vB true)), (21, (vB true)), (2, (vI 2))] ?_
          have e50 : (rchk r0 r1) = 2 := by unfold rchk; rw [if_neg c19, if_pos c38, if_neg c39, if_neg (Bool.eq_false_iff.1 c46)]
          exact end_ev [] (vI 2) (hK _ _ (⟨by rw [e50], x45⟩))
    · refine wc_ev [evC 3 1 0 agg9 f13, snT 4 1 9 c19, evFb 4 4 c38 sn33] .ret hh32 [(12, (vB true)), (13, (vP b9 0)), (14, (vS r0)), (4, (vS r0)), (15, (vS r0)), (16, (vB true)), (17, (vB true)), (18, (vS r0)), (19, (vB false)), (20, (vB true)), (21, (vB true)), (2, (vI 2))] ?_
      have e51 : (rchk r0 r1) = 2 := by unfold rchk; rw [if_neg c19, if_neg (Bool.eq_false_iff.1 c38)]
      exact end_ev [] (vI 2) (hK _ _ (⟨by rw [e51], x37⟩))
set_option maxHeartbeats 4000000 in
theorem ends_1 (h : Heap) (a0 : ByteArray) (a1 : ByteArray) {bs : Nat} (hbs : h[bs]? = some (.cells #[(vS a0), (vS a1)] 24 (0, 0))) : WCall Tryd.prog 33 #[(Value.slice (some ⟨bs, 0, none⟩) 1 1)] h (fun v h1 => v = .tuple #[if rchk a0 a1 = 0 then .func (.func 49) #[] #[] else .nilFunc, .int .i64 (rchk a0 a1)] ∧ Ext h h1) := by
  suffices H : ∀ K : Value → Heap → Prop, (∀ v h1, (fun v h1 => v = .tuple #[if rchk a0 a1 = 0 then .func (.func 49) #[] #[] else .nilFunc, .int .i64 (rchk a0 a1)] ∧ Ext h h1) v h1 → K v h1) → WCall Tryd.prog 33 #[(Value.slice (some ⟨bs, 0, none⟩) 1 1)] h K from H _ fun _ _ q => q
  intro K hK
  refine wcall_at { tmps := #[(vL (some ⟨bs, 0, none⟩) 1 1), vZ, vZ, vZ, vZ, vZ, vZ, vZ, vZ, vZ, vZ, vZ, vZ, vZ, vZ, vZ, vZ, vZ, vZ], defers := [] } (by kernel_rfl) ?_
  refine wc_seq' (subc (bodyOf Tryd.prog 33) [0]) (subc (bodyOf Tryd.prog 33) [1]) (by kernel_rfl) ?_
  refine wc_ev [] .normal h [(2, Value.nilFunc), (3, (vI 0))] ?_
  refine wc_seq' (subc (bodyOf Tryd.prog 33) [1, 0]) (subc (bodyOf Tryd.prog 33) [1, 1]) (by kernel_rfl) ?_
  refine wc_seq' (subc (bodyOf Tryd.prog 33) [1, 0, 0]) (subc (bodyOf Tryd.prog 33) [1, 0, 1]) (by kernel_rfl) ?_
  refine wc_ev [] .normal h [(7, (vL (some ⟨bs, 0, none⟩) 1 1)), (8, (vI 1)), (9, (vI 0))] ?_
  refine wc_block' 0 (subc (bodyOf Tryd.prog 33) [1, 0, 1, 0]) (by kernel_rfl) ?_
  refine wc_once (subc (bodyOf Tryd.prog 33) [1, 0, 1, 0, 0]) (by kernel_rfl) ?_
  obtain ⟨b1, eb2⟩ : ∃ zq, zq = h.size := ⟨_, rfl⟩
  obtain ⟨h3, e4⟩ : ∃ zq, zq = h.push (.cells #[(vS .empty), (vS .empty)] 24 (0, 0)) := ⟨_, rfl⟩
  have f5 := push_new e4
  rw [← eb2] at f5
  have x6 : Ext h h3 := by rw [e4]; exact Ext.push _ _
  have o7 : h.size ≤ b1 := by have := (Ext.refl h).size; omega
  have x8 := (Ext.refl h).trans x6
  obtain ⟨h9, e10⟩ : ∃ zq, zq = h3.setIfInBounds b1 (.cells #[(vS a0), (vS a1)] 24 (0, 0)) := ⟨_, rfl⟩
  have f11 := set_same e10 f5
  have x12 := Ext.setNew x8 e10 o7
  obtain ⟨_, hh13, sn14, rfl, x15⟩ := rchk_ok h9 a0 a1 
  have x16 := x12.trans x15
  by_cases c17 : (((rchk a0 a1)) : Int) = 0
  · refine wc_ev [evLw 3 1 agg24 size24 hbs, evA 3 2 eb2 e4, evUw 3 3 size24 f5 e10, evLw 4 0 agg24 size24 f11, evF 4 1 sn14, neF 5 1 31 c17] .normal hh13 [(10, (vB true)), (11, (vP bs 0)), (12, (vA #[(vS a0), (vS a1)])), (5, (vP b1 0)), (13, (vA #[(vS a0), (vS a1)])), (14, (vI ((rchk a0 a1)))), (6, (vI ((rchk a0 a1)))), (15, (vI ((rchk a0 a1)))), (16, (vB false)), (18, (vI 1)), (9, (vI 1))] ?_
    refine wc_once (subc (bodyOf Tryd.prog 33) [1, 0, 1, 0, 0]) rfl ?_
    refine wc_ev [] (.exit 0) hh13 [(10, (vB false))] ?_
    refine wc_ev [] .ret hh13 [(2, (Value.func (.func 49) #[] #[])), (3, (vI 0))] ?_
    exact end_ev [] (vT #[(Value.func (.func 49) #[] #[]), (vI 0)]) (hK _ _ (⟨by rw [if_pos c17]; rw [c17], x16⟩))
  · refine wc_ev [evLw 3 1 agg24 size24 hbs, evA 3 2 eb2 e4, evUw 3 3 size24 f5 e10, evLw 4 0 agg24 size24 f11, evF 4 1 sn14, neT 5 1 31 c17] .ret hh13 [(10, (vB true)), (11, (vP bs 0)), (12, (vA #[(vS a0), (vS a1)])), (5, (vP b1 0)), (13, (vA #[(vS a0), (vS a1)])), (14, (vI ((rchk a0 a1)))), (6, (vI ((rchk a0 a1)))), (15, (vI ((rchk a0 a1)))), (16, (vB true)), (17, (vI ((rchk a0 a1)))), (2, Value.nilFunc), (3, (vI ((rchk a0 a1))))] ?_
    exact end_ev [] (vT #[Value.nilFunc, (vI ((rchk a0 a1)))]) (hK _ _ (⟨by rw [if_neg c17], x16⟩))
set_option maxHeartbeats 4000000 in
theorem ends_2 (h : Heap) (a0 : ByteArray) (a1 : ByteArray) (b0 : ByteArray) (b1 : ByteArray) {bs : Nat} (hbs : h[bs]? = some (.cells #[(vS a0), (vS a1), (vS b0), (vS b1)] 24 (0, 0))) : WCall Tryd.prog 33 #[(Value.slice (some ⟨bs, 0, none⟩) 2 2)] h (fun v h1 => v = .tuple #[if (if rchk a0 a1 = 0 then rchk b0 b1 else rchk a0 a1) = 0 then .func (.func 49) #[] #[] else .nilFunc, .int .i64 ((if rchk a0 a1 = 0 then rchk b0 b1 else rchk a0 a1))] ∧ Ext h h1) := by
  suffices H : ∀ K : Value → Heap → Prop, (∀ v h1, (fun v h1 => v = .tuple #[if (if rchk a0 a1 = 0 then rchk b0 b1 else rchk a0 a1) = 0 then .func (.func 49) #[] #[] else .nilFunc, .int .i64 ((if rchk a0 a1 = 0 then rchk b0 b1 else rchk a0 a1))] ∧ Ext h h1) v h1 → K v h1) → WCall Tryd.prog 33 #[(Value.slice (some ⟨bs, 0, none⟩) 2 2)] h K from H _ fun _ _ q => q
  intro K hK
  refine wcall_at { tmps := #[(vL (some ⟨bs, 0, none⟩) 2 2), vZ, vZ, vZ, vZ, vZ, vZ, vZ, vZ, vZ, vZ, vZ, vZ, vZ, vZ, vZ, vZ, vZ, vZ], defers := [] } (by kernel_rfl) ?_
  refine wc_seq' (subc (bodyOf Tryd.prog 33) [0]) (subc (bodyOf Tryd.prog 33) [1]) (by kernel_rfl) ?_
  refine wc_ev [] .normal h [(2, Value.nilFunc), (3, (vI 0))] ?_
  refine wc_seq' (subc (bodyOf Tryd.prog 33) [1, 0]) (subc (bodyOf Tryd.prog 33) [1, 1]) (by kernel_rfl) ?_
  refine wc_seq' (subc (bodyOf Tryd.prog 33) [1, 0, 0]) (subc (bodyOf Tryd.prog 33) [1, 0, 1]) (by kernel_rfl) ?_
  refine wc_ev [] .normal h [(7, (vL (some ⟨bs, 0, none⟩) 2 2)), (8, (vI 2)), (9, (vI 0))] ?_
  refine wc_block' 0 (subc (bodyOf Tryd.prog 33) [1, 0, 1, 0]) (by kernel_rfl) ?_
  refine wc_once (subc (bodyOf Tryd.prog 33) [1, 0, 1, 0, 0]) (by kernel_rfl) ?_
  obtain ⟨b2, eb3⟩ : ∃ zq, zq = h.size := ⟨_, rfl⟩
  obtain ⟨h4, e5⟩ : ∃ zq, zq = h.push (.cells #[(vS .empty), (vS .empty)] 24 (0, 0)) := ⟨_, rfl⟩
  have f6 := push_new e5
  rw [← eb3] at f6
  have n7 : b2 ≠ bs := by have := row_lt hbs; omega
  have x8 : Ext h h4 := by rw [e5]; exact Ext.push _ _
  have o9 : h.size ≤ b2 := by have := (Ext.refl h).size; omega
  have f10 := x8 _ _ hbs
  have x11 := (Ext.refl h).trans x8
  obtain ⟨h12, e13⟩ : ∃ zq, zq = h4.setIfInBounds b2 (.cells #[(vS a0), (vS a1)] 24 (0, 0)) := ⟨_, rfl⟩
  have f14 := set_same e13 f6
  have f15 := set_other e13 f10 n7
  have x16 := Ext.setNew x11 e13 o9
  obtain ⟨_, hh17, sn18, rfl, x19⟩ := rchk_ok h12 a0 a1 
  have f20 := x19 _ _ f15
  have x21 := x16.trans x19
  by_cases c22 : (((rchk a0 a1)) : Int) = 0
  · refine wc_ev [evL 3 1 0 agg24 size24 hbs, evA 3 2 eb3 e5, evUw 3 3 size24 f6 e13, evLw 4 0 agg24 size24 f14, evF 4 1 sn18, neF 5 1 31 c22] .normal hh17 [(10, (vB true)), (11, (vP bs 0)), (12, (vA #[(vS a0), (vS a1)])), (5, (vP b2 0)), (13, (vA #[(vS a0), (vS a1)])), (14, (vI ((rchk a0 a1)))), (6, (vI ((rchk a0 a1)))), (15, (vI ((rchk a0 a1)))), (16, (vB false)), (18, (vI 1)), (9, (vI 1))] ?_
    refine wc_once (subc (bodyOf Tryd.prog 33) [1, 0, 1, 0, 0]) rfl ?_
    obtain ⟨b23, eb24⟩ : ∃ zq, zq = hh17.size := ⟨_, rfl⟩
    obtain ⟨h25, e26⟩ : ∃ zq, zq = hh17.push (.cells #[(vS .empty), (vS .empty)] 24 (0, 0)) := ⟨_, rfl⟩
    have f27 := push_new e26
    rw [← eb24] at f27
    have x28 : Ext hh17 h25 := by rw [e26]; exact Ext.push _ _
    have o29 : h.size ≤ b23 := by have := x21.size; omega
    have x30 := x21.trans x28
    obtain ⟨h31, e32⟩ : ∃ zq, zq = h25.setIfInBounds b23 (.cells #[(vS b0), (vS b1)] 24 (0, 0)) := ⟨_, rfl⟩
    have f33 := set_same e32 f27
    have x34 := Ext.setNew x30 e32 o29
    obtain ⟨_, hh35, sn36, rfl, x37⟩ := rchk_ok h31 b0 b1 
    have x38 := x34.trans x37
    by_cases c39 : (((rchk b0 b1)) : Int) = 0
    · refine wc_ev [evL 3 1 2 agg24 size24 f20, evA 3 2 eb24 e26, evUw 3 3 size24 f27 e32, evLw 4 0 agg24 size24 f33, evF 4 1 sn36, neF 5 1 31 c39] .normal hh35 [(10, (vB true)), (11, (vP bs 2)), (12, (vA #[(vS b0), (vS b1)])), (5, (vP b23 0)), (13, (vA #[(vS b0), (vS b1)])), (14, (vI ((rchk b0 b1)))), (6, (vI ((rchk b0 b1)))), (15, (vI ((rchk b0 b1)))), (16, (vB false)), (18, (vI 2)), (9, (vI 2))] ?_
      refine wc_once (subc (bodyOf Tryd.prog 33) [1, 0, 1, 0, 0]) rfl ?_
      refine wc_act { tmps := #[(vL (some ⟨bs, 0, none⟩) 2 2), vZ, Value.nilFunc, (vI 0), vZ, (vP b23 0), (vI ((rchk b0 b1))), (vL (some ⟨bs, 0, none⟩) 2 2), (vI 2), (vI 2), (vB true), (vP bs 2), (vA #[(vS b0), (vS b1)]), (vA #[(vS b0), (vS b1)]), (vI ((rchk b0 b1))), (vI ((rchk b0 b1))), (vB false), vZ, (vI 2)], defers := [] } (by as_aux_lemma => kernel_rfl) ?_
      refine wc_ev [] (.exit 0) hh35 [(10, (vB false))] ?_
      refine wc_ev [] .ret hh35 [(2, (Value.func (.func 49) #[] #[])), (3, (vI 0))] ?_
      exact end_ev [] (vT #[(Value.func (.func 49) #[] #[]), (vI 0)]) (hK _ _ (⟨by rw [if_pos c22, if_pos c39]; rw [c39], x38⟩))
    · refine wc_ev [evL 3 1 2 agg24 size24 f20, evA 3 2 eb24 e26, evUw 3 3 size24 f27 e32, evLw 4 0 agg24 size24 f33, evF 4 1 sn36, neT 5 1 31 c39] .ret hh35 [(10, (vB true)), (11, (vP bs 2)), (12, (vA #[(vS b0), (vS b1)])), (5, (vP b23 0)), (13, (vA #[(vS b0), (vS b1)])), (14, (vI ((rchk b0 b1)))), (6, (vI ((rchk b0 b1)))), (15, (vI ((rchk b0 b1)))), (16, (vB true)), (17, (vI ((rchk b0 b1)))), (2, Value.nilFunc), (3, (vI ((rchk b0 b1))))] ?_
      exact end_ev [] (vT #[Value.nilFunc, (vI ((rchk b0 b1)))]) (hK _ _ (⟨by rw [if_pos c22, if_neg c39], x38⟩))
  · refine wc_ev [evL 3 1 0 agg24 size24 hbs, evA 3 2 eb3 e5, evUw 3 3 size24 f6 e13, evLw 4 0 agg24 size24 f14, evF 4 1 sn18, neT 5 1 31 c22] .ret hh17 [(10, (vB true)), (11, (vP bs 0)), (12, (vA #[(vS a0), (vS a1)])), (5, (vP b2 0)), (13, (vA #[(vS a0), (vS a1)])), (14, (vI ((rchk a0 a1)))), (6, (vI ((rchk a0 a1)))), (15, (vI ((rchk a0 a1)))), (16, (vB true)), (17, (vI ((rchk a0 a1)))), (2, Value.nilFunc), (3, (vI ((rchk a0 a1))))] ?_
    exact end_ev [] (vT #[Value.nilFunc, (vI ((rchk a0 a1)))]) (hK _ _ (⟨by rw [if_neg c22, if_neg c22], x21⟩))
/-- What ranges.Has gives. -/
def rhas (r0 : ByteArray) (r1 : ByteArray) (k : ByteArray) : Bool := if ((rchk r0 r1) : Int) = 0 then (if (nameB k) = true then (if sl k r0 = true then false else (if (((endC k r1)) : Int) < 0 then true else false)) else false) else false
set_option maxHeartbeats 4000000 in
theorem rhas_ok (h : Heap) (r0 : ByteArray) (r1 : ByteArray) (k : ByteArray) : WCall Tryd.prog 16 #[(Value.agg #[(vS r0), (vS r1)]), (vS k)] h (fun v h1 => v = (vB (rhas r0 r1 k)) ∧ Ext h h1) := by
  obtain ⟨b1, eb2⟩ : ∃ zq, zq = h.size := ⟨_, rfl⟩
  obtain ⟨h3, e4⟩ : ∃ zq, zq = h.push (.cells #[(vS r0), (vS r1)] 24 (0, 0)) := ⟨_, rfl⟩
  have f5 := push_new e4
  rw [← eb2] at f5
  have x6 : Ext h h3 := by rw [e4]; exact Ext.push _ _
  have o7 : h.size ≤ b1 := by have := (Ext.refl h).size; omega
  have x8 := (Ext.refl h).trans x6
  obtain ⟨b9, eb10⟩ : ∃ zq, zq = h3.size := ⟨_, rfl⟩
  obtain ⟨h11, e12⟩ : ∃ zq, zq = h3.push (.cells #[(vS r0), (vS r1)] 24 (0, 0)) := ⟨_, rfl⟩
  have f13 := push_new e12
  rw [← eb10] at f13
  have x14 : Ext h3 h11 := by rw [e12]; exact Ext.push _ _
  have o15 : h.size ≤ b9 := by have := x8.size; omega
  have f17 := x14 _ _ f5
  have x18 := x8.trans x14
  obtain ⟨_, h19, s20, rfl, x21⟩ := ends_1 h11 r0 r1 f13
  have f22 := x21 _ _ f17
  have x23 := x18.trans x21
  by_cases c24 : ((rchk r0 r1) : Int) = 0
  · obtain ⟨_, hh25, sn26, rfl, x27⟩ := name_ok h19 k
    have f28 := x27 _ _ f22
    have x29 := x23.trans x27
    rcases Bool.eq_false_or_eq_true ((nameB k)) with c30 | c30
    · rcases Bool.eq_false_or_eq_true (sl k r0) with c31 | c31
      · have e32 : (rhas r0 r1 k) = false := by unfold rhas; rw [if_pos c24, if_pos c30, if_pos c31]
        exact hCall_ev [evA 0 0 eb2 e4, evLw 1 0 agg24 size24 f5, evS 1 1 1 eb10 e12, evF 1 2 (by rw [if_pos c24, c24] at s20; exact s20), evFb 2 4 c30 sn26, evC 2 8 0 agg9 f28, evV 2 10 (vB false) (show binA Tryd.prog .leq 9 (vS r0) (vS k) = some (vB false) from str_leq c31)] [] (vB false) hh25 ⟨by rw [e32], x29⟩
      · obtain ⟨_, _, sn33, rfl, rfl⟩ := endC_ok hh25 k r1 
        by_cases c34 : (((endC k r1)) : Int) < 0
        · have e35 : (rhas r0 r1 k) = true := by unfold rhas; rw [if_pos c24, if_pos c30, if_neg (Bool.eq_false_iff.1 c31), if_pos c34]
          exact hCall_ev [evA 0 0 eb2 e4, evLw 1 0 agg24 size24 f5, evS 1 1 1 eb10 e12, evF 1 2 (by rw [if_pos c24, c24] at s20; exact s20), evFb 2 4 c30 sn26, evC 2 8 0 agg9 f28, evV 2 10 (vB true) (show binA Tryd.prog .leq 9 (vS r0) (vS k) = some (vB true) from str_leq c31), evC 2 16 1 agg9 f28, evF 2 17 sn33, ltT 2 18 3 c34] [] (vB true) hh25 ⟨by rw [e35], x29⟩
        · have e36 : (rhas r0 r1 k) = false := by unfold rhas; rw [if_pos c24, if_pos c30, if_neg (Bool.eq_false_iff.1 c31), if_neg c34]
          exact hCall_ev [evA 0 0 eb2 e4, evLw 1 0 agg24 size24 f5, evS 1 1 1 eb10 e12, evF 1 2 (by rw [if_pos c24, c24] at s20; exact s20), evFb 2 4 c30 sn26, evC 2 8 0 agg9 f28, evV 2 10 (vB true) (show binA Tryd.prog .leq 9 (vS r0) (vS k) = some (vB true) from str_leq c31), evC 2 16 1 agg9 f28, evF 2 17 sn33, ltF 2 18 3 c34] [] (vB false) hh25 ⟨by rw [e36], x29⟩
    · have e37 : (rhas r0 r1 k) = false := by unfold rhas; rw [if_pos c24, if_neg (Bool.eq_false_iff.1 c30)]
      exact hCall_ev [evA 0 0 eb2 e4, evLw 1 0 agg24 size24 f5, evS 1 1 1 eb10 e12, evF 1 2 (by rw [if_pos c24, c24] at s20; exact s20), evFb 2 4 c30 sn26] [] (vB false) hh25 ⟨by rw [e37], x29⟩
  · have e38 : (rhas r0 r1 k) = false := by unfold rhas; rw [if_neg c24]
    exact hCall_ev [evA 0 0 eb2 e4, evLw 1 0 agg24 size24 f5, evS 1 1 1 eb10 e12, evF 1 2 (by rw [if_neg c24] at s20; exact s20), eqF 2 1 31 c24] [] (vB false) h19 ⟨by rw [e38], x23⟩
theorem mxS_size (a b : ByteArray) : (mxS a b).size = a.size ∨ (mxS a b).size = b.size := by
  rw [mxS_eq]; split
  · exact .inr rfl
  · exact .inl rfl
theorem nameB_emp : nameB .empty = false := rfl
end C08
