/- Ranges. -/
import Derived.Test.YtghcfpoccafbjaaDoorKc
import Derived.KernelRfl
open Go Go.AM Go.Proofs
namespace C32
theorem agg9 : isAggA Tryd.prog 9 = some false := by kernel_rfl
theorem agg30 : isAggA Tryd.prog 30 = some true := by kernel_rfl
theorem size9 : (Tryd.prog.info? 9).map (·.size) = some 1 := by kernel_rfl
theorem size30 : (Tryd.prog.info? 30).map (·.size) = some 2 := by kernel_rfl
/-- The order of texts. -/
def sl (a b : ByteArray) : Bool := Op.bytesLess a.toList b.toList
theorem bl_irrefl : ∀ x : List UInt8, Op.bytesLess x x = false
  | [] => rfl
  | a :: x => by simp [Op.bytesLess, bl_irrefl x, UInt8.lt_irrefl]
theorem bl_trans : ∀ {x y z : List UInt8}, Op.bytesLess x y = true → Op.bytesLess y z = true → Op.bytesLess x z = true
  | [], [], _, h, _ => by simp [Op.bytesLess] at h
  | _ :: _, [], _, h, _ => by simp [Op.bytesLess] at h
  | [], b :: y, [], _, h => by simp [Op.bytesLess] at h
  | a :: x, b :: y, [], _, h => by simp [Op.bytesLess] at h
  | [], b :: y, c :: z, _, _ => by simp [Op.bytesLess]
  | a :: x, b :: y, c :: z, h1, h2 => by
    simp only [Op.bytesLess, Bool.or_eq_true, decide_eq_true_eq, Bool.and_eq_true, beq_iff_eq] at *
    rcases h1 with h1 | ⟨h1, h3⟩ <;> rcases h2 with h2 | ⟨h2, h4⟩
    · exact .inl (UInt8.lt_trans h1 h2)
    · exact .inl (h2 ▸ h1)
    · exact .inl (h1 ▸ h2)
    · exact .inr ⟨h1.trans h2, bl_trans h3 h4⟩
theorem bl_total : ∀ {x y : List UInt8}, Op.bytesLess x y = false → Op.bytesLess y x = false → x = y
  | [], [], _, _ => rfl
  | _ :: _, [], _, h => by simp [Op.bytesLess] at h
  | [], _ :: _, h, _ => by simp [Op.bytesLess] at h
  | a :: x, b :: y, h1, h2 => by
    simp only [Op.bytesLess, Bool.or_eq_false_iff, decide_eq_false_iff_not, Bool.and_eq_false_imp, beq_iff_eq] at *
    have e : a = b := UInt8.le_antisymm (UInt8.not_lt.1 h2.1) (UInt8.not_lt.1 h1.1)
    subst e
    rw [bl_total (h1.2 rfl) (h2.2 rfl)]
theorem sl_irrefl (a : ByteArray) : sl a a = false := bl_irrefl _
theorem sl_trans {a b c : ByteArray} (h1 : sl a b = true) (h2 : sl b c = true) : sl a c = true := bl_trans h1 h2
theorem sl_total {a b : ByteArray} (h1 : sl a b = false) (h2 : sl b a = false) : a = b := toList_inj (bl_total h1 h2)
theorem sl_asymm {a b : ByteArray} (h : sl a b = true) : sl b a = false := Bool.eq_false_iff.2 fun w => by have := sl_trans h w; rw [sl_irrefl] at this; cases this
theorem sl_le_trans {a b c : ByteArray} (h1 : sl b a = false) (h2 : sl b c = true) : sl a c = true := by
  cases h : sl a b with
  | true => exact sl_trans h h2
  | false => rw [sl_total h h1]; exact h2
theorem sl_lt_le {a b c : ByteArray} (h1 : sl a b = true) (h2 : sl c b = false) : sl a c = true := by
  cases h : sl b c with
  | true => exact sl_trans h1 h
  | false => rw [← sl_total h h2]; exact h1
theorem sl_le_le {a b c : ByteArray} (h1 : sl b a = false) (h2 : sl c b = false) : sl c a = false := by
  cases h : sl c a with
  | true => exfalso; have := sl_lt_le h h1; rw [h2] at this; cases this
  | false => rfl
theorem sl_or (a b : ByteArray) : (Op.bytesLess a.toList b.toList || a.toList == b.toList) = !sl b a := by
  rw [str_beq]
  show (sl a b || decide (a = b)) = !sl b a
  by_cases e : a = b
  · subst e; simp [sl_irrefl]
  · simp only [e, decide_false, Bool.or_false]
    cases h : sl a b with
    | true => rw [sl_asymm h]; rfl
    | false =>
      cases h2 : sl b a with
      | true => rfl
      | false => exact absurd (sl_total h h2) e
section
variable {P : Program} {t : TypeId} {a b : ByteArray} {r : Bool}
theorem str_lss (e : sl a b = r) : binA P .lss t (.string a) (.string b) = some (.bool r) := by subst e; rfl
theorem str_leq (e : sl b a = r) : binA P .leq t (.string a) (.string b) = some (.bool (!r)) := by subst e; simp only [binA, strBinA, sl_or]
theorem str_gtr (e : sl b a = r) : binA P .gtr t (.string a) (.string b) = some (.bool r) := by subst e; simp only [binA, strBinA, sl_or, Bool.not_not]
theorem str_geq (e : sl a b = r) : binA P .geq t (.string a) (.string b) = some (.bool (!r)) := by subst e; rfl
end
/-- The later of two texts. -/
def mxS (a b : ByteArray) : ByteArray := if !Op.bytesLess a.toList b.toList then a else b
theorem mxS_eq (a b : ByteArray) : mxS a b = if sl a b = true then b else a := by
  show (if (!sl a b) = true then a else b) = _
  cases sl a b <;> rfl
set_option maxHeartbeats 4000000 in
theorem nanS_ok (h : Heap) (a : ByteArray) : WCall Tryd.prog 68 #[(vS a)] h (fun v h1 => v = (vB false) ∧ h = h1) := by
  exact hCall_of (n := 200) (T := ⟨fun r i => match r, i with | 1, 2 => some ((vB false), h) | _, _ => none, fun _ => none, none⟩)
    (A := (binA Tryd.prog .neq 9 (vS a) (vS a) = some (vB false) ∧ h = h) ∧ (fun v h1 => v = (vB false) ∧ h = h1) (vB false) h) (by kernel_rfl) ⟨⟨cmp_str_neq (decide_eq_false (not_not_intro rfl)), rfl⟩, ⟨rfl, rfl⟩⟩
/-- What cmp.Compare[string] gives. -/
def cmpS (a : ByteArray) (b : ByteArray) : Int := if sl a b = true then (-1) else (if sl b a = true then 1 else 0)
set_option maxHeartbeats 4000000 in
theorem cmpS_ok (h : Heap) (a : ByteArray) (b : ByteArray) : WCall Tryd.prog 56 #[(vS a), (vS b)] h (fun v h1 => v = (vI ((cmpS a b))) ∧ h = h1) := by
  obtain ⟨_, _, sn129, rfl, rfl⟩ := nanS_ok h a 
  obtain ⟨_, _, sn132, rfl, rfl⟩ := nanS_ok h b 
  rcases Bool.eq_false_or_eq_true (sl a b) with c134 | c134
  · have e135 : (cmpS a b) = (-1) := by unfold cmpS; rw [if_pos c134]
    exact hCall_of (n := 200) (T := ⟨fun r i => match r, i with | 1, 1 => some ((vB false), h) | 2, 1 => some ((vB false), h) | 9, 2 => some ((vB true), h) | _, _ => none, fun _ => none, none⟩)
      (A := SoundCall Tryd.prog 68 #[(vS a)] h (vB false) h ∧ SoundCall Tryd.prog 68 #[(vS b)] h (vB false) h ∧ (binA Tryd.prog .lss 9 (vS a) (vS b) = some (vB true) ∧ h = h) ∧ (fun v h1 => v = (vI ((cmpS a b))) ∧ h = h1) (vI (-1)) h) (by kernel_rfl) ⟨sn129, sn132, ⟨str_lss c134, rfl⟩, ⟨by rw [e135], rfl⟩⟩
  · rcases Bool.eq_false_or_eq_true (sl b a) with c136 | c136
    · have e137 : (cmpS a b) = 1 := by unfold cmpS; rw [if_neg (Bool.eq_false_iff.1 c134), if_pos c136]
      exact hCall_of (n := 200) (T := ⟨fun r i => match r, i with | 1, 1 => some ((vB false), h) | 2, 1 => some ((vB false), h) | 9, 2 => some ((vB false), h) | 11, 2 => some ((vB true), h) | _, _ => none, fun _ => none, none⟩)
        (A := SoundCall Tryd.prog 68 #[(vS a)] h (vB false) h ∧ SoundCall Tryd.prog 68 #[(vS b)] h (vB false) h ∧ (binA Tryd.prog .lss 9 (vS a) (vS b) = some (vB false) ∧ h = h) ∧ (binA Tryd.prog .gtr 9 (vS a) (vS b) = some (vB true) ∧ h = h) ∧ (fun v h1 => v = (vI ((cmpS a b))) ∧ h = h1) (vI 1) h) (by kernel_rfl) ⟨sn129, sn132, ⟨str_lss c134, rfl⟩, ⟨str_gtr c136, rfl⟩, ⟨by rw [e137], rfl⟩⟩
    · have e138 : (cmpS a b) = 0 := by unfold cmpS; rw [if_neg (Bool.eq_false_iff.1 c134), if_neg (Bool.eq_false_iff.1 c136)]
      exact hCall_of (n := 200) (T := ⟨fun r i => match r, i with | 1, 1 => some ((vB false), h) | 2, 1 => some ((vB false), h) | 9, 2 => some ((vB false), h) | 11, 2 => some ((vB false), h) | _, _ => none, fun _ => none, none⟩)
        (A := SoundCall Tryd.prog 68 #[(vS a)] h (vB false) h ∧ SoundCall Tryd.prog 68 #[(vS b)] h (vB false) h ∧ (binA Tryd.prog .lss 9 (vS a) (vS b) = some (vB false) ∧ h = h) ∧ (binA Tryd.prog .gtr 9 (vS a) (vS b) = some (vB false) ∧ h = h) ∧ (fun v h1 => v = (vI ((cmpS a b))) ∧ h = h1) (vI 0) h) (by kernel_rfl) ⟨sn129, sn132, ⟨str_lss c134, rfl⟩, ⟨str_gtr c136, rfl⟩, ⟨by rw [e138], rfl⟩⟩
/-- What ranges.ends$1 gives. -/
def endC (a : ByteArray) (b : ByteArray) : Int := if (a : ByteArray) = b then 0 else (if (a : ByteArray) = .empty then 1 else (if (b : ByteArray) = .empty then (-1) else ((cmpS a b))))
set_option maxHeartbeats 4000000 in
theorem endC_ok (h : Heap) (a : ByteArray) (b : ByteArray) : WCall Tryd.prog 55 #[(vS a), (vS b)] h (fun v h1 => v = (vI ((endC a b))) ∧ h = h1) := by
  by_cases c139 : (a : ByteArray) = b
  · have e140 : (endC a b) = 0 := by unfold endC; rw [if_pos c139]
    exact hCall_of (n := 200) (T := ⟨fun r i => match r, i with | 1, 2 => some ((vB true), h) | _, _ => none, fun _ => none, none⟩)
      (A := (binA Tryd.prog .eql 9 (vS a) (vS b) = some (vB true) ∧ h = h) ∧ (fun v h1 => v = (vI ((endC a b))) ∧ h = h1) (vI 0) h) (by kernel_rfl) ⟨⟨cmp_str_eql (decide_eq_true c139), rfl⟩, ⟨by rw [e140], rfl⟩⟩
  · by_cases c141 : (a : ByteArray) = .empty
    · have e142 : (endC a b) = 1 := by unfold endC; rw [if_neg c139, if_pos c141]
      exact hCall_of (n := 200) (T := ⟨fun r i => match r, i with | 1, 2 => some ((vB false), h) | 3, 1 => some ((vB true), h) | _, _ => none, fun _ => none, none⟩)
        (A := (binA Tryd.prog .eql 9 (vS a) (vS b) = some (vB false) ∧ h = h) ∧ (binA Tryd.prog .eql 9 (vS a) (vS .empty) = some (vB true) ∧ h = h) ∧ (fun v h1 => v = (vI ((endC a b))) ∧ h = h1) (vI 1) h) (by kernel_rfl) ⟨⟨cmp_str_eql (decide_eq_false c139), rfl⟩, ⟨cmp_str_eql (decide_eq_true c141), rfl⟩, ⟨by rw [e142], rfl⟩⟩
    · by_cases c143 : (b : ByteArray) = .empty
      · have e144 : (endC a b) = (-1) := by unfold endC; rw [if_neg c139, if_neg c141, if_pos c143]
        exact hCall_of (n := 200) (T := ⟨fun r i => match r, i with | 1, 2 => some ((vB false), h) | 3, 1 => some ((vB false), h) | 5, 1 => some ((vB true), h) | _, _ => none, fun _ => none, none⟩)
          (A := (binA Tryd.prog .eql 9 (vS a) (vS b) = some (vB false) ∧ h = h) ∧ (binA Tryd.prog .eql 9 (vS a) (vS .empty) = some (vB false) ∧ h = h) ∧ (binA Tryd.prog .eql 9 (vS b) (vS .empty) = some (vB true) ∧ h = h) ∧ (fun v h1 => v = (vI ((endC a b))) ∧ h = h1) (vI (-1)) h) (by kernel_rfl) ⟨⟨cmp_str_eql (decide_eq_false c139), rfl⟩, ⟨cmp_str_eql (decide_eq_false c141), rfl⟩, ⟨cmp_str_eql (decide_eq_true c143), rfl⟩, ⟨by rw [e144], rfl⟩⟩
      · obtain ⟨_, _, sn146, rfl, rfl⟩ := cmpS_ok h a b 
        have e148 : (endC a b) = ((cmpS a b)) := by unfold endC; rw [if_neg c139, if_neg c141, if_neg c143]
        exact hCall_of (n := 200) (T := ⟨fun r i => match r, i with | 1, 2 => some ((vB false), h) | 3, 1 => some ((vB false), h) | 5, 1 => some ((vB false), h) | 7, 2 => some ((vI ((cmpS a b))), h) | _, _ => none, fun _ => none, none⟩)
          (A := (binA Tryd.prog .eql 9 (vS a) (vS b) = some (vB false) ∧ h = h) ∧ (binA Tryd.prog .eql 9 (vS a) (vS .empty) = some (vB false) ∧ h = h) ∧ (binA Tryd.prog .eql 9 (vS b) (vS .empty) = some (vB false) ∧ h = h) ∧ SoundCall Tryd.prog 56 #[(vS a), (vS b)] h (vI ((cmpS a b))) h ∧ (fun v h1 => v = (vI ((endC a b))) ∧ h = h1) (vI ((cmpS a b))) h) (by kernel_rfl) ⟨⟨cmp_str_eql (decide_eq_false c139), rfl⟩, ⟨cmp_str_eql (decide_eq_false c141), rfl⟩, ⟨cmp_str_eql (decide_eq_false c143), rfl⟩, sn146, ⟨by rw [e148], rfl⟩⟩
/-- What ranges.Check gives. -/
def rchk (r0 : ByteArray) (r1 : ByteArray) : Int := if (r0 : ByteArray) = .empty then (if (r1 : ByteArray) = .empty then 0 else (if (nameB r1) = true then (if sl r0 r1 = true then 0 else 2) else 2)) else (if (nameB r0) = true then (if (r1 : ByteArray) = .empty then 0 else (if (nameB r1) = true then (if sl r0 r1 = true then 0 else 2) else 2)) else 2)
set_option maxHeartbeats 4000000 in
theorem rchk_ok (h : Heap) (r0 : ByteArray) (r1 : ByteArray) : WCall Tryd.prog 16 #[(Value.agg #[(vS r0), (vS r1)])] h (fun v h1 => v = (vI ((rchk r0 r1))) ∧ Ext h h1) := by
  suffices H : ∀ K : Value → Heap → Prop, (∀ v h1, (fun v h1 => v = (vI ((rchk r0 r1))) ∧ Ext h h1) v h1 → K v h1) → WCall Tryd.prog 16 #[(Value.agg #[(vS r0), (vS r1)])] h K from H _ fun _ _ q => q
  intro K hK
  refine wcall_at { tmps := #[(vA #[(vS r0), (vS r1)]), vZ, vZ, vZ, vZ, vZ, vZ, vZ, vZ, vZ, vZ, vZ, vZ, vZ, vZ, vZ, vZ, vZ, vZ, vZ, vZ, vZ, vZ, vZ, vZ, vZ, vZ, vZ, vZ, vZ, vZ, vZ, vZ], defers := [] } (by kernel_rfl) ?_
  refine wc_seq' (subc (bodyOf Tryd.prog 16) [0]) (subc (bodyOf Tryd.prog 16) [1]) (by kernel_rfl) ?_
  obtain ⟨b151, eb152⟩ : ∃ zq, zq = h.size := ⟨_, rfl⟩
  obtain ⟨h149, e150⟩ : ∃ zq, zq = h.push (.cells #[(vS r0), (vS r1)] 30 (0, 0)) := ⟨_, rfl⟩
  have f153 := push_new e150
  rw [← eb152] at f153
  have x154 : Ext h h149 := by rw [e150]; exact Ext.push _ _
  have o155 : h.size ≤ b151 := by have := (Ext.refl h).size; omega
  have x156 := (Ext.refl h).trans x154
  refine wc_upd (n := 200) (T := ⟨fun r i => match r, i with | 0, 0 => some ((vP b151 0), h149) | _, _ => none, fun _ => none, none⟩) (x := .normal) (h1 := h149) [(1, (vP b151 0)), (2, (vI 0))]
    (fun q => ((vP b151 0) = (Value.pointer (some ⟨h.size, 0, none⟩)) ∧ h149 = h.push (.cells #[(vS r0), (vS r1)] 30 (0, 0))) ∧ q) (by intro K'; as_aux_lemma => kernel_rfl) (fun _ q => ⟨⟨by rw [eb152], e150⟩, q⟩) ?_
  refine wc_seq' (subc (bodyOf Tryd.prog 16) [1, 0]) (subc (bodyOf Tryd.prog 16) [1, 1]) (by kernel_rfl) ?_
  refine wc_seq' (subc (bodyOf Tryd.prog 16) [1, 0, 0]) (subc (bodyOf Tryd.prog 16) [1, 0, 1]) (by kernel_rfl) ?_
  obtain ⟨b159, eb160⟩ : ∃ zq, zq = h149.size := ⟨_, rfl⟩
  obtain ⟨h157, e158⟩ : ∃ zq, zq = h149.push (.cells #[(vS r0), (vS r1)] 9 (0, 0)) := ⟨_, rfl⟩
  have f161 := push_new e158
  rw [← eb160] at f161
  have x163 : Ext h149 h157 := by rw [e158]; exact Ext.push _ _
  have o164 : h.size ≤ b159 := by have := x156.size; omega
  have f165 := x163 _ _ f153
  have x166 := x156.trans x163
  refine wc_upd (n := 200) (T := ⟨fun r i => match r, i with | 1, 1 => some ((vS r0), h149) | 1, 3 => some ((vS r1), h149) | 1, 4 => some ((vL (some ⟨b159, 0, none⟩) 2 2), h157) | _, _ => none, fun _ => none, none⟩) (x := .normal) (h1 := h157) [(5, (vP b151 0)), (6, (vS r0)), (7, (vP b151 1)), (8, (vS r1)), (9, (vL (some ⟨b159, 0, none⟩) 2 2)), (10, (vI 2)), (11, (vI 0))]
    (fun q => (loadT Tryd.prog h149 9 (vP b151 0) = some (vS r0) ∧ h149 = h149) ∧ (loadT Tryd.prog h149 9 (vP b151 1) = some (vS r1) ∧ h149 = h149) ∧ ((vL (some ⟨b159, 0, none⟩) 2 2) = (vL (some ⟨h149.size, 0, none⟩) 2 2) ∧ h157 = h149.push (.cells #[(vS r0), (vS r1)] 9 (0, 0))) ∧ q) (by intro K'; as_aux_lemma => kernel_rfl) (fun _ q => ⟨⟨load_cell agg9 f153 rfl, rfl⟩, ⟨load_cell agg9 f153 rfl, rfl⟩, ⟨by rw [eb160], e158⟩, q⟩) ?_
  refine wc_block' 0 (subc (bodyOf Tryd.prog 16) [1, 0, 1, 0]) (by kernel_rfl) ?_
  refine wc_once (subc (bodyOf Tryd.prog 16) [1, 0, 1, 0, 0]) (by kernel_rfl) ?_
  by_cases c167 : (r0 : ByteArray) = .empty
  · refine wc_upd (n := 200) (T := ⟨fun r i => match r, i with | 3, 1 => some ((vS r0), h157) | 4, 1 => some ((vB false), h157) | _, _ => none, fun _ => none, none⟩) (x := .normal) (h1 := h157) [(12, (vB true)), (13, (vP b159 0)), (14, (vS r0)), (4, (vS r0)), (15, (vS r0)), (16, (vB false)), (17, (vB false)), (18, vZ), (19, vZ), (20, vZ), (21, (vB false)), (22, (vI 1)), (11, (vI 1))]
      (fun q => (loadT Tryd.prog h157 9 (vP b159 0) = some (vS r0) ∧ h157 = h157) ∧ (binA Tryd.prog .neq 9 (vS r0) (vS .empty) = some (vB false) ∧ h157 = h157) ∧ q) (by intro K'; as_aux_lemma => kernel_rfl) (fun _ q => ⟨⟨load_cell agg9 f161 rfl, rfl⟩, ⟨cmp_str_neq (decide_eq_false (not_not_intro c167)), rfl⟩, q⟩) ?_
    refine wc_once (subc (bodyOf Tryd.prog 16) [1, 0, 1, 0, 0]) rfl ?_
    by_cases c168 : (r1 : ByteArray) = .empty
    · refine wc_upd (n := 200) (T := ⟨fun r i => match r, i with | 3, 1 => some ((vS r1), h157) | 4, 1 => some ((vB false), h157) | _, _ => none, fun _ => none, none⟩) (x := .normal) (h1 := h157) [(12, (vB true)), (13, (vP b159 1)), (14, (vS r1)), (4, (vS r1)), (15, (vS r1)), (16, (vB false)), (17, (vB false)), (18, vZ), (19, vZ), (20, vZ), (21, (vB false)), (22, (vI 2)), (11, (vI 2))]
        (fun q => (loadT Tryd.prog h157 9 (vP b159 1) = some (vS r1) ∧ h157 = h157) ∧ (binA Tryd.prog .neq 9 (vS r1) (vS .empty) = some (vB false) ∧ h157 = h157) ∧ q) (by intro K'; as_aux_lemma => kernel_rfl) (fun _ q => ⟨⟨load_cell agg9 f161 rfl, rfl⟩, ⟨cmp_str_neq (decide_eq_false (not_not_intro c168)), rfl⟩, q⟩) ?_
      refine wc_once (subc (bodyOf Tryd.prog 16) [1, 0, 1, 0, 0]) rfl ?_
      refine wc_act { tmps := #[(vA #[(vS r0), (vS r1)]), (vP b151 0), (vI 0), vZ, (vS r1), (vP b151 0), (vS r0), (vP b151 1), (vS r1), (vL (some ⟨b159, 0, none⟩) 2 2), (vI 2), (vI 2), (vB true), (vP b159 1), (vS r1), (vS r1), (vB false), (vB false), vZ, vZ, vZ, (vB false), (vI 2), vZ, vZ, vZ, vZ, vZ, vZ, vZ, vZ, vZ, vZ], defers := [] } (by as_aux_lemma => kernel_rfl) ?_
      refine wc_upd (n := 200) (T := ⟨fun r i => match r, i with | _, _ => none, fun _ => none, none⟩) (x := (.exit 0)) (h1 := h157) [(12, (vB false))]
        (fun q => q) (by intro K'; as_aux_lemma => kernel_rfl) (fun _ q => q) ?_
      refine wc_upd (n := 200) (T := ⟨fun r i => match r, i with | 7, 1 => some ((vS r1), h157) | 7, 2 => some ((vB false), h157) | _, _ => none, fun _ => none, none⟩) (x := .ret) (h1 := h157) [(23, (vP b151 1)), (24, (vS r1)), (25, (vB false)), (26, (vB false)), (27, vZ), (28, vZ), (29, vZ), (30, vZ), (31, vZ), (32, (vB false)), (2, (vI 0))]
        (fun q => (loadT Tryd.prog h157 9 (vP b151 1) = some (vS r1) ∧ h157 = h157) ∧ (binA Tryd.prog .neq 9 (vS r1) (vS .empty) = some (vB false) ∧ h157 = h157) ∧ q) (by intro K'; as_aux_lemma => kernel_rfl) (fun _ q => ⟨⟨load_cell agg9 f165 rfl, rfl⟩, ⟨cmp_str_neq (decide_eq_false (not_not_intro c168)), rfl⟩, q⟩) ?_
      have e169 : (rchk r0 r1) = 0 := by unfold rchk; rw [if_pos c167, if_pos c168]
      refine end_at (T := ⟨fun _ _ => none, fun _ => none, none⟩) (A := K (vI 0) h157) (by kernel_rfl) ?_
      exact hK _ _ (⟨by rw [e169], x166⟩)
    · obtain ⟨_, hh170, sn171, rfl, x172⟩ := name_ok h157 r1
      have f173 := x172 _ _ f165
      have x175 := x166.trans x172
      rcases Bool.eq_false_or_eq_true ((nameB r1)) with c176 | c176
      · refine wc_upd (n := 200) (T := ⟨fun r i => match r, i with | 3, 1 => some ((vS r1), h157) | 4, 1 => some ((vB true), h157) | 4, 4 => some ((vB true), hh170) | _, _ => none, fun _ => none, none⟩) (x := .normal) (h1 := hh170) [(12, (vB true)), (13, (vP b159 1)), (14, (vS r1)), (4, (vS r1)), (15, (vS r1)), (16, (vB true)), (17, (vB true)), (18, (vS r1)), (19, (vB true)), (20, (vB false)), (21, (vB false)), (22, (vI 2)), (11, (vI 2))]
          (fun q => (loadT Tryd.prog h157 9 (vP b159 1) = some (vS r1) ∧ h157 = h157) ∧ (binA Tryd.prog .neq 9 (vS r1) (vS .empty) = some (vB true) ∧ h157 = h157) ∧ SoundCall Tryd.prog 37 #[(vS r1)] h157 (vB true) hh170 ∧ q) (by intro K'; as_aux_lemma => kernel_rfl) (fun _ q => ⟨⟨load_cell agg9 f161 rfl, rfl⟩, ⟨cmp_str_neq (decide_eq_true c168), rfl⟩, (by rw [← c176]; exact sn171), q⟩) ?_
        refine wc_once (subc (bodyOf Tryd.prog 16) [1, 0, 1, 0, 0]) rfl ?_
        refine wc_act { tmps := #[(vA #[(vS r0), (vS r1)]), (vP b151 0), (vI 0), vZ, (vS r1), (vP b151 0), (vS r0), (vP b151 1), (vS r1), (vL (some ⟨b159, 0, none⟩) 2 2), (vI 2), (vI 2), (vB true), (vP b159 1), (vS r1), (vS r1), (vB true), (vB true), (vS r1), (vB true), (vB false), (vB false), (vI 2), vZ, vZ, vZ, vZ, vZ, vZ, vZ, vZ, vZ, vZ], defers := [] } (by as_aux_lemma => kernel_rfl) ?_
        refine wc_upd (n := 200) (T := ⟨fun r i => match r, i with | _, _ => none, fun _ => none, none⟩) (x := (.exit 0)) (h1 := hh170) [(12, (vB false))]
          (fun q => q) (by intro K'; as_aux_lemma => kernel_rfl) (fun _ q => q) ?_
        rcases Bool.eq_false_or_eq_true (sl r0 r1) with c177 | c177
        · refine wc_upd (n := 200) (T := ⟨fun r i => match r, i with | 7, 1 => some ((vS r1), hh170) | 7, 2 => some ((vB true), hh170) | 7, 5 => some ((vS r1), hh170) | 7, 7 => some ((vS r0), hh170) | 7, 8 => some ((vB false), hh170) | _, _ => none, fun _ => none, none⟩) (x := .ret) (h1 := hh170) [(23, (vP b151 1)), (24, (vS r1)), (25, (vB true)), (26, (vB true)), (27, (vP b151 1)), (28, (vS r1)), (29, (vP b151 0)), (30, (vS r0)), (31, (vB false)), (32, (vB false)), (2, (vI 0))]
            (fun q => (loadT Tryd.prog hh170 9 (vP b151 1) = some (vS r1) ∧ hh170 = hh170) ∧ (binA Tryd.prog .neq 9 (vS r1) (vS .empty) = some (vB true) ∧ hh170 = hh170) ∧ (loadT Tryd.prog hh170 9 (vP b151 1) = some (vS r1) ∧ hh170 = hh170) ∧ (loadT Tryd.prog hh170 9 (vP b151 0) = some (vS r0) ∧ hh170 = hh170) ∧ (binA Tryd.prog .leq 9 (vS r1) (vS r0) = some (vB false) ∧ hh170 = hh170) ∧ q) (by intro K'; as_aux_lemma => kernel_rfl) (fun _ q => ⟨⟨load_cell agg9 f173 rfl, rfl⟩, ⟨cmp_str_neq (decide_eq_true c168), rfl⟩, ⟨load_cell agg9 f173 rfl, rfl⟩, ⟨load_cell agg9 f173 rfl, rfl⟩, ⟨str_leq c177, rfl⟩, q⟩) ?_
          have e178 : (rchk r0 r1) = 0 := by unfold rchk; rw [if_pos c167, if_neg c168, if_pos c176, if_pos c177]
          refine end_at (T := ⟨fun _ _ => none, fun _ => none, none⟩) (A := K (vI 0) hh170) (by kernel_rfl) ?_
          exact hK _ _ (⟨by rw [e178], x175⟩)
        · refine wc_upd (n := 200) (T := ⟨fun r i => match r, i with | 7, 1 => some ((vS r1), hh170) | 7, 2 => some ((vB true), hh170) | 7, 5 => some ((vS r1), hh170) | 7, 7 => some ((vS r0), hh170) | 7, 8 => some ((vB true), hh170) | _, _ => none, fun _ => none, none⟩) (x := .ret) (h1 := hh170) [(23, (vP b151 1)), (24, (vS r1)), (25, (vB true)), (26, (vB true)), (27, (vP b151 1)), (28, (vS r1)), (29, (vP b151 0)), (30, (vS r0)), (31, (vB true)), (32, (vB true)), (2, (vI 2))]
            (fun q => (loadT Tryd.prog hh170 9 (vP b151 1) = some (vS r1) ∧ hh170 = hh170) ∧ (binA Tryd.prog .neq 9 (vS r1) (vS .empty) = some (vB true) ∧ hh170 = hh170) ∧ (loadT Tryd.prog hh170 9 (vP b151 1) = some (vS r1) ∧ hh170 = hh170) ∧ (loadT Tryd.prog hh170 9 (vP b151 0) = some (vS r0) ∧ hh170 = hh170) ∧ (binA Tryd.prog .leq 9 (vS r1) (vS r0) = some (vB true) ∧ hh170 = hh170) ∧ q) (by intro K'; as_aux_lemma => kernel_rfl) (fun _ q => ⟨⟨load_cell agg9 f173 rfl, rfl⟩, ⟨cmp_str_neq (decide_eq_true c168), rfl⟩, ⟨load_cell agg9 f173 rfl, rfl⟩, ⟨load_cell agg9 f173 rfl, rfl⟩, ⟨str_leq c177, rfl⟩, q⟩) ?_
          have e179 : (rchk r0 r1) = 2 := by unfold rchk; rw [if_pos c167, if_neg c168, if_pos c176, if_neg (Bool.eq_false_iff.1 c177)]
          refine end_at (T := ⟨fun _ _ => none, fun _ => none, none⟩) (A := K (vI 2) hh170) (by kernel_rfl) ?_
          exact hK _ _ (⟨by rw [e179], x175⟩)
      · refine wc_upd (n := 200) (T := ⟨fun r i => match r, i with | 3, 1 => some ((vS r1), h157) | 4, 1 => some ((vB true), h157) | 4, 4 => some ((vB false), hh170) | _, _ => none, fun _ => none, none⟩) (x := .ret) (h1 := hh170) [(12, (vB true)), (13, (vP b159 1)), (14, (vS r1)), (4, (vS r1)), (15, (vS r1)), (16, (vB true)), (17, (vB true)), (18, (vS r1)), (19, (vB false)), (20, (vB true)), (21, (vB true)), (2, (vI 2))]
          (fun q => (loadT Tryd.prog h157 9 (vP b159 1) = some (vS r1) ∧ h157 = h157) ∧ (binA Tryd.prog .neq 9 (vS r1) (vS .empty) = some (vB true) ∧ h157 = h157) ∧ SoundCall Tryd.prog 37 #[(vS r1)] h157 (vB false) hh170 ∧ q) (by intro K'; as_aux_lemma => kernel_rfl) (fun _ q => ⟨⟨load_cell agg9 f161 rfl, rfl⟩, ⟨cmp_str_neq (decide_eq_true c168), rfl⟩, (by rw [← c176]; exact sn171), q⟩) ?_
        have e180 : (rchk r0 r1) = 2 := by unfold rchk; rw [if_pos c167, if_neg c168, if_neg (Bool.eq_false_iff.1 c176)]
        refine end_at (T := ⟨fun _ _ => none, fun _ => none, none⟩) (A := K (vI 2) hh170) (by kernel_rfl) ?_
        exact hK _ _ (⟨by rw [e180], x175⟩)
  · obtain ⟨_, hh181, sn182, rfl, x183⟩ := name_ok h157 r0
    have f184 := x183 _ _ f165
    have f185 := x183 _ _ f161
    have x186 := x166.trans x183
    rcases Bool.eq_false_or_eq_true ((nameB r0)) with c187 | c187
    · refine wc_upd (n := 200) (T := ⟨fun r i => match r, i with | 3, 1 => some ((vS r0), h157) | 4, 1 => some ((vB true), h157) | 4, 4 => some ((vB true), hh181) | _, _ => none, fun _ => none, none⟩) (x := .normal) (h1 := hh181) [(12, (vB true)), (13, (vP b159 0)), (14, (vS r0)), (4, (vS r0)), (15, (vS r0)), (16, (vB true)), (17, (vB true)), (18, (vS r0)), (19, (vB true)), (20, (vB false)), (21, (vB false)), (22, (vI 1)), (11, (vI 1))]
        (fun q => (loadT Tryd.prog h157 9 (vP b159 0) = some (vS r0) ∧ h157 = h157) ∧ (binA Tryd.prog .neq 9 (vS r0) (vS .empty) = some (vB true) ∧ h157 = h157) ∧ SoundCall Tryd.prog 37 #[(vS r0)] h157 (vB true) hh181 ∧ q) (by intro K'; as_aux_lemma => kernel_rfl) (fun _ q => ⟨⟨load_cell agg9 f161 rfl, rfl⟩, ⟨cmp_str_neq (decide_eq_true c167), rfl⟩, (by rw [← c187]; exact sn182), q⟩) ?_
      refine wc_once (subc (bodyOf Tryd.prog 16) [1, 0, 1, 0, 0]) rfl ?_
      by_cases c188 : (r1 : ByteArray) = .empty
      · refine wc_upd (n := 200) (T := ⟨fun r i => match r, i with | 3, 1 => some ((vS r1), hh181) | 4, 1 => some ((vB false), hh181) | _, _ => none, fun _ => none, none⟩) (x := .normal) (h1 := hh181) [(12, (vB true)), (13, (vP b159 1)), (14, (vS r1)), (4, (vS r1)), (15, (vS r1)), (16, (vB false)), (17, (vB false)), (18, vZ), (19, vZ), (20, vZ), (21, (vB false)), (22, (vI 2)), (11, (vI 2))]
          (fun q => (loadT Tryd.prog hh181 9 (vP b159 1) = some (vS r1) ∧ hh181 = hh181) ∧ (binA Tryd.prog .neq 9 (vS r1) (vS .empty) = some (vB false) ∧ hh181 = hh181) ∧ q) (by intro K'; as_aux_lemma => kernel_rfl) (fun _ q => ⟨⟨load_cell agg9 f185 rfl, rfl⟩, ⟨cmp_str_neq (decide_eq_false (not_not_intro c188)), rfl⟩, q⟩) ?_
        refine wc_once (subc (bodyOf Tryd.prog 16) [1, 0, 1, 0, 0]) rfl ?_
        refine wc_act { tmps := #[(vA #[(vS r0), (vS r1)]), (vP b151 0), (vI 0), vZ, (vS r1), (vP b151 0), (vS r0), (vP b151 1), (vS r1), (vL (some ⟨b159, 0, none⟩) 2 2), (vI 2), (vI 2), (vB true), (vP b159 1), (vS r1), (vS r1), (vB false), (vB false), vZ, vZ, vZ, (vB false), (vI 2), vZ, vZ, vZ, vZ, vZ, vZ, vZ, vZ, vZ, vZ], defers := [] } (by as_aux_lemma => kernel_rfl) ?_
        refine wc_upd (n := 200) (T := ⟨fun r i => match r, i with | _, _ => none, fun _ => none, none⟩) (x := (.exit 0)) (h1 := hh181) [(12, (vB false))]
          (fun q => q) (by intro K'; as_aux_lemma => kernel_rfl) (fun _ q => q) ?_
        refine wc_upd (n := 200) (T := ⟨fun r i => match r, i with | 7, 1 => some ((vS r1), hh181) | 7, 2 => some ((vB false), hh181) | _, _ => none, fun _ => none, none⟩) (x := .ret) (h1 := hh181) [(23, (vP b151 1)), (24, (vS r1)), (25, (vB false)), (26, (vB false)), (27, vZ), (28, vZ), (29, vZ), (30, vZ), (31, vZ), (32, (vB false)), (2, (vI 0))]
          (fun q => (loadT Tryd.prog hh181 9 (vP b151 1) = some (vS r1) ∧ hh181 = hh181) ∧ (binA Tryd.prog .neq 9 (vS r1) (vS .empty) = some (vB false) ∧ hh181 = hh181) ∧ q) (by intro K'; as_aux_lemma => kernel_rfl) (fun _ q => ⟨⟨load_cell agg9 f184 rfl, rfl⟩, ⟨cmp_str_neq (decide_eq_false (not_not_intro c188)), rfl⟩, q⟩) ?_
        have e189 : (rchk r0 r1) = 0 := by unfold rchk; rw [if_neg c167, if_pos c187, if_pos c188]
        refine end_at (T := ⟨fun _ _ => none, fun _ => none, none⟩) (A := K (vI 0) hh181) (by kernel_rfl) ?_
        exact hK _ _ (⟨by rw [e189], x186⟩)
      · obtain ⟨_, hh190, sn191, rfl, x192⟩ := name_ok hh181 r1
        have f193 := x192 _ _ f184
        have x195 := x186.trans x192
        rcases Bool.eq_false_or_eq_true ((nameB r1)) with c196 | c196
        · refine wc_upd (n := 200) (T := ⟨fun r i => match r, i with | 3, 1 => some ((vS r1), hh181) | 4, 1 => some ((vB true), hh181) | 4, 4 => some ((vB true), hh190) | _, _ => none, fun _ => none, none⟩) (x := .normal) (h1 := hh190) [(12, (vB true)), (13, (vP b159 1)), (14, (vS r1)), (4, (vS r1)), (15, (vS r1)), (16, (vB true)), (17, (vB true)), (18, (vS r1)), (19, (vB true)), (20, (vB false)), (21, (vB false)), (22, (vI 2)), (11, (vI 2))]
            (fun q => (loadT Tryd.prog hh181 9 (vP b159 1) = some (vS r1) ∧ hh181 = hh181) ∧ (binA Tryd.prog .neq 9 (vS r1) (vS .empty) = some (vB true) ∧ hh181 = hh181) ∧ SoundCall Tryd.prog 37 #[(vS r1)] hh181 (vB true) hh190 ∧ q) (by intro K'; as_aux_lemma => kernel_rfl) (fun _ q => ⟨⟨load_cell agg9 f185 rfl, rfl⟩, ⟨cmp_str_neq (decide_eq_true c188), rfl⟩, (by rw [← c196]; exact sn191), q⟩) ?_
          refine wc_once (subc (bodyOf Tryd.prog 16) [1, 0, 1, 0, 0]) rfl ?_
          refine wc_act { tmps := #[(vA #[(vS r0), (vS r1)]), (vP b151 0), (vI 0), vZ, (vS r1), (vP b151 0), (vS r0), (vP b151 1), (vS r1), (vL (some ⟨b159, 0, none⟩) 2 2), (vI 2), (vI 2), (vB true), (vP b159 1), (vS r1), (vS r1), (vB true), (vB true), (vS r1), (vB true), (vB false), (vB false), (vI 2), vZ, vZ, vZ, vZ, vZ, vZ, vZ, vZ, vZ, vZ], defers := [] } (by as_aux_lemma => kernel_rfl) ?_
          refine wc_upd (n := 200) (T := ⟨fun r i => match r, i with | _, _ => none, fun _ => none, none⟩) (x := (.exit 0)) (h1 := hh190) [(12, (vB false))]
            (fun q => q) (by intro K'; as_aux_lemma => kernel_rfl) (fun _ q => q) ?_
          rcases Bool.eq_false_or_eq_true (sl r0 r1) with c197 | c197
          · refine wc_upd (n := 200) (T := ⟨fun r i => match r, i with | 7, 1 => some ((vS r1), hh190) | 7, 2 => some ((vB true), hh190) | 7, 5 => some ((vS r1), hh190) | 7, 7 => some ((vS r0), hh190) | 7, 8 => some ((vB false), hh190) | _, _ => none, fun _ => none, none⟩) (x := .ret) (h1 := hh190) [(23, (vP b151 1)), (24, (vS r1)), (25, (vB true)), (26, (vB true)), (27, (vP b151 1)), (28, (vS r1)), (29, (vP b151 0)), (30, (vS r0)), (31, (vB false)), (32, (vB false)), (2, (vI 0))]
              (fun q => (loadT Tryd.prog hh190 9 (vP b151 1) = some (vS r1) ∧ hh190 = hh190) ∧ (binA Tryd.prog .neq 9 (vS r1) (vS .empty) = some (vB true) ∧ hh190 = hh190) ∧ (loadT Tryd.prog hh190 9 (vP b151 1) = some (vS r1) ∧ hh190 = hh190) ∧ (loadT Tryd.prog hh190 9 (vP b151 0) = some (vS r0) ∧ hh190 = hh190) ∧ (binA Tryd.prog .leq 9 (vS r1) (vS r0) = some (vB false) ∧ hh190 = hh190) ∧ q) (by intro K'; as_aux_lemma => kernel_rfl) (fun _ q => ⟨⟨load_cell agg9 f193 rfl, rfl⟩, ⟨cmp_str_neq (decide_eq_true c188), rfl⟩, ⟨load_cell agg9 f193 rfl, rfl⟩, ⟨load_cell agg9 f193 rfl, rfl⟩, ⟨str_leq c197, rfl⟩, q⟩) ?_
            have e198 : (rchk r0 r1) = 0 := by unfold rchk; rw [if_neg c167, if_pos c187, if_neg c188, if_pos c196, if_pos c197]
            refine end_at (T := ⟨fun _ _ => none, fun _ => none, none⟩) (A := K (vI 0) hh190) (by kernel_rfl) ?_
            exact hK _ _ (⟨by rw [e198], x195⟩)
          · refine wc_upd (n := 200) (T := ⟨fun r i => match r, i with | 7, 1 => some ((vS r1), hh190) | 7, 2 => some ((vB true), hh190) | 7, 5 => some ((vS r1), hh190) | 7, 7 => some ((vS r0), hh190) | 7, 8 => some ((vB true), hh190) | _, _ => none, fun _ => none, none⟩) (x := .ret) (h1 := hh190) [(23, (vP b151 1)), (24, (vS r1)), (25, (vB true)), (26, (vB true)), (27, (vP b151 1)), (28, (vS r1)), (29, (vP b151 0)), (30, (vS r0)), (31, (vB true)), (32, (vB true)), (2, (vI 2))]
              (fun q => (loadT Tryd.prog hh190 9 (vP b151 1) = some (vS r1) ∧ hh190 = hh190) ∧ (binA Tryd.prog .neq 9 (vS r1) (vS .empty) = some (vB true) ∧ hh190 = hh190) ∧ (loadT Tryd.prog hh190 9 (vP b151 1) = some (vS r1) ∧ hh190 = hh190) ∧ (loadT Tryd.prog hh190 9 (vP b151 0) = some (vS r0) ∧ hh190 = hh190) ∧ (binA Tryd.prog .leq 9 (vS r1) (vS r0) = some (vB true) ∧ hh190 = hh190) ∧ q) (by intro K'; as_aux_lemma => kernel_rfl) (fun _ q => ⟨⟨load_cell agg9 f193 rfl, rfl⟩, ⟨cmp_str_neq (decide_eq_true c188), rfl⟩, ⟨load_cell agg9 f193 rfl, rfl⟩, ⟨load_cell agg9 f193 rfl, rfl⟩, ⟨str_leq c197, rfl⟩, q⟩) ?_
            have e199 : (rchk r0 r1) = 2 := by unfold rchk; rw [if_neg c167, if_pos c187, if_neg c188, if_pos c196, if_neg (Bool.eq_false_iff.1 c197)]
            refine end_at (T := ⟨fun _ _ => none, fun _ => none, none⟩) (A := K (vI 2) hh190) (by kernel_rfl) ?_
            exact hK _ _ (⟨by rw [e199], x195⟩)
        · refine wc_upd (n := 200) (T := ⟨fun r i => match r, i with | 3, 1 => some ((vS r1), hh181) | 4, 1 => some ((vB true), hh181) | 4, 4 => some ((vB false), hh190) | _, _ => none, fun _ => none, none⟩) (x := .ret) (h1 := hh190) [(12, (vB true)), (13, (vP b159 1)), (14, (vS r1)), (4, (vS r1)), (15, (vS r1)), (16, (vB true)), (17, (vB true)), (18, (vS r1)), (19, (vB false)), (20, (vB true)), (21, (vB true)), (2, (vI 2))]
            (fun q => (loadT Tryd.prog hh181 9 (vP b159 1) = some (vS r1) ∧ hh181 = hh181) ∧ (binA Tryd.prog .neq 9 (vS r1) (vS .empty) = some (vB true) ∧ hh181 = hh181) ∧ SoundCall Tryd.prog 37 #[(vS r1)] hh181 (vB false) hh190 ∧ q) (by intro K'; as_aux_lemma => kernel_rfl) (fun _ q => ⟨⟨load_cell agg9 f185 rfl, rfl⟩, ⟨cmp_str_neq (decide_eq_true c188), rfl⟩, (by rw [← c196]; exact sn191), q⟩) ?_
          have e200 : (rchk r0 r1) = 2 := by unfold rchk; rw [if_neg c167, if_pos c187, if_neg c188, if_neg (Bool.eq_false_iff.1 c196)]
          refine end_at (T := ⟨fun _ _ => none, fun _ => none, none⟩) (A := K (vI 2) hh190) (by kernel_rfl) ?_
          exact hK _ _ (⟨by rw [e200], x195⟩)
    · refine wc_upd (n := 200) (T := ⟨fun r i => match r, i with | 3, 1 => some ((vS r0), h157) | 4, 1 => some ((vB true), h157) | 4, 4 => some ((vB false), hh181) | _, _ => none, fun _ => none, none⟩) (x := .ret) (h1 := hh181) [(12, (vB true)), (13, (vP b159 0)), (14, (vS r0)), (4, (vS r0)), (15, (vS r0)), (16, (vB true)), (17, (vB true)), (18, (vS r0)), (19, (vB false)), (20, (vB true)), (21, (vB true)), (2, (vI 2))]
        (fun q => (loadT Tryd.prog h157 9 (vP b159 0) = some (vS r0) ∧ h157 = h157) ∧ (binA Tryd.prog .neq 9 (vS r0) (vS .empty) = some (vB true) ∧ h157 = h157) ∧ SoundCall Tryd.prog 37 #[(vS r0)] h157 (vB false) hh181 ∧ q) (by intro K'; as_aux_lemma => kernel_rfl) (fun _ q => ⟨⟨load_cell agg9 f161 rfl, rfl⟩, ⟨cmp_str_neq (decide_eq_true c167), rfl⟩, (by rw [← c187]; exact sn182), q⟩) ?_
      have e201 : (rchk r0 r1) = 2 := by unfold rchk; rw [if_neg c167, if_neg (Bool.eq_false_iff.1 c187)]
      refine end_at (T := ⟨fun _ _ => none, fun _ => none, none⟩) (A := K (vI 2) hh181) (by kernel_rfl) ?_
      exact hK _ _ (⟨by rw [e201], x186⟩)
set_option maxHeartbeats 4000000 in
theorem ends_1 (h : Heap) (a0 : ByteArray) (a1 : ByteArray) {bs : Nat} (hbs : h[bs]? = some (.cells #[(vS a0), (vS a1)] 30 (0, 0))) : WCall Tryd.prog 38 #[(Value.slice (some ⟨bs, 0, none⟩) 1 1)] h (fun v h1 => v = .tuple #[if rchk a0 a1 = 0 then .func (.func 55) #[] #[] else .nilFunc, .int .i64 (rchk a0 a1)] ∧ Ext h h1) := by
  suffices H : ∀ K : Value → Heap → Prop, (∀ v h1, (fun v h1 => v = .tuple #[if rchk a0 a1 = 0 then .func (.func 55) #[] #[] else .nilFunc, .int .i64 (rchk a0 a1)] ∧ Ext h h1) v h1 → K v h1) → WCall Tryd.prog 38 #[(Value.slice (some ⟨bs, 0, none⟩) 1 1)] h K from H _ fun _ _ q => q
  intro K hK
  refine wcall_at { tmps := #[(vL (some ⟨bs, 0, none⟩) 1 1), vZ, vZ, vZ, vZ, vZ, vZ, vZ, vZ, vZ, vZ, vZ, vZ, vZ, vZ, vZ, vZ, vZ, vZ], defers := [] } (by kernel_rfl) ?_
  refine wc_seq' (subc (bodyOf Tryd.prog 38) [0]) (subc (bodyOf Tryd.prog 38) [1]) (by kernel_rfl) ?_
  refine wc_upd (n := 200) (T := ⟨fun r i => match r, i with | _, _ => none, fun _ => none, none⟩) (x := .normal) (h1 := h) [(2, Value.nilFunc), (3, (vI 0))]
    (fun q => q) (by intro K'; as_aux_lemma => kernel_rfl) (fun _ q => q) ?_
  refine wc_seq' (subc (bodyOf Tryd.prog 38) [1, 0]) (subc (bodyOf Tryd.prog 38) [1, 1]) (by kernel_rfl) ?_
  refine wc_seq' (subc (bodyOf Tryd.prog 38) [1, 0, 0]) (subc (bodyOf Tryd.prog 38) [1, 0, 1]) (by kernel_rfl) ?_
  refine wc_upd (n := 200) (T := ⟨fun r i => match r, i with | _, _ => none, fun _ => none, none⟩) (x := .normal) (h1 := h) [(7, (vL (some ⟨bs, 0, none⟩) 1 1)), (8, (vI 1)), (9, (vI 0))]
    (fun q => q) (by intro K'; as_aux_lemma => kernel_rfl) (fun _ q => q) ?_
  refine wc_block' 0 (subc (bodyOf Tryd.prog 38) [1, 0, 1, 0]) (by kernel_rfl) ?_
  refine wc_once (subc (bodyOf Tryd.prog 38) [1, 0, 1, 0, 0]) (by kernel_rfl) ?_
  obtain ⟨b204, eb205⟩ : ∃ zq, zq = h.size := ⟨_, rfl⟩
  obtain ⟨h202, e203⟩ : ∃ zq, zq = h.push (.cells #[(vS .empty), (vS .empty)] 30 (0, 0)) := ⟨_, rfl⟩
  have f206 := push_new e203
  rw [← eb205] at f206
  have x208 : Ext h h202 := by rw [e203]; exact Ext.push _ _
  have o209 : h.size ≤ b204 := by have := (Ext.refl h).size; omega
  have x211 := (Ext.refl h).trans x208
  obtain ⟨h212, e213⟩ : ∃ zq, zq = h202.setIfInBounds b204 (.cells #[(vS a0), (vS a1)] 30 (0, 0)) := ⟨_, rfl⟩
  have f214 := set_same e213 f206
  have x217 := Ext.setNew x211 e213 o209
  obtain ⟨_, hh218, sn219, rfl, x220⟩ := rchk_ok h212 a0 a1 
  have x223 := x217.trans x220
  by_cases c224 : (((rchk a0 a1)) : Int) = 0
  · refine wc_upd (n := 200) (T := ⟨fun r i => match r, i with | 3, 1 => some ((vA #[(vS a0), (vS a1)]), h) | 3, 2 => some ((vP b204 0), h202) | 3, 3 => some (undef, h212) | 4, 0 => some ((vA #[(vS a0), (vS a1)]), h212) | 4, 1 => some ((vI ((rchk a0 a1))), hh218) | 5, 1 => some ((vB false), hh218) | _, _ => none, fun _ => none, none⟩) (x := .normal) (h1 := hh218) [(10, (vB true)), (11, (vP bs 0)), (12, (vA #[(vS a0), (vS a1)])), (5, (vP b204 0)), (13, (vA #[(vS a0), (vS a1)])), (14, (vI ((rchk a0 a1)))), (6, (vI ((rchk a0 a1)))), (15, (vI ((rchk a0 a1)))), (16, (vB false)), (18, (vI 1)), (9, (vI 1))]
      (fun q => (loadT Tryd.prog h 30 (vP bs 0) = some (vA #[(vS a0), (vS a1)]) ∧ h = h) ∧ ((vP b204 0) = (Value.pointer (some ⟨h.size, 0, none⟩)) ∧ h202 = h.push (.cells #[(vS .empty), (vS .empty)] 30 (0, 0))) ∧ (storeT Tryd.prog h202 30 (vP b204 0) (vA #[(vS a0), (vS a1)]) = some h212 ∧ (undef : Value) = undef) ∧ (loadT Tryd.prog h212 30 (vP b204 0) = some (vA #[(vS a0), (vS a1)]) ∧ h212 = h212) ∧ SoundCall Tryd.prog 16 #[(vA #[(vS a0), (vS a1)])] h212 (vI ((rchk a0 a1))) hh218 ∧ (binA Tryd.prog .neq 33 (vI ((rchk a0 a1))) (vI 0) = some (vB false) ∧ hh218 = hh218) ∧ q) (by intro K'; as_aux_lemma => kernel_rfl) (fun _ q => ⟨⟨load_agg agg30 size30 hbs (by simp) (by kernel_rfl), rfl⟩, ⟨by rw [eb205], e203⟩, ⟨by rw [e213]; exact store_cells size30 rfl f206 (by decide) (by simp) rfl (by kernel_rfl), rfl⟩, ⟨load_agg agg30 size30 f214 (by simp) (by kernel_rfl), rfl⟩, sn219, ⟨cmp_neq (decide_eq_false (not_not_intro c224)), rfl⟩, q⟩) ?_
    refine wc_once (subc (bodyOf Tryd.prog 38) [1, 0, 1, 0, 0]) rfl ?_
    refine wc_upd (n := 200) (T := ⟨fun r i => match r, i with | _, _ => none, fun _ => none, none⟩) (x := (.exit 0)) (h1 := hh218) [(10, (vB false))]
      (fun q => q) (by intro K'; as_aux_lemma => kernel_rfl) (fun _ q => q) ?_
    refine wc_upd (n := 200) (T := ⟨fun r i => match r, i with | _, _ => none, fun _ => none, none⟩) (x := .ret) (h1 := hh218) [(2, (Value.func (.func 55) #[] #[])), (3, (vI 0))]
      (fun q => q) (by intro K'; as_aux_lemma => kernel_rfl) (fun _ q => q) ?_
    refine end_at (T := ⟨fun _ _ => none, fun _ => none, none⟩) (A := K (vT #[(Value.func (.func 55) #[] #[]), (vI 0)]) hh218) (by kernel_rfl) ?_
    exact hK _ _ (⟨by rw [if_pos c224]; rw [c224], x223⟩)
  · refine wc_upd (n := 200) (T := ⟨fun r i => match r, i with | 3, 1 => some ((vA #[(vS a0), (vS a1)]), h) | 3, 2 => some ((vP b204 0), h202) | 3, 3 => some (undef, h212) | 4, 0 => some ((vA #[(vS a0), (vS a1)]), h212) | 4, 1 => some ((vI ((rchk a0 a1))), hh218) | 5, 1 => some ((vB true), hh218) | _, _ => none, fun _ => none, none⟩) (x := .ret) (h1 := hh218) [(10, (vB true)), (11, (vP bs 0)), (12, (vA #[(vS a0), (vS a1)])), (5, (vP b204 0)), (13, (vA #[(vS a0), (vS a1)])), (14, (vI ((rchk a0 a1)))), (6, (vI ((rchk a0 a1)))), (15, (vI ((rchk a0 a1)))), (16, (vB true)), (17, (vI ((rchk a0 a1)))), (2, Value.nilFunc), (3, (vI ((rchk a0 a1))))]
      (fun q => (loadT Tryd.prog h 30 (vP bs 0) = some (vA #[(vS a0), (vS a1)]) ∧ h = h) ∧ ((vP b204 0) = (Value.pointer (some ⟨h.size, 0, none⟩)) ∧ h202 = h.push (.cells #[(vS .empty), (vS .empty)] 30 (0, 0))) ∧ (storeT Tryd.prog h202 30 (vP b204 0) (vA #[(vS a0), (vS a1)]) = some h212 ∧ (undef : Value) = undef) ∧ (loadT Tryd.prog h212 30 (vP b204 0) = some (vA #[(vS a0), (vS a1)]) ∧ h212 = h212) ∧ SoundCall Tryd.prog 16 #[(vA #[(vS a0), (vS a1)])] h212 (vI ((rchk a0 a1))) hh218 ∧ (binA Tryd.prog .neq 33 (vI ((rchk a0 a1))) (vI 0) = some (vB true) ∧ hh218 = hh218) ∧ q) (by intro K'; as_aux_lemma => kernel_rfl) (fun _ q => ⟨⟨load_agg agg30 size30 hbs (by simp) (by kernel_rfl), rfl⟩, ⟨by rw [eb205], e203⟩, ⟨by rw [e213]; exact store_cells size30 rfl f206 (by decide) (by simp) rfl (by kernel_rfl), rfl⟩, ⟨load_agg agg30 size30 f214 (by simp) (by kernel_rfl), rfl⟩, sn219, ⟨cmp_neq (decide_eq_true c224), rfl⟩, q⟩) ?_
    refine end_at (T := ⟨fun _ _ => none, fun _ => none, none⟩) (A := K (vT #[Value.nilFunc, (vI ((rchk a0 a1)))]) hh218) (by kernel_rfl) ?_
    exact hK _ _ (⟨by rw [if_neg c224], x223⟩)
set_option maxHeartbeats 4000000 in
theorem ends_2 (h : Heap) (a0 : ByteArray) (a1 : ByteArray) (b0 : ByteArray) (b1 : ByteArray) {bs : Nat} (hbs : h[bs]? = some (.cells #[(vS a0), (vS a1), (vS b0), (vS b1)] 30 (0, 0))) : WCall Tryd.prog 38 #[(Value.slice (some ⟨bs, 0, none⟩) 2 2)] h (fun v h1 => v = .tuple #[if (if rchk a0 a1 = 0 then rchk b0 b1 else rchk a0 a1) = 0 then .func (.func 55) #[] #[] else .nilFunc, .int .i64 ((if rchk a0 a1 = 0 then rchk b0 b1 else rchk a0 a1))] ∧ Ext h h1) := by
  suffices H : ∀ K : Value → Heap → Prop, (∀ v h1, (fun v h1 => v = .tuple #[if (if rchk a0 a1 = 0 then rchk b0 b1 else rchk a0 a1) = 0 then .func (.func 55) #[] #[] else .nilFunc, .int .i64 ((if rchk a0 a1 = 0 then rchk b0 b1 else rchk a0 a1))] ∧ Ext h h1) v h1 → K v h1) → WCall Tryd.prog 38 #[(Value.slice (some ⟨bs, 0, none⟩) 2 2)] h K from H _ fun _ _ q => q
  intro K hK
  refine wcall_at { tmps := #[(vL (some ⟨bs, 0, none⟩) 2 2), vZ, vZ, vZ, vZ, vZ, vZ, vZ, vZ, vZ, vZ, vZ, vZ, vZ, vZ, vZ, vZ, vZ, vZ], defers := [] } (by kernel_rfl) ?_
  refine wc_seq' (subc (bodyOf Tryd.prog 38) [0]) (subc (bodyOf Tryd.prog 38) [1]) (by kernel_rfl) ?_
  refine wc_upd (n := 200) (T := ⟨fun r i => match r, i with | _, _ => none, fun _ => none, none⟩) (x := .normal) (h1 := h) [(2, Value.nilFunc), (3, (vI 0))]
    (fun q => q) (by intro K'; as_aux_lemma => kernel_rfl) (fun _ q => q) ?_
  refine wc_seq' (subc (bodyOf Tryd.prog 38) [1, 0]) (subc (bodyOf Tryd.prog 38) [1, 1]) (by kernel_rfl) ?_
  refine wc_seq' (subc (bodyOf Tryd.prog 38) [1, 0, 0]) (subc (bodyOf Tryd.prog 38) [1, 0, 1]) (by kernel_rfl) ?_
  refine wc_upd (n := 200) (T := ⟨fun r i => match r, i with | _, _ => none, fun _ => none, none⟩) (x := .normal) (h1 := h) [(7, (vL (some ⟨bs, 0, none⟩) 2 2)), (8, (vI 2)), (9, (vI 0))]
    (fun q => q) (by intro K'; as_aux_lemma => kernel_rfl) (fun _ q => q) ?_
  refine wc_block' 0 (subc (bodyOf Tryd.prog 38) [1, 0, 1, 0]) (by kernel_rfl) ?_
  refine wc_once (subc (bodyOf Tryd.prog 38) [1, 0, 1, 0, 0]) (by kernel_rfl) ?_
  obtain ⟨b227, eb228⟩ : ∃ zq, zq = h.size := ⟨_, rfl⟩
  obtain ⟨h225, e226⟩ : ∃ zq, zq = h.push (.cells #[(vS .empty), (vS .empty)] 30 (0, 0)) := ⟨_, rfl⟩
  have f229 := push_new e226
  rw [← eb228] at f229
  have n230 : b227 ≠ bs := by have := row_lt hbs; omega
  have x231 : Ext h h225 := by rw [e226]; exact Ext.push _ _
  have o232 : h.size ≤ b227 := by have := (Ext.refl h).size; omega
  have f233 := x231 _ _ hbs
  have x234 := (Ext.refl h).trans x231
  obtain ⟨h235, e236⟩ : ∃ zq, zq = h225.setIfInBounds b227 (.cells #[(vS a0), (vS a1)] 30 (0, 0)) := ⟨_, rfl⟩
  have f237 := set_same e236 f229
  have f238 := set_other e236 f233 n230
  have x240 := Ext.setNew x234 e236 o232
  obtain ⟨_, hh241, sn242, rfl, x243⟩ := rchk_ok h235 a0 a1 
  have f244 := x243 _ _ f238
  have x246 := x240.trans x243
  by_cases c247 : (((rchk a0 a1)) : Int) = 0
  · refine wc_upd (n := 200) (T := ⟨fun r i => match r, i with | 3, 1 => some ((vA #[(vS a0), (vS a1)]), h) | 3, 2 => some ((vP b227 0), h225) | 3, 3 => some (undef, h235) | 4, 0 => some ((vA #[(vS a0), (vS a1)]), h235) | 4, 1 => some ((vI ((rchk a0 a1))), hh241) | 5, 1 => some ((vB false), hh241) | _, _ => none, fun _ => none, none⟩) (x := .normal) (h1 := hh241) [(10, (vB true)), (11, (vP bs 0)), (12, (vA #[(vS a0), (vS a1)])), (5, (vP b227 0)), (13, (vA #[(vS a0), (vS a1)])), (14, (vI ((rchk a0 a1)))), (6, (vI ((rchk a0 a1)))), (15, (vI ((rchk a0 a1)))), (16, (vB false)), (18, (vI 1)), (9, (vI 1))]
      (fun q => (loadT Tryd.prog h 30 (vP bs 0) = some (vA #[(vS a0), (vS a1)]) ∧ h = h) ∧ ((vP b227 0) = (Value.pointer (some ⟨h.size, 0, none⟩)) ∧ h225 = h.push (.cells #[(vS .empty), (vS .empty)] 30 (0, 0))) ∧ (storeT Tryd.prog h225 30 (vP b227 0) (vA #[(vS a0), (vS a1)]) = some h235 ∧ (undef : Value) = undef) ∧ (loadT Tryd.prog h235 30 (vP b227 0) = some (vA #[(vS a0), (vS a1)]) ∧ h235 = h235) ∧ SoundCall Tryd.prog 16 #[(vA #[(vS a0), (vS a1)])] h235 (vI ((rchk a0 a1))) hh241 ∧ (binA Tryd.prog .neq 33 (vI ((rchk a0 a1))) (vI 0) = some (vB false) ∧ hh241 = hh241) ∧ q) (by intro K'; as_aux_lemma => kernel_rfl) (fun _ q => ⟨⟨load_agg agg30 size30 hbs (by simp) (by kernel_rfl), rfl⟩, ⟨by rw [eb228], e226⟩, ⟨by rw [e236]; exact store_cells size30 rfl f229 (by decide) (by simp) rfl (by kernel_rfl), rfl⟩, ⟨load_agg agg30 size30 f237 (by simp) (by kernel_rfl), rfl⟩, sn242, ⟨cmp_neq (decide_eq_false (not_not_intro c247)), rfl⟩, q⟩) ?_
    refine wc_once (subc (bodyOf Tryd.prog 38) [1, 0, 1, 0, 0]) rfl ?_
    obtain ⟨b250, eb251⟩ : ∃ zq, zq = hh241.size := ⟨_, rfl⟩
    obtain ⟨h248, e249⟩ : ∃ zq, zq = hh241.push (.cells #[(vS .empty), (vS .empty)] 30 (0, 0)) := ⟨_, rfl⟩
    have f252 := push_new e249
    rw [← eb251] at f252
    have x255 : Ext hh241 h248 := by rw [e249]; exact Ext.push _ _
    have o256 : h.size ≤ b250 := by have := x246.size; omega
    have x259 := x246.trans x255
    obtain ⟨h260, e261⟩ : ∃ zq, zq = h248.setIfInBounds b250 (.cells #[(vS b0), (vS b1)] 30 (0, 0)) := ⟨_, rfl⟩
    have f262 := set_same e261 f252
    have x266 := Ext.setNew x259 e261 o256
    obtain ⟨_, hh267, sn268, rfl, x269⟩ := rchk_ok h260 b0 b1 
    have x273 := x266.trans x269
    by_cases c274 : (((rchk b0 b1)) : Int) = 0
    · refine wc_upd (n := 200) (T := ⟨fun r i => match r, i with | 3, 1 => some ((vA #[(vS b0), (vS b1)]), hh241) | 3, 2 => some ((vP b250 0), h248) | 3, 3 => some (undef, h260) | 4, 0 => some ((vA #[(vS b0), (vS b1)]), h260) | 4, 1 => some ((vI ((rchk b0 b1))), hh267) | 5, 1 => some ((vB false), hh267) | _, _ => none, fun _ => none, none⟩) (x := .normal) (h1 := hh267) [(10, (vB true)), (11, (vP bs 2)), (12, (vA #[(vS b0), (vS b1)])), (5, (vP b250 0)), (13, (vA #[(vS b0), (vS b1)])), (14, (vI ((rchk b0 b1)))), (6, (vI ((rchk b0 b1)))), (15, (vI ((rchk b0 b1)))), (16, (vB false)), (18, (vI 2)), (9, (vI 2))]
        (fun q => (loadT Tryd.prog hh241 30 (vP bs 2) = some (vA #[(vS b0), (vS b1)]) ∧ hh241 = hh241) ∧ ((vP b250 0) = (Value.pointer (some ⟨hh241.size, 0, none⟩)) ∧ h248 = hh241.push (.cells #[(vS .empty), (vS .empty)] 30 (0, 0))) ∧ (storeT Tryd.prog h248 30 (vP b250 0) (vA #[(vS b0), (vS b1)]) = some h260 ∧ (undef : Value) = undef) ∧ (loadT Tryd.prog h260 30 (vP b250 0) = some (vA #[(vS b0), (vS b1)]) ∧ h260 = h260) ∧ SoundCall Tryd.prog 16 #[(vA #[(vS b0), (vS b1)])] h260 (vI ((rchk b0 b1))) hh267 ∧ (binA Tryd.prog .neq 33 (vI ((rchk b0 b1))) (vI 0) = some (vB false) ∧ hh267 = hh267) ∧ q) (by intro K'; as_aux_lemma => kernel_rfl) (fun _ q => ⟨⟨load_agg agg30 size30 f244 (by simp) (by kernel_rfl), rfl⟩, ⟨by rw [eb251], e249⟩, ⟨by rw [e261]; exact store_cells size30 rfl f252 (by decide) (by simp) rfl (by kernel_rfl), rfl⟩, ⟨load_agg agg30 size30 f262 (by simp) (by kernel_rfl), rfl⟩, sn268, ⟨cmp_neq (decide_eq_false (not_not_intro c274)), rfl⟩, q⟩) ?_
      refine wc_once (subc (bodyOf Tryd.prog 38) [1, 0, 1, 0, 0]) rfl ?_
      refine wc_act { tmps := #[(vL (some ⟨bs, 0, none⟩) 2 2), vZ, Value.nilFunc, (vI 0), vZ, (vP b250 0), (vI ((rchk b0 b1))), (vL (some ⟨bs, 0, none⟩) 2 2), (vI 2), (vI 2), (vB true), (vP bs 2), (vA #[(vS b0), (vS b1)]), (vA #[(vS b0), (vS b1)]), (vI ((rchk b0 b1))), (vI ((rchk b0 b1))), (vB false), vZ, (vI 2)], defers := [] } (by as_aux_lemma => kernel_rfl) ?_
      refine wc_upd (n := 200) (T := ⟨fun r i => match r, i with | _, _ => none, fun _ => none, none⟩) (x := (.exit 0)) (h1 := hh267) [(10, (vB false))]
        (fun q => q) (by intro K'; as_aux_lemma => kernel_rfl) (fun _ q => q) ?_
      refine wc_upd (n := 200) (T := ⟨fun r i => match r, i with | _, _ => none, fun _ => none, none⟩) (x := .ret) (h1 := hh267) [(2, (Value.func (.func 55) #[] #[])), (3, (vI 0))]
        (fun q => q) (by intro K'; as_aux_lemma => kernel_rfl) (fun _ q => q) ?_
      refine end_at (T := ⟨fun _ _ => none, fun _ => none, none⟩) (A := K (vT #[(Value.func (.func 55) #[] #[]), (vI 0)]) hh267) (by kernel_rfl) ?_
      exact hK _ _ (⟨by rw [if_pos c247, if_pos c274]; rw [c274], x273⟩)
    · refine wc_upd (n := 200) (T := ⟨fun r i => match r, i with | 3, 1 => some ((vA #[(vS b0), (vS b1)]), hh241) | 3, 2 => some ((vP b250 0), h248) | 3, 3 => some (undef, h260) | 4, 0 => some ((vA #[(vS b0), (vS b1)]), h260) | 4, 1 => some ((vI ((rchk b0 b1))), hh267) | 5, 1 => some ((vB true), hh267) | _, _ => none, fun _ => none, none⟩) (x := .ret) (h1 := hh267) [(10, (vB true)), (11, (vP bs 2)), (12, (vA #[(vS b0), (vS b1)])), (5, (vP b250 0)), (13, (vA #[(vS b0), (vS b1)])), (14, (vI ((rchk b0 b1)))), (6, (vI ((rchk b0 b1)))), (15, (vI ((rchk b0 b1)))), (16, (vB true)), (17, (vI ((rchk b0 b1)))), (2, Value.nilFunc), (3, (vI ((rchk b0 b1))))]
        (fun q => (loadT Tryd.prog hh241 30 (vP bs 2) = some (vA #[(vS b0), (vS b1)]) ∧ hh241 = hh241) ∧ ((vP b250 0) = (Value.pointer (some ⟨hh241.size, 0, none⟩)) ∧ h248 = hh241.push (.cells #[(vS .empty), (vS .empty)] 30 (0, 0))) ∧ (storeT Tryd.prog h248 30 (vP b250 0) (vA #[(vS b0), (vS b1)]) = some h260 ∧ (undef : Value) = undef) ∧ (loadT Tryd.prog h260 30 (vP b250 0) = some (vA #[(vS b0), (vS b1)]) ∧ h260 = h260) ∧ SoundCall Tryd.prog 16 #[(vA #[(vS b0), (vS b1)])] h260 (vI ((rchk b0 b1))) hh267 ∧ (binA Tryd.prog .neq 33 (vI ((rchk b0 b1))) (vI 0) = some (vB true) ∧ hh267 = hh267) ∧ q) (by intro K'; as_aux_lemma => kernel_rfl) (fun _ q => ⟨⟨load_agg agg30 size30 f244 (by simp) (by kernel_rfl), rfl⟩, ⟨by rw [eb251], e249⟩, ⟨by rw [e261]; exact store_cells size30 rfl f252 (by decide) (by simp) rfl (by kernel_rfl), rfl⟩, ⟨load_agg agg30 size30 f262 (by simp) (by kernel_rfl), rfl⟩, sn268, ⟨cmp_neq (decide_eq_true c274), rfl⟩, q⟩) ?_
      refine end_at (T := ⟨fun _ _ => none, fun _ => none, none⟩) (A := K (vT #[Value.nilFunc, (vI ((rchk b0 b1)))]) hh267) (by kernel_rfl) ?_
      exact hK _ _ (⟨by rw [if_pos c247, if_neg c274], x273⟩)
  · refine wc_upd (n := 200) (T := ⟨fun r i => match r, i with | 3, 1 => some ((vA #[(vS a0), (vS a1)]), h) | 3, 2 => some ((vP b227 0), h225) | 3, 3 => some (undef, h235) | 4, 0 => some ((vA #[(vS a0), (vS a1)]), h235) | 4, 1 => some ((vI ((rchk a0 a1))), hh241) | 5, 1 => some ((vB true), hh241) | _, _ => none, fun _ => none, none⟩) (x := .ret) (h1 := hh241) [(10, (vB true)), (11, (vP bs 0)), (12, (vA #[(vS a0), (vS a1)])), (5, (vP b227 0)), (13, (vA #[(vS a0), (vS a1)])), (14, (vI ((rchk a0 a1)))), (6, (vI ((rchk a0 a1)))), (15, (vI ((rchk a0 a1)))), (16, (vB true)), (17, (vI ((rchk a0 a1)))), (2, Value.nilFunc), (3, (vI ((rchk a0 a1))))]
      (fun q => (loadT Tryd.prog h 30 (vP bs 0) = some (vA #[(vS a0), (vS a1)]) ∧ h = h) ∧ ((vP b227 0) = (Value.pointer (some ⟨h.size, 0, none⟩)) ∧ h225 = h.push (.cells #[(vS .empty), (vS .empty)] 30 (0, 0))) ∧ (storeT Tryd.prog h225 30 (vP b227 0) (vA #[(vS a0), (vS a1)]) = some h235 ∧ (undef : Value) = undef) ∧ (loadT Tryd.prog h235 30 (vP b227 0) = some (vA #[(vS a0), (vS a1)]) ∧ h235 = h235) ∧ SoundCall Tryd.prog 16 #[(vA #[(vS a0), (vS a1)])] h235 (vI ((rchk a0 a1))) hh241 ∧ (binA Tryd.prog .neq 33 (vI ((rchk a0 a1))) (vI 0) = some (vB true) ∧ hh241 = hh241) ∧ q) (by intro K'; as_aux_lemma => kernel_rfl) (fun _ q => ⟨⟨load_agg agg30 size30 hbs (by simp) (by kernel_rfl), rfl⟩, ⟨by rw [eb228], e226⟩, ⟨by rw [e236]; exact store_cells size30 rfl f229 (by decide) (by simp) rfl (by kernel_rfl), rfl⟩, ⟨load_agg agg30 size30 f237 (by simp) (by kernel_rfl), rfl⟩, sn242, ⟨cmp_neq (decide_eq_true c247), rfl⟩, q⟩) ?_
    refine end_at (T := ⟨fun _ _ => none, fun _ => none, none⟩) (A := K (vT #[Value.nilFunc, (vI ((rchk a0 a1)))]) hh241) (by kernel_rfl) ?_
    exact hK _ _ (⟨by rw [if_neg c247, if_neg c247], x246⟩)
/-- What ranges.Has gives. -/
def rhas (r0 : ByteArray) (r1 : ByteArray) (k : ByteArray) : Bool := if ((rchk r0 r1) : Int) = 0 then (if (nameB k) = true then (if sl k r0 = true then false else (if (((endC k r1)) : Int) < 0 then true else false)) else false) else false
set_option maxHeartbeats 4000000 in
theorem rhas_ok (h : Heap) (r0 : ByteArray) (r1 : ByteArray) (k : ByteArray) : WCall Tryd.prog 17 #[(Value.agg #[(vS r0), (vS r1)]), (vS k)] h (fun v h1 => v = (vB (rhas r0 r1 k)) ∧ Ext h h1) := by
  obtain ⟨b277, eb278⟩ : ∃ zq, zq = h.size := ⟨_, rfl⟩
  obtain ⟨h275, e276⟩ : ∃ zq, zq = h.push (.cells #[(vS r0), (vS r1)] 30 (0, 0)) := ⟨_, rfl⟩
  have f279 := push_new e276
  rw [← eb278] at f279
  have x280 : Ext h h275 := by rw [e276]; exact Ext.push _ _
  have o281 : h.size ≤ b277 := by have := (Ext.refl h).size; omega
  have x282 := (Ext.refl h).trans x280
  obtain ⟨b285, eb286⟩ : ∃ zq, zq = h275.size := ⟨_, rfl⟩
  obtain ⟨h283, e284⟩ : ∃ zq, zq = h275.push (.cells #[(vS r0), (vS r1)] 30 (0, 0)) := ⟨_, rfl⟩
  have f287 := push_new e284
  rw [← eb286] at f287
  have x289 : Ext h275 h283 := by rw [e284]; exact Ext.push _ _
  have o290 : h.size ≤ b285 := by have := x282.size; omega
  have f291 := x289 _ _ f279
  have x292 := x282.trans x289
  obtain ⟨_, h293, s294, rfl, x295⟩ := ends_1 h283 r0 r1 f287
  have f296 := x295 _ _ f291
  have x298 := x292.trans x295
  by_cases c299 : ((rchk r0 r1) : Int) = 0
  · obtain ⟨_, hh300, sn301, rfl, x302⟩ := name_ok h293 k
    have f303 := x302 _ _ f296
    have x305 := x298.trans x302
    rcases Bool.eq_false_or_eq_true ((nameB k)) with c306 | c306
    · rcases Bool.eq_false_or_eq_true (sl k r0) with c307 | c307
      · have e308 : (rhas r0 r1 k) = false := by unfold rhas; rw [if_pos c299, if_pos c306, if_pos c307]
        exact hCall_of (n := 200) (T := ⟨fun r i => match r, i with | 0, 0 => some ((vP b277 0), h275) | 1, 0 => some ((vA #[(vS r0), (vS r1)]), h275) | 1, 1 => some ((vL (some ⟨b285, 0, none⟩) 1 1), h283) | 1, 2 => some ((vT #[(Value.func (.func 55) #[] #[]), (vI 0)]), h293) | 2, 4 => some ((vB true), hh300) | 2, 8 => some ((vS r0), hh300) | 2, 10 => some ((vB false), hh300) | _, _ => none, fun _ => none, none⟩)
          (A := ((vP b277 0) = (Value.pointer (some ⟨h.size, 0, none⟩)) ∧ h275 = h.push (.cells #[(vS r0), (vS r1)] 30 (0, 0))) ∧ (loadT Tryd.prog h275 30 (vP b277 0) = some (vA #[(vS r0), (vS r1)]) ∧ h275 = h275) ∧ ((vL (some ⟨b285, 0, none⟩) 1 1) = (vL (some ⟨h275.size, 0, none⟩) 1 1) ∧ h283 = h275.push (.cells #[(vS r0), (vS r1)] 30 (0, 0))) ∧ SoundCall Tryd.prog 38 #[(vL (some ⟨b285, 0, none⟩) 1 1)] h283 (vT #[(Value.func (.func 55) #[] #[]), (vI 0)]) h293 ∧ SoundCall Tryd.prog 37 #[(vS k)] h293 (vB true) hh300 ∧ (loadT Tryd.prog hh300 9 (vP b277 0) = some (vS r0) ∧ hh300 = hh300) ∧ (binA Tryd.prog .leq 9 (vS r0) (vS k) = some (vB false) ∧ hh300 = hh300) ∧ (fun v h1 => v = (vB (rhas r0 r1 k)) ∧ Ext h h1) (vB false) hh300) (by kernel_rfl) ⟨⟨by rw [eb278], e276⟩, ⟨load_agg agg30 size30 f279 (by simp) (by kernel_rfl), rfl⟩, ⟨by rw [eb286], e284⟩, (by rw [if_pos c299, c299] at s294; exact s294), (by rw [← c306]; exact sn301), ⟨load_cell agg9 f303 rfl, rfl⟩, ⟨str_leq c307, rfl⟩, ⟨by rw [e308], x305⟩⟩
      · obtain ⟨_, _, sn310, rfl, rfl⟩ := endC_ok hh300 k r1 
        by_cases c312 : (((endC k r1)) : Int) < 0
        · have e313 : (rhas r0 r1 k) = true := by unfold rhas; rw [if_pos c299, if_pos c306, if_neg (Bool.eq_false_iff.1 c307), if_pos c312]
          exact hCall_of (n := 200) (T := ⟨fun r i => match r, i with | 0, 0 => some ((vP b277 0), h275) | 1, 0 => some ((vA #[(vS r0), (vS r1)]), h275) | 1, 1 => some ((vL (some ⟨b285, 0, none⟩) 1 1), h283) | 1, 2 => some ((vT #[(Value.func (.func 55) #[] #[]), (vI 0)]), h293) | 2, 4 => some ((vB true), hh300) | 2, 8 => some ((vS r0), hh300) | 2, 10 => some ((vB true), hh300) | 2, 16 => some ((vS r1), hh300) | 2, 17 => some ((vI ((endC k r1))), hh300) | 2, 18 => some ((vB true), hh300) | _, _ => none, fun _ => none, none⟩)
            (A := ((vP b277 0) = (Value.pointer (some ⟨h.size, 0, none⟩)) ∧ h275 = h.push (.cells #[(vS r0), (vS r1)] 30 (0, 0))) ∧ (loadT Tryd.prog h275 30 (vP b277 0) = some (vA #[(vS r0), (vS r1)]) ∧ h275 = h275) ∧ ((vL (some ⟨b285, 0, none⟩) 1 1) = (vL (some ⟨h275.size, 0, none⟩) 1 1) ∧ h283 = h275.push (.cells #[(vS r0), (vS r1)] 30 (0, 0))) ∧ SoundCall Tryd.prog 38 #[(vL (some ⟨b285, 0, none⟩) 1 1)] h283 (vT #[(Value.func (.func 55) #[] #[]), (vI 0)]) h293 ∧ SoundCall Tryd.prog 37 #[(vS k)] h293 (vB true) hh300 ∧ (loadT Tryd.prog hh300 9 (vP b277 0) = some (vS r0) ∧ hh300 = hh300) ∧ (binA Tryd.prog .leq 9 (vS r0) (vS k) = some (vB true) ∧ hh300 = hh300) ∧ (loadT Tryd.prog hh300 9 (vP b277 1) = some (vS r1) ∧ hh300 = hh300) ∧ SoundCall Tryd.prog 55 #[(vS k), (vS r1)] hh300 (vI ((endC k r1))) hh300 ∧ (binA Tryd.prog .lss 3 (vI ((endC k r1))) (vI 0) = some (vB true) ∧ hh300 = hh300) ∧ (fun v h1 => v = (vB (rhas r0 r1 k)) ∧ Ext h h1) (vB true) hh300) (by kernel_rfl) ⟨⟨by rw [eb278], e276⟩, ⟨load_agg agg30 size30 f279 (by simp) (by kernel_rfl), rfl⟩, ⟨by rw [eb286], e284⟩, (by rw [if_pos c299, c299] at s294; exact s294), (by rw [← c306]; exact sn301), ⟨load_cell agg9 f303 rfl, rfl⟩, ⟨str_leq c307, rfl⟩, ⟨load_cell agg9 f303 rfl, rfl⟩, sn310, ⟨cmp_lss (decide_eq_true c312), rfl⟩, ⟨by rw [e313], x305⟩⟩
        · have e314 : (rhas r0 r1 k) = false := by unfold rhas; rw [if_pos c299, if_pos c306, if_neg (Bool.eq_false_iff.1 c307), if_neg c312]
          exact hCall_of (n := 200) (T := ⟨fun r i => match r, i with | 0, 0 => some ((vP b277 0), h275) | 1, 0 => some ((vA #[(vS r0), (vS r1)]), h275) | 1, 1 => some ((vL (some ⟨b285, 0, none⟩) 1 1), h283) | 1, 2 => some ((vT #[(Value.func (.func 55) #[] #[]), (vI 0)]), h293) | 2, 4 => some ((vB true), hh300) | 2, 8 => some ((vS r0), hh300) | 2, 10 => some ((vB true), hh300) | 2, 16 => some ((vS r1), hh300) | 2, 17 => some ((vI ((endC k r1))), hh300) | 2, 18 => some ((vB false), hh300) | _, _ => none, fun _ => none, none⟩)
            (A := ((vP b277 0) = (Value.pointer (some ⟨h.size, 0, none⟩)) ∧ h275 = h.push (.cells #[(vS r0), (vS r1)] 30 (0, 0))) ∧ (loadT Tryd.prog h275 30 (vP b277 0) = some (vA #[(vS r0), (vS r1)]) ∧ h275 = h275) ∧ ((vL (some ⟨b285, 0, none⟩) 1 1) = (vL (some ⟨h275.size, 0, none⟩) 1 1) ∧ h283 = h275.push (.cells #[(vS r0), (vS r1)] 30 (0, 0))) ∧ SoundCall Tryd.prog 38 #[(vL (some ⟨b285, 0, none⟩) 1 1)] h283 (vT #[(Value.func (.func 55) #[] #[]), (vI 0)]) h293 ∧ SoundCall Tryd.prog 37 #[(vS k)] h293 (vB true) hh300 ∧ (loadT Tryd.prog hh300 9 (vP b277 0) = some (vS r0) ∧ hh300 = hh300) ∧ (binA Tryd.prog .leq 9 (vS r0) (vS k) = some (vB true) ∧ hh300 = hh300) ∧ (loadT Tryd.prog hh300 9 (vP b277 1) = some (vS r1) ∧ hh300 = hh300) ∧ SoundCall Tryd.prog 55 #[(vS k), (vS r1)] hh300 (vI ((endC k r1))) hh300 ∧ (binA Tryd.prog .lss 3 (vI ((endC k r1))) (vI 0) = some (vB false) ∧ hh300 = hh300) ∧ (fun v h1 => v = (vB (rhas r0 r1 k)) ∧ Ext h h1) (vB false) hh300) (by kernel_rfl) ⟨⟨by rw [eb278], e276⟩, ⟨load_agg agg30 size30 f279 (by simp) (by kernel_rfl), rfl⟩, ⟨by rw [eb286], e284⟩, (by rw [if_pos c299, c299] at s294; exact s294), (by rw [← c306]; exact sn301), ⟨load_cell agg9 f303 rfl, rfl⟩, ⟨str_leq c307, rfl⟩, ⟨load_cell agg9 f303 rfl, rfl⟩, sn310, ⟨cmp_lss (decide_eq_false c312), rfl⟩, ⟨by rw [e314], x305⟩⟩
    · have e315 : (rhas r0 r1 k) = false := by unfold rhas; rw [if_pos c299, if_neg (Bool.eq_false_iff.1 c306)]
      exact hCall_of (n := 200) (T := ⟨fun r i => match r, i with | 0, 0 => some ((vP b277 0), h275) | 1, 0 => some ((vA #[(vS r0), (vS r1)]), h275) | 1, 1 => some ((vL (some ⟨b285, 0, none⟩) 1 1), h283) | 1, 2 => some ((vT #[(Value.func (.func 55) #[] #[]), (vI 0)]), h293) | 2, 4 => some ((vB false), hh300) | _, _ => none, fun _ => none, none⟩)
        (A := ((vP b277 0) = (Value.pointer (some ⟨h.size, 0, none⟩)) ∧ h275 = h.push (.cells #[(vS r0), (vS r1)] 30 (0, 0))) ∧ (loadT Tryd.prog h275 30 (vP b277 0) = some (vA #[(vS r0), (vS r1)]) ∧ h275 = h275) ∧ ((vL (some ⟨b285, 0, none⟩) 1 1) = (vL (some ⟨h275.size, 0, none⟩) 1 1) ∧ h283 = h275.push (.cells #[(vS r0), (vS r1)] 30 (0, 0))) ∧ SoundCall Tryd.prog 38 #[(vL (some ⟨b285, 0, none⟩) 1 1)] h283 (vT #[(Value.func (.func 55) #[] #[]), (vI 0)]) h293 ∧ SoundCall Tryd.prog 37 #[(vS k)] h293 (vB false) hh300 ∧ (fun v h1 => v = (vB (rhas r0 r1 k)) ∧ Ext h h1) (vB false) hh300) (by kernel_rfl) ⟨⟨by rw [eb278], e276⟩, ⟨load_agg agg30 size30 f279 (by simp) (by kernel_rfl), rfl⟩, ⟨by rw [eb286], e284⟩, (by rw [if_pos c299, c299] at s294; exact s294), (by rw [← c306]; exact sn301), ⟨by rw [e315], x305⟩⟩
  · have e316 : (rhas r0 r1 k) = false := by unfold rhas; rw [if_neg c299]
    exact hCall_of (n := 200) (T := ⟨fun r i => match r, i with | 0, 0 => some ((vP b277 0), h275) | 1, 0 => some ((vA #[(vS r0), (vS r1)]), h275) | 1, 1 => some ((vL (some ⟨b285, 0, none⟩) 1 1), h283) | 1, 2 => some ((vT #[Value.nilFunc, (vI (rchk r0 r1))]), h293) | 2, 1 => some ((vB false), h293) | _, _ => none, fun _ => none, none⟩)
      (A := ((vP b277 0) = (Value.pointer (some ⟨h.size, 0, none⟩)) ∧ h275 = h.push (.cells #[(vS r0), (vS r1)] 30 (0, 0))) ∧ (loadT Tryd.prog h275 30 (vP b277 0) = some (vA #[(vS r0), (vS r1)]) ∧ h275 = h275) ∧ ((vL (some ⟨b285, 0, none⟩) 1 1) = (vL (some ⟨h275.size, 0, none⟩) 1 1) ∧ h283 = h275.push (.cells #[(vS r0), (vS r1)] 30 (0, 0))) ∧ SoundCall Tryd.prog 38 #[(vL (some ⟨b285, 0, none⟩) 1 1)] h283 (vT #[Value.nilFunc, (vI (rchk r0 r1))]) h293 ∧ (binA Tryd.prog .eql 33 (vI (rchk r0 r1)) (vI 0) = some (vB false) ∧ h293 = h293) ∧ (fun v h1 => v = (vB (rhas r0 r1 k)) ∧ Ext h h1) (vB false) h293) (by kernel_rfl) ⟨⟨by rw [eb278], e276⟩, ⟨load_agg agg30 size30 f279 (by simp) (by kernel_rfl), rfl⟩, ⟨by rw [eb286], e284⟩, (by rw [if_neg c299] at s294; exact s294), ⟨cmp_eql (decide_eq_false c299), rfl⟩, ⟨by rw [e316], x298⟩⟩
/-- What ranges.Meet gives. -/
def rmeet (a0 : ByteArray) (a1 : ByteArray) (b0 : ByteArray) (b1 : ByteArray) : ByteArray × ByteArray × Bool × Int := if (((if rchk a0 a1 = 0 then rchk b0 b1 else rchk a0 a1)) : Int) = 0 then (if (((endC b1 a1)) : Int) < 0 then (if (((rchk (mxS a0 b0) b1)) : Int) = 0 then ((mxS a0 b0), b1, true, 0) else (.empty, .empty, false, 0)) else (if (((rchk (mxS a0 b0) a1)) : Int) = 0 then ((mxS a0 b0), a1, true, 0) else (.empty, .empty, false, 0))) else (.empty, .empty, false, ((if rchk a0 a1 = 0 then rchk b0 b1 else rchk a0 a1)))
set_option maxHeartbeats 4000000 in
theorem rmeet_ok (h : Heap) (a0 : ByteArray) (a1 : ByteArray) (b0 : ByteArray) (b1 : ByteArray) : WCall Tryd.prog 18 #[(Value.agg #[(vS a0), (vS a1)]), (Value.agg #[(vS b0), (vS b1)])] h (fun v h1 => v = (Value.tuple #[(Value.agg #[(vS (rmeet a0 a1 b0 b1).1), (vS (rmeet a0 a1 b0 b1).2.1)]), (vB (rmeet a0 a1 b0 b1).2.2.1), (vI ((rmeet a0 a1 b0 b1).2.2.2))]) ∧ Ext h h1) := by
  obtain ⟨b319, eb320⟩ : ∃ zq, zq = h.size := ⟨_, rfl⟩
  obtain ⟨h317, e318⟩ : ∃ zq, zq = h.push (.cells #[(vS a0), (vS a1)] 30 (0, 0)) := ⟨_, rfl⟩
  have f321 := push_new e318
  rw [← eb320] at f321
  have x322 : Ext h h317 := by rw [e318]; exact Ext.push _ _
  have o323 : h.size ≤ b319 := by have := (Ext.refl h).size; omega
  have x324 := (Ext.refl h).trans x322
  obtain ⟨b327, eb328⟩ : ∃ zq, zq = h317.size := ⟨_, rfl⟩
  obtain ⟨h325, e326⟩ : ∃ zq, zq = h317.push (.cells #[(vS b0), (vS b1)] 30 (0, 0)) := ⟨_, rfl⟩
  have f329 := push_new e326
  rw [← eb328] at f329
  have x331 : Ext h317 h325 := by rw [e326]; exact Ext.push _ _
  have o332 : h.size ≤ b327 := by have := x324.size; omega
  have f333 := x331 _ _ f321
  have x334 := x324.trans x331
  obtain ⟨b337, eb338⟩ : ∃ zq, zq = h325.size := ⟨_, rfl⟩
  obtain ⟨h335, e336⟩ : ∃ zq, zq = h325.push (.cells #[(vS .empty), (vS .empty)] 30 (0, 0)) := ⟨_, rfl⟩
  have f339 := push_new e336
  rw [← eb338] at f339
  have x342 : Ext h325 h335 := by rw [e336]; exact Ext.push _ _
  have o343 : h.size ≤ b337 := by have := x334.size; omega
  have f344 := x342 _ _ f333
  have f345 := x342 _ _ f329
  have x346 := x334.trans x342
  obtain ⟨b349, eb350⟩ : ∃ zq, zq = h335.size := ⟨_, rfl⟩
  obtain ⟨h347, e348⟩ : ∃ zq, zq = h335.push (.cells #[(vS a0), (vS a1), (vS b0), (vS b1)] 30 (0, 0)) := ⟨_, rfl⟩
  have f351 := push_new e348
  rw [← eb350] at f351
  have x355 : Ext h335 h347 := by rw [e348]; exact Ext.push _ _
  have o356 : h.size ≤ b349 := by have := x346.size; omega
  have f357 := x355 _ _ f344
  have f358 := x355 _ _ f345
  have f359 := x355 _ _ f339
  have x360 := x346.trans x355
  obtain ⟨_, h361, s362, rfl, x363⟩ := ends_2 h347 a0 a1 b0 b1 f351
  have f364 := x363 _ _ f357
  have f365 := x363 _ _ f358
  have f366 := x363 _ _ f359
  have x368 := x360.trans x363
  by_cases c369 : (((if rchk a0 a1 = 0 then rchk b0 b1 else rchk a0 a1)) : Int) = 0
  · obtain ⟨b372, eb373⟩ : ∃ zq, zq = h361.size := ⟨_, rfl⟩
    obtain ⟨h370, e371⟩ : ∃ zq, zq = h361.push (.cells #[(vS .empty), (vS .empty)] 30 (0, 0)) := ⟨_, rfl⟩
    have f374 := push_new e371
    rw [← eb373] at f374
    have n375 : b372 ≠ b319 := by have := row_lt f364; omega
    have n376 : b372 ≠ b327 := by have := row_lt f365; omega
    have n377 : b372 ≠ b337 := by have := row_lt f366; omega
    have x379 : Ext h361 h370 := by rw [e371]; exact Ext.push _ _
    have o380 : h.size ≤ b372 := by have := x368.size; omega
    have f381 := x379 _ _ f364
    have f382 := x379 _ _ f365
    have f383 := x379 _ _ f366
    have x385 := x368.trans x379
    obtain ⟨h386, e387⟩ : ∃ zq, zq = h370.setIfInBounds b372 (.cells #[(vS (mxS a0 b0)), (vS a1)] 30 (0, 0)) := ⟨_, rfl⟩
    have f388 := set_same e387 f374
    have f389 := set_other e387 f381 n375
    have f390 := set_other e387 f382 n376
    have f391 := set_other e387 f383 n377
    have x394 := Ext.setNew x385 e387 o380
    obtain ⟨_, _, sn396, rfl, rfl⟩ := endC_ok h386 b1 a1 
    by_cases c398 : (((endC b1 a1)) : Int) < 0
    · obtain ⟨h399, e400⟩ : ∃ zq, zq = h386.setIfInBounds b372 (.cells #[(vS (mxS a0 b0)), (vS b1)] 30 (0, 0)) := ⟨_, rfl⟩
      have f401 := set_same e400 f388
      have f404 := set_other e400 f391 n377
      have x407 := Ext.setNew x394 e400 o380
      obtain ⟨_, hh408, sn409, rfl, x410⟩ := rchk_ok h399 (mxS a0 b0) b1 
      have f413 := x410 _ _ f404
      have f415 := x410 _ _ f401
      have x416 := x407.trans x410
      by_cases c417 : (((rchk (mxS a0 b0) b1)) : Int) = 0
      · obtain ⟨h418, e419⟩ : ∃ zq, zq = hh408.setIfInBounds b337 (.cells #[(vS (mxS a0 b0)), (vS b1)] 30 (0, 0)) := ⟨_, rfl⟩
        have f420 := set_same e419 f413
        have x426 := Ext.setNew x416 e419 o343
        have e427 : (rmeet a0 a1 b0 b1) = ((mxS a0 b0), b1, true, 0) := by unfold rmeet; rw [if_pos c369, if_pos c398, if_pos c417]
        exact hCall_of (n := 200) (T := ⟨fun r i => match r, i with | 0, 0 => some ((vP b319 0), h317) | 0, 1 => some ((vP b327 0), h325) | 0, 2 => some ((vP b337 0), h335) | 1, 0 => some ((vA #[(vS a0), (vS a1)]), h335) | 1, 1 => some ((vA #[(vS b0), (vS b1)]), h335) | 1, 2 => some ((vL (some ⟨b349, 0, none⟩) 2 2), h347) | 1, 3 => some ((vT #[(Value.func (.func 55) #[] #[]), (vI 0)]), h361) | 4, 1 => some ((vS a0), h361) | 4, 3 => some ((vS b0), h361) | 4, 4 => some ((vS (mxS a0 b0)), h361) | 4, 6 => some ((vS a1), h361) | 4, 8 => some ((vP b372 0), h370) | 4, 9 => some (undef, h386) | 5, 2 => some ((vS b1), h386) | 5, 4 => some ((vS a1), h386) | 5, 5 => some ((vI ((endC b1 a1))), h386) | 5, 6 => some ((vB true), h386) | 6, 1 => some ((vS b1), h386) | 6, 3 => some (undef, h399) | 7, 0 => some ((vA #[(vS (mxS a0 b0)), (vS b1)]), h399) | 7, 1 => some ((vI ((rchk (mxS a0 b0) b1))), hh408) | 7, 2 => some ((vB false), hh408) | 9, 0 => some ((vA #[(vS (mxS a0 b0)), (vS b1)]), hh408) | 9, 1 => some (undef, h418) | _, _ => none, fun _ => none, some [(vA #[(vS (mxS a0 b0)), (vS b1)]), (vB true), (vI 0)]⟩)
          (A := ((vP b319 0) = (Value.pointer (some ⟨h.size, 0, none⟩)) ∧ h317 = h.push (.cells #[(vS a0), (vS a1)] 30 (0, 0))) ∧ ((vP b327 0) = (Value.pointer (some ⟨h317.size, 0, none⟩)) ∧ h325 = h317.push (.cells #[(vS b0), (vS b1)] 30 (0, 0))) ∧ ((vP b337 0) = (Value.pointer (some ⟨h325.size, 0, none⟩)) ∧ h335 = h325.push (.cells #[(vS .empty), (vS .empty)] 30 (0, 0))) ∧ (loadT Tryd.prog h335 30 (vP b319 0) = some (vA #[(vS a0), (vS a1)]) ∧ h335 = h335) ∧ (loadT Tryd.prog h335 30 (vP b327 0) = some (vA #[(vS b0), (vS b1)]) ∧ h335 = h335) ∧ ((vL (some ⟨b349, 0, none⟩) 2 2) = (vL (some ⟨h335.size, 0, none⟩) 2 2) ∧ h347 = h335.push (.cells #[(vS a0), (vS a1), (vS b0), (vS b1)] 30 (0, 0))) ∧ SoundCall Tryd.prog 38 #[(vL (some ⟨b349, 0, none⟩) 2 2)] h347 (vT #[(Value.func (.func 55) #[] #[]), (vI 0)]) h361 ∧ (loadT Tryd.prog h361 9 (vP b319 0) = some (vS a0) ∧ h361 = h361) ∧ (loadT Tryd.prog h361 9 (vP b327 0) = some (vS b0) ∧ h361 = h361) ∧ ((vS (mxS a0 b0)) = (vS (if !Op.bytesLess (a0).toList (b0).toList then a0 else b0)) ∧ h361 = h361) ∧ (loadT Tryd.prog h361 9 (vP b319 1) = some (vS a1) ∧ h361 = h361) ∧ ((vP b372 0) = (Value.pointer (some ⟨h361.size, 0, none⟩)) ∧ h370 = h361.push (.cells #[(vS .empty), (vS .empty)] 30 (0, 0))) ∧ (storeT Tryd.prog h370 30 (vP b372 0) (vA #[(vS (mxS a0 b0)), (vS a1)]) = some h386 ∧ (undef : Value) = undef) ∧ (loadT Tryd.prog h386 9 (vP b327 1) = some (vS b1) ∧ h386 = h386) ∧ (loadT Tryd.prog h386 9 (vP b319 1) = some (vS a1) ∧ h386 = h386) ∧ SoundCall Tryd.prog 55 #[(vS b1), (vS a1)] h386 (vI ((endC b1 a1))) h386 ∧ (binA Tryd.prog .lss 3 (vI ((endC b1 a1))) (vI 0) = some (vB true) ∧ h386 = h386) ∧ (loadT Tryd.prog h386 9 (vP b327 1) = some (vS b1) ∧ h386 = h386) ∧ (storeT Tryd.prog h386 9 (vP b372 1) (vS b1) = some h399 ∧ (undef : Value) = undef) ∧ (loadT Tryd.prog h399 30 (vP b372 0) = some (vA #[(vS (mxS a0 b0)), (vS b1)]) ∧ h399 = h399) ∧ SoundCall Tryd.prog 16 #[(vA #[(vS (mxS a0 b0)), (vS b1)])] h399 (vI ((rchk (mxS a0 b0) b1))) hh408 ∧ (binA Tryd.prog .neq 33 (vI ((rchk (mxS a0 b0) b1))) (vI 0) = some (vB false) ∧ hh408 = hh408) ∧ (loadT Tryd.prog hh408 30 (vP b372 0) = some (vA #[(vS (mxS a0 b0)), (vS b1)]) ∧ hh408 = hh408) ∧ (storeT Tryd.prog hh408 30 (vP b337 0) (vA #[(vS (mxS a0 b0)), (vS b1)]) = some h418 ∧ (undef : Value) = undef) ∧ (loadT Tryd.prog h418 30 (vP b337 0) = some (vA #[(vS (mxS a0 b0)), (vS b1)]) ∧ (vB true) = (vB true) ∧ (vI 0) = (vI 0) ∧ True) ∧ (fun v h1 => v = (vT #[(vA #[(vS (rmeet a0 a1 b0 b1).1), (vS (rmeet a0 a1 b0 b1).2.1)]), (vB (rmeet a0 a1 b0 b1).2.2.1), (vI ((rmeet a0 a1 b0 b1).2.2.2))]) ∧ Ext h h1) (vT #[(vA #[(vS (mxS a0 b0)), (vS b1)]), (vB true), (vI 0)]) h418) (by kernel_rfl) ⟨⟨by rw [eb320], e318⟩, ⟨by rw [eb328], e326⟩, ⟨by rw [eb338], e336⟩, ⟨load_agg agg30 size30 f344 (by simp) (by kernel_rfl), rfl⟩, ⟨load_agg agg30 size30 f345 (by simp) (by kernel_rfl), rfl⟩, ⟨by rw [eb350], e348⟩, (by rw [if_pos c369, c369] at s362; exact s362), ⟨load_cell agg9 f364 rfl, rfl⟩, ⟨load_cell agg9 f365 rfl, rfl⟩, ⟨rfl, rfl⟩, ⟨load_cell agg9 f364 rfl, rfl⟩, ⟨by rw [eb373], e371⟩, ⟨by rw [e387]; exact store_cells size30 rfl f374 (by decide) (by simp) rfl (by kernel_rfl), rfl⟩, ⟨load_cell agg9 f390 rfl, rfl⟩, ⟨load_cell agg9 f389 rfl, rfl⟩, sn396, ⟨cmp_lss (decide_eq_true c398), rfl⟩, ⟨load_cell agg9 f390 rfl, rfl⟩, ⟨by rw [e400]; exact store_cells size9 rfl f388 (by decide) (by simp) rfl (by kernel_rfl), rfl⟩, ⟨load_agg agg30 size30 f401 (by simp) (by kernel_rfl), rfl⟩, sn409, ⟨cmp_neq (decide_eq_false (not_not_intro c417)), rfl⟩, ⟨load_agg agg30 size30 f415 (by simp) (by kernel_rfl), rfl⟩, ⟨by rw [e419]; exact store_cells size30 rfl f413 (by decide) (by simp) rfl (by kernel_rfl), rfl⟩, ⟨load_agg agg30 size30 f420 (by simp) (by kernel_rfl), rfl, rfl, trivial⟩, ⟨by rw [e427], x426⟩⟩
      · obtain ⟨h428, e429⟩ : ∃ zq, zq = hh408.setIfInBounds b337 (.cells #[(vS .empty), (vS .empty)] 30 (0, 0)) := ⟨_, rfl⟩
        have f430 := set_same e429 f413
        have x436 := Ext.setNew x416 e429 o343
        have e437 : (rmeet a0 a1 b0 b1) = (.empty, .empty, false, 0) := by unfold rmeet; rw [if_pos c369, if_pos c398, if_neg c417]
        exact hCall_of (n := 200) (T := ⟨fun r i => match r, i with | 0, 0 => some ((vP b319 0), h317) | 0, 1 => some ((vP b327 0), h325) | 0, 2 => some ((vP b337 0), h335) | 1, 0 => some ((vA #[(vS a0), (vS a1)]), h335) | 1, 1 => some ((vA #[(vS b0), (vS b1)]), h335) | 1, 2 => some ((vL (some ⟨b349, 0, none⟩) 2 2), h347) | 1, 3 => some ((vT #[(Value.func (.func 55) #[] #[]), (vI 0)]), h361) | 4, 1 => some ((vS a0), h361) | 4, 3 => some ((vS b0), h361) | 4, 4 => some ((vS (mxS a0 b0)), h361) | 4, 6 => some ((vS a1), h361) | 4, 8 => some ((vP b372 0), h370) | 4, 9 => some (undef, h386) | 5, 2 => some ((vS b1), h386) | 5, 4 => some ((vS a1), h386) | 5, 5 => some ((vI ((endC b1 a1))), h386) | 5, 6 => some ((vB true), h386) | 6, 1 => some ((vS b1), h386) | 6, 3 => some (undef, h399) | 7, 0 => some ((vA #[(vS (mxS a0 b0)), (vS b1)]), h399) | 7, 1 => some ((vI ((rchk (mxS a0 b0) b1))), hh408) | 7, 2 => some ((vB true), hh408) | 8, 1 => some (undef, h428) | _, _ => none, fun _ => none, some [(vA #[(vS .empty), (vS .empty)]), (vB false), (vI 0)]⟩)
          (A := ((vP b319 0) = (Value.pointer (some ⟨h.size, 0, none⟩)) ∧ h317 = h.push (.cells #[(vS a0), (vS a1)] 30 (0, 0))) ∧ ((vP b327 0) = (Value.pointer (some ⟨h317.size, 0, none⟩)) ∧ h325 = h317.push (.cells #[(vS b0), (vS b1)] 30 (0, 0))) ∧ ((vP b337 0) = (Value.pointer (some ⟨h325.size, 0, none⟩)) ∧ h335 = h325.push (.cells #[(vS .empty), (vS .empty)] 30 (0, 0))) ∧ (loadT Tryd.prog h335 30 (vP b319 0) = some (vA #[(vS a0), (vS a1)]) ∧ h335 = h335) ∧ (loadT Tryd.prog h335 30 (vP b327 0) = some (vA #[(vS b0), (vS b1)]) ∧ h335 = h335) ∧ ((vL (some ⟨b349, 0, none⟩) 2 2) = (vL (some ⟨h335.size, 0, none⟩) 2 2) ∧ h347 = h335.push (.cells #[(vS a0), (vS a1), (vS b0), (vS b1)] 30 (0, 0))) ∧ SoundCall Tryd.prog 38 #[(vL (some ⟨b349, 0, none⟩) 2 2)] h347 (vT #[(Value.func (.func 55) #[] #[]), (vI 0)]) h361 ∧ (loadT Tryd.prog h361 9 (vP b319 0) = some (vS a0) ∧ h361 = h361) ∧ (loadT Tryd.prog h361 9 (vP b327 0) = some (vS b0) ∧ h361 = h361) ∧ ((vS (mxS a0 b0)) = (vS (if !Op.bytesLess (a0).toList (b0).toList then a0 else b0)) ∧ h361 = h361) ∧ (loadT Tryd.prog h361 9 (vP b319 1) = some (vS a1) ∧ h361 = h361) ∧ ((vP b372 0) = (Value.pointer (some ⟨h361.size, 0, none⟩)) ∧ h370 = h361.push (.cells #[(vS .empty), (vS .empty)] 30 (0, 0))) ∧ (storeT Tryd.prog h370 30 (vP b372 0) (vA #[(vS (mxS a0 b0)), (vS a1)]) = some h386 ∧ (undef : Value) = undef) ∧ (loadT Tryd.prog h386 9 (vP b327 1) = some (vS b1) ∧ h386 = h386) ∧ (loadT Tryd.prog h386 9 (vP b319 1) = some (vS a1) ∧ h386 = h386) ∧ SoundCall Tryd.prog 55 #[(vS b1), (vS a1)] h386 (vI ((endC b1 a1))) h386 ∧ (binA Tryd.prog .lss 3 (vI ((endC b1 a1))) (vI 0) = some (vB true) ∧ h386 = h386) ∧ (loadT Tryd.prog h386 9 (vP b327 1) = some (vS b1) ∧ h386 = h386) ∧ (storeT Tryd.prog h386 9 (vP b372 1) (vS b1) = some h399 ∧ (undef : Value) = undef) ∧ (loadT Tryd.prog h399 30 (vP b372 0) = some (vA #[(vS (mxS a0 b0)), (vS b1)]) ∧ h399 = h399) ∧ SoundCall Tryd.prog 16 #[(vA #[(vS (mxS a0 b0)), (vS b1)])] h399 (vI ((rchk (mxS a0 b0) b1))) hh408 ∧ (binA Tryd.prog .neq 33 (vI ((rchk (mxS a0 b0) b1))) (vI 0) = some (vB true) ∧ hh408 = hh408) ∧ (storeT Tryd.prog hh408 30 (vP b337 0) (vA #[(vS .empty), (vS .empty)]) = some h428 ∧ (undef : Value) = undef) ∧ (loadT Tryd.prog h428 30 (vP b337 0) = some (vA #[(vS .empty), (vS .empty)]) ∧ (vB false) = (vB false) ∧ (vI 0) = (vI 0) ∧ True) ∧ (fun v h1 => v = (vT #[(vA #[(vS (rmeet a0 a1 b0 b1).1), (vS (rmeet a0 a1 b0 b1).2.1)]), (vB (rmeet a0 a1 b0 b1).2.2.1), (vI ((rmeet a0 a1 b0 b1).2.2.2))]) ∧ Ext h h1) (vT #[(vA #[(vS .empty), (vS .empty)]), (vB false), (vI 0)]) h428) (by kernel_rfl) ⟨⟨by rw [eb320], e318⟩, ⟨by rw [eb328], e326⟩, ⟨by rw [eb338], e336⟩, ⟨load_agg agg30 size30 f344 (by simp) (by kernel_rfl), rfl⟩, ⟨load_agg agg30 size30 f345 (by simp) (by kernel_rfl), rfl⟩, ⟨by rw [eb350], e348⟩, (by rw [if_pos c369, c369] at s362; exact s362), ⟨load_cell agg9 f364 rfl, rfl⟩, ⟨load_cell agg9 f365 rfl, rfl⟩, ⟨rfl, rfl⟩, ⟨load_cell agg9 f364 rfl, rfl⟩, ⟨by rw [eb373], e371⟩, ⟨by rw [e387]; exact store_cells size30 rfl f374 (by decide) (by simp) rfl (by kernel_rfl), rfl⟩, ⟨load_cell agg9 f390 rfl, rfl⟩, ⟨load_cell agg9 f389 rfl, rfl⟩, sn396, ⟨cmp_lss (decide_eq_true c398), rfl⟩, ⟨load_cell agg9 f390 rfl, rfl⟩, ⟨by rw [e400]; exact store_cells size9 rfl f388 (by decide) (by simp) rfl (by kernel_rfl), rfl⟩, ⟨load_agg agg30 size30 f401 (by simp) (by kernel_rfl), rfl⟩, sn409, ⟨cmp_neq (decide_eq_true c417), rfl⟩, ⟨by rw [e429]; exact store_cells size30 rfl f413 (by decide) (by simp) rfl (by kernel_rfl), rfl⟩, ⟨load_agg agg30 size30 f430 (by simp) (by kernel_rfl), rfl, rfl, trivial⟩, ⟨by rw [e437], x436⟩⟩
    · obtain ⟨_, hh438, sn439, rfl, x440⟩ := rchk_ok h386 (mxS a0 b0) a1 
      have f443 := x440 _ _ f391
      have f445 := x440 _ _ f388
      have x446 := x394.trans x440
      by_cases c447 : (((rchk (mxS a0 b0) a1)) : Int) = 0
      · obtain ⟨h448, e449⟩ : ∃ zq, zq = hh438.setIfInBounds b337 (.cells #[(vS (mxS a0 b0)), (vS a1)] 30 (0, 0)) := ⟨_, rfl⟩
        have f450 := set_same e449 f443
        have x456 := Ext.setNew x446 e449 o343
        have e457 : (rmeet a0 a1 b0 b1) = ((mxS a0 b0), a1, true, 0) := by unfold rmeet; rw [if_pos c369, if_neg c398, if_pos c447]
        exact hCall_of (n := 200) (T := ⟨fun r i => match r, i with | 0, 0 => some ((vP b319 0), h317) | 0, 1 => some ((vP b327 0), h325) | 0, 2 => some ((vP b337 0), h335) | 1, 0 => some ((vA #[(vS a0), (vS a1)]), h335) | 1, 1 => some ((vA #[(vS b0), (vS b1)]), h335) | 1, 2 => some ((vL (some ⟨b349, 0, none⟩) 2 2), h347) | 1, 3 => some ((vT #[(Value.func (.func 55) #[] #[]), (vI 0)]), h361) | 4, 1 => some ((vS a0), h361) | 4, 3 => some ((vS b0), h361) | 4, 4 => some ((vS (mxS a0 b0)), h361) | 4, 6 => some ((vS a1), h361) | 4, 8 => some ((vP b372 0), h370) | 4, 9 => some (undef, h386) | 5, 2 => some ((vS b1), h386) | 5, 4 => some ((vS a1), h386) | 5, 5 => some ((vI ((endC b1 a1))), h386) | 5, 6 => some ((vB false), h386) | 7, 0 => some ((vA #[(vS (mxS a0 b0)), (vS a1)]), h386) | 7, 1 => some ((vI ((rchk (mxS a0 b0) a1))), hh438) | 7, 2 => some ((vB false), hh438) | 9, 0 => some ((vA #[(vS (mxS a0 b0)), (vS a1)]), hh438) | 9, 1 => some (undef, h448) | _, _ => none, fun _ => none, some [(vA #[(vS (mxS a0 b0)), (vS a1)]), (vB true), (vI 0)]⟩)
          (A := ((vP b319 0) = (Value.pointer (some ⟨h.size, 0, none⟩)) ∧ h317 = h.push (.cells #[(vS a0), (vS a1)] 30 (0, 0))) ∧ ((vP b327 0) = (Value.pointer (some ⟨h317.size, 0, none⟩)) ∧ h325 = h317.push (.cells #[(vS b0), (vS b1)] 30 (0, 0))) ∧ ((vP b337 0) = (Value.pointer (some ⟨h325.size, 0, none⟩)) ∧ h335 = h325.push (.cells #[(vS .empty), (vS .empty)] 30 (0, 0))) ∧ (loadT Tryd.prog h335 30 (vP b319 0) = some (vA #[(vS a0), (vS a1)]) ∧ h335 = h335) ∧ (loadT Tryd.prog h335 30 (vP b327 0) = some (vA #[(vS b0), (vS b1)]) ∧ h335 = h335) ∧ ((vL (some ⟨b349, 0, none⟩) 2 2) = (vL (some ⟨h335.size, 0, none⟩) 2 2) ∧ h347 = h335.push (.cells #[(vS a0), (vS a1), (vS b0), (vS b1)] 30 (0, 0))) ∧ SoundCall Tryd.prog 38 #[(vL (some ⟨b349, 0, none⟩) 2 2)] h347 (vT #[(Value.func (.func 55) #[] #[]), (vI 0)]) h361 ∧ (loadT Tryd.prog h361 9 (vP b319 0) = some (vS a0) ∧ h361 = h361) ∧ (loadT Tryd.prog h361 9 (vP b327 0) = some (vS b0) ∧ h361 = h361) ∧ ((vS (mxS a0 b0)) = (vS (if !Op.bytesLess (a0).toList (b0).toList then a0 else b0)) ∧ h361 = h361) ∧ (loadT Tryd.prog h361 9 (vP b319 1) = some (vS a1) ∧ h361 = h361) ∧ ((vP b372 0) = (Value.pointer (some ⟨h361.size, 0, none⟩)) ∧ h370 = h361.push (.cells #[(vS .empty), (vS .empty)] 30 (0, 0))) ∧ (storeT Tryd.prog h370 30 (vP b372 0) (vA #[(vS (mxS a0 b0)), (vS a1)]) = some h386 ∧ (undef : Value) = undef) ∧ (loadT Tryd.prog h386 9 (vP b327 1) = some (vS b1) ∧ h386 = h386) ∧ (loadT Tryd.prog h386 9 (vP b319 1) = some (vS a1) ∧ h386 = h386) ∧ SoundCall Tryd.prog 55 #[(vS b1), (vS a1)] h386 (vI ((endC b1 a1))) h386 ∧ (binA Tryd.prog .lss 3 (vI ((endC b1 a1))) (vI 0) = some (vB false) ∧ h386 = h386) ∧ (loadT Tryd.prog h386 30 (vP b372 0) = some (vA #[(vS (mxS a0 b0)), (vS a1)]) ∧ h386 = h386) ∧ SoundCall Tryd.prog 16 #[(vA #[(vS (mxS a0 b0)), (vS a1)])] h386 (vI ((rchk (mxS a0 b0) a1))) hh438 ∧ (binA Tryd.prog .neq 33 (vI ((rchk (mxS a0 b0) a1))) (vI 0) = some (vB false) ∧ hh438 = hh438) ∧ (loadT Tryd.prog hh438 30 (vP b372 0) = some (vA #[(vS (mxS a0 b0)), (vS a1)]) ∧ hh438 = hh438) ∧ (storeT Tryd.prog hh438 30 (vP b337 0) (vA #[(vS (mxS a0 b0)), (vS a1)]) = some h448 ∧ (undef : Value) = undef) ∧ (loadT Tryd.prog h448 30 (vP b337 0) = some (vA #[(vS (mxS a0 b0)), (vS a1)]) ∧ (vB true) = (vB true) ∧ (vI 0) = (vI 0) ∧ True) ∧ (fun v h1 => v = (vT #[(vA #[(vS (rmeet a0 a1 b0 b1).1), (vS (rmeet a0 a1 b0 b1).2.1)]), (vB (rmeet a0 a1 b0 b1).2.2.1), (vI ((rmeet a0 a1 b0 b1).2.2.2))]) ∧ Ext h h1) (vT #[(vA #[(vS (mxS a0 b0)), (vS a1)]), (vB true), (vI 0)]) h448) (by kernel_rfl) ⟨⟨by rw [eb320], e318⟩, ⟨by rw [eb328], e326⟩, ⟨by rw [eb338], e336⟩, ⟨load_agg agg30 size30 f344 (by simp) (by kernel_rfl), rfl⟩, ⟨load_agg agg30 size30 f345 (by simp) (by kernel_rfl), rfl⟩, ⟨by rw [eb350], e348⟩, (by rw [if_pos c369, c369] at s362; exact s362), ⟨load_cell agg9 f364 rfl, rfl⟩, ⟨load_cell agg9 f365 rfl, rfl⟩, ⟨rfl, rfl⟩, ⟨load_cell agg9 f364 rfl, rfl⟩, ⟨by rw [eb373], e371⟩, ⟨by rw [e387]; exact store_cells size30 rfl f374 (by decide) (by simp) rfl (by kernel_rfl), rfl⟩, ⟨load_cell agg9 f390 rfl, rfl⟩, ⟨load_cell agg9 f389 rfl, rfl⟩, sn396, ⟨cmp_lss (decide_eq_false c398), rfl⟩, ⟨load_agg agg30 size30 f388 (by simp) (by kernel_rfl), rfl⟩, sn439, ⟨cmp_neq (decide_eq_false (not_not_intro c447)), rfl⟩, ⟨load_agg agg30 size30 f445 (by simp) (by kernel_rfl), rfl⟩, ⟨by rw [e449]; exact store_cells size30 rfl f443 (by decide) (by simp) rfl (by kernel_rfl), rfl⟩, ⟨load_agg agg30 size30 f450 (by simp) (by kernel_rfl), rfl, rfl, trivial⟩, ⟨by rw [e457], x456⟩⟩
      · obtain ⟨h458, e459⟩ : ∃ zq, zq = hh438.setIfInBounds b337 (.cells #[(vS .empty), (vS .empty)] 30 (0, 0)) := ⟨_, rfl⟩
        have f460 := set_same e459 f443
        have x466 := Ext.setNew x446 e459 o343
        have e467 : (rmeet a0 a1 b0 b1) = (.empty, .empty, false, 0) := by unfold rmeet; rw [if_pos c369, if_neg c398, if_neg c447]
        exact hCall_of (n := 200) (T := ⟨fun r i => match r, i with | 0, 0 => some ((vP b319 0), h317) | 0, 1 => some ((vP b327 0), h325) | 0, 2 => some ((vP b337 0), h335) | 1, 0 => some ((vA #[(vS a0), (vS a1)]), h335) | 1, 1 => some ((vA #[(vS b0), (vS b1)]), h335) | 1, 2 => some ((vL (some ⟨b349, 0, none⟩) 2 2), h347) | 1, 3 => some ((vT #[(Value.func (.func 55) #[] #[]), (vI 0)]), h361) | 4, 1 => some ((vS a0), h361) | 4, 3 => some ((vS b0), h361) | 4, 4 => some ((vS (mxS a0 b0)), h361) | 4, 6 => some ((vS a1), h361) | 4, 8 => some ((vP b372 0), h370) | 4, 9 => some (undef, h386) | 5, 2 => some ((vS b1), h386) | 5, 4 => some ((vS a1), h386) | 5, 5 => some ((vI ((endC b1 a1))), h386) | 5, 6 => some ((vB false), h386) | 7, 0 => some ((vA #[(vS (mxS a0 b0)), (vS a1)]), h386) | 7, 1 => some ((vI ((rchk (mxS a0 b0) a1))), hh438) | 7, 2 => some ((vB true), hh438) | 8, 1 => some (undef, h458) | _, _ => none, fun _ => none, some [(vA #[(vS .empty), (vS .empty)]), (vB false), (vI 0)]⟩)
          (A := ((vP b319 0) = (Value.pointer (some ⟨h.size, 0, none⟩)) ∧ h317 = h.push (.cells #[(vS a0), (vS a1)] 30 (0, 0))) ∧ ((vP b327 0) = (Value.pointer (some ⟨h317.size, 0, none⟩)) ∧ h325 = h317.push (.cells #[(vS b0), (vS b1)] 30 (0, 0))) ∧ ((vP b337 0) = (Value.pointer (some ⟨h325.size, 0, none⟩)) ∧ h335 = h325.push (.cells #[(vS .empty), (vS .empty)] 30 (0, 0))) ∧ (loadT Tryd.prog h335 30 (vP b319 0) = some (vA #[(vS a0), (vS a1)]) ∧ h335 = h335) ∧ (loadT Tryd.prog h335 30 (vP b327 0) = some (vA #[(vS b0), (vS b1)]) ∧ h335 = h335) ∧ ((vL (some ⟨b349, 0, none⟩) 2 2) = (vL (some ⟨h335.size, 0, none⟩) 2 2) ∧ h347 = h335.push (.cells #[(vS a0), (vS a1), (vS b0), (vS b1)] 30 (0, 0))) ∧ SoundCall Tryd.prog 38 #[(vL (some ⟨b349, 0, none⟩) 2 2)] h347 (vT #[(Value.func (.func 55) #[] #[]), (vI 0)]) h361 ∧ (loadT Tryd.prog h361 9 (vP b319 0) = some (vS a0) ∧ h361 = h361) ∧ (loadT Tryd.prog h361 9 (vP b327 0) = some (vS b0) ∧ h361 = h361) ∧ ((vS (mxS a0 b0)) = (vS (if !Op.bytesLess (a0).toList (b0).toList then a0 else b0)) ∧ h361 = h361) ∧ (loadT Tryd.prog h361 9 (vP b319 1) = some (vS a1) ∧ h361 = h361) ∧ ((vP b372 0) = (Value.pointer (some ⟨h361.size, 0, none⟩)) ∧ h370 = h361.push (.cells #[(vS .empty), (vS .empty)] 30 (0, 0))) ∧ (storeT Tryd.prog h370 30 (vP b372 0) (vA #[(vS (mxS a0 b0)), (vS a1)]) = some h386 ∧ (undef : Value) = undef) ∧ (loadT Tryd.prog h386 9 (vP b327 1) = some (vS b1) ∧ h386 = h386) ∧ (loadT Tryd.prog h386 9 (vP b319 1) = some (vS a1) ∧ h386 = h386) ∧ SoundCall Tryd.prog 55 #[(vS b1), (vS a1)] h386 (vI ((endC b1 a1))) h386 ∧ (binA Tryd.prog .lss 3 (vI ((endC b1 a1))) (vI 0) = some (vB false) ∧ h386 = h386) ∧ (loadT Tryd.prog h386 30 (vP b372 0) = some (vA #[(vS (mxS a0 b0)), (vS a1)]) ∧ h386 = h386) ∧ SoundCall Tryd.prog 16 #[(vA #[(vS (mxS a0 b0)), (vS a1)])] h386 (vI ((rchk (mxS a0 b0) a1))) hh438 ∧ (binA Tryd.prog .neq 33 (vI ((rchk (mxS a0 b0) a1))) (vI 0) = some (vB true) ∧ hh438 = hh438) ∧ (storeT Tryd.prog hh438 30 (vP b337 0) (vA #[(vS .empty), (vS .empty)]) = some h458 ∧ (undef : Value) = undef) ∧ (loadT Tryd.prog h458 30 (vP b337 0) = some (vA #[(vS .empty), (vS .empty)]) ∧ (vB false) = (vB false) ∧ (vI 0) = (vI 0) ∧ True) ∧ (fun v h1 => v = (vT #[(vA #[(vS (rmeet a0 a1 b0 b1).1), (vS (rmeet a0 a1 b0 b1).2.1)]), (vB (rmeet a0 a1 b0 b1).2.2.1), (vI ((rmeet a0 a1 b0 b1).2.2.2))]) ∧ Ext h h1) (vT #[(vA #[(vS .empty), (vS .empty)]), (vB false), (vI 0)]) h458) (by kernel_rfl) ⟨⟨by rw [eb320], e318⟩, ⟨by rw [eb328], e326⟩, ⟨by rw [eb338], e336⟩, ⟨load_agg agg30 size30 f344 (by simp) (by kernel_rfl), rfl⟩, ⟨load_agg agg30 size30 f345 (by simp) (by kernel_rfl), rfl⟩, ⟨by rw [eb350], e348⟩, (by rw [if_pos c369, c369] at s362; exact s362), ⟨load_cell agg9 f364 rfl, rfl⟩, ⟨load_cell agg9 f365 rfl, rfl⟩, ⟨rfl, rfl⟩, ⟨load_cell agg9 f364 rfl, rfl⟩, ⟨by rw [eb373], e371⟩, ⟨by rw [e387]; exact store_cells size30 rfl f374 (by decide) (by simp) rfl (by kernel_rfl), rfl⟩, ⟨load_cell agg9 f390 rfl, rfl⟩, ⟨load_cell agg9 f389 rfl, rfl⟩, sn396, ⟨cmp_lss (decide_eq_false c398), rfl⟩, ⟨load_agg agg30 size30 f388 (by simp) (by kernel_rfl), rfl⟩, sn439, ⟨cmp_neq (decide_eq_true c447), rfl⟩, ⟨by rw [e459]; exact store_cells size30 rfl f443 (by decide) (by simp) rfl (by kernel_rfl), rfl⟩, ⟨load_agg agg30 size30 f460 (by simp) (by kernel_rfl), rfl, rfl, trivial⟩, ⟨by rw [e467], x466⟩⟩
  · obtain ⟨h468, e469⟩ : ∃ zq, zq = h361.setIfInBounds b337 (.cells #[(vS .empty), (vS .empty)] 30 (0, 0)) := ⟨_, rfl⟩
    have f470 := set_same e469 f366
    have x475 := Ext.setNew x368 e469 o343
    have e476 : (rmeet a0 a1 b0 b1) = (.empty, .empty, false, ((if rchk a0 a1 = 0 then rchk b0 b1 else rchk a0 a1))) := by unfold rmeet; rw [if_neg c369]
    exact hCall_of (n := 200) (T := ⟨fun r i => match r, i with | 0, 0 => some ((vP b319 0), h317) | 0, 1 => some ((vP b327 0), h325) | 0, 2 => some ((vP b337 0), h335) | 1, 0 => some ((vA #[(vS a0), (vS a1)]), h335) | 1, 1 => some ((vA #[(vS b0), (vS b1)]), h335) | 1, 2 => some ((vL (some ⟨b349, 0, none⟩) 2 2), h347) | 1, 3 => some ((vT #[Value.nilFunc, (vI ((if rchk a0 a1 = 0 then rchk b0 b1 else rchk a0 a1)))]), h361) | 2, 1 => some ((vB true), h361) | 3, 2 => some (undef, h468) | _, _ => none, fun _ => none, some [(vA #[(vS .empty), (vS .empty)]), (vB false), (vI ((if rchk a0 a1 = 0 then rchk b0 b1 else rchk a0 a1)))]⟩)
      (A := ((vP b319 0) = (Value.pointer (some ⟨h.size, 0, none⟩)) ∧ h317 = h.push (.cells #[(vS a0), (vS a1)] 30 (0, 0))) ∧ ((vP b327 0) = (Value.pointer (some ⟨h317.size, 0, none⟩)) ∧ h325 = h317.push (.cells #[(vS b0), (vS b1)] 30 (0, 0))) ∧ ((vP b337 0) = (Value.pointer (some ⟨h325.size, 0, none⟩)) ∧ h335 = h325.push (.cells #[(vS .empty), (vS .empty)] 30 (0, 0))) ∧ (loadT Tryd.prog h335 30 (vP b319 0) = some (vA #[(vS a0), (vS a1)]) ∧ h335 = h335) ∧ (loadT Tryd.prog h335 30 (vP b327 0) = some (vA #[(vS b0), (vS b1)]) ∧ h335 = h335) ∧ ((vL (some ⟨b349, 0, none⟩) 2 2) = (vL (some ⟨h335.size, 0, none⟩) 2 2) ∧ h347 = h335.push (.cells #[(vS a0), (vS a1), (vS b0), (vS b1)] 30 (0, 0))) ∧ SoundCall Tryd.prog 38 #[(vL (some ⟨b349, 0, none⟩) 2 2)] h347 (vT #[Value.nilFunc, (vI ((if rchk a0 a1 = 0 then rchk b0 b1 else rchk a0 a1)))]) h361 ∧ (binA Tryd.prog .neq 33 (vI ((if rchk a0 a1 = 0 then rchk b0 b1 else rchk a0 a1))) (vI 0) = some (vB true) ∧ h361 = h361) ∧ (storeT Tryd.prog h361 30 (vP b337 0) (vA #[(vS .empty), (vS .empty)]) = some h468 ∧ (undef : Value) = undef) ∧ (loadT Tryd.prog h468 30 (vP b337 0) = some (vA #[(vS .empty), (vS .empty)]) ∧ (vB false) = (vB false) ∧ (vI ((if rchk a0 a1 = 0 then rchk b0 b1 else rchk a0 a1))) = (vI ((if rchk a0 a1 = 0 then rchk b0 b1 else rchk a0 a1))) ∧ True) ∧ (fun v h1 => v = (vT #[(vA #[(vS (rmeet a0 a1 b0 b1).1), (vS (rmeet a0 a1 b0 b1).2.1)]), (vB (rmeet a0 a1 b0 b1).2.2.1), (vI ((rmeet a0 a1 b0 b1).2.2.2))]) ∧ Ext h h1) (vT #[(vA #[(vS .empty), (vS .empty)]), (vB false), (vI ((if rchk a0 a1 = 0 then rchk b0 b1 else rchk a0 a1)))]) h468) (by kernel_rfl) ⟨⟨by rw [eb320], e318⟩, ⟨by rw [eb328], e326⟩, ⟨by rw [eb338], e336⟩, ⟨load_agg agg30 size30 f344 (by simp) (by kernel_rfl), rfl⟩, ⟨load_agg agg30 size30 f345 (by simp) (by kernel_rfl), rfl⟩, ⟨by rw [eb350], e348⟩, (by rw [if_neg c369] at s362; exact s362), ⟨cmp_neq (decide_eq_true c369), rfl⟩, ⟨by rw [e469]; exact store_cells size30 rfl f366 (by decide) (by simp) rfl (by kernel_rfl), rfl⟩, ⟨load_agg agg30 size30 f470 (by simp) (by kernel_rfl), rfl, rfl, trivial⟩, ⟨by rw [e476], x475⟩⟩
theorem mxS_size (a b : ByteArray) : (mxS a b).size = a.size ∨ (mxS a b).size = b.size := by
  rw [mxS_eq]; split
  · exact .inr rfl
  · exact .inl rfl
/-- What skaldref06.Check gives. -/
def sckE (r0 : ByteArray) (r1 : ByteArray) : Int := if (r0 : ByteArray) = .empty then (if (r1 : ByteArray) = .empty then 0 else (if (nameB r1) = true then (if sl r0 r1 = true then 0 else 2) else 2)) else (if (nameB r0) = true then (if (r1 : ByteArray) = .empty then 0 else (if (nameB r1) = true then (if sl r0 r1 = true then 0 else 2) else 2)) else 2)
set_option maxHeartbeats 4000000 in
theorem sckE_ok (h : Heap) (r0 : ByteArray) (r1 : ByteArray) (hr0 : r0.size ≤ 9223372036854775807) (hr1 : r1.size ≤ 9223372036854775807) : WCall Tryd.prog 42 #[(Value.agg #[(vS r0), (vS r1)])] h (fun v h1 => v = (vI ((sckE r0 r1))) ∧ Ext h h1) := by
  obtain ⟨b479, eb480⟩ : ∃ zq, zq = h.size := ⟨_, rfl⟩
  obtain ⟨h477, e478⟩ : ∃ zq, zq = h.push (.cells #[(vS r0), (vS r1)] 30 (0, 0)) := ⟨_, rfl⟩
  have f481 := push_new e478
  rw [← eb480] at f481
  have x482 : Ext h h477 := by rw [e478]; exact Ext.push _ _
  have o483 : h.size ≤ b479 := by have := (Ext.refl h).size; omega
  have x484 := (Ext.refl h).trans x482
  by_cases c485 : (r0 : ByteArray) = .empty
  · by_cases c486 : (r1 : ByteArray) = .empty
    · have e487 : (sckE r0 r1) = 0 := by unfold sckE; rw [if_pos c485, if_pos c486]
      exact hCall_of (n := 200) (T := ⟨fun r i => match r, i with | 0, 0 => some ((vP b479 0), h477) | 1, 1 => some ((vS r0), h477) | 1, 2 => some ((vB false), h477) | 1, 11 => some ((vS r1), h477) | 1, 12 => some ((vB false), h477) | 3, 1 => some ((vS r1), h477) | 3, 2 => some ((vB false), h477) | _, _ => none, fun _ => none, none⟩)
        (A := ((vP b479 0) = (Value.pointer (some ⟨h.size, 0, none⟩)) ∧ h477 = h.push (.cells #[(vS r0), (vS r1)] 30 (0, 0))) ∧ (loadT Tryd.prog h477 9 (vP b479 0) = some (vS r0) ∧ h477 = h477) ∧ (binA Tryd.prog .neq 9 (vS r0) (vS .empty) = some (vB false) ∧ h477 = h477) ∧ (loadT Tryd.prog h477 9 (vP b479 1) = some (vS r1) ∧ h477 = h477) ∧ (binA Tryd.prog .neq 9 (vS r1) (vS .empty) = some (vB false) ∧ h477 = h477) ∧ (loadT Tryd.prog h477 9 (vP b479 1) = some (vS r1) ∧ h477 = h477) ∧ (binA Tryd.prog .neq 9 (vS r1) (vS .empty) = some (vB false) ∧ h477 = h477) ∧ (fun v h1 => v = (vI ((sckE r0 r1))) ∧ Ext h h1) (vI 0) h477) (by kernel_rfl) ⟨⟨by rw [eb480], e478⟩, ⟨load_cell agg9 f481 rfl, rfl⟩, ⟨cmp_str_neq (decide_eq_false (not_not_intro c485)), rfl⟩, ⟨load_cell agg9 f481 rfl, rfl⟩, ⟨cmp_str_neq (decide_eq_false (not_not_intro c486)), rfl⟩, ⟨load_cell agg9 f481 rfl, rfl⟩, ⟨cmp_str_neq (decide_eq_false (not_not_intro c486)), rfl⟩, ⟨by rw [e487], x484⟩⟩
    · obtain ⟨_, _, sn489, rfl, rfl⟩ := rname_ok h477 r1 (by omega)
      rcases Bool.eq_false_or_eq_true ((nameB r1)) with c491 | c491
      · rcases Bool.eq_false_or_eq_true (sl r0 r1) with c492 | c492
        · have e493 : (sckE r0 r1) = 0 := by unfold sckE; rw [if_pos c485, if_neg c486, if_pos c491, if_pos c492]
          exact hCall_of (n := 200) (T := ⟨fun r i => match r, i with | 0, 0 => some ((vP b479 0), h477) | 1, 1 => some ((vS r0), h477) | 1, 2 => some ((vB false), h477) | 1, 11 => some ((vS r1), h477) | 1, 12 => some ((vB true), h477) | 1, 15 => some ((vS r1), h477) | 1, 16 => some ((vB true), h477) | 3, 1 => some ((vS r1), h477) | 3, 2 => some ((vB true), h477) | 3, 5 => some ((vS r0), h477) | 3, 7 => some ((vS r1), h477) | 3, 8 => some ((vB false), h477) | _, _ => none, fun _ => none, none⟩)
            (A := ((vP b479 0) = (Value.pointer (some ⟨h.size, 0, none⟩)) ∧ h477 = h.push (.cells #[(vS r0), (vS r1)] 30 (0, 0))) ∧ (loadT Tryd.prog h477 9 (vP b479 0) = some (vS r0) ∧ h477 = h477) ∧ (binA Tryd.prog .neq 9 (vS r0) (vS .empty) = some (vB false) ∧ h477 = h477) ∧ (loadT Tryd.prog h477 9 (vP b479 1) = some (vS r1) ∧ h477 = h477) ∧ (binA Tryd.prog .neq 9 (vS r1) (vS .empty) = some (vB true) ∧ h477 = h477) ∧ (loadT Tryd.prog h477 9 (vP b479 1) = some (vS r1) ∧ h477 = h477) ∧ SoundCall Tryd.prog 57 #[(vS r1)] h477 (vB true) h477 ∧ (loadT Tryd.prog h477 9 (vP b479 1) = some (vS r1) ∧ h477 = h477) ∧ (binA Tryd.prog .neq 9 (vS r1) (vS .empty) = some (vB true) ∧ h477 = h477) ∧ (loadT Tryd.prog h477 9 (vP b479 0) = some (vS r0) ∧ h477 = h477) ∧ (loadT Tryd.prog h477 9 (vP b479 1) = some (vS r1) ∧ h477 = h477) ∧ (binA Tryd.prog .geq 9 (vS r0) (vS r1) = some (vB false) ∧ h477 = h477) ∧ (fun v h1 => v = (vI ((sckE r0 r1))) ∧ Ext h h1) (vI 0) h477) (by kernel_rfl) ⟨⟨by rw [eb480], e478⟩, ⟨load_cell agg9 f481 rfl, rfl⟩, ⟨cmp_str_neq (decide_eq_false (not_not_intro c485)), rfl⟩, ⟨load_cell agg9 f481 rfl, rfl⟩, ⟨cmp_str_neq (decide_eq_true c486), rfl⟩, ⟨load_cell agg9 f481 rfl, rfl⟩, (by rw [← c491]; exact sn489), ⟨load_cell agg9 f481 rfl, rfl⟩, ⟨cmp_str_neq (decide_eq_true c486), rfl⟩, ⟨load_cell agg9 f481 rfl, rfl⟩, ⟨load_cell agg9 f481 rfl, rfl⟩, ⟨str_geq c492, rfl⟩, ⟨by rw [e493], x484⟩⟩
        · have e494 : (sckE r0 r1) = 2 := by unfold sckE; rw [if_pos c485, if_neg c486, if_pos c491, if_neg (Bool.eq_false_iff.1 c492)]
          exact hCall_of (n := 200) (T := ⟨fun r i => match r, i with | 0, 0 => some ((vP b479 0), h477) | 1, 1 => some ((vS r0), h477) | 1, 2 => some ((vB false), h477) | 1, 11 => some ((vS r1), h477) | 1, 12 => some ((vB true), h477) | 1, 15 => some ((vS r1), h477) | 1, 16 => some ((vB true), h477) | 3, 1 => some ((vS r1), h477) | 3, 2 => some ((vB true), h477) | 3, 5 => some ((vS r0), h477) | 3, 7 => some ((vS r1), h477) | 3, 8 => some ((vB true), h477) | _, _ => none, fun _ => none, none⟩)
            (A := ((vP b479 0) = (Value.pointer (some ⟨h.size, 0, none⟩)) ∧ h477 = h.push (.cells #[(vS r0), (vS r1)] 30 (0, 0))) ∧ (loadT Tryd.prog h477 9 (vP b479 0) = some (vS r0) ∧ h477 = h477) ∧ (binA Tryd.prog .neq 9 (vS r0) (vS .empty) = some (vB false) ∧ h477 = h477) ∧ (loadT Tryd.prog h477 9 (vP b479 1) = some (vS r1) ∧ h477 = h477) ∧ (binA Tryd.prog .neq 9 (vS r1) (vS .empty) = some (vB true) ∧ h477 = h477) ∧ (loadT Tryd.prog h477 9 (vP b479 1) = some (vS r1) ∧ h477 = h477) ∧ SoundCall Tryd.prog 57 #[(vS r1)] h477 (vB true) h477 ∧ (loadT Tryd.prog h477 9 (vP b479 1) = some (vS r1) ∧ h477 = h477) ∧ (binA Tryd.prog .neq 9 (vS r1) (vS .empty) = some (vB true) ∧ h477 = h477) ∧ (loadT Tryd.prog h477 9 (vP b479 0) = some (vS r0) ∧ h477 = h477) ∧ (loadT Tryd.prog h477 9 (vP b479 1) = some (vS r1) ∧ h477 = h477) ∧ (binA Tryd.prog .geq 9 (vS r0) (vS r1) = some (vB true) ∧ h477 = h477) ∧ (fun v h1 => v = (vI ((sckE r0 r1))) ∧ Ext h h1) (vI 2) h477) (by kernel_rfl) ⟨⟨by rw [eb480], e478⟩, ⟨load_cell agg9 f481 rfl, rfl⟩, ⟨cmp_str_neq (decide_eq_false (not_not_intro c485)), rfl⟩, ⟨load_cell agg9 f481 rfl, rfl⟩, ⟨cmp_str_neq (decide_eq_true c486), rfl⟩, ⟨load_cell agg9 f481 rfl, rfl⟩, (by rw [← c491]; exact sn489), ⟨load_cell agg9 f481 rfl, rfl⟩, ⟨cmp_str_neq (decide_eq_true c486), rfl⟩, ⟨load_cell agg9 f481 rfl, rfl⟩, ⟨load_cell agg9 f481 rfl, rfl⟩, ⟨str_geq c492, rfl⟩, ⟨by rw [e494], x484⟩⟩
      · have e495 : (sckE r0 r1) = 2 := by unfold sckE; rw [if_pos c485, if_neg c486, if_neg (Bool.eq_false_iff.1 c491)]
        exact hCall_of (n := 200) (T := ⟨fun r i => match r, i with | 0, 0 => some ((vP b479 0), h477) | 1, 1 => some ((vS r0), h477) | 1, 2 => some ((vB false), h477) | 1, 11 => some ((vS r1), h477) | 1, 12 => some ((vB true), h477) | 1, 15 => some ((vS r1), h477) | 1, 16 => some ((vB false), h477) | _, _ => none, fun _ => none, none⟩)
          (A := ((vP b479 0) = (Value.pointer (some ⟨h.size, 0, none⟩)) ∧ h477 = h.push (.cells #[(vS r0), (vS r1)] 30 (0, 0))) ∧ (loadT Tryd.prog h477 9 (vP b479 0) = some (vS r0) ∧ h477 = h477) ∧ (binA Tryd.prog .neq 9 (vS r0) (vS .empty) = some (vB false) ∧ h477 = h477) ∧ (loadT Tryd.prog h477 9 (vP b479 1) = some (vS r1) ∧ h477 = h477) ∧ (binA Tryd.prog .neq 9 (vS r1) (vS .empty) = some (vB true) ∧ h477 = h477) ∧ (loadT Tryd.prog h477 9 (vP b479 1) = some (vS r1) ∧ h477 = h477) ∧ SoundCall Tryd.prog 57 #[(vS r1)] h477 (vB false) h477 ∧ (fun v h1 => v = (vI ((sckE r0 r1))) ∧ Ext h h1) (vI 2) h477) (by kernel_rfl) ⟨⟨by rw [eb480], e478⟩, ⟨load_cell agg9 f481 rfl, rfl⟩, ⟨cmp_str_neq (decide_eq_false (not_not_intro c485)), rfl⟩, ⟨load_cell agg9 f481 rfl, rfl⟩, ⟨cmp_str_neq (decide_eq_true c486), rfl⟩, ⟨load_cell agg9 f481 rfl, rfl⟩, (by rw [← c491]; exact sn489), ⟨by rw [e495], x484⟩⟩
  · obtain ⟨_, _, sn497, rfl, rfl⟩ := rname_ok h477 r0 (by omega)
    rcases Bool.eq_false_or_eq_true ((nameB r0)) with c499 | c499
    · by_cases c500 : (r1 : ByteArray) = .empty
      · have e501 : (sckE r0 r1) = 0 := by unfold sckE; rw [if_neg c485, if_pos c499, if_pos c500]
        exact hCall_of (n := 200) (T := ⟨fun r i => match r, i with | 0, 0 => some ((vP b479 0), h477) | 1, 1 => some ((vS r0), h477) | 1, 2 => some ((vB true), h477) | 1, 5 => some ((vS r0), h477) | 1, 6 => some ((vB true), h477) | 1, 11 => some ((vS r1), h477) | 1, 12 => some ((vB false), h477) | 3, 1 => some ((vS r1), h477) | 3, 2 => some ((vB false), h477) | _, _ => none, fun _ => none, none⟩)
          (A := ((vP b479 0) = (Value.pointer (some ⟨h.size, 0, none⟩)) ∧ h477 = h.push (.cells #[(vS r0), (vS r1)] 30 (0, 0))) ∧ (loadT Tryd.prog h477 9 (vP b479 0) = some (vS r0) ∧ h477 = h477) ∧ (binA Tryd.prog .neq 9 (vS r0) (vS .empty) = some (vB true) ∧ h477 = h477) ∧ (loadT Tryd.prog h477 9 (vP b479 0) = some (vS r0) ∧ h477 = h477) ∧ SoundCall Tryd.prog 57 #[(vS r0)] h477 (vB true) h477 ∧ (loadT Tryd.prog h477 9 (vP b479 1) = some (vS r1) ∧ h477 = h477) ∧ (binA Tryd.prog .neq 9 (vS r1) (vS .empty) = some (vB false) ∧ h477 = h477) ∧ (loadT Tryd.prog h477 9 (vP b479 1) = some (vS r1) ∧ h477 = h477) ∧ (binA Tryd.prog .neq 9 (vS r1) (vS .empty) = some (vB false) ∧ h477 = h477) ∧ (fun v h1 => v = (vI ((sckE r0 r1))) ∧ Ext h h1) (vI 0) h477) (by kernel_rfl) ⟨⟨by rw [eb480], e478⟩, ⟨load_cell agg9 f481 rfl, rfl⟩, ⟨cmp_str_neq (decide_eq_true c485), rfl⟩, ⟨load_cell agg9 f481 rfl, rfl⟩, (by rw [← c499]; exact sn497), ⟨load_cell agg9 f481 rfl, rfl⟩, ⟨cmp_str_neq (decide_eq_false (not_not_intro c500)), rfl⟩, ⟨load_cell agg9 f481 rfl, rfl⟩, ⟨cmp_str_neq (decide_eq_false (not_not_intro c500)), rfl⟩, ⟨by rw [e501], x484⟩⟩
      · obtain ⟨_, _, sn503, rfl, rfl⟩ := rname_ok h477 r1 (by omega)
        rcases Bool.eq_false_or_eq_true ((nameB r1)) with c505 | c505
        · rcases Bool.eq_false_or_eq_true (sl r0 r1) with c506 | c506
          · have e507 : (sckE r0 r1) = 0 := by unfold sckE; rw [if_neg c485, if_pos c499, if_neg c500, if_pos c505, if_pos c506]
            exact hCall_of (n := 200) (T := ⟨fun r i => match r, i with | 0, 0 => some ((vP b479 0), h477) | 1, 1 => some ((vS r0), h477) | 1, 2 => some ((vB true), h477) | 1, 5 => some ((vS r0), h477) | 1, 6 => some ((vB true), h477) | 1, 11 => some ((vS r1), h477) | 1, 12 => some ((vB true), h477) | 1, 15 => some ((vS r1), h477) | 1, 16 => some ((vB true), h477) | 3, 1 => some ((vS r1), h477) | 3, 2 => some ((vB true), h477) | 3, 5 => some ((vS r0), h477) | 3, 7 => some ((vS r1), h477) | 3, 8 => some ((vB false), h477) | _, _ => none, fun _ => none, none⟩)
              (A := ((vP b479 0) = (Value.pointer (some ⟨h.size, 0, none⟩)) ∧ h477 = h.push (.cells #[(vS r0), (vS r1)] 30 (0, 0))) ∧ (loadT Tryd.prog h477 9 (vP b479 0) = some (vS r0) ∧ h477 = h477) ∧ (binA Tryd.prog .neq 9 (vS r0) (vS .empty) = some (vB true) ∧ h477 = h477) ∧ (loadT Tryd.prog h477 9 (vP b479 0) = some (vS r0) ∧ h477 = h477) ∧ SoundCall Tryd.prog 57 #[(vS r0)] h477 (vB true) h477 ∧ (loadT Tryd.prog h477 9 (vP b479 1) = some (vS r1) ∧ h477 = h477) ∧ (binA Tryd.prog .neq 9 (vS r1) (vS .empty) = some (vB true) ∧ h477 = h477) ∧ (loadT Tryd.prog h477 9 (vP b479 1) = some (vS r1) ∧ h477 = h477) ∧ SoundCall Tryd.prog 57 #[(vS r1)] h477 (vB true) h477 ∧ (loadT Tryd.prog h477 9 (vP b479 1) = some (vS r1) ∧ h477 = h477) ∧ (binA Tryd.prog .neq 9 (vS r1) (vS .empty) = some (vB true) ∧ h477 = h477) ∧ (loadT Tryd.prog h477 9 (vP b479 0) = some (vS r0) ∧ h477 = h477) ∧ (loadT Tryd.prog h477 9 (vP b479 1) = some (vS r1) ∧ h477 = h477) ∧ (binA Tryd.prog .geq 9 (vS r0) (vS r1) = some (vB false) ∧ h477 = h477) ∧ (fun v h1 => v = (vI ((sckE r0 r1))) ∧ Ext h h1) (vI 0) h477) (by kernel_rfl) ⟨⟨by rw [eb480], e478⟩, ⟨load_cell agg9 f481 rfl, rfl⟩, ⟨cmp_str_neq (decide_eq_true c485), rfl⟩, ⟨load_cell agg9 f481 rfl, rfl⟩, (by rw [← c499]; exact sn497), ⟨load_cell agg9 f481 rfl, rfl⟩, ⟨cmp_str_neq (decide_eq_true c500), rfl⟩, ⟨load_cell agg9 f481 rfl, rfl⟩, (by rw [← c505]; exact sn503), ⟨load_cell agg9 f481 rfl, rfl⟩, ⟨cmp_str_neq (decide_eq_true c500), rfl⟩, ⟨load_cell agg9 f481 rfl, rfl⟩, ⟨load_cell agg9 f481 rfl, rfl⟩, ⟨str_geq c506, rfl⟩, ⟨by rw [e507], x484⟩⟩
          · have e508 : (sckE r0 r1) = 2 := by unfold sckE; rw [if_neg c485, if_pos c499, if_neg c500, if_pos c505, if_neg (Bool.eq_false_iff.1 c506)]
            exact hCall_of (n := 200) (T := ⟨fun r i => match r, i with | 0, 0 => some ((vP b479 0), h477) | 1, 1 => some ((vS r0), h477) | 1, 2 => some ((vB true), h477) | 1, 5 => some ((vS r0), h477) | 1, 6 => some ((vB true), h477) | 1, 11 => some ((vS r1), h477) | 1, 12 => some ((vB true), h477) | 1, 15 => some ((vS r1), h477) | 1, 16 => some ((vB true), h477) | 3, 1 => some ((vS r1), h477) | 3, 2 => some ((vB true), h477) | 3, 5 => some ((vS r0), h477) | 3, 7 => some ((vS r1), h477) | 3, 8 => some ((vB true), h477) | _, _ => none, fun _ => none, none⟩)
              (A := ((vP b479 0) = (Value.pointer (some ⟨h.size, 0, none⟩)) ∧ h477 = h.push (.cells #[(vS r0), (vS r1)] 30 (0, 0))) ∧ (loadT Tryd.prog h477 9 (vP b479 0) = some (vS r0) ∧ h477 = h477) ∧ (binA Tryd.prog .neq 9 (vS r0) (vS .empty) = some (vB true) ∧ h477 = h477) ∧ (loadT Tryd.prog h477 9 (vP b479 0) = some (vS r0) ∧ h477 = h477) ∧ SoundCall Tryd.prog 57 #[(vS r0)] h477 (vB true) h477 ∧ (loadT Tryd.prog h477 9 (vP b479 1) = some (vS r1) ∧ h477 = h477) ∧ (binA Tryd.prog .neq 9 (vS r1) (vS .empty) = some (vB true) ∧ h477 = h477) ∧ (loadT Tryd.prog h477 9 (vP b479 1) = some (vS r1) ∧ h477 = h477) ∧ SoundCall Tryd.prog 57 #[(vS r1)] h477 (vB true) h477 ∧ (loadT Tryd.prog h477 9 (vP b479 1) = some (vS r1) ∧ h477 = h477) ∧ (binA Tryd.prog .neq 9 (vS r1) (vS .empty) = some (vB true) ∧ h477 = h477) ∧ (loadT Tryd.prog h477 9 (vP b479 0) = some (vS r0) ∧ h477 = h477) ∧ (loadT Tryd.prog h477 9 (vP b479 1) = some (vS r1) ∧ h477 = h477) ∧ (binA Tryd.prog .geq 9 (vS r0) (vS r1) = some (vB true) ∧ h477 = h477) ∧ (fun v h1 => v = (vI ((sckE r0 r1))) ∧ Ext h h1) (vI 2) h477) (by kernel_rfl) ⟨⟨by rw [eb480], e478⟩, ⟨load_cell agg9 f481 rfl, rfl⟩, ⟨cmp_str_neq (decide_eq_true c485), rfl⟩, ⟨load_cell agg9 f481 rfl, rfl⟩, (by rw [← c499]; exact sn497), ⟨load_cell agg9 f481 rfl, rfl⟩, ⟨cmp_str_neq (decide_eq_true c500), rfl⟩, ⟨load_cell agg9 f481 rfl, rfl⟩, (by rw [← c505]; exact sn503), ⟨load_cell agg9 f481 rfl, rfl⟩, ⟨cmp_str_neq (decide_eq_true c500), rfl⟩, ⟨load_cell agg9 f481 rfl, rfl⟩, ⟨load_cell agg9 f481 rfl, rfl⟩, ⟨str_geq c506, rfl⟩, ⟨by rw [e508], x484⟩⟩
        · have e509 : (sckE r0 r1) = 2 := by unfold sckE; rw [if_neg c485, if_pos c499, if_neg c500, if_neg (Bool.eq_false_iff.1 c505)]
          exact hCall_of (n := 200) (T := ⟨fun r i => match r, i with | 0, 0 => some ((vP b479 0), h477) | 1, 1 => some ((vS r0), h477) | 1, 2 => some ((vB true), h477) | 1, 5 => some ((vS r0), h477) | 1, 6 => some ((vB true), h477) | 1, 11 => some ((vS r1), h477) | 1, 12 => some ((vB true), h477) | 1, 15 => some ((vS r1), h477) | 1, 16 => some ((vB false), h477) | _, _ => none, fun _ => none, none⟩)
            (A := ((vP b479 0) = (Value.pointer (some ⟨h.size, 0, none⟩)) ∧ h477 = h.push (.cells #[(vS r0), (vS r1)] 30 (0, 0))) ∧ (loadT Tryd.prog h477 9 (vP b479 0) = some (vS r0) ∧ h477 = h477) ∧ (binA Tryd.prog .neq 9 (vS r0) (vS .empty) = some (vB true) ∧ h477 = h477) ∧ (loadT Tryd.prog h477 9 (vP b479 0) = some (vS r0) ∧ h477 = h477) ∧ SoundCall Tryd.prog 57 #[(vS r0)] h477 (vB true) h477 ∧ (loadT Tryd.prog h477 9 (vP b479 1) = some (vS r1) ∧ h477 = h477) ∧ (binA Tryd.prog .neq 9 (vS r1) (vS .empty) = some (vB true) ∧ h477 = h477) ∧ (loadT Tryd.prog h477 9 (vP b479 1) = some (vS r1) ∧ h477 = h477) ∧ SoundCall Tryd.prog 57 #[(vS r1)] h477 (vB false) h477 ∧ (fun v h1 => v = (vI ((sckE r0 r1))) ∧ Ext h h1) (vI 2) h477) (by kernel_rfl) ⟨⟨by rw [eb480], e478⟩, ⟨load_cell agg9 f481 rfl, rfl⟩, ⟨cmp_str_neq (decide_eq_true c485), rfl⟩, ⟨load_cell agg9 f481 rfl, rfl⟩, (by rw [← c499]; exact sn497), ⟨load_cell agg9 f481 rfl, rfl⟩, ⟨cmp_str_neq (decide_eq_true c500), rfl⟩, ⟨load_cell agg9 f481 rfl, rfl⟩, (by rw [← c505]; exact sn503), ⟨by rw [e509], x484⟩⟩
    · have e510 : (sckE r0 r1) = 2 := by unfold sckE; rw [if_neg c485, if_neg (Bool.eq_false_iff.1 c499)]
      exact hCall_of (n := 200) (T := ⟨fun r i => match r, i with | 0, 0 => some ((vP b479 0), h477) | 1, 1 => some ((vS r0), h477) | 1, 2 => some ((vB true), h477) | 1, 5 => some ((vS r0), h477) | 1, 6 => some ((vB false), h477) | _, _ => none, fun _ => none, none⟩)
        (A := ((vP b479 0) = (Value.pointer (some ⟨h.size, 0, none⟩)) ∧ h477 = h.push (.cells #[(vS r0), (vS r1)] 30 (0, 0))) ∧ (loadT Tryd.prog h477 9 (vP b479 0) = some (vS r0) ∧ h477 = h477) ∧ (binA Tryd.prog .neq 9 (vS r0) (vS .empty) = some (vB true) ∧ h477 = h477) ∧ (loadT Tryd.prog h477 9 (vP b479 0) = some (vS r0) ∧ h477 = h477) ∧ SoundCall Tryd.prog 57 #[(vS r0)] h477 (vB false) h477 ∧ (fun v h1 => v = (vI ((sckE r0 r1))) ∧ Ext h h1) (vI 2) h477) (by kernel_rfl) ⟨⟨by rw [eb480], e478⟩, ⟨load_cell agg9 f481 rfl, rfl⟩, ⟨cmp_str_neq (decide_eq_true c485), rfl⟩, ⟨load_cell agg9 f481 rfl, rfl⟩, (by rw [← c499]; exact sn497), ⟨by rw [e510], x484⟩⟩
theorem sckE_eq (r0 : ByteArray) (r1 : ByteArray) : sckE r0 r1 = rchk r0 r1 := by
  unfold sckE rchk
  by_cases h1 : r0 = .empty <;> by_cases h2 : r1 = .empty <;> cases h3 : nameB r0 <;> cases h4 : nameB r1 <;> cases h5 : sl r0 r1 <;> simp [h1, h2, h3, h4, h5]
theorem sckE_can (h : Heap) (r0 : ByteArray) (r1 : ByteArray) (hr0 : r0.size ≤ 9223372036854775807) (hr1 : r1.size ≤ 9223372036854775807) : WCall Tryd.prog 42 #[(Value.agg #[(vS r0), (vS r1)])] h (fun v h1 => v = (vI ((rchk r0 r1))) ∧ Ext h h1) := by
  have q := sckE_ok h r0 r1 hr0 hr1
  rw [sckE_eq] at q
  exact q
/-- What skaldref06.end gives. -/
def endS (a : ByteArray) (b : ByteArray) : ByteArray := if (a : ByteArray) = .empty then b else (if (b : ByteArray) = .empty then a else (if sl b a = true then b else a))
set_option maxHeartbeats 4000000 in
theorem endS_ok (h : Heap) (a : ByteArray) (b : ByteArray) : WCall Tryd.prog 59 #[(vS a), (vS b)] h (fun v h1 => v = (vS (endS a b)) ∧ h = h1) := by
  by_cases c511 : (a : ByteArray) = .empty
  · have e512 : (endS a b) = b := by unfold endS; rw [if_pos c511]
    exact hCall_of (n := 200) (T := ⟨fun r i => match r, i with | 1, 1 => some ((vB true), h) | _, _ => none, fun _ => none, none⟩)
      (A := (binA Tryd.prog .eql 9 (vS a) (vS .empty) = some (vB true) ∧ h = h) ∧ (fun v h1 => v = (vS (endS a b)) ∧ h = h1) (vS b) h) (by kernel_rfl) ⟨⟨cmp_str_eql (decide_eq_true c511), rfl⟩, ⟨by rw [e512], rfl⟩⟩
  · by_cases c513 : (b : ByteArray) = .empty
    · have e514 : (endS a b) = a := by unfold endS; rw [if_neg c511, if_pos c513]
      exact hCall_of (n := 200) (T := ⟨fun r i => match r, i with | 1, 1 => some ((vB false), h) | 1, 4 => some ((vB false), h) | _, _ => none, fun _ => none, none⟩)
        (A := (binA Tryd.prog .eql 9 (vS a) (vS .empty) = some (vB false) ∧ h = h) ∧ (binA Tryd.prog .neq 9 (vS b) (vS .empty) = some (vB false) ∧ h = h) ∧ (fun v h1 => v = (vS (endS a b)) ∧ h = h1) (vS a) h) (by kernel_rfl) ⟨⟨cmp_str_eql (decide_eq_false c511), rfl⟩, ⟨cmp_str_neq (decide_eq_false (not_not_intro c513)), rfl⟩, ⟨by rw [e514], rfl⟩⟩
    · rcases Bool.eq_false_or_eq_true (sl b a) with c515 | c515
      · have e516 : (endS a b) = b := by unfold endS; rw [if_neg c511, if_neg c513, if_pos c515]
        exact hCall_of (n := 200) (T := ⟨fun r i => match r, i with | 1, 1 => some ((vB false), h) | 1, 4 => some ((vB true), h) | 1, 8 => some ((vB true), h) | _, _ => none, fun _ => none, none⟩)
          (A := (binA Tryd.prog .eql 9 (vS a) (vS .empty) = some (vB false) ∧ h = h) ∧ (binA Tryd.prog .neq 9 (vS b) (vS .empty) = some (vB true) ∧ h = h) ∧ (binA Tryd.prog .lss 9 (vS b) (vS a) = some (vB true) ∧ h = h) ∧ (fun v h1 => v = (vS (endS a b)) ∧ h = h1) (vS b) h) (by kernel_rfl) ⟨⟨cmp_str_eql (decide_eq_false c511), rfl⟩, ⟨cmp_str_neq (decide_eq_true c513), rfl⟩, ⟨str_lss c515, rfl⟩, ⟨by rw [e516], rfl⟩⟩
      · have e517 : (endS a b) = a := by unfold endS; rw [if_neg c511, if_neg c513, if_neg (Bool.eq_false_iff.1 c515)]
        exact hCall_of (n := 200) (T := ⟨fun r i => match r, i with | 1, 1 => some ((vB false), h) | 1, 4 => some ((vB true), h) | 1, 8 => some ((vB false), h) | _, _ => none, fun _ => none, none⟩)
          (A := (binA Tryd.prog .eql 9 (vS a) (vS .empty) = some (vB false) ∧ h = h) ∧ (binA Tryd.prog .neq 9 (vS b) (vS .empty) = some (vB true) ∧ h = h) ∧ (binA Tryd.prog .lss 9 (vS b) (vS a) = some (vB false) ∧ h = h) ∧ (fun v h1 => v = (vS (endS a b)) ∧ h = h1) (vS a) h) (by kernel_rfl) ⟨⟨cmp_str_eql (decide_eq_false c511), rfl⟩, ⟨cmp_str_neq (decide_eq_true c513), rfl⟩, ⟨str_lss c515, rfl⟩, ⟨by rw [e517], rfl⟩⟩
theorem endS_size (a b : ByteArray) : (endS a b).size = a.size ∨ (endS a b).size = b.size := by
  unfold endS; repeat' split
  all_goals first | exact .inl rfl | exact .inr rfl
/-- What skaldref06.both gives. -/
def sboth (a0 : ByteArray) (a1 : ByteArray) (b0 : ByteArray) (b1 : ByteArray) : Int := if (((rchk a0 a1)) : Int) = 0 then (if (((rchk b0 b1)) : Int) = 0 then 0 else 2) else 2
set_option maxHeartbeats 4000000 in
theorem sboth_ok (h : Heap) (a0 : ByteArray) (a1 : ByteArray) (b0 : ByteArray) (b1 : ByteArray) (ha0 : a0.size ≤ 9223372036854775807) (ha1 : a1.size ≤ 9223372036854775807) (hb0 : b0.size ≤ 9223372036854775807) (hb1 : b1.size ≤ 9223372036854775807) : WCall Tryd.prog 58 #[(Value.agg #[(vS a0), (vS a1)]), (Value.agg #[(vS b0), (vS b1)])] h (fun v h1 => v = (vI ((sboth a0 a1 b0 b1))) ∧ Ext h h1) := by
  obtain ⟨b520, eb521⟩ : ∃ zq, zq = h.size := ⟨_, rfl⟩
  obtain ⟨h518, e519⟩ : ∃ zq, zq = h.push (.cells #[(vS a0), (vS a1)] 30 (0, 0)) := ⟨_, rfl⟩
  have f522 := push_new e519
  rw [← eb521] at f522
  have x523 : Ext h h518 := by rw [e519]; exact Ext.push _ _
  have o524 : h.size ≤ b520 := by have := (Ext.refl h).size; omega
  have x525 := (Ext.refl h).trans x523
  obtain ⟨b528, eb529⟩ : ∃ zq, zq = h518.size := ⟨_, rfl⟩
  obtain ⟨h526, e527⟩ : ∃ zq, zq = h518.push (.cells #[(vS b0), (vS b1)] 30 (0, 0)) := ⟨_, rfl⟩
  have f530 := push_new e527
  rw [← eb529] at f530
  have x532 : Ext h518 h526 := by rw [e527]; exact Ext.push _ _
  have o533 : h.size ≤ b528 := by have := x525.size; omega
  have f534 := x532 _ _ f522
  have x535 := x525.trans x532
  obtain ⟨_, hh536, sn537, rfl, x538⟩ := sckE_can h526 a0 a1 (by omega) (by omega)
  have f540 := x538 _ _ f530
  have x541 := x535.trans x538
  by_cases c542 : (((rchk a0 a1)) : Int) = 0
  · obtain ⟨_, hh543, sn544, rfl, x545⟩ := sckE_can hh536 b0 b1 (by omega) (by omega)
    have x548 := x541.trans x545
    by_cases c549 : (((rchk b0 b1)) : Int) = 0
    · have e550 : (sboth a0 a1 b0 b1) = 0 := by unfold sboth; rw [if_pos c542, if_pos c549]
      exact hCall_of (n := 200) (T := ⟨fun r i => match r, i with | 0, 0 => some ((vP b520 0), h518) | 0, 1 => some ((vP b528 0), h526) | 1, 0 => some ((vA #[(vS a0), (vS a1)]), h526) | 1, 1 => some ((vI ((rchk a0 a1))), hh536) | 1, 2 => some ((vB false), hh536) | 1, 4 => some ((vA #[(vS b0), (vS b1)]), hh536) | 1, 5 => some ((vI ((rchk b0 b1))), hh543) | 1, 6 => some ((vB false), hh543) | _, _ => none, fun _ => none, none⟩)
        (A := ((vP b520 0) = (Value.pointer (some ⟨h.size, 0, none⟩)) ∧ h518 = h.push (.cells #[(vS a0), (vS a1)] 30 (0, 0))) ∧ ((vP b528 0) = (Value.pointer (some ⟨h518.size, 0, none⟩)) ∧ h526 = h518.push (.cells #[(vS b0), (vS b1)] 30 (0, 0))) ∧ (loadT Tryd.prog h526 30 (vP b520 0) = some (vA #[(vS a0), (vS a1)]) ∧ h526 = h526) ∧ SoundCall Tryd.prog 42 #[(vA #[(vS a0), (vS a1)])] h526 (vI ((rchk a0 a1))) hh536 ∧ (binA Tryd.prog .neq 33 (vI ((rchk a0 a1))) (vI 0) = some (vB false) ∧ hh536 = hh536) ∧ (loadT Tryd.prog hh536 30 (vP b528 0) = some (vA #[(vS b0), (vS b1)]) ∧ hh536 = hh536) ∧ SoundCall Tryd.prog 42 #[(vA #[(vS b0), (vS b1)])] hh536 (vI ((rchk b0 b1))) hh543 ∧ (binA Tryd.prog .neq 33 (vI ((rchk b0 b1))) (vI 0) = some (vB false) ∧ hh543 = hh543) ∧ (fun v h1 => v = (vI ((sboth a0 a1 b0 b1))) ∧ Ext h h1) (vI 0) hh543) (by kernel_rfl) ⟨⟨by rw [eb521], e519⟩, ⟨by rw [eb529], e527⟩, ⟨load_agg agg30 size30 f534 (by simp) (by kernel_rfl), rfl⟩, sn537, ⟨cmp_neq (decide_eq_false (not_not_intro c542)), rfl⟩, ⟨load_agg agg30 size30 f540 (by simp) (by kernel_rfl), rfl⟩, sn544, ⟨cmp_neq (decide_eq_false (not_not_intro c549)), rfl⟩, ⟨by rw [e550], x548⟩⟩
    · have e551 : (sboth a0 a1 b0 b1) = 2 := by unfold sboth; rw [if_pos c542, if_neg c549]
      exact hCall_of (n := 200) (T := ⟨fun r i => match r, i with | 0, 0 => some ((vP b520 0), h518) | 0, 1 => some ((vP b528 0), h526) | 1, 0 => some ((vA #[(vS a0), (vS a1)]), h526) | 1, 1 => some ((vI ((rchk a0 a1))), hh536) | 1, 2 => some ((vB false), hh536) | 1, 4 => some ((vA #[(vS b0), (vS b1)]), hh536) | 1, 5 => some ((vI ((rchk b0 b1))), hh543) | 1, 6 => some ((vB true), hh543) | _, _ => none, fun _ => none, none⟩)
        (A := ((vP b520 0) = (Value.pointer (some ⟨h.size, 0, none⟩)) ∧ h518 = h.push (.cells #[(vS a0), (vS a1)] 30 (0, 0))) ∧ ((vP b528 0) = (Value.pointer (some ⟨h518.size, 0, none⟩)) ∧ h526 = h518.push (.cells #[(vS b0), (vS b1)] 30 (0, 0))) ∧ (loadT Tryd.prog h526 30 (vP b520 0) = some (vA #[(vS a0), (vS a1)]) ∧ h526 = h526) ∧ SoundCall Tryd.prog 42 #[(vA #[(vS a0), (vS a1)])] h526 (vI ((rchk a0 a1))) hh536 ∧ (binA Tryd.prog .neq 33 (vI ((rchk a0 a1))) (vI 0) = some (vB false) ∧ hh536 = hh536) ∧ (loadT Tryd.prog hh536 30 (vP b528 0) = some (vA #[(vS b0), (vS b1)]) ∧ hh536 = hh536) ∧ SoundCall Tryd.prog 42 #[(vA #[(vS b0), (vS b1)])] hh536 (vI ((rchk b0 b1))) hh543 ∧ (binA Tryd.prog .neq 33 (vI ((rchk b0 b1))) (vI 0) = some (vB true) ∧ hh543 = hh543) ∧ (fun v h1 => v = (vI ((sboth a0 a1 b0 b1))) ∧ Ext h h1) (vI 2) hh543) (by kernel_rfl) ⟨⟨by rw [eb521], e519⟩, ⟨by rw [eb529], e527⟩, ⟨load_agg agg30 size30 f534 (by simp) (by kernel_rfl), rfl⟩, sn537, ⟨cmp_neq (decide_eq_false (not_not_intro c542)), rfl⟩, ⟨load_agg agg30 size30 f540 (by simp) (by kernel_rfl), rfl⟩, sn544, ⟨cmp_neq (decide_eq_true c549), rfl⟩, ⟨by rw [e551], x548⟩⟩
  · have e552 : (sboth a0 a1 b0 b1) = 2 := by unfold sboth; rw [if_neg c542]
    exact hCall_of (n := 200) (T := ⟨fun r i => match r, i with | 0, 0 => some ((vP b520 0), h518) | 0, 1 => some ((vP b528 0), h526) | 1, 0 => some ((vA #[(vS a0), (vS a1)]), h526) | 1, 1 => some ((vI ((rchk a0 a1))), hh536) | 1, 2 => some ((vB true), hh536) | _, _ => none, fun _ => none, none⟩)
      (A := ((vP b520 0) = (Value.pointer (some ⟨h.size, 0, none⟩)) ∧ h518 = h.push (.cells #[(vS a0), (vS a1)] 30 (0, 0))) ∧ ((vP b528 0) = (Value.pointer (some ⟨h518.size, 0, none⟩)) ∧ h526 = h518.push (.cells #[(vS b0), (vS b1)] 30 (0, 0))) ∧ (loadT Tryd.prog h526 30 (vP b520 0) = some (vA #[(vS a0), (vS a1)]) ∧ h526 = h526) ∧ SoundCall Tryd.prog 42 #[(vA #[(vS a0), (vS a1)])] h526 (vI ((rchk a0 a1))) hh536 ∧ (binA Tryd.prog .neq 33 (vI ((rchk a0 a1))) (vI 0) = some (vB true) ∧ hh536 = hh536) ∧ (fun v h1 => v = (vI ((sboth a0 a1 b0 b1))) ∧ Ext h h1) (vI 2) hh536) (by kernel_rfl) ⟨⟨by rw [eb521], e519⟩, ⟨by rw [eb529], e527⟩, ⟨load_agg agg30 size30 f534 (by simp) (by kernel_rfl), rfl⟩, sn537, ⟨cmp_neq (decide_eq_true c542), rfl⟩, ⟨by rw [e552], x541⟩⟩
theorem nameB_emp : nameB .empty = false := rfl
/-- What skaldref06.Has gives. -/
def shasB (r0 : ByteArray) (r1 : ByteArray) (k : ByteArray) : Bool := if (((rchk r0 r1)) : Int) = 0 then (if (nameB k) = true then (if sl k r0 = true then false else (if (r1 : ByteArray) = .empty then true else (if sl k r1 = true then true else false))) else false) else false
set_option maxHeartbeats 4000000 in
theorem shasB_ok (h : Heap) (r0 : ByteArray) (r1 : ByteArray) (k : ByteArray) (hr0 : r0.size ≤ 9223372036854775807) (hr1 : r1.size ≤ 9223372036854775807) (hk : k.size ≤ 9223372036854775807) : WCall Tryd.prog 50 #[(Value.agg #[(vS r0), (vS r1)]), (vS k)] h (fun v h1 => v = (vB (shasB r0 r1 k)) ∧ Ext h h1) := by
  obtain ⟨b555, eb556⟩ : ∃ zq, zq = h.size := ⟨_, rfl⟩
  obtain ⟨h553, e554⟩ : ∃ zq, zq = h.push (.cells #[(vS r0), (vS r1)] 30 (0, 0)) := ⟨_, rfl⟩
  have f557 := push_new e554
  rw [← eb556] at f557
  have x558 : Ext h h553 := by rw [e554]; exact Ext.push _ _
  have o559 : h.size ≤ b555 := by have := (Ext.refl h).size; omega
  have x560 := (Ext.refl h).trans x558
  obtain ⟨_, hh561, sn562, rfl, x563⟩ := sckE_can h553 r0 r1 (by omega) (by omega)
  have f564 := x563 _ _ f557
  have x565 := x560.trans x563
  by_cases c566 : (((rchk r0 r1)) : Int) = 0
  · obtain ⟨_, _, sn568, rfl, rfl⟩ := rname_ok hh561 k (by omega)
    rcases Bool.eq_false_or_eq_true ((nameB k)) with c570 | c570
    · rcases Bool.eq_false_or_eq_true (sl k r0) with c571 | c571
      · have e572 : (shasB r0 r1 k) = false := by unfold shasB; rw [if_pos c566, if_pos c570, if_pos c571]
        exact hCall_of (n := 200) (T := ⟨fun r i => match r, i with | 0, 0 => some ((vP b555 0), h553) | 1, 0 => some ((vA #[(vS r0), (vS r1)]), h553) | 1, 1 => some ((vI ((rchk r0 r1))), hh561) | 1, 2 => some ((vB true), hh561) | 1, 5 => some ((vB true), hh561) | 1, 10 => some ((vS r0), hh561) | 1, 11 => some ((vB false), hh561) | _, _ => none, fun _ => none, none⟩)
          (A := ((vP b555 0) = (Value.pointer (some ⟨h.size, 0, none⟩)) ∧ h553 = h.push (.cells #[(vS r0), (vS r1)] 30 (0, 0))) ∧ (loadT Tryd.prog h553 30 (vP b555 0) = some (vA #[(vS r0), (vS r1)]) ∧ h553 = h553) ∧ SoundCall Tryd.prog 42 #[(vA #[(vS r0), (vS r1)])] h553 (vI ((rchk r0 r1))) hh561 ∧ (binA Tryd.prog .eql 33 (vI ((rchk r0 r1))) (vI 0) = some (vB true) ∧ hh561 = hh561) ∧ SoundCall Tryd.prog 57 #[(vS k)] hh561 (vB true) hh561 ∧ (loadT Tryd.prog hh561 9 (vP b555 0) = some (vS r0) ∧ hh561 = hh561) ∧ (binA Tryd.prog .geq 9 (vS k) (vS r0) = some (vB false) ∧ hh561 = hh561) ∧ (fun v h1 => v = (vB (shasB r0 r1 k)) ∧ Ext h h1) (vB false) hh561) (by kernel_rfl) ⟨⟨by rw [eb556], e554⟩, ⟨load_agg agg30 size30 f557 (by simp) (by kernel_rfl), rfl⟩, sn562, ⟨cmp_eql (decide_eq_true c566), rfl⟩, (by rw [← c570]; exact sn568), ⟨load_cell agg9 f564 rfl, rfl⟩, ⟨str_geq c571, rfl⟩, ⟨by rw [e572], x565⟩⟩
      · by_cases c573 : (r1 : ByteArray) = .empty
        · have e574 : (shasB r0 r1 k) = true := by unfold shasB; rw [if_pos c566, if_pos c570, if_neg (Bool.eq_false_iff.1 c571), if_pos c573]
          exact hCall_of (n := 200) (T := ⟨fun r i => match r, i with | 0, 0 => some ((vP b555 0), h553) | 1, 0 => some ((vA #[(vS r0), (vS r1)]), h553) | 1, 1 => some ((vI ((rchk r0 r1))), hh561) | 1, 2 => some ((vB true), hh561) | 1, 5 => some ((vB true), hh561) | 1, 10 => some ((vS r0), hh561) | 1, 11 => some ((vB true), hh561) | 1, 15 => some ((vS r1), hh561) | 1, 16 => some ((vB true), hh561) | _, _ => none, fun _ => none, none⟩)
            (A := ((vP b555 0) = (Value.pointer (some ⟨h.size, 0, none⟩)) ∧ h553 = h.push (.cells #[(vS r0), (vS r1)] 30 (0, 0))) ∧ (loadT Tryd.prog h553 30 (vP b555 0) = some (vA #[(vS r0), (vS r1)]) ∧ h553 = h553) ∧ SoundCall Tryd.prog 42 #[(vA #[(vS r0), (vS r1)])] h553 (vI ((rchk r0 r1))) hh561 ∧ (binA Tryd.prog .eql 33 (vI ((rchk r0 r1))) (vI 0) = some (vB true) ∧ hh561 = hh561) ∧ SoundCall Tryd.prog 57 #[(vS k)] hh561 (vB true) hh561 ∧ (loadT Tryd.prog hh561 9 (vP b555 0) = some (vS r0) ∧ hh561 = hh561) ∧ (binA Tryd.prog .geq 9 (vS k) (vS r0) = some (vB true) ∧ hh561 = hh561) ∧ (loadT Tryd.prog hh561 9 (vP b555 1) = some (vS r1) ∧ hh561 = hh561) ∧ (binA Tryd.prog .eql 9 (vS r1) (vS .empty) = some (vB true) ∧ hh561 = hh561) ∧ (fun v h1 => v = (vB (shasB r0 r1 k)) ∧ Ext h h1) (vB true) hh561) (by kernel_rfl) ⟨⟨by rw [eb556], e554⟩, ⟨load_agg agg30 size30 f557 (by simp) (by kernel_rfl), rfl⟩, sn562, ⟨cmp_eql (decide_eq_true c566), rfl⟩, (by rw [← c570]; exact sn568), ⟨load_cell agg9 f564 rfl, rfl⟩, ⟨str_geq c571, rfl⟩, ⟨load_cell agg9 f564 rfl, rfl⟩, ⟨cmp_str_eql (decide_eq_true c573), rfl⟩, ⟨by rw [e574], x565⟩⟩
        · rcases Bool.eq_false_or_eq_true (sl k r1) with c575 | c575
          · have e576 : (shasB r0 r1 k) = true := by unfold shasB; rw [if_pos c566, if_pos c570, if_neg (Bool.eq_false_iff.1 c571), if_neg c573, if_pos c575]
            exact hCall_of (n := 200) (T := ⟨fun r i => match r, i with | 0, 0 => some ((vP b555 0), h553) | 1, 0 => some ((vA #[(vS r0), (vS r1)]), h553) | 1, 1 => some ((vI ((rchk r0 r1))), hh561) | 1, 2 => some ((vB true), hh561) | 1, 5 => some ((vB true), hh561) | 1, 10 => some ((vS r0), hh561) | 1, 11 => some ((vB true), hh561) | 1, 15 => some ((vS r1), hh561) | 1, 16 => some ((vB false), hh561) | 1, 20 => some ((vS r1), hh561) | 1, 21 => some ((vB true), hh561) | _, _ => none, fun _ => none, none⟩)
              (A := ((vP b555 0) = (Value.pointer (some ⟨h.size, 0, none⟩)) ∧ h553 = h.push (.cells #[(vS r0), (vS r1)] 30 (0, 0))) ∧ (loadT Tryd.prog h553 30 (vP b555 0) = some (vA #[(vS r0), (vS r1)]) ∧ h553 = h553) ∧ SoundCall Tryd.prog 42 #[(vA #[(vS r0), (vS r1)])] h553 (vI ((rchk r0 r1))) hh561 ∧ (binA Tryd.prog .eql 33 (vI ((rchk r0 r1))) (vI 0) = some (vB true) ∧ hh561 = hh561) ∧ SoundCall Tryd.prog 57 #[(vS k)] hh561 (vB true) hh561 ∧ (loadT Tryd.prog hh561 9 (vP b555 0) = some (vS r0) ∧ hh561 = hh561) ∧ (binA Tryd.prog .geq 9 (vS k) (vS r0) = some (vB true) ∧ hh561 = hh561) ∧ (loadT Tryd.prog hh561 9 (vP b555 1) = some (vS r1) ∧ hh561 = hh561) ∧ (binA Tryd.prog .eql 9 (vS r1) (vS .empty) = some (vB false) ∧ hh561 = hh561) ∧ (loadT Tryd.prog hh561 9 (vP b555 1) = some (vS r1) ∧ hh561 = hh561) ∧ (binA Tryd.prog .lss 9 (vS k) (vS r1) = some (vB true) ∧ hh561 = hh561) ∧ (fun v h1 => v = (vB (shasB r0 r1 k)) ∧ Ext h h1) (vB true) hh561) (by kernel_rfl) ⟨⟨by rw [eb556], e554⟩, ⟨load_agg agg30 size30 f557 (by simp) (by kernel_rfl), rfl⟩, sn562, ⟨cmp_eql (decide_eq_true c566), rfl⟩, (by rw [← c570]; exact sn568), ⟨load_cell agg9 f564 rfl, rfl⟩, ⟨str_geq c571, rfl⟩, ⟨load_cell agg9 f564 rfl, rfl⟩, ⟨cmp_str_eql (decide_eq_false c573), rfl⟩, ⟨load_cell agg9 f564 rfl, rfl⟩, ⟨str_lss c575, rfl⟩, ⟨by rw [e576], x565⟩⟩
          · have e577 : (shasB r0 r1 k) = false := by unfold shasB; rw [if_pos c566, if_pos c570, if_neg (Bool.eq_false_iff.1 c571), if_neg c573, if_neg (Bool.eq_false_iff.1 c575)]
            exact hCall_of (n := 200) (T := ⟨fun r i => match r, i with | 0, 0 => some ((vP b555 0), h553) | 1, 0 => some ((vA #[(vS r0), (vS r1)]), h553) | 1, 1 => some ((vI ((rchk r0 r1))), hh561) | 1, 2 => some ((vB true), hh561) | 1, 5 => some ((vB true), hh561) | 1, 10 => some ((vS r0), hh561) | 1, 11 => some ((vB true), hh561) | 1, 15 => some ((vS r1), hh561) | 1, 16 => some ((vB false), hh561) | 1, 20 => some ((vS r1), hh561) | 1, 21 => some ((vB false), hh561) | _, _ => none, fun _ => none, none⟩)
              (A := ((vP b555 0) = (Value.pointer (some ⟨h.size, 0, none⟩)) ∧ h553 = h.push (.cells #[(vS r0), (vS r1)] 30 (0, 0))) ∧ (loadT Tryd.prog h553 30 (vP b555 0) = some (vA #[(vS r0), (vS r1)]) ∧ h553 = h553) ∧ SoundCall Tryd.prog 42 #[(vA #[(vS r0), (vS r1)])] h553 (vI ((rchk r0 r1))) hh561 ∧ (binA Tryd.prog .eql 33 (vI ((rchk r0 r1))) (vI 0) = some (vB true) ∧ hh561 = hh561) ∧ SoundCall Tryd.prog 57 #[(vS k)] hh561 (vB true) hh561 ∧ (loadT Tryd.prog hh561 9 (vP b555 0) = some (vS r0) ∧ hh561 = hh561) ∧ (binA Tryd.prog .geq 9 (vS k) (vS r0) = some (vB true) ∧ hh561 = hh561) ∧ (loadT Tryd.prog hh561 9 (vP b555 1) = some (vS r1) ∧ hh561 = hh561) ∧ (binA Tryd.prog .eql 9 (vS r1) (vS .empty) = some (vB false) ∧ hh561 = hh561) ∧ (loadT Tryd.prog hh561 9 (vP b555 1) = some (vS r1) ∧ hh561 = hh561) ∧ (binA Tryd.prog .lss 9 (vS k) (vS r1) = some (vB false) ∧ hh561 = hh561) ∧ (fun v h1 => v = (vB (shasB r0 r1 k)) ∧ Ext h h1) (vB false) hh561) (by kernel_rfl) ⟨⟨by rw [eb556], e554⟩, ⟨load_agg agg30 size30 f557 (by simp) (by kernel_rfl), rfl⟩, sn562, ⟨cmp_eql (decide_eq_true c566), rfl⟩, (by rw [← c570]; exact sn568), ⟨load_cell agg9 f564 rfl, rfl⟩, ⟨str_geq c571, rfl⟩, ⟨load_cell agg9 f564 rfl, rfl⟩, ⟨cmp_str_eql (decide_eq_false c573), rfl⟩, ⟨load_cell agg9 f564 rfl, rfl⟩, ⟨str_lss c575, rfl⟩, ⟨by rw [e577], x565⟩⟩
    · have e578 : (shasB r0 r1 k) = false := by unfold shasB; rw [if_pos c566, if_neg (Bool.eq_false_iff.1 c570)]
      exact hCall_of (n := 200) (T := ⟨fun r i => match r, i with | 0, 0 => some ((vP b555 0), h553) | 1, 0 => some ((vA #[(vS r0), (vS r1)]), h553) | 1, 1 => some ((vI ((rchk r0 r1))), hh561) | 1, 2 => some ((vB true), hh561) | 1, 5 => some ((vB false), hh561) | _, _ => none, fun _ => none, none⟩)
        (A := ((vP b555 0) = (Value.pointer (some ⟨h.size, 0, none⟩)) ∧ h553 = h.push (.cells #[(vS r0), (vS r1)] 30 (0, 0))) ∧ (loadT Tryd.prog h553 30 (vP b555 0) = some (vA #[(vS r0), (vS r1)]) ∧ h553 = h553) ∧ SoundCall Tryd.prog 42 #[(vA #[(vS r0), (vS r1)])] h553 (vI ((rchk r0 r1))) hh561 ∧ (binA Tryd.prog .eql 33 (vI ((rchk r0 r1))) (vI 0) = some (vB true) ∧ hh561 = hh561) ∧ SoundCall Tryd.prog 57 #[(vS k)] hh561 (vB false) hh561 ∧ (fun v h1 => v = (vB (shasB r0 r1 k)) ∧ Ext h h1) (vB false) hh561) (by kernel_rfl) ⟨⟨by rw [eb556], e554⟩, ⟨load_agg agg30 size30 f557 (by simp) (by kernel_rfl), rfl⟩, sn562, ⟨cmp_eql (decide_eq_true c566), rfl⟩, (by rw [← c570]; exact sn568), ⟨by rw [e578], x565⟩⟩
  · have e579 : (shasB r0 r1 k) = false := by unfold shasB; rw [if_neg c566]
    exact hCall_of (n := 200) (T := ⟨fun r i => match r, i with | 0, 0 => some ((vP b555 0), h553) | 1, 0 => some ((vA #[(vS r0), (vS r1)]), h553) | 1, 1 => some ((vI ((rchk r0 r1))), hh561) | 1, 2 => some ((vB false), hh561) | _, _ => none, fun _ => none, none⟩)
      (A := ((vP b555 0) = (Value.pointer (some ⟨h.size, 0, none⟩)) ∧ h553 = h.push (.cells #[(vS r0), (vS r1)] 30 (0, 0))) ∧ (loadT Tryd.prog h553 30 (vP b555 0) = some (vA #[(vS r0), (vS r1)]) ∧ h553 = h553) ∧ SoundCall Tryd.prog 42 #[(vA #[(vS r0), (vS r1)])] h553 (vI ((rchk r0 r1))) hh561 ∧ (binA Tryd.prog .eql 33 (vI ((rchk r0 r1))) (vI 0) = some (vB false) ∧ hh561 = hh561) ∧ (fun v h1 => v = (vB (shasB r0 r1 k)) ∧ Ext h h1) (vB false) hh561) (by kernel_rfl) ⟨⟨by rw [eb556], e554⟩, ⟨load_agg agg30 size30 f557 (by simp) (by kernel_rfl), rfl⟩, sn562, ⟨cmp_eql (decide_eq_false c566), rfl⟩, ⟨by rw [e579], x565⟩⟩
theorem shasB_eq (r0 : ByteArray) (r1 : ByteArray) (k : ByteArray) : shasB r0 r1 k = rhas r0 r1 k := by
  unfold shasB rhas endC cmpS
  by_cases h1 : rchk r0 r1 = 0 <;> cases h2 : nameB k <;> cases h3 : sl k r0 <;> by_cases h4 : k = r1 <;> by_cases h5 : k = .empty <;> by_cases h6 : r1 = .empty <;> cases h7 : sl k r1 <;> cases h8 : sl r1 k <;> simp_all [sl_irrefl, nameB_emp]
theorem shasB_can (h : Heap) (r0 : ByteArray) (r1 : ByteArray) (k : ByteArray) (hr0 : r0.size ≤ 9223372036854775807) (hr1 : r1.size ≤ 9223372036854775807) (hk : k.size ≤ 9223372036854775807) : WCall Tryd.prog 50 #[(Value.agg #[(vS r0), (vS r1)]), (vS k)] h (fun v h1 => v = (vB (rhas r0 r1 k)) ∧ Ext h h1) := by
  have q := shasB_ok h r0 r1 k hr0 hr1 hk
  rw [shasB_eq] at q
  exact q
theorem endS_eq (a b : ByteArray) : endS a b = if endC b a < 0 then b else a := by
  unfold endS endC cmpS
  by_cases h1 : b = a
  · subst h1; simp
  · by_cases h2 : a = .empty <;> by_cases h3 : b = .empty <;> cases h4 : sl b a <;> cases h5 : sl a b <;> simp_all
theorem rchk_02 (a b : ByteArray) : rchk a b = 0 ∨ rchk a b = 2 := by
  unfold rchk; repeat' split
  all_goals first | exact .inl rfl | exact .inr rfl
/-- What skaldref06.Meet gives. -/
def smeetV (a0 : ByteArray) (a1 : ByteArray) (b0 : ByteArray) (b1 : ByteArray) : ByteArray × ByteArray × Bool × Int := if (((sboth a0 a1 b0 b1)) : Int) = 0 then (if (((rchk (mxS a0 b0) (endS a1 b1))) : Int) = 0 then ((mxS a0 b0), (endS a1 b1), true, 0) else (.empty, .empty, false, 0)) else (.empty, .empty, false, ((sboth a0 a1 b0 b1)))
set_option maxHeartbeats 4000000 in
theorem smeetV_ok (h : Heap) (a0 : ByteArray) (a1 : ByteArray) (b0 : ByteArray) (b1 : ByteArray) (ha0 : a0.size ≤ 9223372036854775807) (ha1 : a1.size ≤ 9223372036854775807) (hb0 : b0.size ≤ 9223372036854775807) (hb1 : b1.size ≤ 9223372036854775807) : WCall Tryd.prog 44 #[(Value.agg #[(vS a0), (vS a1)]), (Value.agg #[(vS b0), (vS b1)])] h (fun v h1 => v = (Value.tuple #[(Value.agg #[(vS (smeetV a0 a1 b0 b1).1), (vS (smeetV a0 a1 b0 b1).2.1)]), (vB (smeetV a0 a1 b0 b1).2.2.1), (vI ((smeetV a0 a1 b0 b1).2.2.2))]) ∧ Ext h h1) := by
  obtain ⟨b582, eb583⟩ : ∃ zq, zq = h.size := ⟨_, rfl⟩
  obtain ⟨h580, e581⟩ : ∃ zq, zq = h.push (.cells #[(vS a0), (vS a1)] 30 (0, 0)) := ⟨_, rfl⟩
  have f584 := push_new e581
  rw [← eb583] at f584
  have x585 : Ext h h580 := by rw [e581]; exact Ext.push _ _
  have o586 : h.size ≤ b582 := by have := (Ext.refl h).size; omega
  have x587 := (Ext.refl h).trans x585
  obtain ⟨b590, eb591⟩ : ∃ zq, zq = h580.size := ⟨_, rfl⟩
  obtain ⟨h588, e589⟩ : ∃ zq, zq = h580.push (.cells #[(vS b0), (vS b1)] 30 (0, 0)) := ⟨_, rfl⟩
  have f592 := push_new e589
  rw [← eb591] at f592
  have x594 : Ext h580 h588 := by rw [e589]; exact Ext.push _ _
  have o595 : h.size ≤ b590 := by have := x587.size; omega
  have f596 := x594 _ _ f584
  have x597 := x587.trans x594
  obtain ⟨b600, eb601⟩ : ∃ zq, zq = h588.size := ⟨_, rfl⟩
  obtain ⟨h598, e599⟩ : ∃ zq, zq = h588.push (.cells #[(vS .empty), (vS .empty)] 30 (0, 0)) := ⟨_, rfl⟩
  have f602 := push_new e599
  rw [← eb601] at f602
  have x605 : Ext h588 h598 := by rw [e599]; exact Ext.push _ _
  have o606 : h.size ≤ b600 := by have := x597.size; omega
  have f607 := x605 _ _ f596
  have f608 := x605 _ _ f592
  have x609 := x597.trans x605
  obtain ⟨_, hh610, sn611, rfl, x612⟩ := sboth_ok h598 a0 a1 b0 b1 (by omega) (by omega) (by omega) (by omega)
  have f613 := x612 _ _ f607
  have f614 := x612 _ _ f608
  have f615 := x612 _ _ f602
  have x616 := x609.trans x612
  by_cases c617 : (((sboth a0 a1 b0 b1)) : Int) = 0
  · have q618 := mxS_size a0 b0
    obtain ⟨b621, eb622⟩ : ∃ zq, zq = hh610.size := ⟨_, rfl⟩
    obtain ⟨h619, e620⟩ : ∃ zq, zq = hh610.push (.cells #[(vS .empty), (vS .empty)] 30 (0, 0)) := ⟨_, rfl⟩
    have f623 := push_new e620
    rw [← eb622] at f623
    have n626 : b621 ≠ b600 := by have := row_lt f615; omega
    have x627 : Ext hh610 h619 := by rw [e620]; exact Ext.push _ _
    have o628 : h.size ≤ b621 := by have := x616.size; omega
    have f629 := x627 _ _ f613
    have f630 := x627 _ _ f614
    have f631 := x627 _ _ f615
    have x632 := x616.trans x627
    obtain ⟨_, _, sn634, rfl, rfl⟩ := endS_ok h619 a1 b1 
    have q636 := endS_size a1 b1
    obtain ⟨h637, e638⟩ : ∃ zq, zq = h619.setIfInBounds b621 (.cells #[(vS (mxS a0 b0)), (vS (endS a1 b1))] 30 (0, 0)) := ⟨_, rfl⟩
    have f639 := set_same e638 f623
    have f642 := set_other e638 f631 n626
    have x644 := Ext.setNew x632 e638 o628
    obtain ⟨_, hh645, sn646, rfl, x647⟩ := sckE_can h637 (mxS a0 b0) (endS a1 b1) (by omega) (by omega)
    have f650 := x647 _ _ f642
    have f651 := x647 _ _ f639
    have x652 := x644.trans x647
    by_cases c653 : (((rchk (mxS a0 b0) (endS a1 b1))) : Int) = 0
    · obtain ⟨h654, e655⟩ : ∃ zq, zq = hh645.setIfInBounds b600 (.cells #[(vS (mxS a0 b0)), (vS (endS a1 b1))] 30 (0, 0)) := ⟨_, rfl⟩
      have f656 := set_same e655 f650
      have x661 := Ext.setNew x652 e655 o606
      have e662 : (smeetV a0 a1 b0 b1) = ((mxS a0 b0), (endS a1 b1), true, 0) := by unfold smeetV; rw [if_pos c617, if_pos c653]
      exact hCall_of (n := 200) (T := ⟨fun r i => match r, i with | 0, 0 => some ((vP b582 0), h580) | 0, 1 => some ((vP b590 0), h588) | 0, 2 => some ((vP b600 0), h598) | 1, 0 => some ((vA #[(vS a0), (vS a1)]), h598) | 1, 1 => some ((vA #[(vS b0), (vS b1)]), h598) | 1, 2 => some ((vI ((sboth a0 a1 b0 b1))), hh610) | 2, 1 => some ((vB false), hh610) | 4, 1 => some ((vS a0), hh610) | 4, 3 => some ((vS b0), hh610) | 4, 4 => some ((vS (mxS a0 b0)), hh610) | 4, 6 => some ((vS a1), hh610) | 4, 8 => some ((vS b1), hh610) | 4, 11 => some ((vP b621 0), h619) | 4, 9 => some ((vS (endS a1 b1)), h619) | 4, 12 => some (undef, h637) | 5, 0 => some ((vA #[(vS (mxS a0 b0)), (vS (endS a1 b1))]), h637) | 5, 1 => some ((vI ((rchk (mxS a0 b0) (endS a1 b1)))), hh645) | 5, 2 => some ((vB false), hh645) | 7, 0 => some ((vA #[(vS (mxS a0 b0)), (vS (endS a1 b1))]), hh645) | 7, 1 => some (undef, h654) | _, _ => none, fun _ => none, some [(vA #[(vS (mxS a0 b0)), (vS (endS a1 b1))]), (vB true), (vI 0)]⟩)
        (A := ((vP b582 0) = (Value.pointer (some ⟨h.size, 0, none⟩)) ∧ h580 = h.push (.cells #[(vS a0), (vS a1)] 30 (0, 0))) ∧ ((vP b590 0) = (Value.pointer (some ⟨h580.size, 0, none⟩)) ∧ h588 = h580.push (.cells #[(vS b0), (vS b1)] 30 (0, 0))) ∧ ((vP b600 0) = (Value.pointer (some ⟨h588.size, 0, none⟩)) ∧ h598 = h588.push (.cells #[(vS .empty), (vS .empty)] 30 (0, 0))) ∧ (loadT Tryd.prog h598 30 (vP b582 0) = some (vA #[(vS a0), (vS a1)]) ∧ h598 = h598) ∧ (loadT Tryd.prog h598 30 (vP b590 0) = some (vA #[(vS b0), (vS b1)]) ∧ h598 = h598) ∧ SoundCall Tryd.prog 58 #[(vA #[(vS a0), (vS a1)]), (vA #[(vS b0), (vS b1)])] h598 (vI ((sboth a0 a1 b0 b1))) hh610 ∧ (binA Tryd.prog .neq 33 (vI ((sboth a0 a1 b0 b1))) (vI 0) = some (vB false) ∧ hh610 = hh610) ∧ (loadT Tryd.prog hh610 9 (vP b582 0) = some (vS a0) ∧ hh610 = hh610) ∧ (loadT Tryd.prog hh610 9 (vP b590 0) = some (vS b0) ∧ hh610 = hh610) ∧ ((vS (mxS a0 b0)) = (vS (if !Op.bytesLess (a0).toList (b0).toList then a0 else b0)) ∧ hh610 = hh610) ∧ (loadT Tryd.prog hh610 9 (vP b582 1) = some (vS a1) ∧ hh610 = hh610) ∧ (loadT Tryd.prog hh610 9 (vP b590 1) = some (vS b1) ∧ hh610 = hh610) ∧ ((vP b621 0) = (Value.pointer (some ⟨hh610.size, 0, none⟩)) ∧ h619 = hh610.push (.cells #[(vS .empty), (vS .empty)] 30 (0, 0))) ∧ SoundCall Tryd.prog 59 #[(vS a1), (vS b1)] h619 (vS (endS a1 b1)) h619 ∧ (loadT Tryd.prog h619 9 (vP b590 0) = some (vS b0) ∧ h619 = h619) ∧ (loadT Tryd.prog h619 9 (vP b582 0) = some (vS a0) ∧ h619 = h619) ∧ (storeT Tryd.prog h619 30 (vP b621 0) (vA #[(vS (mxS a0 b0)), (vS (endS a1 b1))]) = some h637 ∧ (undef : Value) = undef) ∧ (loadT Tryd.prog h637 30 (vP b621 0) = some (vA #[(vS (mxS a0 b0)), (vS (endS a1 b1))]) ∧ h637 = h637) ∧ SoundCall Tryd.prog 42 #[(vA #[(vS (mxS a0 b0)), (vS (endS a1 b1))])] h637 (vI ((rchk (mxS a0 b0) (endS a1 b1)))) hh645 ∧ (binA Tryd.prog .neq 33 (vI ((rchk (mxS a0 b0) (endS a1 b1)))) (vI 0) = some (vB false) ∧ hh645 = hh645) ∧ (loadT Tryd.prog hh645 30 (vP b621 0) = some (vA #[(vS (mxS a0 b0)), (vS (endS a1 b1))]) ∧ hh645 = hh645) ∧ (storeT Tryd.prog hh645 30 (vP b600 0) (vA #[(vS (mxS a0 b0)), (vS (endS a1 b1))]) = some h654 ∧ (undef : Value) = undef) ∧ (loadT Tryd.prog h654 30 (vP b600 0) = some (vA #[(vS (mxS a0 b0)), (vS (endS a1 b1))]) ∧ (vB true) = (vB true) ∧ (vI 0) = (vI 0) ∧ True) ∧ (fun v h1 => v = (vT #[(vA #[(vS (smeetV a0 a1 b0 b1).1), (vS (smeetV a0 a1 b0 b1).2.1)]), (vB (smeetV a0 a1 b0 b1).2.2.1), (vI ((smeetV a0 a1 b0 b1).2.2.2))]) ∧ Ext h h1) (vT #[(vA #[(vS (mxS a0 b0)), (vS (endS a1 b1))]), (vB true), (vI 0)]) h654) (by kernel_rfl) ⟨⟨by rw [eb583], e581⟩, ⟨by rw [eb591], e589⟩, ⟨by rw [eb601], e599⟩, ⟨load_agg agg30 size30 f607 (by simp) (by kernel_rfl), rfl⟩, ⟨load_agg agg30 size30 f608 (by simp) (by kernel_rfl), rfl⟩, sn611, ⟨cmp_neq (decide_eq_false (not_not_intro c617)), rfl⟩, ⟨load_cell agg9 f613 rfl, rfl⟩, ⟨load_cell agg9 f614 rfl, rfl⟩, ⟨rfl, rfl⟩, ⟨load_cell agg9 f613 rfl, rfl⟩, ⟨load_cell agg9 f614 rfl, rfl⟩, ⟨by rw [eb622], e620⟩, sn634, ⟨load_cell agg9 f630 rfl, rfl⟩, ⟨load_cell agg9 f629 rfl, rfl⟩, ⟨by rw [e638]; exact store_cells size30 rfl f623 (by decide) (by simp) rfl (by kernel_rfl), rfl⟩, ⟨load_agg agg30 size30 f639 (by simp) (by kernel_rfl), rfl⟩, sn646, ⟨cmp_neq (decide_eq_false (not_not_intro c653)), rfl⟩, ⟨load_agg agg30 size30 f651 (by simp) (by kernel_rfl), rfl⟩, ⟨by rw [e655]; exact store_cells size30 rfl f650 (by decide) (by simp) rfl (by kernel_rfl), rfl⟩, ⟨load_agg agg30 size30 f656 (by simp) (by kernel_rfl), rfl, rfl, trivial⟩, ⟨by rw [e662], x661⟩⟩
    · obtain ⟨h663, e664⟩ : ∃ zq, zq = hh645.setIfInBounds b600 (.cells #[(vS .empty), (vS .empty)] 30 (0, 0)) := ⟨_, rfl⟩
      have f665 := set_same e664 f650
      have x670 := Ext.setNew x652 e664 o606
      have e671 : (smeetV a0 a1 b0 b1) = (.empty, .empty, false, 0) := by unfold smeetV; rw [if_pos c617, if_neg c653]
      exact hCall_of (n := 200) (T := ⟨fun r i => match r, i with | 0, 0 => some ((vP b582 0), h580) | 0, 1 => some ((vP b590 0), h588) | 0, 2 => some ((vP b600 0), h598) | 1, 0 => some ((vA #[(vS a0), (vS a1)]), h598) | 1, 1 => some ((vA #[(vS b0), (vS b1)]), h598) | 1, 2 => some ((vI ((sboth a0 a1 b0 b1))), hh610) | 2, 1 => some ((vB false), hh610) | 4, 1 => some ((vS a0), hh610) | 4, 3 => some ((vS b0), hh610) | 4, 4 => some ((vS (mxS a0 b0)), hh610) | 4, 6 => some ((vS a1), hh610) | 4, 8 => some ((vS b1), hh610) | 4, 11 => some ((vP b621 0), h619) | 4, 9 => some ((vS (endS a1 b1)), h619) | 4, 12 => some (undef, h637) | 5, 0 => some ((vA #[(vS (mxS a0 b0)), (vS (endS a1 b1))]), h637) | 5, 1 => some ((vI ((rchk (mxS a0 b0) (endS a1 b1)))), hh645) | 5, 2 => some ((vB true), hh645) | 6, 1 => some (undef, h663) | _, _ => none, fun _ => none, some [(vA #[(vS .empty), (vS .empty)]), (vB false), (vI 0)]⟩)
        (A := ((vP b582 0) = (Value.pointer (some ⟨h.size, 0, none⟩)) ∧ h580 = h.push (.cells #[(vS a0), (vS a1)] 30 (0, 0))) ∧ ((vP b590 0) = (Value.pointer (some ⟨h580.size, 0, none⟩)) ∧ h588 = h580.push (.cells #[(vS b0), (vS b1)] 30 (0, 0))) ∧ ((vP b600 0) = (Value.pointer (some ⟨h588.size, 0, none⟩)) ∧ h598 = h588.push (.cells #[(vS .empty), (vS .empty)] 30 (0, 0))) ∧ (loadT Tryd.prog h598 30 (vP b582 0) = some (vA #[(vS a0), (vS a1)]) ∧ h598 = h598) ∧ (loadT Tryd.prog h598 30 (vP b590 0) = some (vA #[(vS b0), (vS b1)]) ∧ h598 = h598) ∧ SoundCall Tryd.prog 58 #[(vA #[(vS a0), (vS a1)]), (vA #[(vS b0), (vS b1)])] h598 (vI ((sboth a0 a1 b0 b1))) hh610 ∧ (binA Tryd.prog .neq 33 (vI ((sboth a0 a1 b0 b1))) (vI 0) = some (vB false) ∧ hh610 = hh610) ∧ (loadT Tryd.prog hh610 9 (vP b582 0) = some (vS a0) ∧ hh610 = hh610) ∧ (loadT Tryd.prog hh610 9 (vP b590 0) = some (vS b0) ∧ hh610 = hh610) ∧ ((vS (mxS a0 b0)) = (vS (if !Op.bytesLess (a0).toList (b0).toList then a0 else b0)) ∧ hh610 = hh610) ∧ (loadT Tryd.prog hh610 9 (vP b582 1) = some (vS a1) ∧ hh610 = hh610) ∧ (loadT Tryd.prog hh610 9 (vP b590 1) = some (vS b1) ∧ hh610 = hh610) ∧ ((vP b621 0) = (Value.pointer (some ⟨hh610.size, 0, none⟩)) ∧ h619 = hh610.push (.cells #[(vS .empty), (vS .empty)] 30 (0, 0))) ∧ SoundCall Tryd.prog 59 #[(vS a1), (vS b1)] h619 (vS (endS a1 b1)) h619 ∧ (loadT Tryd.prog h619 9 (vP b590 0) = some (vS b0) ∧ h619 = h619) ∧ (loadT Tryd.prog h619 9 (vP b582 0) = some (vS a0) ∧ h619 = h619) ∧ (storeT Tryd.prog h619 30 (vP b621 0) (vA #[(vS (mxS a0 b0)), (vS (endS a1 b1))]) = some h637 ∧ (undef : Value) = undef) ∧ (loadT Tryd.prog h637 30 (vP b621 0) = some (vA #[(vS (mxS a0 b0)), (vS (endS a1 b1))]) ∧ h637 = h637) ∧ SoundCall Tryd.prog 42 #[(vA #[(vS (mxS a0 b0)), (vS (endS a1 b1))])] h637 (vI ((rchk (mxS a0 b0) (endS a1 b1)))) hh645 ∧ (binA Tryd.prog .neq 33 (vI ((rchk (mxS a0 b0) (endS a1 b1)))) (vI 0) = some (vB true) ∧ hh645 = hh645) ∧ (storeT Tryd.prog hh645 30 (vP b600 0) (vA #[(vS .empty), (vS .empty)]) = some h663 ∧ (undef : Value) = undef) ∧ (loadT Tryd.prog h663 30 (vP b600 0) = some (vA #[(vS .empty), (vS .empty)]) ∧ (vB false) = (vB false) ∧ (vI 0) = (vI 0) ∧ True) ∧ (fun v h1 => v = (vT #[(vA #[(vS (smeetV a0 a1 b0 b1).1), (vS (smeetV a0 a1 b0 b1).2.1)]), (vB (smeetV a0 a1 b0 b1).2.2.1), (vI ((smeetV a0 a1 b0 b1).2.2.2))]) ∧ Ext h h1) (vT #[(vA #[(vS .empty), (vS .empty)]), (vB false), (vI 0)]) h663) (by kernel_rfl) ⟨⟨by rw [eb583], e581⟩, ⟨by rw [eb591], e589⟩, ⟨by rw [eb601], e599⟩, ⟨load_agg agg30 size30 f607 (by simp) (by kernel_rfl), rfl⟩, ⟨load_agg agg30 size30 f608 (by simp) (by kernel_rfl), rfl⟩, sn611, ⟨cmp_neq (decide_eq_false (not_not_intro c617)), rfl⟩, ⟨load_cell agg9 f613 rfl, rfl⟩, ⟨load_cell agg9 f614 rfl, rfl⟩, ⟨rfl, rfl⟩, ⟨load_cell agg9 f613 rfl, rfl⟩, ⟨load_cell agg9 f614 rfl, rfl⟩, ⟨by rw [eb622], e620⟩, sn634, ⟨load_cell agg9 f630 rfl, rfl⟩, ⟨load_cell agg9 f629 rfl, rfl⟩, ⟨by rw [e638]; exact store_cells size30 rfl f623 (by decide) (by simp) rfl (by kernel_rfl), rfl⟩, ⟨load_agg agg30 size30 f639 (by simp) (by kernel_rfl), rfl⟩, sn646, ⟨cmp_neq (decide_eq_true c653), rfl⟩, ⟨by rw [e664]; exact store_cells size30 rfl f650 (by decide) (by simp) rfl (by kernel_rfl), rfl⟩, ⟨load_agg agg30 size30 f665 (by simp) (by kernel_rfl), rfl, rfl, trivial⟩, ⟨by rw [e671], x670⟩⟩
  · obtain ⟨h672, e673⟩ : ∃ zq, zq = hh610.setIfInBounds b600 (.cells #[(vS .empty), (vS .empty)] 30 (0, 0)) := ⟨_, rfl⟩
    have f674 := set_same e673 f615
    have x678 := Ext.setNew x616 e673 o606
    have e679 : (smeetV a0 a1 b0 b1) = (.empty, .empty, false, ((sboth a0 a1 b0 b1))) := by unfold smeetV; rw [if_neg c617]
    exact hCall_of (n := 200) (T := ⟨fun r i => match r, i with | 0, 0 => some ((vP b582 0), h580) | 0, 1 => some ((vP b590 0), h588) | 0, 2 => some ((vP b600 0), h598) | 1, 0 => some ((vA #[(vS a0), (vS a1)]), h598) | 1, 1 => some ((vA #[(vS b0), (vS b1)]), h598) | 1, 2 => some ((vI ((sboth a0 a1 b0 b1))), hh610) | 2, 1 => some ((vB true), hh610) | 3, 2 => some (undef, h672) | _, _ => none, fun _ => none, some [(vA #[(vS .empty), (vS .empty)]), (vB false), (vI ((sboth a0 a1 b0 b1)))]⟩)
      (A := ((vP b582 0) = (Value.pointer (some ⟨h.size, 0, none⟩)) ∧ h580 = h.push (.cells #[(vS a0), (vS a1)] 30 (0, 0))) ∧ ((vP b590 0) = (Value.pointer (some ⟨h580.size, 0, none⟩)) ∧ h588 = h580.push (.cells #[(vS b0), (vS b1)] 30 (0, 0))) ∧ ((vP b600 0) = (Value.pointer (some ⟨h588.size, 0, none⟩)) ∧ h598 = h588.push (.cells #[(vS .empty), (vS .empty)] 30 (0, 0))) ∧ (loadT Tryd.prog h598 30 (vP b582 0) = some (vA #[(vS a0), (vS a1)]) ∧ h598 = h598) ∧ (loadT Tryd.prog h598 30 (vP b590 0) = some (vA #[(vS b0), (vS b1)]) ∧ h598 = h598) ∧ SoundCall Tryd.prog 58 #[(vA #[(vS a0), (vS a1)]), (vA #[(vS b0), (vS b1)])] h598 (vI ((sboth a0 a1 b0 b1))) hh610 ∧ (binA Tryd.prog .neq 33 (vI ((sboth a0 a1 b0 b1))) (vI 0) = some (vB true) ∧ hh610 = hh610) ∧ (storeT Tryd.prog hh610 30 (vP b600 0) (vA #[(vS .empty), (vS .empty)]) = some h672 ∧ (undef : Value) = undef) ∧ (loadT Tryd.prog h672 30 (vP b600 0) = some (vA #[(vS .empty), (vS .empty)]) ∧ (vB false) = (vB false) ∧ (vI ((sboth a0 a1 b0 b1))) = (vI ((sboth a0 a1 b0 b1))) ∧ True) ∧ (fun v h1 => v = (vT #[(vA #[(vS (smeetV a0 a1 b0 b1).1), (vS (smeetV a0 a1 b0 b1).2.1)]), (vB (smeetV a0 a1 b0 b1).2.2.1), (vI ((smeetV a0 a1 b0 b1).2.2.2))]) ∧ Ext h h1) (vT #[(vA #[(vS .empty), (vS .empty)]), (vB false), (vI ((sboth a0 a1 b0 b1)))]) h672) (by kernel_rfl) ⟨⟨by rw [eb583], e581⟩, ⟨by rw [eb591], e589⟩, ⟨by rw [eb601], e599⟩, ⟨load_agg agg30 size30 f607 (by simp) (by kernel_rfl), rfl⟩, ⟨load_agg agg30 size30 f608 (by simp) (by kernel_rfl), rfl⟩, sn611, ⟨cmp_neq (decide_eq_true c617), rfl⟩, ⟨by rw [e673]; exact store_cells size30 rfl f615 (by decide) (by simp) rfl (by kernel_rfl), rfl⟩, ⟨load_agg agg30 size30 f674 (by simp) (by kernel_rfl), rfl, rfl, trivial⟩, ⟨by rw [e679], x678⟩⟩
theorem smeetV_eq (a0 : ByteArray) (a1 : ByteArray) (b0 : ByteArray) (b1 : ByteArray) : smeetV a0 a1 b0 b1 = rmeet a0 a1 b0 b1 := by
  unfold smeetV rmeet sboth
  rw [endS_eq]
  rcases rchk_02 a0 a1 with h1 | h1 <;> rcases rchk_02 b0 b1 with h2 | h2 <;> by_cases h3 : endC b1 a1 < 0 <;> simp [h1, h2, h3]
theorem smeetV_can (h : Heap) (a0 : ByteArray) (a1 : ByteArray) (b0 : ByteArray) (b1 : ByteArray) (ha0 : a0.size ≤ 9223372036854775807) (ha1 : a1.size ≤ 9223372036854775807) (hb0 : b0.size ≤ 9223372036854775807) (hb1 : b1.size ≤ 9223372036854775807) : WCall Tryd.prog 44 #[(Value.agg #[(vS a0), (vS a1)]), (Value.agg #[(vS b0), (vS b1)])] h (fun v h1 => v = (Value.tuple #[(Value.agg #[(vS (rmeet a0 a1 b0 b1).1), (vS (rmeet a0 a1 b0 b1).2.1)]), (vB (rmeet a0 a1 b0 b1).2.2.1), (vI ((rmeet a0 a1 b0 b1).2.2.2))]) ∧ Ext h h1) := by
  have q := smeetV_ok h a0 a1 b0 b1 ha0 ha1 hb0 hb1
  rw [smeetV_eq] at q
  exact q
end C32
