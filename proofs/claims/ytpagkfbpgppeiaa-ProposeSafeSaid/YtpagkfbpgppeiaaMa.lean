/- Ballots: how they are checked and ordered. -/
import Derived.Test.YtpagkfbpgppeiaaKd
import Derived.Test.YtpagkfbpgppeiaaBmi
import Derived.KernelRfl
open Go Go.AM Go.Proofs
namespace C14
theorem agg29 : isAggA Try.prog 29 = some true := by kernel_rfl
theorem size29 : (Try.prog.info? 29).map (·.size) = some 2 := by kernel_rfl
theorem bytes_beq (c c' : ByteArray) : (c == c') = decide (c = c') := by
  cases c with | mk a => cases c' with | mk b =>
  have : (ByteArray.mk a == ByteArray.mk b) = (a == b) := by
    show ByteArray.beq _ _ = _
    unfold ByteArray.beq
    rfl
  rw [this]
  by_cases h : a = b <;> simp [h]
theorem int_beq (a b : Int) : (a == b) = decide (a = b) := by by_cases h : a = b <;> simp [h]
theorem bool_beq (a b : Bool) : (a == b) = decide (a = b) := by cases a <;> cases b <;> rfl
/-- The order of two integers, and of two ballots. -/
def cmpI (x y : Int) : Int := if x < y then -1 else if y < x then 1 else 0
def ordB (a b c d : Int) : Int := if cmpI a c = 0 then cmpI b d else cmpI a c
def chkB (r nd n : Int) : Int := if n < 1 ∨ 7 < n then 2 else if r = 0 ∧ nd = 0 then 0 else if r < 1 ∨ 1073741824 < r ∨ nd < 0 ∨ n ≤ nd then 2 else 0
theorem eq29 {a0 b0 : Int} {a1 b1 : Int} : eqA Try.prog 8 29 (.agg #[.int .i64 a0, .int .i64 a1]) (.agg #[.int .i64 b0, .int .i64 b1]) = some (decide (a0 = b0 ∧ a1 = b1)) := by
  have e : eqA Try.prog 8 29 (.agg #[.int .i64 a0, .int .i64 a1]) (.agg #[.int .i64 b0, .int .i64 b1]) = (match (some (a0 == b0) : Option Bool) with | some true => (match (some (a1 == b1) : Option Bool) with | some true => some true | some false => some false | none => none) | some false => some false | none => none) := by kernel_rfl
  rw [e]
  simp only [int_beq, bytes_beq, bool_beq]
  by_cases h0 : a0 = b0 <;> by_cases h1 : a1 = b1 <;> simp [h0, h1]
theorem cmp29_eql {a0 b0 : Int} {a1 b1 : Int} {r : Bool} (e : decide (a0 = b0 ∧ a1 = b1) = r) : binA Try.prog .eql 29 (.agg #[.int .i64 a0, .int .i64 a1]) (.agg #[.int .i64 b0, .int .i64 b1]) = some (.bool r) := by
  have k : binA Try.prog .eql 29 (.agg #[.int .i64 a0, .int .i64 a1]) (.agg #[.int .i64 b0, .int .i64 b1]) = (eqA Try.prog 8 29 (.agg #[.int .i64 a0, .int .i64 a1]) (.agg #[.int .i64 b0, .int .i64 b1])).map .bool := by kernel_rfl
  rw [k, eq29, ← e]; rfl
theorem cmp29_neq {a0 b0 : Int} {a1 b1 : Int} {r : Bool} (e : decide (¬ (a0 = b0 ∧ a1 = b1)) = r) : binA Try.prog .neq 29 (.agg #[.int .i64 a0, .int .i64 a1]) (.agg #[.int .i64 b0, .int .i64 b1]) = some (.bool r) := by
  have k : binA Try.prog .neq 29 (.agg #[.int .i64 a0, .int .i64 a1]) (.agg #[.int .i64 b0, .int .i64 b1]) = (eqA Try.prog 8 29 (.agg #[.int .i64 a0, .int .i64 a1]) (.agg #[.int .i64 b0, .int .i64 b1])).map (fun b => .bool (!b)) := by kernel_rfl
  rw [k, eq29, ← e]
  simp only [Option.map_some, decide_not]
theorem eq38 {a0 b0 : Int} {a1 b1 : Int} {a2 b2 : Int} {a3 b3 : ByteArray} : eqA Try.prog 8 38 (.agg #[.int .i64 a0, .int .i64 a1, .int .i64 a2, .string a3]) (.agg #[.int .i64 b0, .int .i64 b1, .int .i64 b2, .string b3]) = some (decide (a0 = b0 ∧ a1 = b1 ∧ a2 = b2 ∧ a3 = b3)) := by
  have e : eqA Try.prog 8 38 (.agg #[.int .i64 a0, .int .i64 a1, .int .i64 a2, .string a3]) (.agg #[.int .i64 b0, .int .i64 b1, .int .i64 b2, .string b3]) = (match (some (a0 == b0) : Option Bool) with | some true => (match ((match (some (a1 == b1) : Option Bool) with | some true => (match (some (a2 == b2) : Option Bool) with | some true => some true | some false => some false | none => none) | some false => some false | none => none) : Option Bool) with | some true => (match (some (a3 == b3) : Option Bool) with | some true => some true | some false => some false | none => none) | some false => some false | none => none) | some false => some false | none => none) := by kernel_rfl
  rw [e]
  simp only [int_beq, bytes_beq, bool_beq]
  by_cases h0 : a0 = b0 <;> by_cases h1 : a1 = b1 <;> by_cases h2 : a2 = b2 <;> by_cases h3 : a3 = b3 <;> simp [h0, h1, h2, h3]
theorem cmp38_eql {a0 b0 : Int} {a1 b1 : Int} {a2 b2 : Int} {a3 b3 : ByteArray} {r : Bool} (e : decide (a0 = b0 ∧ a1 = b1 ∧ a2 = b2 ∧ a3 = b3) = r) : binA Try.prog .eql 38 (.agg #[.int .i64 a0, .int .i64 a1, .int .i64 a2, .string a3]) (.agg #[.int .i64 b0, .int .i64 b1, .int .i64 b2, .string b3]) = some (.bool r) := by
  have k : binA Try.prog .eql 38 (.agg #[.int .i64 a0, .int .i64 a1, .int .i64 a2, .string a3]) (.agg #[.int .i64 b0, .int .i64 b1, .int .i64 b2, .string b3]) = (eqA Try.prog 8 38 (.agg #[.int .i64 a0, .int .i64 a1, .int .i64 a2, .string a3]) (.agg #[.int .i64 b0, .int .i64 b1, .int .i64 b2, .string b3])).map .bool := by kernel_rfl
  rw [k, eq38, ← e]; rfl
theorem cmp38_neq {a0 b0 : Int} {a1 b1 : Int} {a2 b2 : Int} {a3 b3 : ByteArray} {r : Bool} (e : decide (¬ (a0 = b0 ∧ a1 = b1 ∧ a2 = b2 ∧ a3 = b3)) = r) : binA Try.prog .neq 38 (.agg #[.int .i64 a0, .int .i64 a1, .int .i64 a2, .string a3]) (.agg #[.int .i64 b0, .int .i64 b1, .int .i64 b2, .string b3]) = some (.bool r) := by
  have k : binA Try.prog .neq 38 (.agg #[.int .i64 a0, .int .i64 a1, .int .i64 a2, .string a3]) (.agg #[.int .i64 b0, .int .i64 b1, .int .i64 b2, .string b3]) = (eqA Try.prog 8 38 (.agg #[.int .i64 a0, .int .i64 a1, .int .i64 a2, .string a3]) (.agg #[.int .i64 b0, .int .i64 b1, .int .i64 b2, .string b3])).map (fun b => .bool (!b)) := by kernel_rfl
  rw [k, eq38, ← e]
  simp only [Option.map_some, decide_not]
set_option maxHeartbeats 4000000 in
theorem nan_ok (h : Heap) (x : Int) : WCall Try.prog 49 #[(vI (x))] h (fun v h1 => v = .bool false ∧ h = h1) := by
  exact hCall_ev [neF 1 2 3 (Eq.refl ((x) : Int))] [] (vB false) h ⟨by simp [], rfl⟩
theorem cmpI_lt {x y : Int} (h : x < y) : cmpI x y = -1 := by unfold cmpI; rw [if_pos h]
theorem cmpI_gt {x y : Int} (h : y < x) : cmpI x y = 1 := by unfold cmpI; rw [if_neg (by omega), if_pos h]
theorem cmpI_eq {x y : Int} (h : ¬ x < y) (h2 : ¬ y < x) : cmpI x y = 0 := by unfold cmpI; rw [if_neg h, if_neg h2]
theorem cmpI_range (x y : Int) : -1 ≤ cmpI x y ∧ cmpI x y ≤ 1 := by unfold cmpI; split; omega; split <;> omega
theorem ordB_range (a b c d : Int) : -1 ≤ ordB a b c d ∧ ordB a b c d ≤ 1 := by
  unfold ordB; split; exact cmpI_range _ _; exact cmpI_range _ _
set_option maxHeartbeats 4000000 in
theorem cmp_ok (h : Heap) (x y : Int) : WCall Try.prog 39 #[(vI (x)), (vI (y))] h (fun v h1 => v = .int .i64 (cmpI x y) ∧ h = h1) := by
  obtain ⟨_, _, sn150, rfl, rfl⟩ := nan_ok h (x)
  obtain ⟨_, _, sn153, rfl, rfl⟩ := nan_ok h (y)
  by_cases c155 : ((x) : Int) < (y)
  · exact hCall_ev [evF 1 1 sn150, evF 2 1 sn153, ltT 9 2 3 c155] [] (vI (-1)) h ⟨by rw [cmpI_lt (by omega)], rfl⟩
  · by_cases c156 : ((y) : Int) < (x)
    · exact hCall_ev [evF 1 1 sn150, evF 2 1 sn153, ltF 9 2 3 c155, gtT 11 2 3 c156] [] (vI 1) h ⟨by rw [cmpI_gt (by omega)], rfl⟩
    · exact hCall_ev [evF 1 1 sn150, evF 2 1 sn153, ltF 9 2 3 c155, gtF 11 2 3 c156] [] (vI 0) h ⟨by rw [cmpI_eq (by omega) (by omega)], rfl⟩
set_option maxHeartbeats 4000000 in
theorem first_ok (h : Heap) {b : Nat} (x y : Int) (hb : h[b]? = some (.cells #[.int .i64 x, .int .i64 y] 3 (0, 0))) : WCall Try.prog 38 #[(Value.slice (some ⟨b, 0, none⟩) 2 2)] h (fun v h1 => v = .int .i64 (if x = 0 then y else x) ∧ h = h1) := by
  refine wcall_by fun K hK => ?_
  refine wcall_at { tmps := #[(vL (some ⟨b, 0, none⟩) 2 2), vZ, vZ, vZ, vZ, vZ, vZ, vZ, vZ, vZ, vZ, vZ, vZ, vZ, vZ], defers := [] } (by kernel_rfl) ?_
  refine wc_seq' (subc (bodyOf Try.prog 38) [0]) (subc (bodyOf Try.prog 38) [1]) (by kernel_rfl) ?_
  refine wc_ev [] .normal h [(2, (vI 0))] ?_
  refine wc_seq' (subc (bodyOf Try.prog 38) [1, 0]) (subc (bodyOf Try.prog 38) [1, 1]) (by kernel_rfl) ?_
  refine wc_seq' (subc (bodyOf Try.prog 38) [1, 0, 0]) (subc (bodyOf Try.prog 38) [1, 0, 1]) (by kernel_rfl) ?_
  refine wc_ev [] .normal h [(5, (vL (some ⟨b, 0, none⟩) 2 2)), (6, (vI 2)), (7, (vI 0))] ?_
  refine wc_block' 0 (subc (bodyOf Try.prog 38) [1, 0, 1, 0]) (by kernel_rfl) ?_
  refine wc_once (subc (bodyOf Try.prog 38) [1, 0, 1, 0, 0]) (by kernel_rfl) ?_
  by_cases c157 : ((x) : Int) = 0
  · refine wc_ev [evC 3 1 0 agg3 hb, neF 4 1 3 c157] .normal h [(8, (vB true)), (9, (vP b 0)), (10, (vI x)), (4, (vI x)), (11, (vI x)), (12, (vB false)), (14, (vI 1)), (7, (vI 1))] ?_
    refine wc_once (subc (bodyOf Try.prog 38) [1, 0, 1, 0, 0]) rfl ?_
    by_cases c158 : ((y) : Int) = 0
    · refine wc_ev [evC 3 1 1 agg3 hb, neF 4 1 3 c158] .normal h [(8, (vB true)), (9, (vP b 1)), (10, (vI y)), (4, (vI y)), (11, (vI y)), (12, (vB false)), (14, (vI 2)), (7, (vI 2))] ?_
      refine wc_once (subc (bodyOf Try.prog 38) [1, 0, 1, 0, 0]) rfl ?_
      refine wc_ev [] (.exit 0) h [(8, (vB false))] ?_
      refine wc_ev [] .ret h [(2, (vI 0))] ?_
      exact end_ev [] (vI 0) (hK _ _ (⟨by rw [if_pos (by omega)]; congr 1; omega, rfl⟩))
    · refine wc_ev [evC 3 1 1 agg3 hb, neT 4 1 3 c158] .ret h [(8, (vB true)), (9, (vP b 1)), (10, (vI y)), (4, (vI y)), (11, (vI y)), (12, (vB true)), (13, (vI y)), (2, (vI y))] ?_
      exact end_ev [] (vI y) (hK _ _ (⟨by rw [if_pos (by omega)], rfl⟩))
  · refine wc_ev [evC 3 1 0 agg3 hb, neT 4 1 3 c157] .ret h [(8, (vB true)), (9, (vP b 0)), (10, (vI x)), (4, (vI x)), (11, (vI x)), (12, (vB true)), (13, (vI x)), (2, (vI x))] ?_
    exact end_ev [] (vI x) (hK _ _ (⟨by rw [if_neg (by omega)], rfl⟩))
set_option maxHeartbeats 4000000 in
theorem order_ok (h : Heap) (a b c d : Int) : WCall Try.prog 15 #[(Value.agg #[(vI (a)), (vI (b))]), (Value.agg #[(vI (c)), (vI (d))])] h (fun v h1 => v = .int .i64 (ordB a b c d) ∧ Ext h h1) := by
  obtain ⟨b161, eb162⟩ : ∃ zq, zq = h.size := ⟨_, rfl⟩
  obtain ⟨h159, e160⟩ : ∃ zq, zq = h.push (.cells #[(vI (a)), (vI (b))] 29 (0, 0)) := ⟨_, rfl⟩
  have f163 := push_new e160
  rw [← eb162] at f163
  have x164 : Ext h h159 := by rw [e160]; exact Ext.push _ _
  have o165 : h.size ≤ b161 := by have := (Ext.refl h).size; omega
  have x166 := (Ext.refl h).trans x164
  obtain ⟨b169, eb170⟩ : ∃ zq, zq = h159.size := ⟨_, rfl⟩
  obtain ⟨h167, e168⟩ : ∃ zq, zq = h159.push (.cells #[(vI (c)), (vI (d))] 29 (0, 0)) := ⟨_, rfl⟩
  have f171 := push_new e168
  rw [← eb170] at f171
  have x173 : Ext h159 h167 := by rw [e168]; exact Ext.push _ _
  have o174 : h.size ≤ b169 := by have := x166.size; omega
  have f175 := x173 _ _ f163
  have x176 := x166.trans x173
  obtain ⟨_, _, sn178, rfl, rfl⟩ := cmp_ok h167 (a) (c)
  obtain ⟨_, _, sn181, rfl, rfl⟩ := cmp_ok h167 (b) (d)
  obtain ⟨b185, eb186⟩ : ∃ zq, zq = h167.size := ⟨_, rfl⟩
  obtain ⟨h183, e184⟩ : ∃ zq, zq = h167.push (.cells #[(vI (cmpI (a) (c))), (vI (cmpI (b) (d)))] 3 (0, 0)) := ⟨_, rfl⟩
  have f187 := push_new e184
  rw [← eb186] at f187
  have x190 : Ext h167 h183 := by rw [e184]; exact Ext.push _ _
  have o191 : h.size ≤ b185 := by have := x176.size; omega
  have x194 := x176.trans x190
  obtain ⟨_, _, sn196, rfl, rfl⟩ := first_ok h183 _ _ f187
  exact hCall_ev [evA 0 0 eb162 e160, evA 0 1 eb170 e168, evC 1 1 0 agg3 f175, evC 1 3 0 agg3 f171, evC 1 6 1 agg3 f175, evC 1 8 1 agg3 f171, evF 1 4 sn178, evC 99 0 1 agg3 f171, evC 99 0 1 agg3 f175, evF 1 9 sn181, evS 1 10 2 eb186 e184, evF 1 11 sn196] [] (vI (if (cmpI (a) (c)) = 0 then (cmpI (b) (d)) else (cmpI (a) (c)))) h183 ⟨rfl, x194⟩
set_option maxHeartbeats 4000000 in
theorem chkB_ok (h : Heap) (rd nd n : Int) : WCall Try.prog 30 #[(Value.agg #[(vI (rd)), (vI (nd))]), (vI (n))] h (fun v h1 => v = .int .i64 (chkB rd nd n) ∧ Ext h h1) := by
  obtain ⟨b200, eb201⟩ : ∃ zq, zq = h.size := ⟨_, rfl⟩
  obtain ⟨h198, e199⟩ : ∃ zq, zq = h.push (.cells #[(vI (rd)), (vI (nd))] 29 (0, 0)) := ⟨_, rfl⟩
  have f202 := push_new e199
  rw [← eb201] at f202
  have x203 : Ext h h198 := by rw [e199]; exact Ext.push _ _
  have o204 : h.size ≤ b200 := by have := (Ext.refl h).size; omega
  have x205 := (Ext.refl h).trans x203
  by_cases c206 : ((n) : Int) < 1
  · exact hCall_ev [evA 0 0 eb201 e199, ltT 1 1 3 c206] [] (vI 2) h198 ⟨by unfold chkB; first | rw [if_pos (by omega)] | rw [if_neg (by omega), if_pos (by omega)] | rw [if_neg (by omega), if_neg (by omega), if_pos (by omega)] | rw [if_neg (by omega), if_neg (by omega), if_neg (by omega)], x205⟩
  · by_cases c207 : (7 : Int) < (n)
    · exact hCall_ev [evA 0 0 eb201 e199, ltF 1 1 3 c206, gtT 1 4 3 c207] [] (vI 2) h198 ⟨by unfold chkB; first | rw [if_pos (by omega)] | rw [if_neg (by omega), if_pos (by omega)] | rw [if_neg (by omega), if_neg (by omega), if_pos (by omega)] | rw [if_neg (by omega), if_neg (by omega), if_neg (by omega)], x205⟩
    · by_cases c208 : (((rd) : Int) = 0 ∧ ((nd) : Int) = 0)
      · exact hCall_ev [evA 0 0 eb201 e199, ltF 1 1 3 c206, gtF 1 4 3 c207, evLw 3 0 agg29 size29 f202, evQ 3 2 (cmp29_eql (decide_eq_true c208))] [] (vI 0) h198 ⟨by unfold chkB; first | rw [if_pos (by omega)] | rw [if_neg (by omega), if_pos (by omega)] | rw [if_neg (by omega), if_neg (by omega), if_pos (by omega)] | rw [if_neg (by omega), if_neg (by omega), if_neg (by omega)], x205⟩
      · by_cases c209 : ((rd) : Int) < 1
        · exact hCall_ev [evA 0 0 eb201 e199, ltF 1 1 3 c206, gtF 1 4 3 c207, evLw 3 0 agg29 size29 f202, evQ 3 2 (cmp29_eql (decide_eq_false c208)), evC 5 1 0 agg3 f202, ltT 5 2 3 c209] [] (vI 2) h198 ⟨by unfold chkB; first | rw [if_pos (by omega)] | rw [if_neg (by omega), if_pos (by omega)] | rw [if_neg (by omega), if_neg (by omega), if_pos (by omega)] | rw [if_neg (by omega), if_neg (by omega), if_neg (by omega)], x205⟩
        · by_cases c210 : (1073741824 : Int) < (rd)
          · exact hCall_ev [evA 0 0 eb201 e199, ltF 1 1 3 c206, gtF 1 4 3 c207, evLw 3 0 agg29 size29 f202, evQ 3 2 (cmp29_eql (decide_eq_false c208)), evC 5 1 0 agg3 f202, ltF 5 2 3 c209, evC 5 5 0 agg3 f202, gtT 5 6 3 c210] [] (vI 2) h198 ⟨by unfold chkB; first | rw [if_pos (by omega)] | rw [if_neg (by omega), if_pos (by omega)] | rw [if_neg (by omega), if_neg (by omega), if_pos (by omega)] | rw [if_neg (by omega), if_neg (by omega), if_neg (by omega)], x205⟩
          · by_cases c211 : ((nd) : Int) < 0
            · exact hCall_ev [evA 0 0 eb201 e199, ltF 1 1 3 c206, gtF 1 4 3 c207, evLw 3 0 agg29 size29 f202, evQ 3 2 (cmp29_eql (decide_eq_false c208)), evC 5 1 0 agg3 f202, ltF 5 2 3 c209, evC 5 5 0 agg3 f202, gtF 5 6 3 c210, evC 5 10 1 agg3 f202, ltT 5 11 3 c211] [] (vI 2) h198 ⟨by unfold chkB; first | rw [if_pos (by omega)] | rw [if_neg (by omega), if_pos (by omega)] | rw [if_neg (by omega), if_neg (by omega), if_pos (by omega)] | rw [if_neg (by omega), if_neg (by omega), if_neg (by omega)], x205⟩
            · by_cases c212 : ((n) : Int) ≤ (nd)
              · exact hCall_ev [evA 0 0 eb201 e199, ltF 1 1 3 c206, gtF 1 4 3 c207, evLw 3 0 agg29 size29 f202, evQ 3 2 (cmp29_eql (decide_eq_false c208)), evC 5 1 0 agg3 f202, ltF 5 2 3 c209, evC 5 5 0 agg3 f202, gtF 5 6 3 c210, evC 5 10 1 agg3 f202, ltF 5 11 3 c211, evC 5 15 1 agg3 f202, geT 5 17 3 c212] [] (vI 2) h198 ⟨by unfold chkB; first | rw [if_pos (by omega)] | rw [if_neg (by omega), if_pos (by omega)] | rw [if_neg (by omega), if_neg (by omega), if_pos (by omega)] | rw [if_neg (by omega), if_neg (by omega), if_neg (by omega)], x205⟩
              · exact hCall_ev [evA 0 0 eb201 e199, ltF 1 1 3 c206, gtF 1 4 3 c207, evLw 3 0 agg29 size29 f202, evQ 3 2 (cmp29_eql (decide_eq_false c208)), evC 5 1 0 agg3 f202, ltF 5 2 3 c209, evC 5 5 0 agg3 f202, gtF 5 6 3 c210, evC 5 10 1 agg3 f202, ltF 5 11 3 c211, evC 5 15 1 agg3 f202, geF 5 17 3 c212] [] (vI 0) h198 ⟨by unfold chkB; first | rw [if_pos (by omega)] | rw [if_neg (by omega), if_pos (by omega)] | rw [if_neg (by omega), if_neg (by omega), if_pos (by omega)] | rw [if_neg (by omega), if_neg (by omega), if_neg (by omega)], x205⟩
set_option maxHeartbeats 4000000 in
theorem rchkB_ok (h : Heap) (rd nd n : Int) : WCall Try.prog 40 #[(Value.agg #[(vI (rd)), (vI (nd))]), (vI (n))] h (fun v h1 => v = .int .i64 (chkB rd nd n) ∧ Ext h h1) := by
  obtain ⟨b215, eb216⟩ : ∃ zq, zq = h.size := ⟨_, rfl⟩
  obtain ⟨h213, e214⟩ : ∃ zq, zq = h.push (.cells #[(vI (rd)), (vI (nd))] 29 (0, 0)) := ⟨_, rfl⟩
  have f217 := push_new e214
  rw [← eb216] at f217
  have x218 : Ext h h213 := by rw [e214]; exact Ext.push _ _
  have o219 : h.size ≤ b215 := by have := (Ext.refl h).size; omega
  have x220 := (Ext.refl h).trans x218
  by_cases c221 : ((n) : Int) < 1
  · exact hCall_ev [evA 0 0 eb216 e214, ltT 1 1 3 c221] [] (vI 2) h213 ⟨by unfold chkB; first | rw [if_pos (by omega)] | rw [if_neg (by omega), if_pos (by omega)] | rw [if_neg (by omega), if_neg (by omega), if_pos (by omega)] | rw [if_neg (by omega), if_neg (by omega), if_neg (by omega)], x220⟩
  · by_cases c222 : (7 : Int) < (n)
    · exact hCall_ev [evA 0 0 eb216 e214, ltF 1 1 3 c221, gtT 1 4 3 c222] [] (vI 2) h213 ⟨by unfold chkB; first | rw [if_pos (by omega)] | rw [if_neg (by omega), if_pos (by omega)] | rw [if_neg (by omega), if_neg (by omega), if_pos (by omega)] | rw [if_neg (by omega), if_neg (by omega), if_neg (by omega)], x220⟩
    · by_cases c223 : (((rd) : Int) = 0 ∧ ((nd) : Int) = 0)
      · exact hCall_ev [evA 0 0 eb216 e214, ltF 1 1 3 c221, gtF 1 4 3 c222, evLw 3 0 agg29 size29 f217, evQ 3 2 (cmp29_eql (decide_eq_true c223))] [] (vI 0) h213 ⟨by unfold chkB; first | rw [if_pos (by omega)] | rw [if_neg (by omega), if_pos (by omega)] | rw [if_neg (by omega), if_neg (by omega), if_pos (by omega)] | rw [if_neg (by omega), if_neg (by omega), if_neg (by omega)], x220⟩
      · by_cases c224 : (1 : Int) ≤ (rd)
        · by_cases c225 : ((rd) : Int) ≤ 1073741824
          · by_cases c226 : (0 : Int) ≤ (nd)
            · by_cases c227 : ((nd) : Int) < (n)
              · exact hCall_ev [evA 0 0 eb216 e214, ltF 1 1 3 c221, gtF 1 4 3 c222, evLw 3 0 agg29 size29 f217, evQ 3 2 (cmp29_eql (decide_eq_false c223)), evC 3 5 0 agg3 f217, geT 3 6 3 c224, evC 3 9 0 agg3 f217, leT 3 10 3 c225, evC 3 14 1 agg3 f217, geT 3 15 3 c226, evC 3 19 1 agg3 f217, ltT 3 21 3 c227] [] (vI 0) h213 ⟨by unfold chkB; first | rw [if_pos (by omega)] | rw [if_neg (by omega), if_pos (by omega)] | rw [if_neg (by omega), if_neg (by omega), if_pos (by omega)] | rw [if_neg (by omega), if_neg (by omega), if_neg (by omega)], x220⟩
              · exact hCall_ev [evA 0 0 eb216 e214, ltF 1 1 3 c221, gtF 1 4 3 c222, evLw 3 0 agg29 size29 f217, evQ 3 2 (cmp29_eql (decide_eq_false c223)), evC 3 5 0 agg3 f217, geT 3 6 3 c224, evC 3 9 0 agg3 f217, leT 3 10 3 c225, evC 3 14 1 agg3 f217, geT 3 15 3 c226, evC 3 19 1 agg3 f217, ltF 3 21 3 c227] [] (vI 2) h213 ⟨by unfold chkB; first | rw [if_pos (by omega)] | rw [if_neg (by omega), if_pos (by omega)] | rw [if_neg (by omega), if_neg (by omega), if_pos (by omega)] | rw [if_neg (by omega), if_neg (by omega), if_neg (by omega)], x220⟩
            · exact hCall_ev [evA 0 0 eb216 e214, ltF 1 1 3 c221, gtF 1 4 3 c222, evLw 3 0 agg29 size29 f217, evQ 3 2 (cmp29_eql (decide_eq_false c223)), evC 3 5 0 agg3 f217, geT 3 6 3 c224, evC 3 9 0 agg3 f217, leT 3 10 3 c225, evC 3 14 1 agg3 f217, geF 3 15 3 c226] [] (vI 2) h213 ⟨by unfold chkB; first | rw [if_pos (by omega)] | rw [if_neg (by omega), if_pos (by omega)] | rw [if_neg (by omega), if_neg (by omega), if_pos (by omega)] | rw [if_neg (by omega), if_neg (by omega), if_neg (by omega)], x220⟩
          · exact hCall_ev [evA 0 0 eb216 e214, ltF 1 1 3 c221, gtF 1 4 3 c222, evLw 3 0 agg29 size29 f217, evQ 3 2 (cmp29_eql (decide_eq_false c223)), evC 3 5 0 agg3 f217, geT 3 6 3 c224, evC 3 9 0 agg3 f217, leF 3 10 3 c225] [] (vI 2) h213 ⟨by unfold chkB; first | rw [if_pos (by omega)] | rw [if_neg (by omega), if_pos (by omega)] | rw [if_neg (by omega), if_neg (by omega), if_pos (by omega)] | rw [if_neg (by omega), if_neg (by omega), if_neg (by omega)], x220⟩
        · exact hCall_ev [evA 0 0 eb216 e214, ltF 1 1 3 c221, gtF 1 4 3 c222, evLw 3 0 agg29 size29 f217, evQ 3 2 (cmp29_eql (decide_eq_false c223)), evC 3 5 0 agg3 f217, geF 3 6 3 c224] [] (vI 2) h213 ⟨by unfold chkB; first | rw [if_pos (by omega)] | rw [if_neg (by omega), if_pos (by omega)] | rw [if_neg (by omega), if_neg (by omega), if_pos (by omega)] | rw [if_neg (by omega), if_neg (by omega), if_neg (by omega)], x220⟩
theorem ordB_lt {a b c d : Int} (h : a < c ∨ a = c ∧ b < d) : ordB a b c d = -1 := by
  unfold ordB; rcases h with h | ⟨h, h2⟩
  · rw [cmpI_lt h, if_neg (by decide)]
  · rw [cmpI_eq (by omega) (by omega), if_pos rfl, cmpI_lt h2]
theorem ordB_eq {a b c d : Int} (h : a = c ∧ b = d) : ordB a b c d = 0 := by
  unfold ordB; rw [cmpI_eq (by omega) (by omega), if_pos rfl, cmpI_eq (by omega) (by omega)]
theorem ordB_gt {a b c d : Int} (h : c < a ∨ a = c ∧ d < b) : ordB a b c d = 1 := by
  unfold ordB; rcases h with h | ⟨h, h2⟩
  · rw [cmpI_gt h, if_neg (by decide)]
  · rw [cmpI_eq (by omega) (by omega), if_pos rfl, cmpI_gt h2]
set_option maxHeartbeats 4000000 in
theorem rorder_ok (h : Heap) (a b c d : Int) : WCall Try.prog 42 #[(Value.agg #[(vI (a)), (vI (b))]), (Value.agg #[(vI (c)), (vI (d))])] h (fun v h1 => v = .int .i64 (ordB a b c d) ∧ Ext h h1) := by
  obtain ⟨b230, eb231⟩ : ∃ zq, zq = h.size := ⟨_, rfl⟩
  obtain ⟨h228, e229⟩ : ∃ zq, zq = h.push (.cells #[(vI (a)), (vI (b))] 29 (0, 0)) := ⟨_, rfl⟩
  have f232 := push_new e229
  rw [← eb231] at f232
  have x233 : Ext h h228 := by rw [e229]; exact Ext.push _ _
  have o234 : h.size ≤ b230 := by have := (Ext.refl h).size; omega
  have x235 := (Ext.refl h).trans x233
  obtain ⟨b238, eb239⟩ : ∃ zq, zq = h228.size := ⟨_, rfl⟩
  obtain ⟨h236, e237⟩ : ∃ zq, zq = h228.push (.cells #[(vI (c)), (vI (d))] 29 (0, 0)) := ⟨_, rfl⟩
  have f240 := push_new e237
  rw [← eb239] at f240
  have x242 : Ext h228 h236 := by rw [e237]; exact Ext.push _ _
  have o243 : h.size ≤ b238 := by have := x235.size; omega
  have f244 := x242 _ _ f232
  have x245 := x235.trans x242
  by_cases c246 : ((a) : Int) < (c)
  · exact hCall_ev [evA 0 0 eb231 e229, evA 0 1 eb239 e237, evC 1 1 0 agg3 f244, evC 1 3 0 agg3 f240, ltT 1 4 3 c246] [] (vI (-1)) h236 ⟨by rw [ordB_lt (by omega)], x245⟩
  · by_cases c247 : ((a) : Int) = (c)
    · by_cases c248 : ((b) : Int) < (d)
      · exact hCall_ev [evA 0 0 eb231 e229, evA 0 1 eb239 e237, evC 1 1 0 agg3 f244, evC 1 3 0 agg3 f240, ltF 1 4 3 c246, evC 1 7 0 agg3 f244, evC 1 9 0 agg3 f240, eqT 1 10 3 c247, evC 1 13 1 agg3 f244, evC 1 15 1 agg3 f240, ltT 1 16 3 c248] [] (vI (-1)) h236 ⟨by rw [ordB_lt (by omega)], x245⟩
      · by_cases c249 : (((a) : Int) = (c) ∧ ((b) : Int) = (d))
        · exact hCall_ev [evA 0 0 eb231 e229, evA 0 1 eb239 e237, evC 1 1 0 agg3 f244, evC 1 3 0 agg3 f240, ltF 1 4 3 c246, evC 1 7 0 agg3 f244, evC 1 9 0 agg3 f240, eqT 1 10 3 c247, evC 1 13 1 agg3 f244, evC 1 15 1 agg3 f240, ltF 1 16 3 c248, evLw 3 0 agg29 size29 f244, evLw 3 1 agg29 size29 f240, evQ 3 2 (cmp29_eql (decide_eq_true c249))] [] (vI 0) h236 ⟨by rw [ordB_eq (by omega)], x245⟩
        · exact hCall_ev [evA 0 0 eb231 e229, evA 0 1 eb239 e237, evC 1 1 0 agg3 f244, evC 1 3 0 agg3 f240, ltF 1 4 3 c246, evC 1 7 0 agg3 f244, evC 1 9 0 agg3 f240, eqT 1 10 3 c247, evC 1 13 1 agg3 f244, evC 1 15 1 agg3 f240, ltF 1 16 3 c248, evLw 3 0 agg29 size29 f244, evLw 3 1 agg29 size29 f240, evQ 3 2 (cmp29_eql (decide_eq_false c249))] [] (vI 1) h236 ⟨by rw [ordB_gt (by omega)], x245⟩
    · by_cases c250 : (((a) : Int) = (c) ∧ ((b) : Int) = (d))
      · exact hCall_ev [evA 0 0 eb231 e229, evA 0 1 eb239 e237, evC 1 1 0 agg3 f244, evC 1 3 0 agg3 f240, ltF 1 4 3 c246, evC 1 7 0 agg3 f244, evC 1 9 0 agg3 f240, eqF 1 10 3 c247, evLw 3 0 agg29 size29 f244, evLw 3 1 agg29 size29 f240, evQ 3 2 (cmp29_eql (decide_eq_true c250))] [] (vI 0) h236 ⟨by rw [ordB_eq (by omega)], x245⟩
      · exact hCall_ev [evA 0 0 eb231 e229, evA 0 1 eb239 e237, evC 1 1 0 agg3 f244, evC 1 3 0 agg3 f240, ltF 1 4 3 c246, evC 1 7 0 agg3 f244, evC 1 9 0 agg3 f240, eqF 1 10 3 c247, evLw 3 0 agg29 size29 f244, evLw 3 1 agg29 size29 f240, evQ 3 2 (cmp29_eql (decide_eq_false c250))] [] (vI 1) h236 ⟨by rw [ordB_gt (by omega)], x245⟩
end C14
