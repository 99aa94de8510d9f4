/- Sums. -/
import Derived.Test.YtciigibbgklcjaaDoorKd
import Derived.KernelRfl
open Go Go.AM Go.Proofs
namespace C08
theorem agg2 : isAggA Tryd.prog 2 = some false := by kernel_rfl
theorem agg39 : isAggA Tryd.prog 39 = some true := by kernel_rfl
theorem agg81 : isAggA Tryd.prog 81 = some false := by kernel_rfl
theorem agg98 : isAggA Tryd.prog 98 = some false := by kernel_rfl
theorem agg100 : isAggA Tryd.prog 100 = some true := by kernel_rfl
theorem size2 : (Tryd.prog.info? 2).map (·.size) = some 1 := by kernel_rfl
theorem size39 : (Tryd.prog.info? 39).map (·.size) = some 5 := by kernel_rfl
theorem size82 : (Tryd.prog.info? 82).map (·.size) = some 4 := by kernel_rfl
theorem size100 : (Tryd.prog.info? 100).map (·.size) = some 2 := by kernel_rfl
theorem und76 : Tryd.prog.underlying 76 = some (.slice 2) := by kernel_rfl
theorem bytes_beq (c c' : ByteArray) : (c == c') = decide (c = c') := by
  cases c with | mk a => cases c' with | mk b =>
  have : (ByteArray.mk a == ByteArray.mk b) = (a == b) := by
    show ByteArray.beq _ _ = _
    unfold ByteArray.beq
    rfl
  rw [this]
  by_cases h : a = b <;> simp [h]
theorem int_beq (a b : Int) : (a == b) = decide (a = b) := by by_cases h : a = b <;> simp [h]
theorem bool_beq (a b : Bool) : (a == b) = decide (a = b) := by cases a <;> cases b <;> rfl
theorem eq39 {a0 b0 : Int} {a1 b1 : Int} {a2 b2 : Int} {a3 b3 : Int} {a4 b4 : Int} : eqA Tryd.prog 8 39 (.agg #[.int .i64 a0, .int .i64 a1, .int .i64 a2, .int .i64 a3, .int .i64 a4]) (.agg #[.int .i64 b0, .int .i64 b1, .int .i64 b2, .int .i64 b3, .int .i64 b4]) = some (decide (a0 = b0 ∧ a1 = b1 ∧ a2 = b2 ∧ a3 = b3 ∧ a4 = b4)) := by
  have e : eqA Tryd.prog 8 39 (.agg #[.int .i64 a0, .int .i64 a1, .int .i64 a2, .int .i64 a3, .int .i64 a4]) (.agg #[.int .i64 b0, .int .i64 b1, .int .i64 b2, .int .i64 b3, .int .i64 b4]) = (match (some (a0 == b0) : Option Bool) with | some true => (match (some (a1 == b1) : Option Bool) with | some true => (match (some (a2 == b2) : Option Bool) with | some true => (match (some (a3 == b3) : Option Bool) with | some true => (match (some (a4 == b4) : Option Bool) with | some true => some true | some false => some false | none => none) | some false => some false | none => none) | some false => some false | none => none) | some false => some false | none => none) | some false => some false | none => none) := by kernel_rfl
  rw [e]
  simp only [int_beq, bytes_beq, bool_beq]
  by_cases h0 : a0 = b0 <;> by_cases h1 : a1 = b1 <;> by_cases h2 : a2 = b2 <;> by_cases h3 : a3 = b3 <;> by_cases h4 : a4 = b4 <;> simp [h0, h1, h2, h3, h4]
theorem cmp39_eql {a0 b0 : Int} {a1 b1 : Int} {a2 b2 : Int} {a3 b3 : Int} {a4 b4 : Int} {r : Bool} (e : decide (a0 = b0 ∧ a1 = b1 ∧ a2 = b2 ∧ a3 = b3 ∧ a4 = b4) = r) : binA Tryd.prog .eql 39 (.agg #[.int .i64 a0, .int .i64 a1, .int .i64 a2, .int .i64 a3, .int .i64 a4]) (.agg #[.int .i64 b0, .int .i64 b1, .int .i64 b2, .int .i64 b3, .int .i64 b4]) = some (.bool r) := by
  have k : binA Tryd.prog .eql 39 (.agg #[.int .i64 a0, .int .i64 a1, .int .i64 a2, .int .i64 a3, .int .i64 a4]) (.agg #[.int .i64 b0, .int .i64 b1, .int .i64 b2, .int .i64 b3, .int .i64 b4]) = (eqA Tryd.prog 8 39 (.agg #[.int .i64 a0, .int .i64 a1, .int .i64 a2, .int .i64 a3, .int .i64 a4]) (.agg #[.int .i64 b0, .int .i64 b1, .int .i64 b2, .int .i64 b3, .int .i64 b4])).map .bool := by kernel_rfl
  rw [k, eq39, ← e]; rfl
theorem cmp39_neq {a0 b0 : Int} {a1 b1 : Int} {a2 b2 : Int} {a3 b3 : Int} {a4 b4 : Int} {r : Bool} (e : decide (¬ (a0 = b0 ∧ a1 = b1 ∧ a2 = b2 ∧ a3 = b3 ∧ a4 = b4)) = r) : binA Tryd.prog .neq 39 (.agg #[.int .i64 a0, .int .i64 a1, .int .i64 a2, .int .i64 a3, .int .i64 a4]) (.agg #[.int .i64 b0, .int .i64 b1, .int .i64 b2, .int .i64 b3, .int .i64 b4]) = some (.bool r) := by
  have k : binA Tryd.prog .neq 39 (.agg #[.int .i64 a0, .int .i64 a1, .int .i64 a2, .int .i64 a3, .int .i64 a4]) (.agg #[.int .i64 b0, .int .i64 b1, .int .i64 b2, .int .i64 b3, .int .i64 b4]) = (eqA Tryd.prog 8 39 (.agg #[.int .i64 a0, .int .i64 a1, .int .i64 a2, .int .i64 a3, .int .i64 a4]) (.agg #[.int .i64 b0, .int .i64 b1, .int .i64 b2, .int .i64 b3, .int .i64 b4])).map (fun b => .bool (!b)) := by kernel_rfl
  rw [k, eq39, ← e]
  simp only [Option.map_some, decide_not]
/-- A counter. -/
structure CntM where
  v : Int
  up : Int
  dn : Int
  lo : Int
  hi : Int
def cntc (x : CntM) : Array Value := #[.int .i64 x.v, .int .i64 x.up, .int .i64 x.dn, .int .i64 x.lo, .int .i64 x.hi]
theorem cntc_size (x : CntM) : (cntc x).size = 5 := rfl
def cntV (x : CntM) : Value := .agg (cntc x)
def okNP (x : Int) : Prop := -1152921504606846976 ≤ x ∧ x ≤ 1152921504606846976
def okc (v up dn lo hi : Int) : Bool := decide ((-1152921504606846976 ≤ v ∧ v ≤ 1152921504606846976) ∧ (-1152921504606846976 ≤ up ∧ up ≤ 1152921504606846976) ∧ (-1152921504606846976 ≤ dn ∧ dn ≤ 1152921504606846976) ∧ (-1152921504606846976 ≤ lo ∧ lo ≤ 1152921504606846976) ∧ (-1152921504606846976 ≤ hi ∧ hi ≤ 1152921504606846976) ∧ 0 ≤ up ∧ 0 ≤ dn ∧ lo ≤ v - up ∧ v + dn ≤ hi)
section
variable {v up dn lo hi : Int}
theorem okc_of (h : okc v up dn lo hi = true) : (-1152921504606846976 ≤ v ∧ v ≤ 1152921504606846976) ∧ (-1152921504606846976 ≤ up ∧ up ≤ 1152921504606846976) ∧ (-1152921504606846976 ≤ dn ∧ dn ≤ 1152921504606846976) ∧ (-1152921504606846976 ≤ lo ∧ lo ≤ 1152921504606846976) ∧ (-1152921504606846976 ≤ hi ∧ hi ≤ 1152921504606846976) ∧ 0 ≤ up ∧ 0 ≤ dn ∧ lo ≤ v - up ∧ v + dn ≤ hi := of_decide_eq_true h
theorem okc_mk (h : (-1152921504606846976 ≤ v ∧ v ≤ 1152921504606846976) ∧ (-1152921504606846976 ≤ up ∧ up ≤ 1152921504606846976) ∧ (-1152921504606846976 ≤ dn ∧ dn ≤ 1152921504606846976) ∧ (-1152921504606846976 ≤ lo ∧ lo ≤ 1152921504606846976) ∧ (-1152921504606846976 ≤ hi ∧ hi ≤ 1152921504606846976) ∧ 0 ≤ up ∧ 0 ≤ dn ∧ lo ≤ v - up ∧ v + dn ≤ hi) : okc v up dn lo hi = true := decide_eq_true h
theorem okc_no (h : ¬ ((-1152921504606846976 ≤ v ∧ v ≤ 1152921504606846976) ∧ (-1152921504606846976 ≤ up ∧ up ≤ 1152921504606846976) ∧ (-1152921504606846976 ≤ dn ∧ dn ≤ 1152921504606846976) ∧ (-1152921504606846976 ≤ lo ∧ lo ≤ 1152921504606846976) ∧ (-1152921504606846976 ≤ hi ∧ hi ≤ 1152921504606846976) ∧ 0 ≤ up ∧ 0 ≤ dn ∧ lo ≤ v - up ∧ v + dn ≤ hi)) : okc v up dn lo hi = false := decide_eq_false h
end
/-- A number with the other sign, as the machine reckons it. -/
def nw (a : Int) : Int := IntKind.i64.wrap (0 - a)
theorem nw_of {a : Int} (h : -9223372036854775808 < a ∧ a ≤ 9223372036854775807) : nw a = -a := by unfold nw; rw [IntKind.wrap_i64]; omega
theorem nw_num {a : Int} (h : (-1152921504606846976 ≤ a ∧ a ≤ 1152921504606846976)) : nw a = -a := nw_of (by omega)
/-- What num.Check gives. -/
def chkN (a : Int) : Int := if ((a) : Int) < (-1152921504606846976) then 7 else (if (1152921504606846976 : Int) < (a) then 7 else 0)
set_option maxHeartbeats 4000000 in
theorem chkN_ok (h : Heap) (a : Int) : WCall Tryd.prog 38 #[(vI (a))] h (fun v h1 => v = (vI ((chkN a))) ∧ h = h1) := by
  by_cases c1 : ((a) : Int) < (-1152921504606846976)
  · have e2 : (chkN a) = 7 := by unfold chkN; rw [if_pos c1]
    exact hCall_ev [ltT 1 1 2 c1] [] (vI 7) h ⟨by rw [e2], rfl⟩
  · by_cases c3 : (1152921504606846976 : Int) < (a)
    · have e4 : (chkN a) = 7 := by unfold chkN; rw [if_neg c1, if_pos c3]
      exact hCall_ev [ltF 1 1 2 c1, gtT 1 4 2 c3] [] (vI 7) h ⟨by rw [e4], rfl⟩
    · have e5 : (chkN a) = 0 := by unfold chkN; rw [if_neg c1, if_neg c3]
      exact hCall_ev [ltF 1 1 2 c1, gtF 1 4 2 c3] [] (vI 0) h ⟨by rw [e5], rfl⟩
theorem chkN_in {a : Int} (h : (-1152921504606846976 ≤ a ∧ a ≤ 1152921504606846976)) : chkN a = 0 := by unfold chkN; rw [if_neg (by omega), if_neg (by omega)]
theorem chkN_out {a : Int} (h : ¬ (-1152921504606846976 ≤ a ∧ a ≤ 1152921504606846976)) : chkN a = 7 := by unfold chkN; split; rfl; rw [if_pos (by omega)]
set_option maxHeartbeats 4000000 in
theorem chkC_ok (h : Heap) (cv cu cw cl cx : Int) : WCall Tryd.prog 19 #[(Value.agg #[(vI (cv)), (vI (cu)), (vI (cw)), (vI (cl)), (vI (cx))])] h (fun v' h1 => v' = .int .i64 (if okc cv cu cw cl cx = true then 0 else 2) ∧ Ext h h1) := by
  suffices H : ∀ K : Value → Heap → Prop, (∀ v h1, (fun v' h1 => v' = .int .i64 (if okc cv cu cw cl cx = true then 0 else 2) ∧ Ext h h1) v h1 → K v h1) → WCall Tryd.prog 19 #[(Value.agg #[(vI (cv)), (vI (cu)), (vI (cw)), (vI (cl)), (vI (cx))])] h K from H _ fun _ _ q => q
  intro K hK
  refine wcall_at { tmps := #[(vA #[(vI cv), (vI cu), (vI cw), (vI cl), (vI cx)]), vZ, vZ, vZ, vZ, vZ, vZ, vZ, vZ, vZ, vZ, vZ, vZ, vZ, vZ, vZ, vZ, vZ, vZ, vZ, vZ, vZ, vZ, vZ, vZ, vZ, vZ, vZ, vZ, vZ, vZ, vZ, vZ, vZ, vZ, vZ, vZ, vZ, vZ, vZ, vZ, vZ, vZ, vZ, vZ, vZ, vZ, vZ, vZ], defers := [] } (by kernel_rfl) ?_
  refine wc_seq' (subc (bodyOf Tryd.prog 19) [0]) (subc (bodyOf Tryd.prog 19) [1]) (by kernel_rfl) ?_
  obtain ⟨b1, eb2⟩ : ∃ zq, zq = h.size := ⟨_, rfl⟩
  obtain ⟨h3, e4⟩ : ∃ zq, zq = h.push (.cells #[(vI (cv)), (vI (cu)), (vI (cw)), (vI (cl)), (vI (cx))] 39 (0, 0)) := ⟨_, rfl⟩
  have f5 := push_new e4
  rw [← eb2] at f5
  have x6 : Ext h h3 := by rw [e4]; exact Ext.push _ _
  have o7 : h.size ≤ b1 := by have := (Ext.refl h).size; omega
  have x8 := (Ext.refl h).trans x6
  refine wc_ev [evA 0 0 eb2 e4] .normal h3 [(1, (vP b1 0)), (2, (vI 0))] ?_
  refine wc_seq' (subc (bodyOf Tryd.prog 19) [1, 0]) (subc (bodyOf Tryd.prog 19) [1, 1]) (by kernel_rfl) ?_
  refine wc_seq' (subc (bodyOf Tryd.prog 19) [1, 0, 0]) (subc (bodyOf Tryd.prog 19) [1, 0, 1]) (by kernel_rfl) ?_
  refine wc_ev [evC 1 1 0 agg2 f5, evC 1 3 1 agg2 f5, evC 1 5 2 agg2 f5, evC 1 7 3 agg2 f5, evC 1 9 4 agg2 f5] .normal h3 [(5, (vP b1 0)), (6, (vI cv)), (7, (vP b1 1)), (8, (vI cu)), (9, (vP b1 2)), (10, (vI cw)), (11, (vP b1 3)), (12, (vI cl)), (13, (vP b1 4)), (14, (vI cx)), (15, (vA #[(vI cv), (vI cu), (vI cw), (vI cl), (vI cx)])), (16, (vI 0))] ?_
  refine wc_block' 0 (subc (bodyOf Tryd.prog 19) [1, 0, 1, 0]) (by kernel_rfl) ?_
  refine wc_once (subc (bodyOf Tryd.prog 19) [1, 0, 1, 0, 0]) (by kernel_rfl) ?_
  obtain ⟨_, _, s9, rfl, rfl⟩ := chkN_ok h3 (cv)
  by_cases c10 : -1152921504606846976 ≤ ((cv) : Int) ∧ ((cv) : Int) ≤ 1152921504606846976
  · refine wc_ev [evF 4 1 (by rw [chkN_in c10] at s9; exact s9)] .normal h3 [(17, (vB true)), (18, (vI cv)), (4, (vI cv)), (19, (vI cv)), (20, (vI 0)), (21, (vB false)), (22, (vI 1)), (16, (vI 1))] ?_
    refine wc_once (subc (bodyOf Tryd.prog 19) [1, 0, 1, 0, 0]) rfl ?_
    obtain ⟨_, _, s11, rfl, rfl⟩ := chkN_ok h3 (cu)
    by_cases c12 : -1152921504606846976 ≤ ((cu) : Int) ∧ ((cu) : Int) ≤ 1152921504606846976
    · refine wc_ev [evF 4 1 (by rw [chkN_in c12] at s11; exact s11)] .normal h3 [(17, (vB true)), (18, (vI cu)), (4, (vI cu)), (19, (vI cu)), (20, (vI 0)), (21, (vB false)), (22, (vI 2)), (16, (vI 2))] ?_
      refine wc_once (subc (bodyOf Tryd.prog 19) [1, 0, 1, 0, 0]) rfl ?_
      refine wc_act { tmps := #[(vA #[(vI cv), (vI cu), (vI cw), (vI cl), (vI cx)]), (vP b1 0), (vI 0), vZ, (vI cu), (vP b1 0), (vI cv), (vP b1 1), (vI cu), (vP b1 2), (vI cw), (vP b1 3), (vI cl), (vP b1 4), (vI cx), (vA #[(vI cv), (vI cu), (vI cw), (vI cl), (vI cx)]), (vI 2), (vB true), (vI cu), (vI cu), (vI 0), (vB false), (vI 2), vZ, vZ, vZ, vZ, vZ, vZ, vZ, vZ, vZ, vZ, vZ, vZ, vZ, vZ, vZ, vZ, vZ, vZ, vZ, vZ, vZ, vZ, vZ, vZ, vZ, vZ], defers := [] } (by as_aux_lemma => kernel_rfl) ?_
      obtain ⟨_, _, s13, rfl, rfl⟩ := chkN_ok h3 (cw)
      by_cases c14 : -1152921504606846976 ≤ ((cw) : Int) ∧ ((cw) : Int) ≤ 1152921504606846976
      · refine wc_ev [evF 4 1 (by rw [chkN_in c14] at s13; exact s13)] .normal h3 [(17, (vB true)), (18, (vI cw)), (4, (vI cw)), (19, (vI cw)), (20, (vI 0)), (21, (vB false)), (22, (vI 3)), (16, (vI 3))] ?_
        refine wc_once (subc (bodyOf Tryd.prog 19) [1, 0, 1, 0, 0]) rfl ?_
        obtain ⟨_, _, s15, rfl, rfl⟩ := chkN_ok h3 (cl)
        by_cases c16 : -1152921504606846976 ≤ ((cl) : Int) ∧ ((cl) : Int) ≤ 1152921504606846976
        · refine wc_ev [evF 4 1 (by rw [chkN_in c16] at s15; exact s15)] .normal h3 [(17, (vB true)), (18, (vI cl)), (4, (vI cl)), (19, (vI cl)), (20, (vI 0)), (21, (vB false)), (22, (vI 4)), (16, (vI 4))] ?_
          refine wc_once (subc (bodyOf Tryd.prog 19) [1, 0, 1, 0, 0]) rfl ?_
          obtain ⟨_, _, s17, rfl, rfl⟩ := chkN_ok h3 (cx)
          by_cases c18 : -1152921504606846976 ≤ ((cx) : Int) ∧ ((cx) : Int) ≤ 1152921504606846976
          · refine wc_ev [evF 4 1 (by rw [chkN_in c18] at s17; exact s17)] .normal h3 [(17, (vB true)), (18, (vI cx)), (4, (vI cx)), (19, (vI cx)), (20, (vI 0)), (21, (vB false)), (22, (vI 5)), (16, (vI 5))] ?_
            refine wc_once (subc (bodyOf Tryd.prog 19) [1, 0, 1, 0, 0]) rfl ?_
            refine wc_ev [] (.exit 0) h3 [(17, (vB false))] ?_
            refine wc_act { tmps := #[(vA #[(vI cv), (vI cu), (vI cw), (vI cl), (vI cx)]), (vP b1 0), (vI 0), vZ, (vI cx), (vP b1 0), (vI cv), (vP b1 1), (vI cu), (vP b1 2), (vI cw), (vP b1 3), (vI cl), (vP b1 4), (vI cx), (vA #[(vI cv), (vI cu), (vI cw), (vI cl), (vI cx)]), (vI 5), (vB false), (vI cx), (vI cx), (vI 0), (vB false), (vI 5), vZ, vZ, vZ, vZ, vZ, vZ, vZ, vZ, vZ, vZ, vZ, vZ, vZ, vZ, vZ, vZ, vZ, vZ, vZ, vZ, vZ, vZ, vZ, vZ, vZ, vZ], defers := [] } (by as_aux_lemma => kernel_rfl) ?_
            by_cases c19 : ((cw) : Int) < (cu)
            · by_cases c20 : ((cw) : Int) < 0
              · refine wc_ev [evC 7 1 1 agg2 f5, evC 7 3 2 agg2 f5, evV 7 4 (vI cw) (show (vI cw) = (vI (if (cw) < (cu) then (cw) else (cu))) from by rw [if_pos c19]), ltT 7 5 2 c20] .ret h3 [(23, (vP b1 1)), (24, (vI cu)), (25, (vP b1 2)), (26, (vI cw)), (27, (vI cw)), (28, (vB true)), (29, (vB true)), (30, vZ), (31, vZ), (32, vZ), (33, vZ), (34, vZ), (35, vZ), (36, vZ), (37, vZ), (38, (vB true)), (39, (vB true)), (40, vZ), (41, vZ), (42, vZ), (43, vZ), (44, vZ), (45, vZ), (46, vZ), (47, vZ), (48, (vB true)), (2, (vI 2))] ?_
                exact end_ev [] (vI 2) (hK _ _ (⟨by rw [okc_no (by omega)]; rfl, x8⟩))
              · by_cases c21 : (((cv) - (cu)) : Int) < (cl)
                · refine wc_ev [evC 7 1 1 agg2 f5, evC 7 3 2 agg2 f5, evV 7 4 (vI cw) (show (vI cw) = (vI (if (cw) < (cu) then (cw) else (cu))) from by rw [if_pos c19]), ltF 7 5 2 c20, evC 7 8 0 agg2 f5, evC 7 10 1 agg2 f5, evV 7 11 (vI ((cv) - (cu))) (show binA Tryd.prog .sub 2 (vI cv) (vI cu) = some (vI ((cv) - (cu))) from sub_i64 (by omega) (by omega)), evC 7 13 3 agg2 f5, ltT 7 14 2 c21] .ret h3 [(23, (vP b1 1)), (24, (vI cu)), (25, (vP b1 2)), (26, (vI cw)), (27, (vI cw)), (28, (vB false)), (29, (vB false)), (30, (vP b1 0)), (31, (vI cv)), (32, (vP b1 1)), (33, (vI cu)), (34, (vI ((cv) - (cu)))), (35, (vP b1 3)), (36, (vI cl)), (37, (vB true)), (38, (vB true)), (39, (vB true)), (40, vZ), (41, vZ), (42, vZ), (43, vZ), (44, vZ), (45, vZ), (46, vZ), (47, vZ), (48, (vB true)), (2, (vI 2))] ?_
                  exact end_ev [] (vI 2) (hK _ _ (⟨by rw [okc_no (by omega)]; rfl, x8⟩))
                · by_cases c22 : ((cx) : Int) < ((cv) + (cw))
                  · refine wc_ev [evC 7 1 1 agg2 f5, evC 7 3 2 agg2 f5, evV 7 4 (vI cw) (show (vI cw) = (vI (if (cw) < (cu) then (cw) else (cu))) from by rw [if_pos c19]), ltF 7 5 2 c20, evC 7 8 0 agg2 f5, evC 7 10 1 agg2 f5, evV 7 11 (vI ((cv) - (cu))) (show binA Tryd.prog .sub 2 (vI cv) (vI cu) = some (vI ((cv) - (cu))) from sub_i64 (by omega) (by omega)), evC 7 13 3 agg2 f5, ltF 7 14 2 c21, evC 7 18 0 agg2 f5, evC 7 20 2 agg2 f5, evV 7 21 (vI ((cv) + (cw))) (show binA Tryd.prog .add 2 (vI cv) (vI cw) = some (vI ((cv) + (cw))) from add_i64 (by omega) (by omega)), evC 7 23 4 agg2 f5, gtT 7 24 2 c22] .ret h3 [(23, (vP b1 1)), (24, (vI cu)), (25, (vP b1 2)), (26, (vI cw)), (27, (vI cw)), (28, (vB false)), (29, (vB false)), (30, (vP b1 0)), (31, (vI cv)), (32, (vP b1 1)), (33, (vI cu)), (34, (vI ((cv) - (cu)))), (35, (vP b1 3)), (36, (vI cl)), (37, (vB false)), (38, (vB false)), (39, (vB false)), (40, (vP b1 0)), (41, (vI cv)), (42, (vP b1 2)), (43, (vI cw)), (44, (vI ((cv) + (cw)))), (45, (vP b1 4)), (46, (vI cx)), (47, (vB true)), (48, (vB true)), (2, (vI 2))] ?_
                    exact end_ev [] (vI 2) (hK _ _ (⟨by rw [okc_no (by omega)]; rfl, x8⟩))
                  · refine wc_ev [evC 7 1 1 agg2 f5, evC 7 3 2 agg2 f5, evV 7 4 (vI cw) (show (vI cw) = (vI (if (cw) < (cu) then (cw) else (cu))) from by rw [if_pos c19]), ltF 7 5 2 c20, evC 7 8 0 agg2 f5, evC 7 10 1 agg2 f5, evV 7 11 (vI ((cv) - (cu))) (show binA Tryd.prog .sub 2 (vI cv) (vI cu) = some (vI ((cv) - (cu))) from sub_i64 (by omega) (by omega)), evC 7 13 3 agg2 f5, ltF 7 14 2 c21, evC 7 18 0 agg2 f5, evC 7 20 2 agg2 f5, evV 7 21 (vI ((cv) + (cw))) (show binA Tryd.prog .add 2 (vI cv) (vI cw) = some (vI ((cv) + (cw))) from add_i64 (by omega) (by omega)), evC 7 23 4 agg2 f5, gtF 7 24 2 c22] .ret h3 [(23, (vP b1 1)), (24, (vI cu)), (25, (vP b1 2)), (26, (vI cw)), (27, (vI cw)), (28, (vB false)), (29, (vB false)), (30, (vP b1 0)), (31, (vI cv)), (32, (vP b1 1)), (33, (vI cu)), (34, (vI ((cv) - (cu)))), (35, (vP b1 3)), (36, (vI cl)), (37, (vB false)), (38, (vB false)), (39, (vB false)), (40, (vP b1 0)), (41, (vI cv)), (42, (vP b1 2)), (43, (vI cw)), (44, (vI ((cv) + (cw)))), (45, (vP b1 4)), (46, (vI cx)), (47, (vB false)), (48, (vB false)), (2, (vI 0))] ?_
                    exact end_ev [] (vI 0) (hK _ _ (⟨by rw [okc_mk (by omega)]; rfl, x8⟩))
            · by_cases c23 : ((cu) : Int) < 0
              · refine wc_ev [evC 7 1 1 agg2 f5, evC 7 3 2 agg2 f5, evV 7 4 (vI cu) (show (vI cu) = (vI (if (cw) < (cu) then (cw) else (cu))) from by rw [if_neg c19]), ltT 7 5 2 c23] .ret h3 [(23, (vP b1 1)), (24, (vI cu)), (25, (vP b1 2)), (26, (vI cw)), (27, (vI cu)), (28, (vB true)), (29, (vB true)), (30, vZ), (31, vZ), (32, vZ), (33, vZ), (34, vZ), (35, vZ), (36, vZ), (37, vZ), (38, (vB true)), (39, (vB true)), (40, vZ), (41, vZ), (42, vZ), (43, vZ), (44, vZ), (45, vZ), (46, vZ), (47, vZ), (48, (vB true)), (2, (vI 2))] ?_
                exact end_ev [] (vI 2) (hK _ _ (⟨by rw [okc_no (by omega)]; rfl, x8⟩))
              · by_cases c24 : (((cv) - (cu)) : Int) < (cl)
                · refine wc_ev [evC 7 1 1 agg2 f5, evC 7 3 2 agg2 f5, evV 7 4 (vI cu) (show (vI cu) = (vI (if (cw) < (cu) then (cw) else (cu))) from by rw [if_neg c19]), ltF 7 5 2 c23, evC 7 8 0 agg2 f5, evC 7 10 1 agg2 f5, evV 7 11 (vI ((cv) - (cu))) (show binA Tryd.prog .sub 2 (vI cv) (vI cu) = some (vI ((cv) - (cu))) from sub_i64 (by omega) (by omega)), evC 7 13 3 agg2 f5, ltT 7 14 2 c24] .ret h3 [(23, (vP b1 1)), (24, (vI cu)), (25, (vP b1 2)), (26, (vI cw)), (27, (vI cu)), (28, (vB false)), (29, (vB false)), (30, (vP b1 0)), (31, (vI cv)), (32, (vP b1 1)), (33, (vI cu)), (34, (vI ((cv) - (cu)))), (35, (vP b1 3)), (36, (vI cl)), (37, (vB true)), (38, (vB true)), (39, (vB true)), (40, vZ), (41, vZ), (42, vZ), (43, vZ), (44, vZ), (45, vZ), (46, vZ), (47, vZ), (48, (vB true)), (2, (vI 2))] ?_
                  exact end_ev [] (vI 2) (hK _ _ (⟨by rw [okc_no (by omega)]; rfl, x8⟩))
                · by_cases c25 : ((cx) : Int) < ((cv) + (cw))
                  · refine wc_ev [evC 7 1 1 agg2 f5, evC 7 3 2 agg2 f5, evV 7 4 (vI cu) (show (vI cu) = (vI (if (cw) < (cu) then (cw) else (cu))) from by rw [if_neg c19]), ltF 7 5 2 c23, evC 7 8 0 agg2 f5, evC 7 10 1 agg2 f5, evV 7 11 (vI ((cv) - (cu))) (show binA Tryd.prog .sub 2 (vI cv) (vI cu) = some (vI ((cv) - (cu))) from sub_i64 (by omega) (by omega)), evC 7 13 3 agg2 f5, ltF 7 14 2 c24, evC 7 18 0 agg2 f5, evC 7 20 2 agg2 f5, evV 7 21 (vI ((cv) + (cw))) (show binA Tryd.prog .add 2 (vI cv) (vI cw) = some (vI ((cv) + (cw))) from add_i64 (by omega) (by omega)), evC 7 23 4 agg2 f5, gtT 7 24 2 c25] .ret h3 [(23, (vP b1 1)), (24, (vI cu)), (25, (vP b1 2)), (26, (vI cw)), (27, (vI cu)), (28, (vB false)), (29, (vB false)), (30, (vP b1 0)), (31, (vI cv)), (32, (vP b1 1)), (33, (vI cu)), (34, (vI ((cv) - (cu)))), (35, (vP b1 3)), (36, (vI cl)), (37, (vB false)), (38, (vB false)), (39, (vB false)), (40, (vP b1 0)), (41, (vI cv)), (42, (vP b1 2)), (43, (vI cw)), (44, (vI ((cv) + (cw)))), (45, (vP b1 4)), (46, (vI cx)), (47, (vB true)), (48, (vB true)), (2, (vI 2))] ?_
                    exact end_ev [] (vI 2) (hK _ _ (⟨by rw [okc_no (by omega)]; rfl, x8⟩))
                  · refine wc_ev [evC 7 1 1 agg2 f5, evC 7 3 2 agg2 f5, evV 7 4 (vI cu) (show (vI cu) = (vI (if (cw) < (cu) then (cw) else (cu))) from by rw [if_neg c19]), ltF 7 5 2 c23, evC 7 8 0 agg2 f5, evC 7 10 1 agg2 f5, evV 7 11 (vI ((cv) - (cu))) (show binA Tryd.prog .sub 2 (vI cv) (vI cu) = some (vI ((cv) - (cu))) from sub_i64 (by omega) (by omega)), evC 7 13 3 agg2 f5, ltF 7 14 2 c24, evC 7 18 0 agg2 f5, evC 7 20 2 agg2 f5, evV 7 21 (vI ((cv) + (cw))) (show binA Tryd.prog .add 2 (vI cv) (vI cw) = some (vI ((cv) + (cw))) from add_i64 (by omega) (by omega)), evC 7 23 4 agg2 f5, gtF 7 24 2 c25] .ret h3 [(23, (vP b1 1)), (24, (vI cu)), (25, (vP b1 2)), (26, (vI cw)), (27, (vI cu)), (28, (vB false)), (29, (vB false)), (30, (vP b1 0)), (31, (vI cv)), (32, (vP b1 1)), (33, (vI cu)), (34, (vI ((cv) - (cu)))), (35, (vP b1 3)), (36, (vI cl)), (37, (vB false)), (38, (vB false)), (39, (vB false)), (40, (vP b1 0)), (41, (vI cv)), (42, (vP b1 2)), (43, (vI cw)), (44, (vI ((cv) + (cw)))), (45, (vP b1 4)), (46, (vI cx)), (47, (vB false)), (48, (vB false)), (2, (vI 0))] ?_
                    exact end_ev [] (vI 0) (hK _ _ (⟨by rw [okc_mk (by omega)]; rfl, x8⟩))
          · refine wc_ev [evF 4 1 (by rw [chkN_out c18] at s17; exact s17)] .ret h3 [(17, (vB true)), (18, (vI cx)), (4, (vI cx)), (19, (vI cx)), (20, (vI 7)), (21, (vB true)), (2, (vI 2))] ?_
            exact end_ev [] (vI 2) (hK _ _ (⟨by rw [okc_no (by omega)]; rfl, x8⟩))
        · refine wc_ev [evF 4 1 (by rw [chkN_out c16] at s15; exact s15)] .ret h3 [(17, (vB true)), (18, (vI cl)), (4, (vI cl)), (19, (vI cl)), (20, (vI 7)), (21, (vB true)), (2, (vI 2))] ?_
          exact end_ev [] (vI 2) (hK _ _ (⟨by rw [okc_no (by omega)]; rfl, x8⟩))
      · refine wc_ev [evF 4 1 (by rw [chkN_out c14] at s13; exact s13)] .ret h3 [(17, (vB true)), (18, (vI cw)), (4, (vI cw)), (19, (vI cw)), (20, (vI 7)), (21, (vB true)), (2, (vI 2))] ?_
        exact end_ev [] (vI 2) (hK _ _ (⟨by rw [okc_no (by omega)]; rfl, x8⟩))
    · refine wc_ev [evF 4 1 (by rw [chkN_out c12] at s11; exact s11)] .ret h3 [(17, (vB true)), (18, (vI cu)), (4, (vI cu)), (19, (vI cu)), (20, (vI 7)), (21, (vB true)), (2, (vI 2))] ?_
      exact end_ev [] (vI 2) (hK _ _ (⟨by rw [okc_no (by omega)]; rfl, x8⟩))
  · refine wc_ev [evF 4 1 (by rw [chkN_out c10] at s9; exact s9)] .ret h3 [(17, (vB true)), (18, (vI cv)), (4, (vI cv)), (19, (vI cv)), (20, (vI 7)), (21, (vB true)), (2, (vI 2))] ?_
    exact end_ev [] (vI 2) (hK _ _ (⟨by rw [okc_no (by omega)]; rfl, x8⟩))
/-- What count.size gives. -/
def sizeV (d : Int) : Int := if ((d) : Int) < 0 then (nw (d)) else (d)
set_option maxHeartbeats 4000000 in
theorem sizeV_ok (h : Heap) (d : Int) : WCall Tryd.prog 62 #[(vI (d))] h (fun v h1 => v = (vI ((sizeV d))) ∧ h = h1) := by
  by_cases c1 : ((d) : Int) < 0
  · have e2 : (sizeV d) = (nw (d)) := by unfold sizeV; rw [if_pos c1]
    exact hCall_ev [ltT 1 1 2 c1, evV 2 1 (vI (nw (d))) (show (vI (nw (d))) = (vI (IntKind.i64.wrap (0 - (d)))) from rfl)] [] (vI (nw (d))) h ⟨by rw [e2], rfl⟩
  · have e3 : (sizeV d) = (d) := by unfold sizeV; rw [if_neg c1]
    exact hCall_ev [ltF 1 1 2 c1] [] (vI d) h ⟨by rw [e3], rfl⟩
set_option maxHeartbeats 4000000 in
theorem change_ok (h : Heap) (cv cu cw cl cx d val rs wr : Int) (hv : (-1152921504606846976 ≤ d ∧ d ≤ 1152921504606846976) → (-1152921504606846976 ≤ val ∧ val ≤ 1152921504606846976) ∧ (-1152921504606846976 ≤ rs ∧ rs ≤ 1152921504606846976)) : WCall Tryd.prog 61 #[(Value.agg #[(vI (cv)), (vI (cu)), (vI (cw)), (vI (cl)), (vI (cx))]), (vI (d)), (vI (val)), (vI (rs)), (vI (wr))] h (fun v' h1 => (¬ (okc cv cu cw cl cx = true ∧ (-1152921504606846976 ≤ d ∧ d ≤ 1152921504606846976)) → v' = .tuple #[.agg #[.int .i64 0, .int .i64 0, .int .i64 0, .int .i64 0, .int .i64 0], .int .i64 2]) ∧ (okc cv cu cw cl cx = true → (-1152921504606846976 ≤ d ∧ d ≤ 1152921504606846976) → okc (cv + val) (if d < 0 then cu else cu + rs) (if d < 0 then cw + rs else cw) cl cx = true → v' = .tuple #[.agg #[.int .i64 (cv + val), .int .i64 (if d < 0 then cu else cu + rs), .int .i64 (if d < 0 then cw + rs else cw), .int .i64 cl, .int .i64 cx], .int .i64 0]) ∧ (okc cv cu cw cl cx = true → (-1152921504606846976 ≤ d ∧ d ≤ 1152921504606846976) → okc (cv + val) (if d < 0 then cu else cu + rs) (if d < 0 then cw + rs else cw) cl cx = false → v' = .tuple #[.agg #[.int .i64 0, .int .i64 0, .int .i64 0, .int .i64 0, .int .i64 0], .int .i64 wr]) ∧ Ext h h1) := by
  suffices H : ∀ K : Value → Heap → Prop, (∀ v h1, (fun v' h1 => (¬ (okc cv cu cw cl cx = true ∧ (-1152921504606846976 ≤ d ∧ d ≤ 1152921504606846976)) → v' = .tuple #[.agg #[.int .i64 0, .int .i64 0, .int .i64 0, .int .i64 0, .int .i64 0], .int .i64 2]) ∧ (okc cv cu cw cl cx = true → (-1152921504606846976 ≤ d ∧ d ≤ 1152921504606846976) → okc (cv + val) (if d < 0 then cu else cu + rs) (if d < 0 then cw + rs else cw) cl cx = true → v' = .tuple #[.agg #[.int .i64 (cv + val), .int .i64 (if d < 0 then cu else cu + rs), .int .i64 (if d < 0 then cw + rs else cw), .int .i64 cl, .int .i64 cx], .int .i64 0]) ∧ (okc cv cu cw cl cx = true → (-1152921504606846976 ≤ d ∧ d ≤ 1152921504606846976) → okc (cv + val) (if d < 0 then cu else cu + rs) (if d < 0 then cw + rs else cw) cl cx = false → v' = .tuple #[.agg #[.int .i64 0, .int .i64 0, .int .i64 0, .int .i64 0, .int .i64 0], .int .i64 wr]) ∧ Ext h h1) v h1 → K v h1) → WCall Tryd.prog 61 #[(Value.agg #[(vI (cv)), (vI (cu)), (vI (cw)), (vI (cl)), (vI (cx))]), (vI (d)), (vI (val)), (vI (rs)), (vI (wr))] h K from H _ fun _ _ q => q
  intro K hK
  refine wcall_at { tmps := #[(vA #[(vI cv), (vI cu), (vI cw), (vI cl), (vI cx)]), (vI d), (vI val), (vI rs), (vI wr), vZ, vZ, vZ, vZ, vZ, vZ, vZ, vZ, vZ, vZ, vZ, vZ, vZ, vZ, vZ, vZ, vZ, vZ, vZ, vZ, vZ, vZ, vZ, vZ, vZ, vZ, vZ, vZ, vZ, vZ, vZ, vZ, vZ, vZ, vZ, vZ, vZ, vZ, vZ, vZ, vZ, vZ, vZ, vZ, vZ, vZ], defers := [] } (by kernel_rfl) ?_
  obtain ⟨b1, eb2⟩ : ∃ zq, zq = h.size := ⟨_, rfl⟩
  obtain ⟨h3, e4⟩ : ∃ zq, zq = h.push (.cells #[(vI (cv)), (vI (cu)), (vI (cw)), (vI (cl)), (vI (cx))] 39 (0, 0)) := ⟨_, rfl⟩
  have f5 := push_new e4
  rw [← eb2] at f5
  have x6 : Ext h h3 := by rw [e4]; exact Ext.push _ _
  have o7 : h.size ≤ b1 := by have := (Ext.refl h).size; omega
  have x8 := (Ext.refl h).trans x6
  obtain ⟨b9, eb10⟩ : ∃ zq, zq = h3.size := ⟨_, rfl⟩
  obtain ⟨h11, e12⟩ : ∃ zq, zq = h3.push (.cells #[(vI 0), (vI 0), (vI 0), (vI 0), (vI 0)] 39 (0, 0)) := ⟨_, rfl⟩
  have f13 := push_new e12
  rw [← eb10] at f13
  have x14 : Ext h3 h11 := by rw [e12]; exact Ext.push _ _
  have o15 : h.size ≤ b9 := by have := x8.size; omega
  have f17 := x14 _ _ f5
  have x18 := x8.trans x14
  obtain ⟨_, h19, s20, rfl, x21⟩ := chkC_ok h11 (cv) (cu) (cw) (cl) (cx)
  have f22 := x21 _ _ f17
  have f23 := x21 _ _ f13
  have x24 := x18.trans x21
  rcases Bool.eq_false_or_eq_true (okc cv cu cw cl cx) with c25 | c25
  · obtain ⟨_, _, s26, rfl, rfl⟩ := chkN_ok h19 (d)
    by_cases c27 : -1152921504606846976 ≤ ((d) : Int) ∧ ((d) : Int) ≤ 1152921504606846976
    · have q28 := hv c27
      have q29 := okc_of c25
      obtain ⟨b30, eb31⟩ : ∃ zq, zq = h19.size := ⟨_, rfl⟩
      obtain ⟨h32, e33⟩ : ∃ zq, zq = h19.push (.cells #[(vI 0), (vI 0), (vI 0), (vI 0), (vI 0)] 39 (0, 0)) := ⟨_, rfl⟩
      have f34 := push_new e33
      rw [← eb31] at f34
      have n35 : b30 ≠ b1 := by have := row_lt f22; omega
      have n36 : b30 ≠ b9 := by have := row_lt f23; omega
      have x37 : Ext h19 h32 := by rw [e33]; exact Ext.push _ _
      have o38 : h.size ≤ b30 := by have := x24.size; omega
      have f39 := x37 _ _ f22
      have f40 := x37 _ _ f23
      have x41 := x24.trans x37
      obtain ⟨h42, e43⟩ : ∃ zq, zq = h32.setIfInBounds b30 (.cells #[(vI (cv)), (vI (cu)), (vI (cw)), (vI (cl)), (vI (cx))] 39 (0, 0)) := ⟨_, rfl⟩
      have f44 := set_same e43 f34
      have f45 := set_other e43 f39 n35
      have f46 := set_other e43 f40 n36
      have x47 := Ext.setNew x41 e43 o38
      obtain ⟨h48, e49⟩ : ∃ zq, zq = h42.setIfInBounds b30 (.cells #[(vI ((cv) + (val))), (vI (cu)), (vI (cw)), (vI (cl)), (vI (cx))] 39 (0, 0)) := ⟨_, rfl⟩
      have f50 := set_same e49 f44
      have f51 := set_other e49 f45 n35
      have f52 := set_other e49 f46 n36
      have x53 := Ext.setNew x47 e49 o38
      by_cases c54 : ((d) : Int) < 0
      · obtain ⟨h55, e56⟩ : ∃ zq, zq = h48.setIfInBounds b30 (.cells #[(vI ((cv) + (val))), (vI (cu)), (vI ((cw) + (rs))), (vI (cl)), (vI (cx))] 39 (0, 0)) := ⟨_, rfl⟩
        have f57 := set_same e56 f50
        have f58 := set_other e56 f51 n35
        have f59 := set_other e56 f52 n36
        have x60 := Ext.setNew x53 e56 o38
        by_cases c61 : ((((cv) + (val)) : Int) = (cv) ∧ ((cu) : Int) = (cu) ∧ (((cw) + (rs)) : Int) = (cw) ∧ ((cl) : Int) = (cl) ∧ ((cx) : Int) = (cx))
        · obtain ⟨h62, e63⟩ : ∃ zq, zq = h55.setIfInBounds b9 (.cells #[(vI ((cv) + (val))), (vI (cu)), (vI ((cw) + (rs))), (vI (cl)), (vI (cx))] 39 (0, 0)) := ⟨_, rfl⟩
          have f65 := set_same e63 f59
          have x66 := Ext.setNew x60 e63 o15
          refine wc_ev [evA 0 0 eb2 e4, evA 0 1 eb10 e12, evLw 1 0 agg39 size39 f17, evF 1 1 (by rw [if_pos c25] at s20; exact s20), evF 1 5 (by rw [chkN_in c27] at s26; exact s26), evLw 3 0 agg39 size39 f22, evA 3 1 eb31 e33, evUw 3 2 size39 f34 e43, evC 4 1 0 agg2 f44, evV 4 3 (vI ((cv) + (val))) (show binA Tryd.prog .add 2 (vI cv) (vI val) = some (vI ((cv) + (val))) from add_i64 (by omega) (by omega)), evT 4 5 0 size2 f44 e49, ltT 5 1 2 c54, evC 6 1 2 agg2 f50, evV 6 3 (vI ((cw) + (rs))) (show binA Tryd.prog .add 2 (vI cw) (vI rs) = some (vI ((cw) + (rs))) from add_i64 (by omega) (by omega)), evT 6 5 2 size2 f50 e56, evLw 8 0 agg39 size39 f57, evLw 8 1 agg39 size39 f58, evQ 8 2 (cmp39_neq (decide_eq_false (not_not_intro c61))), evLw 10 0 agg39 size39 f57, evUw 10 1 size39 f59 e63] .ret h62 [(5, (vP b1 0)), (10, (vP b9 0)), (11, (vI 0)), (13, (vA #[(vI cv), (vI cu), (vI cw), (vI cl), (vI cx)])), (14, (vI 0)), (15, (vB false)), (16, (vB false)), (17, (vI d)), (18, (vI 0)), (19, (vB false)), (20, (vB false)), (22, (vA #[(vI cv), (vI cu), (vI cw), (vI cl), (vI cx)])), (12, (vP b30 0)), (23, (vP b30 0)), (24, (vI cv)), (25, (vI val)), (26, (vI ((cv) + (val)))), (27, (vP b30 0)), (28, (vI d)), (29, (vB true)), (30, (vP b30 2)), (31, (vI cw)), (32, (vI rs)), (33, (vI ((cw) + (rs)))), (34, (vP b30 2)), (40, (vA #[(vI ((cv) + (val))), (vI cu), (vI ((cw) + (rs))), (vI cl), (vI cx)])), (41, (vA #[(vI cv), (vI cu), (vI cw), (vI cl), (vI cx)])), (42, (vB false)), (43, (vB false)), (44, vZ), (45, vZ), (46, vZ), (47, (vB false)), (50, (vA #[(vI ((cv) + (val))), (vI cu), (vI ((cw) + (rs))), (vI cl), (vI cx)])), (11, (vI 0))] ?_
          have n9 : okc (cv + val) (if d < 0 then cu else cu + rs) (if d < 0 then cw + rs else cw) cl cx = true := by rw [if_pos c54, if_pos c54]; exact okc_mk (by omega)
          exact end_ev [evLw 0 0 agg39 size39 f65, evR (vI 0)] (vT #[(vA #[(vI ((cv) + (val))), (vI cu), (vI ((cw) + (rs))), (vI cl), (vI cx)]), (vI 0)]) (hK _ _ (⟨fun w => absurd ⟨c25, c27⟩ w, fun _ _ _ => by rw [if_pos c54, if_pos c54], fun _ _ w => (by rw [n9] at w; cases w), x66⟩))
        · obtain ⟨_, h67, s68, rfl, x69⟩ := chkC_ok h55 ((cv) + (val)) (cu) ((cw) + (rs)) (cl) (cx)
          have f70 := x69 _ _ f59
          have f71 := x69 _ _ f57
          have x72 := x60.trans x69
          rcases Bool.eq_false_or_eq_true (okc ((cv) + (val)) cu ((cw) + (rs)) cl cx) with c73 | c73
          · obtain ⟨h74, e75⟩ : ∃ zq, zq = h67.setIfInBounds b9 (.cells #[(vI ((cv) + (val))), (vI (cu)), (vI ((cw) + (rs))), (vI (cl)), (vI (cx))] 39 (0, 0)) := ⟨_, rfl⟩
            have f76 := set_same e75 f70
            have x77 := Ext.setNew x72 e75 o15
            refine wc_ev [evA 0 0 eb2 e4, evA 0 1 eb10 e12, evLw 1 0 agg39 size39 f17, evF 1 1 (by rw [if_pos c25] at s20; exact s20), evF 1 5 (by rw [chkN_in c27] at s26; exact s26), evLw 3 0 agg39 size39 f22, evA 3 1 eb31 e33, evUw 3 2 size39 f34 e43, evC 4 1 0 agg2 f44, evV 4 3 (vI ((cv) + (val))) (show binA Tryd.prog .add 2 (vI cv) (vI val) = some (vI ((cv) + (val))) from add_i64 (by omega) (by omega)), evT 4 5 0 size2 f44 e49, ltT 5 1 2 c54, evC 6 1 2 agg2 f50, evV 6 3 (vI ((cw) + (rs))) (show binA Tryd.prog .add 2 (vI cw) (vI rs) = some (vI ((cw) + (rs))) from add_i64 (by omega) (by omega)), evT 6 5 2 size2 f50 e56, evLw 8 0 agg39 size39 f57, evLw 8 1 agg39 size39 f58, evQ 8 2 (cmp39_neq (decide_eq_true c61)), evLw 8 4 agg39 size39 f57, evF 8 5 (by rw [if_pos c73] at s68; exact s68), evLw 10 0 agg39 size39 f71, evUw 10 1 size39 f70 e75] .ret h74 [(5, (vP b1 0)), (10, (vP b9 0)), (11, (vI 0)), (13, (vA #[(vI cv), (vI cu), (vI cw), (vI cl), (vI cx)])), (14, (vI 0)), (15, (vB false)), (16, (vB false)), (17, (vI d)), (18, (vI 0)), (19, (vB false)), (20, (vB false)), (22, (vA #[(vI cv), (vI cu), (vI cw), (vI cl), (vI cx)])), (12, (vP b30 0)), (23, (vP b30 0)), (24, (vI cv)), (25, (vI val)), (26, (vI ((cv) + (val)))), (27, (vP b30 0)), (28, (vI d)), (29, (vB true)), (30, (vP b30 2)), (31, (vI cw)), (32, (vI rs)), (33, (vI ((cw) + (rs)))), (34, (vP b30 2)), (40, (vA #[(vI ((cv) + (val))), (vI cu), (vI ((cw) + (rs))), (vI cl), (vI cx)])), (41, (vA #[(vI cv), (vI cu), (vI cw), (vI cl), (vI cx)])), (42, (vB true)), (43, (vB true)), (44, (vA #[(vI ((cv) + (val))), (vI cu), (vI ((cw) + (rs))), (vI cl), (vI cx)])), (45, (vI 0)), (46, (vB false)), (47, (vB false)), (50, (vA #[(vI ((cv) + (val))), (vI cu), (vI ((cw) + (rs))), (vI cl), (vI cx)])), (11, (vI 0))] ?_
            have n9 : okc (cv + val) (if d < 0 then cu else cu + rs) (if d < 0 then cw + rs else cw) cl cx = true := by rw [if_pos c54, if_pos c54]; exact c73
            exact end_ev [evLw 0 0 agg39 size39 f76, evR (vI 0)] (vT #[(vA #[(vI ((cv) + (val))), (vI cu), (vI ((cw) + (rs))), (vI cl), (vI cx)]), (vI 0)]) (hK _ _ (⟨fun w => absurd ⟨c25, c27⟩ w, fun _ _ _ => by rw [if_pos c54, if_pos c54], fun _ _ w => (by rw [n9] at w; cases w), x77⟩))
          · obtain ⟨h78, e79⟩ : ∃ zq, zq = h67.setIfInBounds b9 (.cells #[(vI 0), (vI 0), (vI 0), (vI 0), (vI 0)] 39 (0, 0)) := ⟨_, rfl⟩
            have f80 := set_same e79 f70
            have x81 := Ext.setNew x72 e79 o15
            refine wc_ev [evA 0 0 eb2 e4, evA 0 1 eb10 e12, evLw 1 0 agg39 size39 f17, evF 1 1 (by rw [if_pos c25] at s20; exact s20), evF 1 5 (by rw [chkN_in c27] at s26; exact s26), evLw 3 0 agg39 size39 f22, evA 3 1 eb31 e33, evUw 3 2 size39 f34 e43, evC 4 1 0 agg2 f44, evV 4 3 (vI ((cv) + (val))) (show binA Tryd.prog .add 2 (vI cv) (vI val) = some (vI ((cv) + (val))) from add_i64 (by omega) (by omega)), evT 4 5 0 size2 f44 e49, ltT 5 1 2 c54, evC 6 1 2 agg2 f50, evV 6 3 (vI ((cw) + (rs))) (show binA Tryd.prog .add 2 (vI cw) (vI rs) = some (vI ((cw) + (rs))) from add_i64 (by omega) (by omega)), evT 6 5 2 size2 f50 e56, evLw 8 0 agg39 size39 f57, evLw 8 1 agg39 size39 f58, evQ 8 2 (cmp39_neq (decide_eq_true c61)), evLw 8 4 agg39 size39 f57, evF 8 5 (by rw [if_neg (by rw [c73]; decide)] at s68; exact s68), evUw 9 2 size39 f70 e79] .ret h78 [(5, (vP b1 0)), (10, (vP b9 0)), (11, (vI 0)), (13, (vA #[(vI cv), (vI cu), (vI cw), (vI cl), (vI cx)])), (14, (vI 0)), (15, (vB false)), (16, (vB false)), (17, (vI d)), (18, (vI 0)), (19, (vB false)), (20, (vB false)), (22, (vA #[(vI cv), (vI cu), (vI cw), (vI cl), (vI cx)])), (12, (vP b30 0)), (23, (vP b30 0)), (24, (vI cv)), (25, (vI val)), (26, (vI ((cv) + (val)))), (27, (vP b30 0)), (28, (vI d)), (29, (vB true)), (30, (vP b30 2)), (31, (vI cw)), (32, (vI rs)), (33, (vI ((cw) + (rs)))), (34, (vP b30 2)), (40, (vA #[(vI ((cv) + (val))), (vI cu), (vI ((cw) + (rs))), (vI cl), (vI cx)])), (41, (vA #[(vI cv), (vI cu), (vI cw), (vI cl), (vI cx)])), (42, (vB true)), (43, (vB true)), (44, (vA #[(vI ((cv) + (val))), (vI cu), (vI ((cw) + (rs))), (vI cl), (vI cx)])), (45, (vI 2)), (46, (vB true)), (47, (vB true)), (48, (vA #[(vI 0), (vI 0), (vI 0), (vI 0), (vI 0)])), (49, (vI wr)), (11, (vI wr))] ?_
            have n9 : okc (cv + val) (if d < 0 then cu else cu + rs) (if d < 0 then cw + rs else cw) cl cx = false := by rw [if_pos c54, if_pos c54]; exact c73
            exact end_ev [evLw 0 0 agg39 size39 f80, evR (vI wr)] (vT #[(vA #[(vI 0), (vI 0), (vI 0), (vI 0), (vI 0)]), (vI wr)]) (hK _ _ (⟨fun w => absurd ⟨c25, c27⟩ w, fun _ _ w => (by rw [n9] at w; cases w), fun _ _ _ => rfl, x81⟩))
      · obtain ⟨h82, e83⟩ : ∃ zq, zq = h48.setIfInBounds b30 (.cells #[(vI ((cv) + (val))), (vI ((cu) + (rs))), (vI (cw)), (vI (cl)), (vI (cx))] 39 (0, 0)) := ⟨_, rfl⟩
        have f84 := set_same e83 f50
        have f85 := set_other e83 f51 n35
        have f86 := set_other e83 f52 n36
        have x87 := Ext.setNew x53 e83 o38
        by_cases c88 : ((((cv) + (val)) : Int) = (cv) ∧ (((cu) + (rs)) : Int) = (cu) ∧ ((cw) : Int) = (cw) ∧ ((cl) : Int) = (cl) ∧ ((cx) : Int) = (cx))
        · obtain ⟨h89, e90⟩ : ∃ zq, zq = h82.setIfInBounds b9 (.cells #[(vI ((cv) + (val))), (vI ((cu) + (rs))), (vI (cw)), (vI (cl)), (vI (cx))] 39 (0, 0)) := ⟨_, rfl⟩
          have f91 := set_same e90 f86
          have x92 := Ext.setNew x87 e90 o15
          refine wc_ev [evA 0 0 eb2 e4, evA 0 1 eb10 e12, evLw 1 0 agg39 size39 f17, evF 1 1 (by rw [if_pos c25] at s20; exact s20), evF 1 5 (by rw [chkN_in c27] at s26; exact s26), evLw 3 0 agg39 size39 f22, evA 3 1 eb31 e33, evUw 3 2 size39 f34 e43, evC 4 1 0 agg2 f44, evV 4 3 (vI ((cv) + (val))) (show binA Tryd.prog .add 2 (vI cv) (vI val) = some (vI ((cv) + (val))) from add_i64 (by omega) (by omega)), evT 4 5 0 size2 f44 e49, ltF 5 1 2 c54, evC 7 1 1 agg2 f50, evV 7 3 (vI ((cu) + (rs))) (show binA Tryd.prog .add 2 (vI cu) (vI rs) = some (vI ((cu) + (rs))) from add_i64 (by omega) (by omega)), evT 7 5 1 size2 f50 e83, evLw 8 0 agg39 size39 f84, evLw 8 1 agg39 size39 f85, evQ 8 2 (cmp39_neq (decide_eq_false (not_not_intro c88))), evLw 10 0 agg39 size39 f84, evUw 10 1 size39 f86 e90] .ret h89 [(5, (vP b1 0)), (10, (vP b9 0)), (11, (vI 0)), (13, (vA #[(vI cv), (vI cu), (vI cw), (vI cl), (vI cx)])), (14, (vI 0)), (15, (vB false)), (16, (vB false)), (17, (vI d)), (18, (vI 0)), (19, (vB false)), (20, (vB false)), (22, (vA #[(vI cv), (vI cu), (vI cw), (vI cl), (vI cx)])), (12, (vP b30 0)), (23, (vP b30 0)), (24, (vI cv)), (25, (vI val)), (26, (vI ((cv) + (val)))), (27, (vP b30 0)), (28, (vI d)), (29, (vB false)), (35, (vP b30 1)), (36, (vI cu)), (37, (vI rs)), (38, (vI ((cu) + (rs)))), (39, (vP b30 1)), (40, (vA #[(vI ((cv) + (val))), (vI ((cu) + (rs))), (vI cw), (vI cl), (vI cx)])), (41, (vA #[(vI cv), (vI cu), (vI cw), (vI cl), (vI cx)])), (42, (vB false)), (43, (vB false)), (44, vZ), (45, vZ), (46, vZ), (47, (vB false)), (50, (vA #[(vI ((cv) + (val))), (vI ((cu) + (rs))), (vI cw), (vI cl), (vI cx)])), (11, (vI 0))] ?_
          have n9 : okc (cv + val) (if d < 0 then cu else cu + rs) (if d < 0 then cw + rs else cw) cl cx = true := by rw [if_neg c54, if_neg c54]; exact okc_mk (by omega)
          exact end_ev [evLw 0 0 agg39 size39 f91, evR (vI 0)] (vT #[(vA #[(vI ((cv) + (val))), (vI ((cu) + (rs))), (vI cw), (vI cl), (vI cx)]), (vI 0)]) (hK _ _ (⟨fun w => absurd ⟨c25, c27⟩ w, fun _ _ _ => by rw [if_neg c54, if_neg c54], fun _ _ w => (by rw [n9] at w; cases w), x92⟩))
        · obtain ⟨_, h93, s94, rfl, x95⟩ := chkC_ok h82 ((cv) + (val)) ((cu) + (rs)) (cw) (cl) (cx)
          have f96 := x95 _ _ f86
          have f97 := x95 _ _ f84
          have x98 := x87.trans x95
          rcases Bool.eq_false_or_eq_true (okc ((cv) + (val)) ((cu) + (rs)) cw cl cx) with c99 | c99
          · obtain ⟨h100, e101⟩ : ∃ zq, zq = h93.setIfInBounds b9 (.cells #[(vI ((cv) + (val))), (vI ((cu) + (rs))), (vI (cw)), (vI (cl)), (vI (cx))] 39 (0, 0)) := ⟨_, rfl⟩
            have f102 := set_same e101 f96
            have x103 := Ext.setNew x98 e101 o15
            refine wc_ev [evA 0 0 eb2 e4, evA 0 1 eb10 e12, evLw 1 0 agg39 size39 f17, evF 1 1 (by rw [if_pos c25] at s20; exact s20), evF 1 5 (by rw [chkN_in c27] at s26; exact s26), evLw 3 0 agg39 size39 f22, evA 3 1 eb31 e33, evUw 3 2 size39 f34 e43, evC 4 1 0 agg2 f44, evV 4 3 (vI ((cv) + (val))) (show binA Tryd.prog .add 2 (vI cv) (vI val) = some (vI ((cv) + (val))) from add_i64 (by omega) (by omega)), evT 4 5 0 size2 f44 e49, ltF 5 1 2 c54, evC 7 1 1 agg2 f50, evV 7 3 (vI ((cu) + (rs))) (show binA Tryd.prog .add 2 (vI cu) (vI rs) = some (vI ((cu) + (rs))) from add_i64 (by omega) (by omega)), evT 7 5 1 size2 f50 e83, evLw 8 0 agg39 size39 f84, evLw 8 1 agg39 size39 f85, evQ 8 2 (cmp39_neq (decide_eq_true c88)), evLw 8 4 agg39 size39 f84, evF 8 5 (by rw [if_pos c99] at s94; exact s94), evLw 10 0 agg39 size39 f97, evUw 10 1 size39 f96 e101] .ret h100 [(5, (vP b1 0)), (10, (vP b9 0)), (11, (vI 0)), (13, (vA #[(vI cv), (vI cu), (vI cw), (vI cl), (vI cx)])), (14, (vI 0)), (15, (vB false)), (16, (vB false)), (17, (vI d)), (18, (vI 0)), (19, (vB false)), (20, (vB false)), (22, (vA #[(vI cv), (vI cu), (vI cw), (vI cl), (vI cx)])), (12, (vP b30 0)), (23, (vP b30 0)), (24, (vI cv)), (25, (vI val)), (26, (vI ((cv) + (val)))), (27, (vP b30 0)), (28, (vI d)), (29, (vB false)), (35, (vP b30 1)), (36, (vI cu)), (37, (vI rs)), (38, (vI ((cu) + (rs)))), (39, (vP b30 1)), (40, (vA #[(vI ((cv) + (val))), (vI ((cu) + (rs))), (vI cw), (vI cl), (vI cx)])), (41, (vA #[(vI cv), (vI cu), (vI cw), (vI cl), (vI cx)])), (42, (vB true)), (43, (vB true)), (44, (vA #[(vI ((cv) + (val))), (vI ((cu) + (rs))), (vI cw), (vI cl), (vI cx)])), (45, (vI 0)), (46, (vB false)), (47, (vB false)), (50, (vA #[(vI ((cv) + (val))), (vI ((cu) + (rs))), (vI cw), (vI cl), (vI cx)])), (11, (vI 0))] ?_
            have n9 : okc (cv + val) (if d < 0 then cu else cu + rs) (if d < 0 then cw + rs else cw) cl cx = true := by rw [if_neg c54, if_neg c54]; exact c99
            exact end_ev [evLw 0 0 agg39 size39 f102, evR (vI 0)] (vT #[(vA #[(vI ((cv) + (val))), (vI ((cu) + (rs))), (vI cw), (vI cl), (vI cx)]), (vI 0)]) (hK _ _ (⟨fun w => absurd ⟨c25, c27⟩ w, fun _ _ _ => by rw [if_neg c54, if_neg c54], fun _ _ w => (by rw [n9] at w; cases w), x103⟩))
          · obtain ⟨h104, e105⟩ : ∃ zq, zq = h93.setIfInBounds b9 (.cells #[(vI 0), (vI 0), (vI 0), (vI 0), (vI 0)] 39 (0, 0)) := ⟨_, rfl⟩
            have f106 := set_same e105 f96
            have x107 := Ext.setNew x98 e105 o15
            refine wc_ev [evA 0 0 eb2 e4, evA 0 1 eb10 e12, evLw 1 0 agg39 size39 f17, evF 1 1 (by rw [if_pos c25] at s20; exact s20), evF 1 5 (by rw [chkN_in c27] at s26; exact s26), evLw 3 0 agg39 size39 f22, evA 3 1 eb31 e33, evUw 3 2 size39 f34 e43, evC 4 1 0 agg2 f44, evV 4 3 (vI ((cv) + (val))) (show binA Tryd.prog .add 2 (vI cv) (vI val) = some (vI ((cv) + (val))) from add_i64 (by omega) (by omega)), evT 4 5 0 size2 f44 e49, ltF 5 1 2 c54, evC 7 1 1 agg2 f50, evV 7 3 (vI ((cu) + (rs))) (show binA Tryd.prog .add 2 (vI cu) (vI rs) = some (vI ((cu) + (rs))) from add_i64 (by omega) (by omega)), evT 7 5 1 size2 f50 e83, evLw 8 0 agg39 size39 f84, evLw 8 1 agg39 size39 f85, evQ 8 2 (cmp39_neq (decide_eq_true c88)), evLw 8 4 agg39 size39 f84, evF 8 5 (by rw [if_neg (by rw [c99]; decide)] at s94; exact s94), evUw 9 2 size39 f96 e105] .ret h104 [(5, (vP b1 0)), (10, (vP b9 0)), (11, (vI 0)), (13, (vA #[(vI cv), (vI cu), (vI cw), (vI cl), (vI cx)])), (14, (vI 0)), (15, (vB false)), (16, (vB false)), (17, (vI d)), (18, (vI 0)), (19, (vB false)), (20, (vB false)), (22, (vA #[(vI cv), (vI cu), (vI cw), (vI cl), (vI cx)])), (12, (vP b30 0)), (23, (vP b30 0)), (24, (vI cv)), (25, (vI val)), (26, (vI ((cv) + (val)))), (27, (vP b30 0)), (28, (vI d)), (29, (vB false)), (35, (vP b30 1)), (36, (vI cu)), (37, (vI rs)), (38, (vI ((cu) + (rs)))), (39, (vP b30 1)), (40, (vA #[(vI ((cv) + (val))), (vI ((cu) + (rs))), (vI cw), (vI cl), (vI cx)])), (41, (vA #[(vI cv), (vI cu), (vI cw), (vI cl), (vI cx)])), (42, (vB true)), (43, (vB true)), (44, (vA #[(vI ((cv) + (val))), (vI ((cu) + (rs))), (vI cw), (vI cl), (vI cx)])), (45, (vI 2)), (46, (vB true)), (47, (vB true)), (48, (vA #[(vI 0), (vI 0), (vI 0), (vI 0), (vI 0)])), (49, (vI wr)), (11, (vI wr))] ?_
            have n9 : okc (cv + val) (if d < 0 then cu else cu + rs) (if d < 0 then cw + rs else cw) cl cx = false := by rw [if_neg c54, if_neg c54]; exact c99
            exact end_ev [evLw 0 0 agg39 size39 f106, evR (vI wr)] (vT #[(vA #[(vI 0), (vI 0), (vI 0), (vI 0), (vI 0)]), (vI wr)]) (hK _ _ (⟨fun w => absurd ⟨c25, c27⟩ w, fun _ _ w => (by rw [n9] at w; cases w), fun _ _ _ => rfl, x107⟩))
    · obtain ⟨h108, e109⟩ : ∃ zq, zq = h19.setIfInBounds b9 (.cells #[(vI 0), (vI 0), (vI 0), (vI 0), (vI 0)] 39 (0, 0)) := ⟨_, rfl⟩
      have f110 := set_same e109 f23
      have x111 := Ext.setNew x24 e109 o15
      refine wc_ev [evA 0 0 eb2 e4, evA 0 1 eb10 e12, evLw 1 0 agg39 size39 f17, evF 1 1 (by rw [if_pos c25] at s20; exact s20), evF 1 5 (by rw [chkN_out c27] at s26; exact s26), evUw 2 1 size39 f23 e109] .ret h108 [(5, (vP b1 0)), (10, (vP b9 0)), (11, (vI 0)), (13, (vA #[(vI cv), (vI cu), (vI cw), (vI cl), (vI cx)])), (14, (vI 0)), (15, (vB false)), (16, (vB false)), (17, (vI d)), (18, (vI 7)), (19, (vB true)), (20, (vB true)), (21, (vA #[(vI 0), (vI 0), (vI 0), (vI 0), (vI 0)])), (11, (vI 2))] ?_
      exact end_ev [evLw 0 0 agg39 size39 f110, evR (vI 2)] (vT #[(vA #[(vI 0), (vI 0), (vI 0), (vI 0), (vI 0)]), (vI 2)]) (hK _ _ (⟨fun _ => rfl, fun _ w => absurd w c27, fun _ w => absurd w c27, x111⟩))
  · obtain ⟨h112, e113⟩ : ∃ zq, zq = h19.setIfInBounds b9 (.cells #[(vI 0), (vI 0), (vI 0), (vI 0), (vI 0)] 39 (0, 0)) := ⟨_, rfl⟩
    have f114 := set_same e113 f23
    have x115 := Ext.setNew x24 e113 o15
    refine wc_ev [evA 0 0 eb2 e4, evA 0 1 eb10 e12, evLw 1 0 agg39 size39 f17, evF 1 1 (by rw [if_neg (by rw [c25]; decide)] at s20; exact s20), evUw 2 1 size39 f23 e113] .ret h112 [(5, (vP b1 0)), (10, (vP b9 0)), (11, (vI 0)), (13, (vA #[(vI cv), (vI cu), (vI cw), (vI cl), (vI cx)])), (14, (vI 2)), (15, (vB true)), (16, (vB true)), (17, vZ), (18, vZ), (19, vZ), (20, (vB true)), (21, (vA #[(vI 0), (vI 0), (vI 0), (vI 0), (vI 0)])), (11, (vI 2))] ?_
    exact end_ev [evLw 0 0 agg39 size39 f114, evR (vI 2)] (vT #[(vA #[(vI 0), (vI 0), (vI 0), (vI 0), (vI 0)]), (vI 2)]) (hK _ _ (⟨fun _ => rfl, fun w => (by rw [c25] at w; cases w), fun w => (by rw [c25] at w; cases w), x115⟩))
def aV (ph d v : Int) : Int := if ph = 1 then v + d else if ph = 2 then v - d else v
def aU (ph d u : Int) : Int := if d < 0 then u else if ph = 1 then u + d else u - d
def aD (ph d w : Int) : Int := if d < 0 then (if ph = 1 then w - d else w + d) else w
/-- What a phase makes of a counter, and its error. -/
def appM (c : CntM) (ph d : Int) : CntM := ⟨aV ph d c.v, aU ph d c.up, aD ph d c.dn, c.lo, c.hi⟩
def okC (c : CntM) : Bool := okc c.v c.up c.dn c.lo c.hi
def appE (c : CntM) (ph d : Int) : Int := if (1 ≤ ph ∧ ph ≤ 3) ∧ okC c = true ∧ (-1152921504606846976 ≤ d ∧ d ≤ 1152921504606846976) then (if okC (appM c ph d) = true then 0 else if ph = 1 then 7 else 9) else 2
theorem appE_zero {c : CntM} {ph d : Int} (h : appE c ph d = 0) : (1 ≤ ph ∧ ph ≤ 3) ∧ okC c = true ∧ (-1152921504606846976 ≤ d ∧ d ≤ 1152921504606846976) ∧ okC (appM c ph d) = true := by
  unfold appE at h
  split at h
  · rename_i q
    split at h
    · rename_i w; exact ⟨q.1, q.2.1, q.2.2, w⟩
    · split at h <;> cases h
  · cases h
theorem appE_ok {c : CntM} {ph d : Int} (h1 : 1 ≤ ph ∧ ph ≤ 3) (h2 : okC c = true) (h3 : (-1152921504606846976 ≤ d ∧ d ≤ 1152921504606846976)) (h4 : okC (appM c ph d) = true) : appE c ph d = 0 := by unfold appE; rw [if_pos ⟨h1, h2, h3⟩, if_pos h4]
theorem appE_bad {c : CntM} {ph d : Int} (h1 : 1 ≤ ph ∧ ph ≤ 3) (h2 : okC c = true) (h3 : (-1152921504606846976 ≤ d ∧ d ≤ 1152921504606846976)) (h4 : okC (appM c ph d) = false) : appE c ph d = if ph = 1 then 7 else 9 := by unfold appE; rw [if_pos ⟨h1, h2, h3⟩, if_neg (by rw [h4]; decide)]
theorem appE_arg {c : CntM} {ph d : Int} (h : ¬ ((1 ≤ ph ∧ ph ≤ 3) ∧ okC c = true ∧ (-1152921504606846976 ≤ d ∧ d ≤ 1152921504606846976))) : appE c ph d = 2 := if_neg h
theorem sizeV_num {d : Int} (h : (-1152921504606846976 ≤ d ∧ d ≤ 1152921504606846976)) : sizeV d = if d < 0 then -d else d := by
  unfold sizeV; split
  · rw [nw_num h]
  · rfl
theorem sizeV_rng {d : Int} (h : (-1152921504606846976 ≤ d ∧ d ≤ 1152921504606846976)) : (-1152921504606846976 ≤ sizeV d ∧ sizeV d ≤ 1152921504606846976) := by rw [sizeV_num h]; split <;> omega
theorem chg_all {c : CntM} {ph d val rs wr : Int} {v' : Value} (hph : 1 ≤ ph ∧ ph ≤ 3) (hwr : wr = if ph = 1 then 7 else 9) (h1 : (-1152921504606846976 ≤ d ∧ d ≤ 1152921504606846976) → c.v + val = aV ph d c.v) (h2 : (-1152921504606846976 ≤ d ∧ d ≤ 1152921504606846976) → (if d < 0 then c.up else c.up + rs) = aU ph d c.up) (h3 : (-1152921504606846976 ≤ d ∧ d ≤ 1152921504606846976) → (if d < 0 then c.dn + rs else c.dn) = aD ph d c.dn)
    (p0 : ¬ (okc c.v c.up c.dn c.lo c.hi = true ∧ (-1152921504606846976 ≤ d ∧ d ≤ 1152921504606846976)) → v' = .tuple #[.agg #[.int .i64 0, .int .i64 0, .int .i64 0, .int .i64 0, .int .i64 0], .int .i64 2])
    (p1 : okc c.v c.up c.dn c.lo c.hi = true → (-1152921504606846976 ≤ d ∧ d ≤ 1152921504606846976) → okc (c.v + val) (if d < 0 then c.up else c.up + rs) (if d < 0 then c.dn + rs else c.dn) c.lo c.hi = true → v' = .tuple #[.agg #[.int .i64 (c.v + val), .int .i64 (if d < 0 then c.up else c.up + rs), .int .i64 (if d < 0 then c.dn + rs else c.dn), .int .i64 c.lo, .int .i64 c.hi], .int .i64 0])
    (p2 : okc c.v c.up c.dn c.lo c.hi = true → (-1152921504606846976 ≤ d ∧ d ≤ 1152921504606846976) → okc (c.v + val) (if d < 0 then c.up else c.up + rs) (if d < 0 then c.dn + rs else c.dn) c.lo c.hi = false → v' = .tuple #[.agg #[.int .i64 0, .int .i64 0, .int .i64 0, .int .i64 0, .int .i64 0], .int .i64 wr]) :
    (¬ appE c ph d = 0 → v' = .tuple #[.agg #[.int .i64 0, .int .i64 0, .int .i64 0, .int .i64 0, .int .i64 0], .int .i64 (appE c ph d)]) ∧ (appE c ph d = 0 → v' = .tuple #[.agg #[.int .i64 (appM c ph d).v, .int .i64 (appM c ph d).up, .int .i64 (appM c ph d).dn, .int .i64 (appM c ph d).lo, .int .i64 (appM c ph d).hi], .int .i64 0]) := by
  by_cases q : okc c.v c.up c.dn c.lo c.hi = true ∧ (-1152921504606846976 ≤ d ∧ d ≤ 1152921504606846976)
  · obtain ⟨q1, q2⟩ := q
    rw [h1 q2, h2 q2, h3 q2] at p1 p2
    cases hn : okC (appM c ph d) with
    | true =>
      rw [appE_ok hph q1 q2 hn]
      exact ⟨fun w => absurd rfl w, fun _ => p1 q1 q2 hn⟩
    | false =>
      rw [appE_bad hph q1 q2 hn, ← hwr]
      refine ⟨fun _ => p2 q1 q2 hn, fun w => ?_⟩
      rw [hwr] at w; split at w <;> cases w
  · rw [appE_arg (fun w => q w.2)]
    exact ⟨fun _ => p0 q, fun w => by cases w⟩
set_option maxHeartbeats 4000000 in
theorem do_ok (h : Heap) (c : CntM) (d : Int) : WCall Tryd.prog 43 #[(Value.agg #[(vI (c.v)), (vI (c.up)), (vI (c.dn)), (vI (c.lo)), (vI (c.hi))]), (vI (d))] h (fun v h1 => (¬ appE c 1 d = 0 → v = .tuple #[.agg #[.int .i64 0, .int .i64 0, .int .i64 0, .int .i64 0, .int .i64 0], .int .i64 (appE c 1 d)]) ∧ (appE c 1 d = 0 → v = .tuple #[.agg #[.int .i64 (appM c 1 d).v, .int .i64 (appM c 1 d).up, .int .i64 (appM c 1 d).dn, .int .i64 (appM c 1 d).lo, .int .i64 (appM c 1 d).hi], .int .i64 0]) ∧ Ext h h1) := by
  obtain ⟨b1, eb2⟩ : ∃ zq, zq = h.size := ⟨_, rfl⟩
  obtain ⟨h3, e4⟩ : ∃ zq, zq = h.push (.cells #[(vI (c.v)), (vI (c.up)), (vI (c.dn)), (vI (c.lo)), (vI (c.hi))] 39 (0, 0)) := ⟨_, rfl⟩
  have f5 := push_new e4
  rw [← eb2] at f5
  have x6 : Ext h h3 := by rw [e4]; exact Ext.push _ _
  have o7 : h.size ≤ b1 := by have := (Ext.refl h).size; omega
  have x8 := (Ext.refl h).trans x6
  obtain ⟨b9, eb10⟩ : ∃ zq, zq = h3.size := ⟨_, rfl⟩
  obtain ⟨h11, e12⟩ : ∃ zq, zq = h3.push (.cells #[(vI 0), (vI 0), (vI 0), (vI 0), (vI 0)] 39 (0, 0)) := ⟨_, rfl⟩
  have f13 := push_new e12
  rw [← eb10] at f13
  have x14 : Ext h3 h11 := by rw [e12]; exact Ext.push _ _
  have o15 : h.size ≤ b9 := by have := x8.size; omega
  have f17 := x14 _ _ f5
  have x18 := x8.trans x14
  obtain ⟨_, _, sn19, rfl, rfl⟩ := sizeV_ok h11 (d) 
  obtain ⟨v20, h21, s22, p23, p24, p25, x26⟩ := change_ok h11 c.v c.up c.dn c.lo c.hi d (d) (sizeV d) 7 (fun w => ⟨w, sizeV_rng w⟩)
  obtain ⟨q27, q28⟩ := chg_all (ph := 1) (by omega) rfl (fun _ => rfl) (fun w => by rw [sizeV_num w]; unfold aU; split; rfl; (try rw [if_pos rfl]); (try rw [if_neg (by decide)]); (try omega)) (fun w => by rw [sizeV_num w]; unfold aD; split; (try rw [if_pos rfl]); (try rw [if_neg (by decide)]); (try omega); (try rfl)) p23 p24 p25
  have f29 := x26 _ _ f13
  have x30 := x18.trans x26
  by_cases c31 : ((appE c 1 d) : Int) = 0
  · obtain ⟨h32, e33⟩ : ∃ zq, zq = h21.setIfInBounds b9 (.cells #[(vI ((appM c 1 d).v)), (vI ((appM c 1 d).up)), (vI ((appM c 1 d).dn)), (vI ((appM c 1 d).lo)), (vI ((appM c 1 d).hi))] 39 (0, 0)) := ⟨_, rfl⟩
    have f34 := set_same e33 f29
    have x35 := Ext.setNew x30 e33 o15
    exact hCall_ev [evA 0 0 eb2 e4, evA 0 1 eb10 e12, evLw 1 0 agg39 size39 f17, evF 1 4 sn19, evLw 99 0 agg39 size39 f17, evF 1 5 (by rw [q28 c31] at s22; exact s22), evUw 1 8 size39 f29 e33] [evLw 0 0 agg39 size39 f34, evR (vI 0)] (vT #[(vA #[(vI ((appM c 1 d).v)), (vI ((appM c 1 d).up)), (vI ((appM c 1 d).dn)), (vI ((appM c 1 d).lo)), (vI ((appM c 1 d).hi))]), (vI 0)]) h32 ⟨fun w => absurd c31 w, fun _ => rfl, x35⟩
  · obtain ⟨h36, e37⟩ : ∃ zq, zq = h21.setIfInBounds b9 (.cells #[(vI 0), (vI 0), (vI 0), (vI 0), (vI 0)] 39 (0, 0)) := ⟨_, rfl⟩
    have f38 := set_same e37 f29
    have x39 := Ext.setNew x30 e37 o15
    exact hCall_ev [evA 0 0 eb2 e4, evA 0 1 eb10 e12, evLw 1 0 agg39 size39 f17, evF 1 4 sn19, evLw 99 0 agg39 size39 f17, evF 1 5 (by rw [q27 c31] at s22; exact s22), evUw 1 8 size39 f29 e37] [evLw 0 0 agg39 size39 f38, evR (vI (appE c 1 d))] (vT #[(vA #[(vI 0), (vI 0), (vI 0), (vI 0), (vI 0)]), (vI (appE c 1 d))]) h36 ⟨fun _ => rfl, fun w => absurd w c31, x39⟩
set_option maxHeartbeats 4000000 in
theorem undo_ok (h : Heap) (c : CntM) (d : Int) : WCall Tryd.prog 44 #[(Value.agg #[(vI (c.v)), (vI (c.up)), (vI (c.dn)), (vI (c.lo)), (vI (c.hi))]), (vI (d))] h (fun v h1 => (¬ appE c 2 d = 0 → v = .tuple #[.agg #[.int .i64 0, .int .i64 0, .int .i64 0, .int .i64 0, .int .i64 0], .int .i64 (appE c 2 d)]) ∧ (appE c 2 d = 0 → v = .tuple #[.agg #[.int .i64 (appM c 2 d).v, .int .i64 (appM c 2 d).up, .int .i64 (appM c 2 d).dn, .int .i64 (appM c 2 d).lo, .int .i64 (appM c 2 d).hi], .int .i64 0]) ∧ Ext h h1) := by
  obtain ⟨b1, eb2⟩ : ∃ zq, zq = h.size := ⟨_, rfl⟩
  obtain ⟨h3, e4⟩ : ∃ zq, zq = h.push (.cells #[(vI (c.v)), (vI (c.up)), (vI (c.dn)), (vI (c.lo)), (vI (c.hi))] 39 (0, 0)) := ⟨_, rfl⟩
  have f5 := push_new e4
  rw [← eb2] at f5
  have x6 : Ext h h3 := by rw [e4]; exact Ext.push _ _
  have o7 : h.size ≤ b1 := by have := (Ext.refl h).size; omega
  have x8 := (Ext.refl h).trans x6
  obtain ⟨b9, eb10⟩ : ∃ zq, zq = h3.size := ⟨_, rfl⟩
  obtain ⟨h11, e12⟩ : ∃ zq, zq = h3.push (.cells #[(vI 0), (vI 0), (vI 0), (vI 0), (vI 0)] 39 (0, 0)) := ⟨_, rfl⟩
  have f13 := push_new e12
  rw [← eb10] at f13
  have x14 : Ext h3 h11 := by rw [e12]; exact Ext.push _ _
  have o15 : h.size ≤ b9 := by have := x8.size; omega
  have f17 := x14 _ _ f5
  have x18 := x8.trans x14
  obtain ⟨_, _, sn19, rfl, rfl⟩ := sizeV_ok h11 (d) 
  obtain ⟨v20, h21, s22, p23, p24, p25, x26⟩ := change_ok h11 c.v c.up c.dn c.lo c.hi d (nw d) (nw (sizeV d)) 9 (fun w => ⟨by rw [nw_num w]; omega, by rw [nw_num (sizeV_rng w)]; have := sizeV_rng w; omega⟩)
  obtain ⟨q27, q28⟩ := chg_all (ph := 2) (by omega) rfl (fun w => by rw [nw_num w]; exact (show c.v + -d = c.v - d by omega)) (fun w => by rw [nw_num (sizeV_rng w)]; rw [sizeV_num w]; unfold aU; split; rfl; (try rw [if_pos rfl]); (try rw [if_neg (by decide)]); (try omega)) (fun w => by rw [nw_num (sizeV_rng w)]; rw [sizeV_num w]; unfold aD; split; (try rw [if_pos rfl]); (try rw [if_neg (by decide)]); (try omega); (try rfl)) p23 p24 p25
  have f29 := x26 _ _ f13
  have x30 := x18.trans x26
  by_cases c31 : ((appE c 2 d) : Int) = 0
  · obtain ⟨h32, e33⟩ : ∃ zq, zq = h21.setIfInBounds b9 (.cells #[(vI ((appM c 2 d).v)), (vI ((appM c 2 d).up)), (vI ((appM c 2 d).dn)), (vI ((appM c 2 d).lo)), (vI ((appM c 2 d).hi))] 39 (0, 0)) := ⟨_, rfl⟩
    have f34 := set_same e33 f29
    have x35 := Ext.setNew x30 e33 o15
    exact hCall_ev [evA 0 0 eb2 e4, evA 0 1 eb10 e12, evLw 1 0 agg39 size39 f17, evV 1 3 (vI (nw (d))) (show (vI (nw (d))) = (vI (IntKind.i64.wrap (0 - (d)))) from rfl), evF 1 5 sn19, evLw 99 0 agg39 size39 f17, evV 1 6 (vI (nw ((sizeV (d))))) (show (vI (nw ((sizeV (d))))) = (vI (IntKind.i64.wrap (0 - ((sizeV (d)))))) from rfl), evF 1 7 (by rw [q28 c31] at s22; exact s22), evUw 1 10 size39 f29 e33] [evLw 0 0 agg39 size39 f34, evR (vI 0)] (vT #[(vA #[(vI ((appM c 2 d).v)), (vI ((appM c 2 d).up)), (vI ((appM c 2 d).dn)), (vI ((appM c 2 d).lo)), (vI ((appM c 2 d).hi))]), (vI 0)]) h32 ⟨fun w => absurd c31 w, fun _ => rfl, x35⟩
  · obtain ⟨h36, e37⟩ : ∃ zq, zq = h21.setIfInBounds b9 (.cells #[(vI 0), (vI 0), (vI 0), (vI 0), (vI 0)] 39 (0, 0)) := ⟨_, rfl⟩
    have f38 := set_same e37 f29
    have x39 := Ext.setNew x30 e37 o15
    exact hCall_ev [evA 0 0 eb2 e4, evA 0 1 eb10 e12, evLw 1 0 agg39 size39 f17, evV 1 3 (vI (nw (d))) (show (vI (nw (d))) = (vI (IntKind.i64.wrap (0 - (d)))) from rfl), evF 1 5 sn19, evLw 99 0 agg39 size39 f17, evV 1 6 (vI (nw ((sizeV (d))))) (show (vI (nw ((sizeV (d))))) = (vI (IntKind.i64.wrap (0 - ((sizeV (d)))))) from rfl), evF 1 7 (by rw [q27 c31] at s22; exact s22), evUw 1 10 size39 f29 e37] [evLw 0 0 agg39 size39 f38, evR (vI (appE c 2 d))] (vT #[(vA #[(vI 0), (vI 0), (vI 0), (vI 0), (vI 0)]), (vI (appE c 2 d))]) h36 ⟨fun _ => rfl, fun w => absurd w c31, x39⟩
set_option maxHeartbeats 4000000 in
theorem free_ok (h : Heap) (c : CntM) (d : Int) : WCall Tryd.prog 45 #[(Value.agg #[(vI (c.v)), (vI (c.up)), (vI (c.dn)), (vI (c.lo)), (vI (c.hi))]), (vI (d))] h (fun v h1 => (¬ appE c 3 d = 0 → v = .tuple #[.agg #[.int .i64 0, .int .i64 0, .int .i64 0, .int .i64 0, .int .i64 0], .int .i64 (appE c 3 d)]) ∧ (appE c 3 d = 0 → v = .tuple #[.agg #[.int .i64 (appM c 3 d).v, .int .i64 (appM c 3 d).up, .int .i64 (appM c 3 d).dn, .int .i64 (appM c 3 d).lo, .int .i64 (appM c 3 d).hi], .int .i64 0]) ∧ Ext h h1) := by
  obtain ⟨b1, eb2⟩ : ∃ zq, zq = h.size := ⟨_, rfl⟩
  obtain ⟨h3, e4⟩ : ∃ zq, zq = h.push (.cells #[(vI (c.v)), (vI (c.up)), (vI (c.dn)), (vI (c.lo)), (vI (c.hi))] 39 (0, 0)) := ⟨_, rfl⟩
  have f5 := push_new e4
  rw [← eb2] at f5
  have x6 : Ext h h3 := by rw [e4]; exact Ext.push _ _
  have o7 : h.size ≤ b1 := by have := (Ext.refl h).size; omega
  have x8 := (Ext.refl h).trans x6
  obtain ⟨b9, eb10⟩ : ∃ zq, zq = h3.size := ⟨_, rfl⟩
  obtain ⟨h11, e12⟩ : ∃ zq, zq = h3.push (.cells #[(vI 0), (vI 0), (vI 0), (vI 0), (vI 0)] 39 (0, 0)) := ⟨_, rfl⟩
  have f13 := push_new e12
  rw [← eb10] at f13
  have x14 : Ext h3 h11 := by rw [e12]; exact Ext.push _ _
  have o15 : h.size ≤ b9 := by have := x8.size; omega
  have f17 := x14 _ _ f5
  have x18 := x8.trans x14
  obtain ⟨_, _, sn19, rfl, rfl⟩ := sizeV_ok h11 (d) 
  obtain ⟨v20, h21, s22, p23, p24, p25, x26⟩ := change_ok h11 c.v c.up c.dn c.lo c.hi d (0) (nw (sizeV d)) 9 (fun w => ⟨by omega, by rw [nw_num (sizeV_rng w)]; have := sizeV_rng w; omega⟩)
  obtain ⟨q27, q28⟩ := chg_all (ph := 3) (by omega) rfl (fun _ => (show c.v + 0 = c.v by omega)) (fun w => by rw [nw_num (sizeV_rng w)]; rw [sizeV_num w]; unfold aU; split; rfl; (try rw [if_pos rfl]); (try rw [if_neg (by decide)]); (try omega)) (fun w => by rw [nw_num (sizeV_rng w)]; rw [sizeV_num w]; unfold aD; split; (try rw [if_pos rfl]); (try rw [if_neg (by decide)]); (try omega); (try rfl)) p23 p24 p25
  have f29 := x26 _ _ f13
  have x30 := x18.trans x26
  by_cases c31 : ((appE c 3 d) : Int) = 0
  · obtain ⟨h32, e33⟩ : ∃ zq, zq = h21.setIfInBounds b9 (.cells #[(vI ((appM c 3 d).v)), (vI ((appM c 3 d).up)), (vI ((appM c 3 d).dn)), (vI ((appM c 3 d).lo)), (vI ((appM c 3 d).hi))] 39 (0, 0)) := ⟨_, rfl⟩
    have f34 := set_same e33 f29
    have x35 := Ext.setNew x30 e33 o15
    exact hCall_ev [evA 0 0 eb2 e4, evA 0 1 eb10 e12, evLw 1 0 agg39 size39 f17, evF 1 3 sn19, evLw 99 0 agg39 size39 f17, evV 1 4 (vI (nw ((sizeV (d))))) (show (vI (nw ((sizeV (d))))) = (vI (IntKind.i64.wrap (0 - ((sizeV (d)))))) from rfl), evF 1 5 (by rw [q28 c31] at s22; exact s22), evUw 1 8 size39 f29 e33] [evLw 0 0 agg39 size39 f34, evR (vI 0)] (vT #[(vA #[(vI ((appM c 3 d).v)), (vI ((appM c 3 d).up)), (vI ((appM c 3 d).dn)), (vI ((appM c 3 d).lo)), (vI ((appM c 3 d).hi))]), (vI 0)]) h32 ⟨fun w => absurd c31 w, fun _ => rfl, x35⟩
  · obtain ⟨h36, e37⟩ : ∃ zq, zq = h21.setIfInBounds b9 (.cells #[(vI 0), (vI 0), (vI 0), (vI 0), (vI 0)] 39 (0, 0)) := ⟨_, rfl⟩
    have f38 := set_same e37 f29
    have x39 := Ext.setNew x30 e37 o15
    exact hCall_ev [evA 0 0 eb2 e4, evA 0 1 eb10 e12, evLw 1 0 agg39 size39 f17, evF 1 3 sn19, evLw 99 0 agg39 size39 f17, evV 1 4 (vI (nw ((sizeV (d))))) (show (vI (nw ((sizeV (d))))) = (vI (IntKind.i64.wrap (0 - ((sizeV (d)))))) from rfl), evF 1 5 (by rw [q27 c31] at s22; exact s22), evUw 1 8 size39 f29 e37] [evLw 0 0 agg39 size39 f38, evR (vI (appE c 3 d))] (vT #[(vA #[(vI 0), (vI 0), (vI 0), (vI 0), (vI 0)]), (vI (appE c 3 d))]) h36 ⟨fun _ => rfl, fun w => absurd w c31, x39⟩
set_option maxHeartbeats 4000000 in
theorem apply_ok (h : Heap) (c : CntM) (ph d : Int) : WCall Tryd.prog 28 #[(Value.agg #[(vI (c.v)), (vI (c.up)), (vI (c.dn)), (vI (c.lo)), (vI (c.hi))]), (vI (ph)), (vI (d))] h (fun v h1 => (¬ appE c ph d = 0 → v = .tuple #[.agg #[.int .i64 0, .int .i64 0, .int .i64 0, .int .i64 0, .int .i64 0], .int .i64 (appE c ph d)]) ∧ (appE c ph d = 0 → v = .tuple #[.agg #[.int .i64 (appM c ph d).v, .int .i64 (appM c ph d).up, .int .i64 (appM c ph d).dn, .int .i64 (appM c ph d).lo, .int .i64 (appM c ph d).hi], .int .i64 0]) ∧ Ext h h1) := by
  obtain ⟨b1, eb2⟩ : ∃ zq, zq = h.size := ⟨_, rfl⟩
  obtain ⟨h3, e4⟩ : ∃ zq, zq = h.push (.cells #[(vI (c.v)), (vI (c.up)), (vI (c.dn)), (vI (c.lo)), (vI (c.hi))] 39 (0, 0)) := ⟨_, rfl⟩
  have f5 := push_new e4
  rw [← eb2] at f5
  have x6 : Ext h h3 := by rw [e4]; exact Ext.push _ _
  have o7 : h.size ≤ b1 := by have := (Ext.refl h).size; omega
  have x8 := (Ext.refl h).trans x6
  obtain ⟨b9, eb10⟩ : ∃ zq, zq = h3.size := ⟨_, rfl⟩
  obtain ⟨h11, e12⟩ : ∃ zq, zq = h3.push (.cells #[(vI 0), (vI 0), (vI 0), (vI 0), (vI 0)] 39 (0, 0)) := ⟨_, rfl⟩
  have f13 := push_new e12
  rw [← eb10] at f13
  have x14 : Ext h3 h11 := by rw [e12]; exact Ext.push _ _
  have o15 : h.size ≤ b9 := by have := x8.size; omega
  have f17 := x14 _ _ f5
  have x18 := x8.trans x14
  obtain ⟨b19, eb20⟩ : ∃ zq, zq = h11.size := ⟨_, rfl⟩
  obtain ⟨h21, e22⟩ : ∃ zq, zq = h11.push (.cells #[Value.nilFunc, Value.nilFunc, Value.nilFunc, Value.nilFunc] 82 (0, 0)) := ⟨_, rfl⟩
  have f23 := push_new e22
  rw [← eb20] at f23
  have n24 : b19 ≠ b1 := by have := row_lt f17; omega
  have n25 : b19 ≠ b9 := by have := row_lt f13; omega
  have x26 : Ext h11 h21 := by rw [e22]; exact Ext.push _ _
  have o27 : h.size ≤ b19 := by have := x18.size; omega
  have f28 := x26 _ _ f17
  have f29 := x26 _ _ f13
  have x30 := x18.trans x26
  obtain ⟨h31, e32⟩ : ∃ zq, zq = h21.setIfInBounds b19 (.cells #[Value.nilFunc, (Value.func (.func 43) #[] #[]), (Value.func (.func 44) #[] #[]), (Value.func (.func 45) #[] #[])] 82 (0, 0)) := ⟨_, rfl⟩
  have f33 := set_same e32 f23
  have f34 := set_other e32 f28 n24
  have f35 := set_other e32 f29 n25
  have x36 := Ext.setNew x30 e32 o27
  by_cases c37 : ((ph) : Int) < 1
  · obtain ⟨h38, e39⟩ : ∃ zq, zq = h31.setIfInBounds b9 (.cells #[(vI 0), (vI 0), (vI 0), (vI 0), (vI 0)] 39 (0, 0)) := ⟨_, rfl⟩
    have f40 := set_same e39 f35
    have x41 := Ext.setNew x36 e39 o15
    have e9 : appE c ph d = 2 := appE_arg (fun w => by omega)
    exact hCall_ev [evA 0 0 eb2 e4, evA 0 1 eb10 e12, evA 1 1 eb20 e22, evUw 1 2 size82 f23 e32, ltT 2 1 3 c37, evUw 3 1 size39 f35 e39] [evLw 0 0 agg39 size39 f40, evR (vI 2)] (vT #[(vA #[(vI 0), (vI 0), (vI 0), (vI 0), (vI 0)]), (vI 2)]) h38 ⟨fun _ => by rw [e9], fun w => absurd (e9.symm.trans w) (by decide), x41⟩
  · by_cases c42 : (4 : Int) ≤ (ph)
    · obtain ⟨h43, e44⟩ : ∃ zq, zq = h31.setIfInBounds b9 (.cells #[(vI 0), (vI 0), (vI 0), (vI 0), (vI 0)] 39 (0, 0)) := ⟨_, rfl⟩
      have f45 := set_same e44 f35
      have x46 := Ext.setNew x36 e44 o15
      have e9 : appE c ph d = 2 := appE_arg (fun w => by omega)
      exact hCall_ev [evA 0 0 eb2 e4, evA 0 1 eb10 e12, evA 1 1 eb20 e22, evUw 1 2 size82 f23 e32, ltF 2 1 3 c37, geT 2 4 3 c42, evUw 3 1 size39 f35 e44] [evLw 0 0 agg39 size39 f45, evR (vI 2)] (vT #[(vA #[(vI 0), (vI 0), (vI 0), (vI 0), (vI 0)]), (vI 2)]) h43 ⟨fun _ => by rw [e9], fun w => absurd (e9.symm.trans w) (by decide), x46⟩
    · by_cases c47 : ((ph) : Int) = 1
      · obtain ⟨v48, h49, s50, q51, q52, x53⟩ := do_ok h31 c (d)
        have f54 := x53 _ _ f35
        have x55 := x36.trans x53
        by_cases c56 : ((appE c 1 d) : Int) = 0
        · obtain ⟨h57, e58⟩ : ∃ zq, zq = h49.setIfInBounds b9 (.cells #[(vI ((appM c 1 d).v)), (vI ((appM c 1 d).up)), (vI ((appM c 1 d).dn)), (vI ((appM c 1 d).lo)), (vI ((appM c 1 d).hi))] 39 (0, 0)) := ⟨_, rfl⟩
          have f59 := set_same e58 f54
          have x60 := Ext.setNew x55 e58 o15
          exact hCall_ev [evA 0 0 eb2 e4, evA 0 1 eb10 e12, evA 1 1 eb20 e22, evUw 1 2 size82 f23 e32, ltF 2 1 3 c37, geF 2 4 3 c42, evV 4 1 (vP b19 1) (show indexAddrA Tryd.prog 82 (vP b19 0) (vI ph) = some (vP b19 1) from by rw [c47]; kernel_rfl), evC 4 2 1 agg81 f33, evLw 4 3 agg39 size39 f34, evF 4 5 (by rw [q52 c56] at s50; exact s50), evUw 4 8 size39 f54 e58] [evLw 0 0 agg39 size39 f59, evR (vI 0)] (vT #[(vA #[(vI ((appM c 1 d).v)), (vI ((appM c 1 d).up)), (vI ((appM c 1 d).dn)), (vI ((appM c 1 d).lo)), (vI ((appM c 1 d).hi))]), (vI 0)]) h57 ⟨fun w => absurd c56 (by rw [c47] at w; exact w), fun _ => by rw [c47], x60⟩
        · obtain ⟨h61, e62⟩ : ∃ zq, zq = h49.setIfInBounds b9 (.cells #[(vI 0), (vI 0), (vI 0), (vI 0), (vI 0)] 39 (0, 0)) := ⟨_, rfl⟩
          have f63 := set_same e62 f54
          have x64 := Ext.setNew x55 e62 o15
          exact hCall_ev [evA 0 0 eb2 e4, evA 0 1 eb10 e12, evA 1 1 eb20 e22, evUw 1 2 size82 f23 e32, ltF 2 1 3 c37, geF 2 4 3 c42, evV 4 1 (vP b19 1) (show indexAddrA Tryd.prog 82 (vP b19 0) (vI ph) = some (vP b19 1) from by rw [c47]; kernel_rfl), evC 4 2 1 agg81 f33, evLw 4 3 agg39 size39 f34, evF 4 5 (by rw [q51 c56] at s50; exact s50), evUw 4 8 size39 f54 e62] [evLw 0 0 agg39 size39 f63, evR (vI (appE c 1 d))] (vT #[(vA #[(vI 0), (vI 0), (vI 0), (vI 0), (vI 0)]), (vI (appE c 1 d))]) h61 ⟨fun _ => by rw [c47], fun w => absurd (by rw [c47] at w; exact w) c56, x64⟩
      · by_cases c65 : ((ph) : Int) = 2
        · obtain ⟨v66, h67, s68, q69, q70, x71⟩ := undo_ok h31 c (d)
          have f72 := x71 _ _ f35
          have x73 := x36.trans x71
          by_cases c74 : ((appE c 2 d) : Int) = 0
          · obtain ⟨h75, e76⟩ : ∃ zq, zq = h67.setIfInBounds b9 (.cells #[(vI ((appM c 2 d).v)), (vI ((appM c 2 d).up)), (vI ((appM c 2 d).dn)), (vI ((appM c 2 d).lo)), (vI ((appM c 2 d).hi))] 39 (0, 0)) := ⟨_, rfl⟩
            have f77 := set_same e76 f72
            have x78 := Ext.setNew x73 e76 o15
            exact hCall_ev [evA 0 0 eb2 e4, evA 0 1 eb10 e12, evA 1 1 eb20 e22, evUw 1 2 size82 f23 e32, ltF 2 1 3 c37, geF 2 4 3 c42, evV 4 1 (vP b19 2) (show indexAddrA Tryd.prog 82 (vP b19 0) (vI ph) = some (vP b19 2) from by rw [c65]; kernel_rfl), evC 4 2 2 agg81 f33, evLw 4 3 agg39 size39 f34, evF 4 5 (by rw [q70 c74] at s68; exact s68), evUw 4 8 size39 f72 e76] [evLw 0 0 agg39 size39 f77, evR (vI 0)] (vT #[(vA #[(vI ((appM c 2 d).v)), (vI ((appM c 2 d).up)), (vI ((appM c 2 d).dn)), (vI ((appM c 2 d).lo)), (vI ((appM c 2 d).hi))]), (vI 0)]) h75 ⟨fun w => absurd c74 (by rw [c65] at w; exact w), fun _ => by rw [c65], x78⟩
          · obtain ⟨h79, e80⟩ : ∃ zq, zq = h67.setIfInBounds b9 (.cells #[(vI 0), (vI 0), (vI 0), (vI 0), (vI 0)] 39 (0, 0)) := ⟨_, rfl⟩
            have f81 := set_same e80 f72
            have x82 := Ext.setNew x73 e80 o15
            exact hCall_ev [evA 0 0 eb2 e4, evA 0 1 eb10 e12, evA 1 1 eb20 e22, evUw 1 2 size82 f23 e32, ltF 2 1 3 c37, geF 2 4 3 c42, evV 4 1 (vP b19 2) (show indexAddrA Tryd.prog 82 (vP b19 0) (vI ph) = some (vP b19 2) from by rw [c65]; kernel_rfl), evC 4 2 2 agg81 f33, evLw 4 3 agg39 size39 f34, evF 4 5 (by rw [q69 c74] at s68; exact s68), evUw 4 8 size39 f72 e80] [evLw 0 0 agg39 size39 f81, evR (vI (appE c 2 d))] (vT #[(vA #[(vI 0), (vI 0), (vI 0), (vI 0), (vI 0)]), (vI (appE c 2 d))]) h79 ⟨fun _ => by rw [c65], fun w => absurd (by rw [c65] at w; exact w) c74, x82⟩
        · have w83 : (ph) = 3 := by omega
          obtain ⟨v84, h85, s86, q87, q88, x89⟩ := free_ok h31 c (d)
          have f90 := x89 _ _ f35
          have x91 := x36.trans x89
          by_cases c92 : ((appE c 3 d) : Int) = 0
          · obtain ⟨h93, e94⟩ : ∃ zq, zq = h85.setIfInBounds b9 (.cells #[(vI ((appM c 3 d).v)), (vI ((appM c 3 d).up)), (vI ((appM c 3 d).dn)), (vI ((appM c 3 d).lo)), (vI ((appM c 3 d).hi))] 39 (0, 0)) := ⟨_, rfl⟩
            have f95 := set_same e94 f90
            have x96 := Ext.setNew x91 e94 o15
            exact hCall_ev [evA 0 0 eb2 e4, evA 0 1 eb10 e12, evA 1 1 eb20 e22, evUw 1 2 size82 f23 e32, ltF 2 1 3 c37, geF 2 4 3 c42, evV 4 1 (vP b19 3) (show indexAddrA Tryd.prog 82 (vP b19 0) (vI ph) = some (vP b19 3) from by rw [w83]; kernel_rfl), evC 4 2 3 agg81 f33, evLw 4 3 agg39 size39 f34, evF 4 5 (by rw [q88 c92] at s86; exact s86), evUw 4 8 size39 f90 e94] [evLw 0 0 agg39 size39 f95, evR (vI 0)] (vT #[(vA #[(vI ((appM c 3 d).v)), (vI ((appM c 3 d).up)), (vI ((appM c 3 d).dn)), (vI ((appM c 3 d).lo)), (vI ((appM c 3 d).hi))]), (vI 0)]) h93 ⟨fun w => absurd c92 (by rw [w83] at w; exact w), fun _ => by rw [w83], x96⟩
          · obtain ⟨h97, e98⟩ : ∃ zq, zq = h85.setIfInBounds b9 (.cells #[(vI 0), (vI 0), (vI 0), (vI 0), (vI 0)] 39 (0, 0)) := ⟨_, rfl⟩
            have f99 := set_same e98 f90
            have x100 := Ext.setNew x91 e98 o15
            exact hCall_ev [evA 0 0 eb2 e4, evA 0 1 eb10 e12, evA 1 1 eb20 e22, evUw 1 2 size82 f23 e32, ltF 2 1 3 c37, geF 2 4 3 c42, evV 4 1 (vP b19 3) (show indexAddrA Tryd.prog 82 (vP b19 0) (vI ph) = some (vP b19 3) from by rw [w83]; kernel_rfl), evC 4 2 3 agg81 f33, evLw 4 3 agg39 size39 f34, evF 4 5 (by rw [q87 c92] at s86; exact s86), evUw 4 8 size39 f90 e98] [evLw 0 0 agg39 size39 f99, evR (vI (appE c 3 d))] (vT #[(vA #[(vI 0), (vI 0), (vI 0), (vI 0), (vI 0)]), (vI (appE c 3 d))]) h97 ⟨fun _ => by rw [w83], fun w => absurd (by rw [w83] at w; exact w) c92, x100⟩
def icell (n : Int) : Array Value := #[.int .i64 n]
theorem icell_size (n : Int) : (icell n).size = 1 := rfl
def uw (a : Int) : Int := IntKind.u64.wrap a
def sw (a : Int) : Int := IntKind.i64.wrap a
theorem uw_eq (a : Int) : uw a = a % 18446744073709551616 := by unfold uw; rw [IntKind.wrap_u64]
theorem sw_eq (a : Int) : sw a = (a + 9223372036854775808) % 18446744073709551616 - 9223372036854775808 := by unfold sw; rw [IntKind.wrap_i64]
/-- The words of a number of 128 bits. -/
def loW (s : Int) : Int := s % 18446744073709551616
def hiW (s : Int) : Int := s / 18446744073709551616 % 18446744073709551616
theorem loW_rng (s : Int) : 0 ≤ loW s ∧ loW s < 18446744073709551616 := ⟨Int.emod_nonneg _ (by decide), Int.emod_lt_of_pos _ (by decide)⟩
theorem hiW_rng (s : Int) : 0 ≤ hiW s ∧ hiW s < 18446744073709551616 := ⟨Int.emod_nonneg _ (by decide), Int.emod_lt_of_pos _ (by decide)⟩
theorem uw_rng (s : Int) : 0 ≤ uw s ∧ uw s < 18446744073709551616 := by rw [uw_eq]; exact ⟨Int.emod_nonneg _ (by decide), Int.emod_lt_of_pos _ (by decide)⟩
theorem lo_step (s a : Int) : (loW s + uw a + 0) % 18446744073709551616 = loW (s + a) := by rw [uw_eq]; unfold loW; omega
theorem hi_step {s a : Int} (ha : -9223372036854775808 ≤ a ∧ a ≤ 9223372036854775807) : (hiW s + uw (a / 9223372036854775808) + (loW s + uw a + 0) / 18446744073709551616) % 18446744073709551616 = hiW (s + a) := by
  rw [uw_eq, uw_eq]
  unfold loW hiW
  by_cases h : a < 0
  · have h1 : a / 9223372036854775808 = -1 := by omega
    have h2 : a % 18446744073709551616 = a + 18446744073709551616 := by omega
    rw [h1, h2]; omega
  · have h1 : a / 9223372036854775808 = 0 := by omega
    have h2 : a % 18446744073709551616 = a := by omega
    rw [h1, h2]; omega
theorem add64_raw {x y c : Int} (h : 0 ≤ x ∧ 0 ≤ y ∧ 0 ≤ c ∧ c ≤ 1) : add64A [.int .u64 x, .int .u64 y, .int .u64 c] = some (.tuple #[.int .u64 ((x + y + c) % 18446744073709551616), .int .u64 ((x + y + c) / 18446744073709551616)]) := if_pos h
theorem shr_i64 {t : TypeId} {a d : Int} {k : Nat} (hd : d = 2 ^ k) (hk : k ≤ 63) : binA Tryd.prog .shr t (.int .i64 a) (.int .u64 (k : Int)) = some (.int .i64 (a / d)) := by
  simp only [binA, shiftA]
  rw [if_pos (.inr trivial), if_neg (by omega), show min ((k : Int)).toNat IntKind.i64.bits = k by simp [IntKind.bits]; omega, hd, Int.fdiv_eq_ediv_of_nonneg _ (Int.le_of_lt (Int.pow_pos (by decide)))]
def sumI (xs : List Int) : Int := xs.foldr (· + ·) 0
theorem sumI_nil : sumI [] = 0 := rfl
theorem sumI_app (xs : List Int) (a : Int) : sumI (xs ++ [a]) = sumI xs + a := by
  induction xs with
  | nil => simp [sumI]
  | cons x xs ih => simp only [sumI, List.cons_append, List.foldr_cons] at *; rw [ih]; omega
theorem sumI_rng : ∀ (xs : List Int), (∀ x ∈ xs, (-1152921504606846976 ≤ x ∧ x ≤ 1152921504606846976)) → -(1152921504606846976 * (xs.length : Int)) ≤ sumI xs ∧ sumI xs ≤ 1152921504606846976 * (xs.length : Int)
  | [], _ => by simp [sumI]
  | x :: xs, h => by
    have h1 := h x (List.mem_cons_self ..)
    have h2 := sumI_rng xs fun y hy => h y (List.mem_cons_of_mem _ hy)
    simp only [sumI, List.foldr_cons, List.length_cons] at *
    omega
theorem take_next {α : Type} {l : List α} {k : Nat} {y : α} (h : l[k]? = some y) : l.take (k + 1) = l.take k ++ [y] := by rw [List.take_add_one, h]; rfl
/-- The sum of numbers, if it is allowed. -/
def sumE (xs : List Int) : Int := if (-1152921504606846976 ≤ sumI xs ∧ sumI xs ≤ 1152921504606846976) then 0 else 7
def sumV (xs : List Int) : Int := if (-1152921504606846976 ≤ sumI xs ∧ sumI xs ≤ 1152921504606846976) then sumI xs else 0
theorem sum_yes {s : Int} (hs : -11529215046068469760000 ≤ s ∧ s ≤ 11529215046068469760000) (h1 : hiW s = uw (sw (loW s) / 9223372036854775808)) : s = sw (loW s) := by
  have q := loW_rng s
  have hd : s = 18446744073709551616 * (s / 18446744073709551616) + loW s := (Int.mul_ediv_add_emod s 18446744073709551616).symm
  have hw : sw (loW s) = if loW s < 9223372036854775808 then loW s else loW s - 18446744073709551616 := by rw [sw_eq]; split <;> omega
  rw [hw]
  rw [hw, uw_eq] at h1
  unfold hiW at h1
  by_cases hl : loW s < 9223372036854775808
  · rw [if_pos hl] at h1 ⊢; omega
  · rw [if_neg hl] at h1 ⊢; omega
theorem sum_num {s : Int} (h : (-1152921504606846976 ≤ s ∧ s ≤ 1152921504606846976)) : hiW s = uw (sw (loW s) / 9223372036854775808) ∧ sw (loW s) = s := by
  have e : sw (loW s) = s := by rw [sw_eq]; unfold loW; omega
  rw [e, uw_eq]
  unfold hiW
  exact ⟨by omega, rfl⟩
set_option maxHeartbeats 4000000 in
theorem wadd_ok (h : Heap) (s a : Int) (ha : -9223372036854775808 ≤ a ∧ a ≤ 9223372036854775807) : WCall Tryd.prog 59 #[(Value.agg #[(Value.int .u64 (loW s)), (Value.int .u64 (hiW s))]), (vI (a))] h (fun v h1 => v = .agg #[.int .u64 (loW (s + a)), .int .u64 (hiW (s + a))] ∧ Ext h h1) := by
  have w1 := loW_rng s
  have w2 := hiW_rng s
  have w3 := uw_rng a
  have w4 := uw_rng (a / 9223372036854775808)
  obtain ⟨b1, eb2⟩ : ∃ zq, zq = h.size := ⟨_, rfl⟩
  obtain ⟨h3, e4⟩ : ∃ zq, zq = h.push (.cells #[(Value.int .u64 (loW s)), (Value.int .u64 (hiW s))] 100 (0, 0)) := ⟨_, rfl⟩
  have f5 := push_new e4
  rw [← eb2] at f5
  have x6 : Ext h h3 := by rw [e4]; exact Ext.push _ _
  have o7 : h.size ≤ b1 := by have := (Ext.refl h).size; omega
  have x8 := (Ext.refl h).trans x6
  obtain ⟨b9, eb10⟩ : ∃ zq, zq = h3.size := ⟨_, rfl⟩
  obtain ⟨h11, e12⟩ : ∃ zq, zq = h3.push (.cells #[(Value.int .u64 0), (Value.int .u64 0)] 100 (0, 0)) := ⟨_, rfl⟩
  have f13 := push_new e12
  rw [← eb10] at f13
  have x14 : Ext h3 h11 := by rw [e12]; exact Ext.push _ _
  have o15 : h.size ≤ b9 := by have := x8.size; omega
  have f17 := x14 _ _ f5
  have x18 := x8.trans x14
  obtain ⟨h19, e20⟩ : ∃ zq, zq = h11.setIfInBounds b9 (.cells #[(Value.int .u64 (((loW s) + (uw (a)) + 0) % 18446744073709551616)), (Value.int .u64 (((hiW s) + (uw ((a) / 9223372036854775808)) + (((loW s) + (uw (a)) + 0) / 18446744073709551616)) % 18446744073709551616))] 100 (0, 0)) := ⟨_, rfl⟩
  have f21 := set_same e20 f13
  have x22 := Ext.setNew x18 e20 o15
  exact hCall_ev [evA 0 0 eb2 e4, evA 0 1 eb10 e12, evC 1 1 0 agg98 f17, evV 1 3 (Value.int .u64 (uw (a))) (show (Value.int .u64 (uw (a))) = (Value.int .u64 (IntKind.u64.wrap (a))) from rfl), evV 1 4 (vT #[(Value.int .u64 (((loW s) + (uw (a)) + 0) % 18446744073709551616)), (Value.int .u64 (((loW s) + (uw (a)) + 0) / 18446744073709551616))]) (show add64A [(Value.int .u64 (loW s)), (Value.int .u64 (uw (a))), (Value.int .u64 0)] = some (vT #[(Value.int .u64 (((loW s) + (uw (a)) + 0) % 18446744073709551616)), (Value.int .u64 (((loW s) + (uw (a)) + 0) / 18446744073709551616))]) from add64_raw (by omega)), evC 2 1 1 agg98 f17, evV 2 3 (vI ((a) / 9223372036854775808)) (show binA Tryd.prog .shr 2 (vI a) (Value.int .u64 63) = some (vI ((a) / 9223372036854775808)) from shr_i64 (k := 63) (d := 9223372036854775808) (by decide) (by decide)), evV 2 4 (Value.int .u64 (uw ((a) / 9223372036854775808))) (show (Value.int .u64 (uw ((a) / 9223372036854775808))) = (Value.int .u64 (IntKind.u64.wrap ((a) / 9223372036854775808))) from rfl), evV 2 6 (vT #[(Value.int .u64 (((hiW s) + (uw ((a) / 9223372036854775808)) + (((loW s) + (uw (a)) + 0) / 18446744073709551616)) % 18446744073709551616)), (Value.int .u64 (((hiW s) + (uw ((a) / 9223372036854775808)) + (((loW s) + (uw (a)) + 0) / 18446744073709551616)) / 18446744073709551616))]) (show add64A [(Value.int .u64 (hiW s)), (Value.int .u64 (uw ((a) / 9223372036854775808))), (Value.int .u64 (((loW s) + (uw (a)) + 0) / 18446744073709551616))] = some (vT #[(Value.int .u64 (((hiW s) + (uw ((a) / 9223372036854775808)) + (((loW s) + (uw (a)) + 0) / 18446744073709551616)) % 18446744073709551616)), (Value.int .u64 (((hiW s) + (uw ((a) / 9223372036854775808)) + (((loW s) + (uw (a)) + 0) / 18446744073709551616)) / 18446744073709551616))]) from add64_raw (by omega)), evUw 3 3 size100 f13 e20] [evLw 0 0 agg100 size100 f21] (vA #[(Value.int .u64 (((loW s) + (uw (a)) + 0) % 18446744073709551616)), (Value.int .u64 (((hiW s) + (uw ((a) / 9223372036854775808)) + (((loW s) + (uw (a)) + 0) / 18446744073709551616)) % 18446744073709551616))]) h19 ⟨by rw [← lo_step, ← hi_step ha], x22⟩
set_option maxHeartbeats 4000000 in
theorem sum_ok (h : Heap) (xs : List Int) (sa : Option Addr) (cp : Nat) (hl : SliceAt h icell 1 xs (.slice sa xs.length cp)) (hlen : xs.length ≤ 10000) (hn : ∀ x ∈ xs, (-1152921504606846976 ≤ x ∧ x ≤ 1152921504606846976)) : WCall Tryd.prog 39 #[(Value.slice sa (xs.length) (cp))] h (fun v h1 => v = .tuple #[.int .i64 (sumV xs), .int .i64 (sumE xs)] ∧ Ext h h1) := by
  suffices H : ∀ K : Value → Heap → Prop, (∀ v h1, (fun v h1 => v = .tuple #[.int .i64 (sumV xs), .int .i64 (sumE xs)] ∧ Ext h h1) v h1 → K v h1) → WCall Tryd.prog 39 #[(Value.slice sa (xs.length) (cp))] h K from H _ fun _ _ q => q
  intro K hK
  refine wcall_at { tmps := #[(vL sa xs.length cp), vZ, vZ, vZ, vZ, vZ, vZ, vZ, vZ, vZ, vZ, vZ, vZ, vZ, vZ, vZ, vZ, vZ, vZ, vZ, vZ, vZ, vZ, vZ, vZ, vZ, vZ, vZ, vZ, vZ, vZ, vZ, vZ, vZ, vZ, vZ, vZ, vZ, vZ, vZ, vZ, vZ], defers := [] } (by kernel_rfl) ?_
  refine wc_seq' (subc (bodyOf Tryd.prog 39) [0]) (subc (bodyOf Tryd.prog 39) [1]) (by kernel_rfl) ?_
  refine wc_ev [] .normal h [(2, (vI 0)), (3, (vI 0))] ?_
  refine wc_seq' (subc (bodyOf Tryd.prog 39) [1, 0]) (subc (bodyOf Tryd.prog 39) [1, 1]) (by kernel_rfl) ?_
  by_cases c1 : (10000 : Int) < ((xs.length : Nat))
  · refine wc_ev [gtT 1 2 3 c1] .ret h [(9, (vL sa xs.length cp)), (10, (vI ((xs.length : Nat)))), (11, (vB true)), (2, (vI 0)), (3, (vI 12))] ?_
    exfalso
    omega
  · refine wc_ev [gtF 1 2 3 c1] .normal h [(9, (vL sa xs.length cp)), (10, (vI ((xs.length : Nat)))), (11, (vB false))] ?_
    refine wc_seq' (subc (bodyOf Tryd.prog 39) [1, 1, 0]) (subc (bodyOf Tryd.prog 39) [1, 1, 1]) (by kernel_rfl) ?_
    obtain ⟨b2, eb3⟩ : ∃ zq, zq = h.size := ⟨_, rfl⟩
    obtain ⟨h4, e5⟩ : ∃ zq, zq = h.push (.cells #[(Value.int .u64 0), (Value.int .u64 0)] 100 (0, 0)) := ⟨_, rfl⟩
    have f6 := push_new e5
    rw [← eb3] at f6
    have x7 : Ext h h4 := by rw [e5]; exact Ext.push _ _
    have o8 : h.size ≤ b2 := by have := (Ext.refl h).size; omega
    have x9 := (Ext.refl h).trans x7
    refine wc_ev [evA 3 0 eb3 e5] .normal h4 [(4, (vP b2 0))] ?_
    refine wc_seq' (subc (bodyOf Tryd.prog 39) [1, 1, 1, 0]) (subc (bodyOf Tryd.prog 39) [1, 1, 1, 1]) (by kernel_rfl) ?_
    refine wc_seq' (subc (bodyOf Tryd.prog 39) [1, 1, 1, 0, 0]) (subc (bodyOf Tryd.prog 39) [1, 1, 1, 0, 1]) (by kernel_rfl) ?_
    refine wc_ev [] .normal h4 [(12, (vL sa xs.length cp)), (13, (vI ((xs.length : Nat)))), (14, (vI 0))] ?_
    refine wc_block' 0 (subc (bodyOf Tryd.prog 39) [1, 1, 1, 0, 1, 0]) (by kernel_rfl) ?_
    refine wc_loop' (subc (bodyOf Tryd.prog 39) [1, 1, 1, 0, 1, 0, 0]) (by kernel_rfl) (fun n' a' h' => ∃ (k : Int) (g0 : Nat → Value), a' = { tmps := #[(vL sa xs.length cp), vZ, (g0 2), (g0 3), (vP b2 0), vZ, (g0 6), (g0 7), vZ, (vL sa xs.length cp), (vI ((xs.length : Nat))), (vB false), (vL sa xs.length cp), (vI ((xs.length : Nat))), (vI k), (g0 15), (g0 16), (g0 17), (g0 18), (g0 19), (g0 20), (g0 21), (g0 22), (g0 23), (g0 24), (g0 25), (g0 26), vZ, vZ, vZ, vZ, vZ, vZ, vZ, vZ, vZ, vZ, vZ, vZ, vZ, vZ, vZ], defers := [] } ∧ Ext h h' ∧ n' = xs.length - k.toNat ∧ h'[b2]? = some (.cells #[(Value.int .u64 (loW (sumI (xs.take k.toNat)))), (Value.int .u64 (hiW (sumI (xs.take k.toNat))))] 100 (0, 0)) ∧ (0 ≤ k ∧ k ≤ xs.length)) ?_ (xs.length - (0 : Int).toNat) ⟨0, (fun i => ([vU, vU, (vI 0), (vI 0), vU, vU, vZ, vZ, vU, vU, vU, vU, vU, vU, vU, vZ, vZ, vZ, vZ, vZ, vZ, vZ, vZ, vZ, vZ, vZ, vZ] : List Value).getD i undef), by as_aux_lemma => kernel_rfl, x9, rfl, f6, by omega⟩
    rintro n' _ h10 ⟨k, g0, rfl, x11, m12, f13, i14⟩
    by_cases c15 : ((k) : Int) < ((xs.length : Nat))
    · obtain ⟨i17, v18, e19, l20, g21⟩ := list_at xs (e := (k)) (by omega) (by first | omega | (simp only [List.length_set, List.length_append, List.length_singleton]; omega))
      obtain ⟨b22, o23, k24, q25, a26⟩ := hl.at icell_size g21
      have := hn _ (List.mem_of_getElem? g21)
      obtain ⟨_, _, s27, rfl, rfl⟩ := chkN_ok h10 (v18)
      by_cases c28 : -1152921504606846976 ≤ ((v18) : Int) ∧ ((v18) : Int) ≤ 1152921504606846976
      · obtain ⟨_, hh29, sn30, rfl, x31⟩ := wadd_ok h10 (sumI (xs.take k.toNat)) (v18) (by omega)
        have f33 := x31 _ _ f13
        have x34 := x11.trans x31
        obtain ⟨h35, e36⟩ : ∃ zq, zq = hh29.setIfInBounds b2 (.cells #[(Value.int .u64 (loW ((sumI (xs.take k.toNat)) + (v18)))), (Value.int .u64 (hiW ((sumI (xs.take k.toNat)) + (v18))))] 100 (0, 0)) := ⟨_, rfl⟩
        have f37 := set_same e36 f33
        have x38 := Ext.setNew x34 e36 o8
        refine wc_ev [ltT 5 0 3 c15, evV 6 0 (vP b22 o23) (show indexAddrA Tryd.prog 76 (vL sa xs.length cp) (vI k) = some (vP b22 o23) from a26 und76 size2 e19), evV 6 1 (vI v18) (show loadT Tryd.prog h10 2 (vP b22 o23) = some (vI v18) from (k24.keep fun b r _ q => x11 b r q).cell (j := 0) agg2 rfl), evF 7 1 (by rw [chkN_in c28] at s27; exact s27), evLw 10 0 agg100 size100 f13, evF 10 2 sn30, evUw 10 3 size100 f33 e36, evV 11 0 (vI ((k) + 1)) (show binA Tryd.prog .add 3 (vI k) (vI 1) = some (vI ((k) + 1)) from add_i64 (by omega) (by omega))] .normal h35 [(15, (vB true)), (16, (vP b22 o23)), (17, (vI v18)), (6, (vI v18)), (18, (vI v18)), (19, (vI 0)), (7, (vI 0)), (20, (vI 0)), (21, (vB false)), (23, (vA #[(Value.int .u64 (loW (sumI (xs.take k.toNat)))), (Value.int .u64 (hiW (sumI (xs.take k.toNat))))])), (24, (vI v18)), (25, (vA #[(Value.int .u64 (loW ((sumI (xs.take k.toNat)) + (v18)))), (Value.int .u64 (hiW ((sumI (xs.take k.toNat)) + (v18))))])), (26, (vI ((k) + 1))), (14, (vI ((k) + 1)))] ?_
        exact ⟨xs.length - (k + 1).toNat, by omega, ⟨k + 1, (fun i => ([vU, vU, (g0 2), (g0 3), vU, vU, (vI v18), (vI 0), vU, vU, vU, vU, vU, vU, vU, (vB true), (vP b22 o23), (vI v18), (vI v18), (vI 0), (vI 0), (vB false), (g0 22), (vA #[(Value.int .u64 (loW (sumI (xs.take k.toNat)))), (Value.int .u64 (hiW (sumI (xs.take k.toNat))))]), (vI v18), (vA #[(Value.int .u64 (loW ((sumI (xs.take k.toNat)) + (v18)))), (Value.int .u64 (hiW ((sumI (xs.take k.toNat)) + (v18))))]), (vI ((k) + 1))] : List Value).getD i undef), by as_aux_lemma => kernel_rfl, x38, rfl, (by rw [show (k + 1).toNat = i17 + 1 by omega, take_next g21, sumI_app, show i17 = k.toNat by omega]; exact f37), by omega⟩⟩
      · refine wc_ev [ltT 5 0 3 c15, evV 6 0 (vP b22 o23) (show indexAddrA Tryd.prog 76 (vL sa xs.length cp) (vI k) = some (vP b22 o23) from a26 und76 size2 e19), evV 6 1 (vI v18) (show loadT Tryd.prog h10 2 (vP b22 o23) = some (vI v18) from (k24.keep fun b r _ q => x11 b r q).cell (j := 0) agg2 rfl), evF 7 1 (by rw [chkN_out c28] at s27; exact s27)] .ret h10 [(15, (vB true)), (16, (vP b22 o23)), (17, (vI v18)), (6, (vI v18)), (18, (vI v18)), (19, (vI 7)), (7, (vI 7)), (20, (vI 7)), (21, (vB true)), (22, (vI 7)), (2, (vI 0)), (3, (vI 7))] ?_
        exfalso
        omega
    · refine wc_ev [ltF 5 0 3 c15] (.exit 0) h10 [(15, (vB false))] ?_
      by_cases c39 : ((hiW (sumI (xs.take k.toNat))) : Int) = (uw ((sw (loW (sumI (xs.take k.toNat)))) / 9223372036854775808))
      · obtain ⟨_, _, s40, rfl, rfl⟩ := chkN_ok h10 (sw (loW (sumI (xs.take k.toNat))))
        by_cases c41 : -1152921504606846976 ≤ ((sw (loW (sumI (xs.take k.toNat)))) : Int) ∧ ((sw (loW (sumI (xs.take k.toNat)))) : Int) ≤ 1152921504606846976
        · refine wc_ev [evC 12 1 0 agg98 f13, evV 12 2 (vI (sw (loW (sumI (xs.take k.toNat))))) (show (vI (sw (loW (sumI (xs.take k.toNat))))) = (vI (IntKind.i64.wrap (loW (sumI (xs.take k.toNat))))) from rfl), evC 13 1 1 agg98 f13, evV 13 3 (vI ((sw (loW (sumI (xs.take k.toNat)))) / 9223372036854775808)) (show binA Tryd.prog .shr 2 (vI (sw (loW (sumI (xs.take k.toNat))))) (Value.int .u64 63) = some (vI ((sw (loW (sumI (xs.take k.toNat)))) / 9223372036854775808)) from shr_i64 (k := 63) (d := 9223372036854775808) (by decide) (by decide)), evV 13 4 (Value.int .u64 (uw ((sw (loW (sumI (xs.take k.toNat)))) / 9223372036854775808))) (show (Value.int .u64 (uw ((sw (loW (sumI (xs.take k.toNat)))) / 9223372036854775808))) = (Value.int .u64 (IntKind.u64.wrap ((sw (loW (sumI (xs.take k.toNat)))) / 9223372036854775808))) from rfl), evV 13 5 (vB false) (show binA Tryd.prog .neq 98 (Value.int .u64 (hiW (sumI (xs.take k.toNat)))) (Value.int .u64 (uw ((sw (loW (sumI (xs.take k.toNat)))) / 9223372036854775808))) = some (vB false) from cmp_neq (decide_eq_false (not_not_intro c39))), evF 13 8 (by rw [chkN_in c41] at s40; exact s40)] .ret h10 [(27, (vP b2 0)), (28, (Value.int .u64 (loW (sumI (xs.take k.toNat))))), (29, (vI (sw (loW (sumI (xs.take k.toNat)))))), (8, (vI (sw (loW (sumI (xs.take k.toNat)))))), (30, (vP b2 1)), (31, (Value.int .u64 (hiW (sumI (xs.take k.toNat))))), (32, (vI (sw (loW (sumI (xs.take k.toNat)))))), (33, (vI ((sw (loW (sumI (xs.take k.toNat)))) / 9223372036854775808))), (34, (Value.int .u64 (uw ((sw (loW (sumI (xs.take k.toNat)))) / 9223372036854775808)))), (35, (vB false)), (36, (vB false)), (37, (vI (sw (loW (sumI (xs.take k.toNat)))))), (38, (vI 0)), (39, (vB false)), (40, (vB false)), (41, (vI (sw (loW (sumI (xs.take k.toNat)))))), (2, (vI (sw (loW (sumI (xs.take k.toNat)))))), (3, (vI 0))] ?_
          have ek : xs.take k.toNat = xs := List.take_of_length_le (by omega)
          have sr := sumI_rng xs hn
          rw [ek] at c39
          rw [ek] at c41
          have e9 := sum_yes (by omega) c39
          have n9 : (-1152921504606846976 ≤ sumI xs ∧ sumI xs ≤ 1152921504606846976) := by rw [e9]; exact c41
          exact end_ev [] (vT #[(vI (sw (loW (sumI (xs.take k.toNat))))), (vI 0)]) (hK _ _ (⟨by unfold sumV sumE; rw [if_pos n9, if_pos n9, ek, ← e9], x11⟩))
        · refine wc_ev [evC 12 1 0 agg98 f13, evV 12 2 (vI (sw (loW (sumI (xs.take k.toNat))))) (show (vI (sw (loW (sumI (xs.take k.toNat))))) = (vI (IntKind.i64.wrap (loW (sumI (xs.take k.toNat))))) from rfl), evC 13 1 1 agg98 f13, evV 13 3 (vI ((sw (loW (sumI (xs.take k.toNat)))) / 9223372036854775808)) (show binA Tryd.prog .shr 2 (vI (sw (loW (sumI (xs.take k.toNat))))) (Value.int .u64 63) = some (vI ((sw (loW (sumI (xs.take k.toNat)))) / 9223372036854775808)) from shr_i64 (k := 63) (d := 9223372036854775808) (by decide) (by decide)), evV 13 4 (Value.int .u64 (uw ((sw (loW (sumI (xs.take k.toNat)))) / 9223372036854775808))) (show (Value.int .u64 (uw ((sw (loW (sumI (xs.take k.toNat)))) / 9223372036854775808))) = (Value.int .u64 (IntKind.u64.wrap ((sw (loW (sumI (xs.take k.toNat)))) / 9223372036854775808))) from rfl), evV 13 5 (vB false) (show binA Tryd.prog .neq 98 (Value.int .u64 (hiW (sumI (xs.take k.toNat)))) (Value.int .u64 (uw ((sw (loW (sumI (xs.take k.toNat)))) / 9223372036854775808))) = some (vB false) from cmp_neq (decide_eq_false (not_not_intro c39))), evF 13 8 (by rw [chkN_out c41] at s40; exact s40)] .ret h10 [(27, (vP b2 0)), (28, (Value.int .u64 (loW (sumI (xs.take k.toNat))))), (29, (vI (sw (loW (sumI (xs.take k.toNat)))))), (8, (vI (sw (loW (sumI (xs.take k.toNat)))))), (30, (vP b2 1)), (31, (Value.int .u64 (hiW (sumI (xs.take k.toNat))))), (32, (vI (sw (loW (sumI (xs.take k.toNat)))))), (33, (vI ((sw (loW (sumI (xs.take k.toNat)))) / 9223372036854775808))), (34, (Value.int .u64 (uw ((sw (loW (sumI (xs.take k.toNat)))) / 9223372036854775808)))), (35, (vB false)), (36, (vB false)), (37, (vI (sw (loW (sumI (xs.take k.toNat)))))), (38, (vI 7)), (39, (vB true)), (40, (vB true)), (2, (vI 0)), (3, (vI 7))] ?_
          have ek : xs.take k.toNat = xs := List.take_of_length_le (by omega)
          have sr := sumI_rng xs hn
          rw [ek] at c39
          rw [ek] at c41
          have n9 : ¬ (-1152921504606846976 ≤ sumI xs ∧ sumI xs ≤ 1152921504606846976) := fun w => c41 (by rw [(sum_num w).2]; exact w)
          exact end_ev [] (vT #[(vI 0), (vI 7)]) (hK _ _ (⟨by unfold sumV sumE; rw [if_neg n9, if_neg n9], x11⟩))
      · refine wc_ev [evC 12 1 0 agg98 f13, evV 12 2 (vI (sw (loW (sumI (xs.take k.toNat))))) (show (vI (sw (loW (sumI (xs.take k.toNat))))) = (vI (IntKind.i64.wrap (loW (sumI (xs.take k.toNat))))) from rfl), evC 13 1 1 agg98 f13, evV 13 3 (vI ((sw (loW (sumI (xs.take k.toNat)))) / 9223372036854775808)) (show binA Tryd.prog .shr 2 (vI (sw (loW (sumI (xs.take k.toNat))))) (Value.int .u64 63) = some (vI ((sw (loW (sumI (xs.take k.toNat)))) / 9223372036854775808)) from shr_i64 (k := 63) (d := 9223372036854775808) (by decide) (by decide)), evV 13 4 (Value.int .u64 (uw ((sw (loW (sumI (xs.take k.toNat)))) / 9223372036854775808))) (show (Value.int .u64 (uw ((sw (loW (sumI (xs.take k.toNat)))) / 9223372036854775808))) = (Value.int .u64 (IntKind.u64.wrap ((sw (loW (sumI (xs.take k.toNat)))) / 9223372036854775808))) from rfl), evV 13 5 (vB true) (show binA Tryd.prog .neq 98 (Value.int .u64 (hiW (sumI (xs.take k.toNat)))) (Value.int .u64 (uw ((sw (loW (sumI (xs.take k.toNat)))) / 9223372036854775808))) = some (vB true) from cmp_neq (decide_eq_true c39))] .ret h10 [(27, (vP b2 0)), (28, (Value.int .u64 (loW (sumI (xs.take k.toNat))))), (29, (vI (sw (loW (sumI (xs.take k.toNat)))))), (8, (vI (sw (loW (sumI (xs.take k.toNat)))))), (30, (vP b2 1)), (31, (Value.int .u64 (hiW (sumI (xs.take k.toNat))))), (32, (vI (sw (loW (sumI (xs.take k.toNat)))))), (33, (vI ((sw (loW (sumI (xs.take k.toNat)))) / 9223372036854775808))), (34, (Value.int .u64 (uw ((sw (loW (sumI (xs.take k.toNat)))) / 9223372036854775808)))), (35, (vB true)), (36, (vB true)), (37, vZ), (38, vZ), (39, vZ), (40, (vB true)), (2, (vI 0)), (3, (vI 7))] ?_
        have ek : xs.take k.toNat = xs := List.take_of_length_le (by omega)
        have sr := sumI_rng xs hn
        rw [ek] at c39
        have n9 : ¬ (-1152921504606846976 ≤ sumI xs ∧ sumI xs ≤ 1152921504606846976) := fun w => c39 (sum_num w).1
        exact end_ev [] (vT #[(vI 0), (vI 7)]) (hK _ _ (⟨by unfold sumV sumE; rw [if_neg n9, if_neg n9], x11⟩))
end C08
