/- The document's stores: putting, changing, taking away. -/
import Derived.Test.YtciigibbgklcjaaGreatDoorMg
import Derived.Test.YtciigibbgklcjaaGreatDoorBmn
import Derived.KernelRfl
open Go Go.AM Go.Proofs
namespace C08
theorem agg51 : isAggA Tryz.prog 51 = some false := by kernel_rfl
theorem size51 : (Tryz.prog.info? 51).map (·.size) = some 1 := by kernel_rfl
theorem sizeb30 : (Tryz.prog.info? 30).map (fun i => (i.size, i.bytes)) = some (5, 40) := by kernel_rfl
theorem und51 : Tryz.prog.underlying 51 = some (.slice 30) := by kernel_rfl
theorem and_i64 {t : TypeId} {a d : Int} {n : Nat} {k : Nat} (hn : n = 2 ^ k) (hd : d = (n : Int)) (hk : n ≤ 4611686018427387904) : binA Tryz.prog .and t (.int .i64 a) (.int .i64 (d - 1)) = some (.int .i64 (a % d)) := by
  have hpos : 0 < n := by rw [hn]; exact Nat.pow_pos (by decide)
  have e1 : (BitVec.ofInt 64 (d - 1)).toNat = n - 1 := by
    rw [BitVec.toNat_ofInt, hd]; omega
  have e2 : (BitVec.ofInt 64 a).toNat = (a % 18446744073709551616).toNat := by rw [BitVec.toNat_ofInt]; rfl
  have hdv : n ∣ 18446744073709551616 := by
    rw [hn, show (18446744073709551616 : Nat) = 2 ^ 64 by decide]
    refine Nat.pow_dvd_pow 2 ?_
    rcases Nat.lt_or_ge 64 k with g | g
    · have := Nat.pow_le_pow_right (show 0 < 2 by decide) (show 64 ≤ k by omega)
      rw [← hn] at this; omega
    · exact g
  simp only [binA, intBinA]
  rw [if_neg (by decide), if_pos trivial]
  rw [show IntKind.i64.bits = 64 from rfl, BitVec.toNat_and, e1, e2, hn, Nat.and_two_pow_sub_one_eq_mod, ← hn]
  have e3 : (((a % 18446744073709551616).toNat % n : Nat) : Int) = a % d := by
    rw [Int.natCast_emod, Int.toNat_of_nonneg (Int.emod_nonneg _ (by decide)), hd]
    exact Int.emod_emod_of_dvd a (Int.natCast_dvd_natCast.2 hdv)
  rw [e3]
  congr 2
  have := Int.emod_nonneg a (show d ≠ 0 by omega)
  have := Int.emod_lt_of_pos a (show 0 < d by omega)
  rw [IntKind.wrap_i64]; omega
theorem key_at {m : Sto} (w : WfM m) {j : Nat} {k : ByteArray} (h : (ksL m)[j]? = some k) : m[j]? = some (k, getC m k) := by
  obtain ⟨c, hc⟩ := ksL_at h
  rw [hc, (getE_some (find_at w hc)).2]
theorem sum_next {m : Sto} {j : Nat} {k : ByteArray} {c : CntM} (h : m[j]? = some (k, c)) : sumI (valsL (m.take (j + 1))) = sumI (valsL (m.take j)) + c.v := by rw [valsL_next h, sumI_app]
theorem quiet_next {m : Sto} {j : Nat} {k : ByteArray} {c : CntM} (h : m[j]? = some (k, c)) : quietB (m.take (j + 1)) = (quietB (m.take j) && (decide (c.up = 0) && decide (c.dn = 0))) := by
  unfold quietB; rw [take_next h, List.all_append]; simp
theorem sum_facts (xs : List Int) : ((-1152921504606846976 ≤ sumI xs ∧ sumI xs ≤ 1152921504606846976) → sumE xs = 0 ∧ sumV xs = sumI xs) ∧ (¬ (-1152921504606846976 ≤ sumI xs ∧ sumI xs ≤ 1152921504606846976) → sumE xs = 7 ∧ sumV xs = 0) := by
  unfold sumE sumV
  exact ⟨fun h => ⟨if_pos h, if_pos h⟩, fun h => ⟨if_neg h, if_neg h⟩⟩
set_option maxHeartbeats 4000000 in
theorem within_ok (h : Heap) (a : Int) : WCall Tryz.prog 53 #[(vI (a))] h (fun v h1 => v = .bool (decide (-1152921504606846976 ≤ a ∧ a ≤ 1152921504606846976)) ∧ h = h1) := by
  by_cases c1 : ((-1152921504606846976) : Int) ≤ (a)
  · by_cases c2 : ((a) : Int) ≤ 1152921504606846976
    · exact hCall_ev [geT 1 1 2 c1, leT 1 4 2 c2] [] (vB true) h ⟨by rw [decide_eq_true (by omega)], rfl⟩
    · exact hCall_ev [geT 1 1 2 c1, leF 1 4 2 c2] [] (vB false) h ⟨by rw [decide_eq_false (by omega)], rfl⟩
  · exact hCall_ev [geF 1 1 2 c1] [] (vB false) h ⟨by rw [decide_eq_false (by omega)], rfl⟩
set_option maxHeartbeats 4000000 in
theorem schkC_ok (h : Heap) (cv cu cw cl cx : Int) : WCall Tryz.prog 29 #[(Value.agg #[(vI (cv)), (vI (cu)), (vI (cw)), (vI (cl)), (vI (cx))])] h (fun v' h1 => v' = .int .i64 (if okc cv cu cw cl cx = true then 0 else 2) ∧ Ext h h1) := by
  obtain ⟨b1, eb2⟩ : ∃ zq, zq = h.size := ⟨_, rfl⟩
  obtain ⟨h3, e4⟩ : ∃ zq, zq = h.push (.cells #[(vI (cv)), (vI (cu)), (vI (cw)), (vI (cl)), (vI (cx))] 30 (0, 0)) := ⟨_, rfl⟩
  have f5 := push_new e4
  rw [← eb2] at f5
  have x6 : Ext h h3 := by rw [e4]; exact Ext.push _ _
  have o7 : h.size ≤ b1 := by have := (Ext.refl h).size; omega
  have x8 := (Ext.refl h).trans x6
  obtain ⟨_, _, s9, rfl, rfl⟩ := within_ok h3 (cv)
  by_cases c10 : -1152921504606846976 ≤ ((cv) : Int) ∧ ((cv) : Int) ≤ 1152921504606846976
  · obtain ⟨_, _, s11, rfl, rfl⟩ := within_ok h3 (cu)
    by_cases c12 : -1152921504606846976 ≤ ((cu) : Int) ∧ ((cu) : Int) ≤ 1152921504606846976
    · obtain ⟨_, _, s13, rfl, rfl⟩ := within_ok h3 (cw)
      by_cases c14 : -1152921504606846976 ≤ ((cw) : Int) ∧ ((cw) : Int) ≤ 1152921504606846976
      · obtain ⟨_, _, s15, rfl, rfl⟩ := within_ok h3 (cl)
        by_cases c16 : -1152921504606846976 ≤ ((cl) : Int) ∧ ((cl) : Int) ≤ 1152921504606846976
        · obtain ⟨_, _, s17, rfl, rfl⟩ := within_ok h3 (cx)
          by_cases c18 : -1152921504606846976 ≤ ((cx) : Int) ∧ ((cx) : Int) ≤ 1152921504606846976
          · by_cases c19 : ((cu) : Int) < 0
            · exact hCall_ev [evA 0 0 eb2 e4, evC 1 1 0 agg2 f5, evFt 1 2 c10 s9, evC 1 6 1 agg2 f5, evFt 1 7 c12 s11, evC 1 12 2 agg2 f5, evFt 1 13 c14 s13, evC 1 18 3 agg2 f5, evFt 1 19 c16 s15, evC 1 24 4 agg2 f5, evFt 1 25 c18 s17, evC 3 1 1 agg2 f5, ltT 3 2 2 c19] [] (vI 2) h3 ⟨by rw [okc_no (by omega)]; rfl, x8⟩
            · by_cases c20 : ((cw) : Int) < 0
              · exact hCall_ev [evA 0 0 eb2 e4, evC 1 1 0 agg2 f5, evFt 1 2 c10 s9, evC 1 6 1 agg2 f5, evFt 1 7 c12 s11, evC 1 12 2 agg2 f5, evFt 1 13 c14 s13, evC 1 18 3 agg2 f5, evFt 1 19 c16 s15, evC 1 24 4 agg2 f5, evFt 1 25 c18 s17, evC 3 1 1 agg2 f5, ltF 3 2 2 c19, evC 3 5 2 agg2 f5, ltT 3 6 2 c20] [] (vI 2) h3 ⟨by rw [okc_no (by omega)]; rfl, x8⟩
              · by_cases c21 : (((cv) - (cu)) : Int) < (cl)
                · exact hCall_ev [evA 0 0 eb2 e4, evC 1 1 0 agg2 f5, evFt 1 2 c10 s9, evC 1 6 1 agg2 f5, evFt 1 7 c12 s11, evC 1 12 2 agg2 f5, evFt 1 13 c14 s13, evC 1 18 3 agg2 f5, evFt 1 19 c16 s15, evC 1 24 4 agg2 f5, evFt 1 25 c18 s17, evC 3 1 1 agg2 f5, ltF 3 2 2 c19, evC 3 5 2 agg2 f5, ltF 3 6 2 c20, evC 3 10 3 agg2 f5, evC 3 12 0 agg2 f5, evC 3 14 1 agg2 f5, evV 3 15 (vI ((cv) - (cu))) (show binA Tryz.prog .sub 2 (vI cv) (vI cu) = some (vI ((cv) - (cu))) from sub_i64 (by omega) (by omega)), gtT 3 16 2 c21] [] (vI 2) h3 ⟨by rw [okc_no (by omega)]; rfl, x8⟩
                · by_cases c22 : ((cx) : Int) < ((cv) + (cw))
                  · exact hCall_ev [evA 0 0 eb2 e4, evC 1 1 0 agg2 f5, evFt 1 2 c10 s9, evC 1 6 1 agg2 f5, evFt 1 7 c12 s11, evC 1 12 2 agg2 f5, evFt 1 13 c14 s13, evC 1 18 3 agg2 f5, evFt 1 19 c16 s15, evC 1 24 4 agg2 f5, evFt 1 25 c18 s17, evC 3 1 1 agg2 f5, ltF 3 2 2 c19, evC 3 5 2 agg2 f5, ltF 3 6 2 c20, evC 3 10 3 agg2 f5, evC 3 12 0 agg2 f5, evC 3 14 1 agg2 f5, evV 3 15 (vI ((cv) - (cu))) (show binA Tryz.prog .sub 2 (vI cv) (vI cu) = some (vI ((cv) - (cu))) from sub_i64 (by omega) (by omega)), gtF 3 16 2 c21, evC 3 20 0 agg2 f5, evC 3 22 2 agg2 f5, evV 3 23 (vI ((cv) + (cw))) (show binA Tryz.prog .add 2 (vI cv) (vI cw) = some (vI ((cv) + (cw))) from add_i64 (by omega) (by omega)), evC 3 25 4 agg2 f5, gtT 3 26 2 c22] [] (vI 2) h3 ⟨by rw [okc_no (by omega)]; rfl, x8⟩
                  · exact hCall_ev [evA 0 0 eb2 e4, evC 1 1 0 agg2 f5, evFt 1 2 c10 s9, evC 1 6 1 agg2 f5, evFt 1 7 c12 s11, evC 1 12 2 agg2 f5, evFt 1 13 c14 s13, evC 1 18 3 agg2 f5, evFt 1 19 c16 s15, evC 1 24 4 agg2 f5, evFt 1 25 c18 s17, evC 3 1 1 agg2 f5, ltF 3 2 2 c19, evC 3 5 2 agg2 f5, ltF 3 6 2 c20, evC 3 10 3 agg2 f5, evC 3 12 0 agg2 f5, evC 3 14 1 agg2 f5, evV 3 15 (vI ((cv) - (cu))) (show binA Tryz.prog .sub 2 (vI cv) (vI cu) = some (vI ((cv) - (cu))) from sub_i64 (by omega) (by omega)), gtF 3 16 2 c21, evC 3 20 0 agg2 f5, evC 3 22 2 agg2 f5, evV 3 23 (vI ((cv) + (cw))) (show binA Tryz.prog .add 2 (vI cv) (vI cw) = some (vI ((cv) + (cw))) from add_i64 (by omega) (by omega)), evC 3 25 4 agg2 f5, gtF 3 26 2 c22] [] (vI 0) h3 ⟨by rw [okc_mk (by omega)]; rfl, x8⟩
          · exact hCall_ev [evA 0 0 eb2 e4, evC 1 1 0 agg2 f5, evFt 1 2 c10 s9, evC 1 6 1 agg2 f5, evFt 1 7 c12 s11, evC 1 12 2 agg2 f5, evFt 1 13 c14 s13, evC 1 18 3 agg2 f5, evFt 1 19 c16 s15, evC 1 24 4 agg2 f5, evFf 1 25 c18 s17] [] (vI 2) h3 ⟨by rw [okc_no (by omega)]; rfl, x8⟩
        · exact hCall_ev [evA 0 0 eb2 e4, evC 1 1 0 agg2 f5, evFt 1 2 c10 s9, evC 1 6 1 agg2 f5, evFt 1 7 c12 s11, evC 1 12 2 agg2 f5, evFt 1 13 c14 s13, evC 1 18 3 agg2 f5, evFf 1 19 c16 s15] [] (vI 2) h3 ⟨by rw [okc_no (by omega)]; rfl, x8⟩
      · exact hCall_ev [evA 0 0 eb2 e4, evC 1 1 0 agg2 f5, evFt 1 2 c10 s9, evC 1 6 1 agg2 f5, evFt 1 7 c12 s11, evC 1 12 2 agg2 f5, evFf 1 13 c14 s13] [] (vI 2) h3 ⟨by rw [okc_no (by omega)]; rfl, x8⟩
    · exact hCall_ev [evA 0 0 eb2 e4, evC 1 1 0 agg2 f5, evFt 1 2 c10 s9, evC 1 6 1 agg2 f5, evFf 1 7 c12 s11] [] (vI 2) h3 ⟨by rw [okc_no (by omega)]; rfl, x8⟩
  · exact hCall_ev [evA 0 0 eb2 e4, evC 1 1 0 agg2 f5, evFf 1 2 c10 s9] [] (vI 2) h3 ⟨by rw [okc_no (by omega)]; rfl, x8⟩
set_option maxHeartbeats 4000000 in
theorem both_ok (h : Heap) (c : CntM) (d : Int) : WCall Tryz.prog 77 #[(Value.agg #[(vI (c.v)), (vI (c.up)), (vI (c.dn)), (vI (c.lo)), (vI (c.hi))]), (vI (d))] h (fun v h1 => v = .int .i64 (if okc c.v c.up c.dn c.lo c.hi = true ∧ (-1152921504606846976 ≤ d ∧ d ≤ 1152921504606846976) then 0 else 2) ∧ Ext h h1) := by
  obtain ⟨b1, eb2⟩ : ∃ zq, zq = h.size := ⟨_, rfl⟩
  obtain ⟨h3, e4⟩ : ∃ zq, zq = h.push (.cells #[(vI (c.v)), (vI (c.up)), (vI (c.dn)), (vI (c.lo)), (vI (c.hi))] 30 (0, 0)) := ⟨_, rfl⟩
  have f5 := push_new e4
  rw [← eb2] at f5
  have x6 : Ext h h3 := by rw [e4]; exact Ext.push _ _
  have o7 : h.size ≤ b1 := by have := (Ext.refl h).size; omega
  have x8 := (Ext.refl h).trans x6
  obtain ⟨_, h9, s10, rfl, x11⟩ := schkC_ok h3 (c.v) (c.up) (c.dn) (c.lo) (c.hi)
  have x12 := x8.trans x11
  rcases Bool.eq_false_or_eq_true (okc c.v c.up c.dn c.lo c.hi) with c13 | c13
  · obtain ⟨_, _, s14, rfl, rfl⟩ := within_ok h9 (d)
    by_cases c15 : -1152921504606846976 ≤ ((d) : Int) ∧ ((d) : Int) ≤ 1152921504606846976
    · exact hCall_ev [evA 0 0 eb2 e4, evLw 1 0 agg30 size30 f5, evF 1 1 (by rw [if_pos c13] at s10; exact s10), evFt 1 5 c15 s14] [] (vI 0) h9 ⟨by rw [if_pos ⟨c13, c15⟩], x12⟩
    · exact hCall_ev [evA 0 0 eb2 e4, evLw 1 0 agg30 size30 f5, evF 1 1 (by rw [if_pos c13] at s10; exact s10), evFf 1 5 c15 s14] [] (vI 2) h9 ⟨by rw [if_neg (fun w => c15 w.2)], x12⟩
  · exact hCall_ev [evA 0 0 eb2 e4, evLw 1 0 agg30 size30 f5, evF 1 1 (by rw [if_neg (by rw [c13]; decide)] at s10; exact s10)] [] (vI 2) h9 ⟨by rw [if_neg (fun w => absurd (w.1.symm.trans c13) (by decide))], x12⟩
set_option maxHeartbeats 4000000 in
theorem sdo_ok (h : Heap) (c : CntM) (d : Int) : WCall Tryz.prog 57 #[(Value.agg #[(vI (c.v)), (vI (c.up)), (vI (c.dn)), (vI (c.lo)), (vI (c.hi))]), (vI (d))] h (fun v h1 => (¬ appE c 1 d = 0 → v = .tuple #[.agg #[.int .i64 0, .int .i64 0, .int .i64 0, .int .i64 0, .int .i64 0], .int .i64 (appE c 1 d)]) ∧ (appE c 1 d = 0 → v = .tuple #[.agg #[.int .i64 (appM c 1 d).v, .int .i64 (appM c 1 d).up, .int .i64 (appM c 1 d).dn, .int .i64 (appM c 1 d).lo, .int .i64 (appM c 1 d).hi], .int .i64 0]) ∧ Ext h h1) := by
  obtain ⟨b1, eb2⟩ : ∃ zq, zq = h.size := ⟨_, rfl⟩
  obtain ⟨h3, e4⟩ : ∃ zq, zq = h.push (.cells #[(vI (c.v)), (vI (c.up)), (vI (c.dn)), (vI (c.lo)), (vI (c.hi))] 30 (0, 0)) := ⟨_, rfl⟩
  have f5 := push_new e4
  rw [← eb2] at f5
  have x6 : Ext h h3 := by rw [e4]; exact Ext.push _ _
  have o7 : h.size ≤ b1 := by have := (Ext.refl h).size; omega
  have x8 := (Ext.refl h).trans x6
  obtain ⟨b9, eb10⟩ : ∃ zq, zq = h3.size := ⟨_, rfl⟩
  obtain ⟨h11, e12⟩ : ∃ zq, zq = h3.push (.cells #[(vI 0), (vI 0), (vI 0), (vI 0), (vI 0)] 30 (0, 0)) := ⟨_, rfl⟩
  have f13 := push_new e12
  rw [← eb10] at f13
  have n14 : b9 ≠ b1 := by have := row_lt f5; omega
  have x15 : Ext h3 h11 := by rw [e12]; exact Ext.push _ _
  have o16 : h.size ≤ b9 := by have := x8.size; omega
  have f17 := x15 _ _ f5
  have x18 := x8.trans x15
  obtain ⟨_, h19, s20, rfl, x21⟩ := both_ok h11 c d
  have f22 := x21 _ _ f17
  have f23 := x21 _ _ f13
  have x24 := x18.trans x21
  rcases Bool.eq_false_or_eq_true (okc c.v c.up c.dn c.lo c.hi) with c25 | c25
  · by_cases c26 : -1152921504606846976 ≤ (d : Int) ∧ (d : Int) ≤ 1152921504606846976
    · have ww := okc_of c25
      have wn := nw_num c26
      by_cases c27 : (0 : Int) ≤ (d)
      · by_cases c28 : ((c.hi) : Int) < (((c.v) + (c.dn)) + (d))
        · obtain ⟨h29, e30⟩ : ∃ zq, zq = h19.setIfInBounds b9 (.cells #[(vI 0), (vI 0), (vI 0), (vI 0), (vI 0)] 30 (0, 0)) := ⟨_, rfl⟩
          have f31 := set_same e30 f23
          have x32 := Ext.setNew x24 e30 o16
          have m9 : appM c 1 d = ⟨c.v + d, c.up + d, c.dn, c.lo, c.hi⟩ := by have hd := (show ¬ d < 0 by omega); simp [appM, aV, aU, aD, hd]
          have e9 : appE c 1 d = 7 := by rw [appE_bad (by omega) c25 c26 (by rw [m9]; exact okc_no (by dsimp only; omega))]; rfl
          exact hCall_ev [evA 0 0 eb2 e4, evA 0 1 eb10 e12, evLw 1 0 agg30 size30 f17, evF 1 2 (show SoundCall Tryz.prog 77 #[(vA #[(vI c.v), (vI c.up), (vI c.dn), (vI c.lo), (vI c.hi)]), (vI d)] h11 (vI 0) h19 from (by have w9 := s20; rw [if_pos ⟨c25, c26⟩] at w9; exact w9)), geT 4 1 2 c27, evC 5 1 0 agg2 f22, evC 5 3 2 agg2 f22, evV 5 4 (vI ((c.v) + (c.dn))) (show binA Tryz.prog .add 2 (vI c.v) (vI c.dn) = some (vI ((c.v) + (c.dn))) from add_i64 (by omega) (by omega)), evV 5 6 (vI (((c.v) + (c.dn)) + (d))) (show binA Tryz.prog .add 2 (vI ((c.v) + (c.dn))) (vI d) = some (vI (((c.v) + (c.dn)) + (d))) from add_i64 (by omega) (by omega)), evC 5 8 4 agg2 f22, gtT 5 9 2 c28, evUw 6 1 size30 f23 e30] [evLw 0 0 agg30 size30 f31, evR (vI 7)] (vT #[(vA #[(vI 0), (vI 0), (vI 0), (vI 0), (vI 0)]), (vI 7)]) h29 ⟨fun _ => by rw [e9], fun w => absurd (e9.symm.trans w) (by decide), x32⟩
        · by_cases c33 : (1152921504606846976 : Int) < ((c.up) + (d))
          · obtain ⟨h34, e35⟩ : ∃ zq, zq = h19.setIfInBounds b9 (.cells #[(vI 0), (vI 0), (vI 0), (vI 0), (vI 0)] 30 (0, 0)) := ⟨_, rfl⟩
            have f36 := set_same e35 f23
            have x37 := Ext.setNew x24 e35 o16
            have m9 : appM c 1 d = ⟨c.v + d, c.up + d, c.dn, c.lo, c.hi⟩ := by have hd := (show ¬ d < 0 by omega); simp [appM, aV, aU, aD, hd]
            have e9 : appE c 1 d = 7 := by rw [appE_bad (by omega) c25 c26 (by rw [m9]; exact okc_no (by dsimp only; omega))]; rfl
            exact hCall_ev [evA 0 0 eb2 e4, evA 0 1 eb10 e12, evLw 1 0 agg30 size30 f17, evF 1 2 (show SoundCall Tryz.prog 77 #[(vA #[(vI c.v), (vI c.up), (vI c.dn), (vI c.lo), (vI c.hi)]), (vI d)] h11 (vI 0) h19 from (by have w9 := s20; rw [if_pos ⟨c25, c26⟩] at w9; exact w9)), geT 4 1 2 c27, evC 5 1 0 agg2 f22, evC 5 3 2 agg2 f22, evV 5 4 (vI ((c.v) + (c.dn))) (show binA Tryz.prog .add 2 (vI c.v) (vI c.dn) = some (vI ((c.v) + (c.dn))) from add_i64 (by omega) (by omega)), evV 5 6 (vI (((c.v) + (c.dn)) + (d))) (show binA Tryz.prog .add 2 (vI ((c.v) + (c.dn))) (vI d) = some (vI (((c.v) + (c.dn)) + (d))) from add_i64 (by omega) (by omega)), evC 5 8 4 agg2 f22, gtF 5 9 2 c28, evC 5 12 1 agg2 f22, evV 5 14 (vI ((c.up) + (d))) (show binA Tryz.prog .add 2 (vI c.up) (vI d) = some (vI ((c.up) + (d))) from add_i64 (by omega) (by omega)), gtT 5 15 2 c33, evUw 6 1 size30 f23 e35] [evLw 0 0 agg30 size30 f36, evR (vI 7)] (vT #[(vA #[(vI 0), (vI 0), (vI 0), (vI 0), (vI 0)]), (vI 7)]) h34 ⟨fun _ => by rw [e9], fun w => absurd (e9.symm.trans w) (by decide), x37⟩
          · obtain ⟨h38, e39⟩ : ∃ zq, zq = h19.setIfInBounds b1 (.cells #[(vI ((c.v) + (d))), (vI (c.up)), (vI (c.dn)), (vI (c.lo)), (vI (c.hi))] 30 (0, 0)) := ⟨_, rfl⟩
            have f40 := set_same e39 f22
            have f41 := set_other e39 f23 n14.symm
            have x42 := Ext.setNew x24 e39 o7
            obtain ⟨h43, e44⟩ : ∃ zq, zq = h38.setIfInBounds b1 (.cells #[(vI ((c.v) + (d))), (vI ((c.up) + (d))), (vI (c.dn)), (vI (c.lo)), (vI (c.hi))] 30 (0, 0)) := ⟨_, rfl⟩
            have f45 := set_same e44 f40
            have f46 := set_other e44 f41 n14.symm
            have x47 := Ext.setNew x42 e44 o7
            obtain ⟨h48, e49⟩ : ∃ zq, zq = h43.setIfInBounds b9 (.cells #[(vI ((c.v) + (d))), (vI ((c.up) + (d))), (vI (c.dn)), (vI (c.lo)), (vI (c.hi))] 30 (0, 0)) := ⟨_, rfl⟩
            have f50 := set_same e49 f46
            have x51 := Ext.setNew x47 e49 o16
            have m9 : appM c 1 d = ⟨c.v + d, c.up + d, c.dn, c.lo, c.hi⟩ := by have hd := (show ¬ d < 0 by omega); simp [appM, aV, aU, aD, hd]
            have e9 : appE c 1 d = 0 := appE_ok (by omega) c25 c26 (by rw [m9]; exact okc_mk (by dsimp only; omega))
            exact hCall_ev [evA 0 0 eb2 e4, evA 0 1 eb10 e12, evLw 1 0 agg30 size30 f17, evF 1 2 (show SoundCall Tryz.prog 77 #[(vA #[(vI c.v), (vI c.up), (vI c.dn), (vI c.lo), (vI c.hi)]), (vI d)] h11 (vI 0) h19 from (by have w9 := s20; rw [if_pos ⟨c25, c26⟩] at w9; exact w9)), geT 4 1 2 c27, evC 5 1 0 agg2 f22, evC 5 3 2 agg2 f22, evV 5 4 (vI ((c.v) + (c.dn))) (show binA Tryz.prog .add 2 (vI c.v) (vI c.dn) = some (vI ((c.v) + (c.dn))) from add_i64 (by omega) (by omega)), evV 5 6 (vI (((c.v) + (c.dn)) + (d))) (show binA Tryz.prog .add 2 (vI ((c.v) + (c.dn))) (vI d) = some (vI (((c.v) + (c.dn)) + (d))) from add_i64 (by omega) (by omega)), evC 5 8 4 agg2 f22, gtF 5 9 2 c28, evC 5 12 1 agg2 f22, evV 5 14 (vI ((c.up) + (d))) (show binA Tryz.prog .add 2 (vI c.up) (vI d) = some (vI ((c.up) + (d))) from add_i64 (by omega) (by omega)), gtF 5 15 2 c33, evC 7 1 0 agg2 f22, evV 7 3 (vI ((c.v) + (d))) (show binA Tryz.prog .add 2 (vI c.v) (vI d) = some (vI ((c.v) + (d))) from add_i64 (by omega) (by omega)), evT 7 5 0 size2 f22 e39, evC 8 1 1 agg2 f40, evV 8 3 (vI ((c.up) + (d))) (show binA Tryz.prog .add 2 (vI c.up) (vI d) = some (vI ((c.up) + (d))) from add_i64 (by omega) (by omega)), evT 8 5 1 size2 f40 e44, evLw 9 0 agg30 size30 f45, evUw 9 1 size30 f46 e49] [evLw 0 0 agg30 size30 f50, evR (vI 0)] (vT #[(vA #[(vI ((c.v) + (d))), (vI ((c.up) + (d))), (vI c.dn), (vI c.lo), (vI c.hi)]), (vI 0)]) h48 ⟨fun w => absurd e9 w, fun _ => by rw [m9], x51⟩
      · by_cases c52 : ((((c.v) - (c.up)) + (d)) : Int) < (c.lo)
        · obtain ⟨h53, e54⟩ : ∃ zq, zq = h19.setIfInBounds b9 (.cells #[(vI 0), (vI 0), (vI 0), (vI 0), (vI 0)] 30 (0, 0)) := ⟨_, rfl⟩
          have f55 := set_same e54 f23
          have x56 := Ext.setNew x24 e54 o16
          have m9 : appM c 1 d = ⟨c.v + d, c.up, c.dn - d, c.lo, c.hi⟩ := by have hd := (show d < 0 by omega); simp [appM, aV, aU, aD, hd]
          have e9 : appE c 1 d = 7 := by rw [appE_bad (by omega) c25 c26 (by rw [m9]; exact okc_no (by dsimp only; omega))]; rfl
          exact hCall_ev [evA 0 0 eb2 e4, evA 0 1 eb10 e12, evLw 1 0 agg30 size30 f17, evF 1 2 (show SoundCall Tryz.prog 77 #[(vA #[(vI c.v), (vI c.up), (vI c.dn), (vI c.lo), (vI c.hi)]), (vI d)] h11 (vI 0) h19 from (by have w9 := s20; rw [if_pos ⟨c25, c26⟩] at w9; exact w9)), geF 4 1 2 c27, evC 10 1 0 agg2 f22, evC 10 3 1 agg2 f22, evV 10 4 (vI ((c.v) - (c.up))) (show binA Tryz.prog .sub 2 (vI c.v) (vI c.up) = some (vI ((c.v) - (c.up))) from sub_i64 (by omega) (by omega)), evV 10 6 (vI (((c.v) - (c.up)) + (d))) (show binA Tryz.prog .add 2 (vI ((c.v) - (c.up))) (vI d) = some (vI (((c.v) - (c.up)) + (d))) from add_i64 (by omega) (by omega)), evC 10 8 3 agg2 f22, ltT 10 9 2 c52, evUw 11 1 size30 f23 e54] [evLw 0 0 agg30 size30 f55, evR (vI 7)] (vT #[(vA #[(vI 0), (vI 0), (vI 0), (vI 0), (vI 0)]), (vI 7)]) h53 ⟨fun _ => by rw [e9], fun w => absurd (e9.symm.trans w) (by decide), x56⟩
        · by_cases c57 : (1152921504606846976 : Int) < ((c.dn) - (d))
          · obtain ⟨h58, e59⟩ : ∃ zq, zq = h19.setIfInBounds b9 (.cells #[(vI 0), (vI 0), (vI 0), (vI 0), (vI 0)] 30 (0, 0)) := ⟨_, rfl⟩
            have f60 := set_same e59 f23
            have x61 := Ext.setNew x24 e59 o16
            have m9 : appM c 1 d = ⟨c.v + d, c.up, c.dn - d, c.lo, c.hi⟩ := by have hd := (show d < 0 by omega); simp [appM, aV, aU, aD, hd]
            have e9 : appE c 1 d = 7 := by rw [appE_bad (by omega) c25 c26 (by rw [m9]; exact okc_no (by dsimp only; omega))]; rfl
            exact hCall_ev [evA 0 0 eb2 e4, evA 0 1 eb10 e12, evLw 1 0 agg30 size30 f17, evF 1 2 (show SoundCall Tryz.prog 77 #[(vA #[(vI c.v), (vI c.up), (vI c.dn), (vI c.lo), (vI c.hi)]), (vI d)] h11 (vI 0) h19 from (by have w9 := s20; rw [if_pos ⟨c25, c26⟩] at w9; exact w9)), geF 4 1 2 c27, evC 10 1 0 agg2 f22, evC 10 3 1 agg2 f22, evV 10 4 (vI ((c.v) - (c.up))) (show binA Tryz.prog .sub 2 (vI c.v) (vI c.up) = some (vI ((c.v) - (c.up))) from sub_i64 (by omega) (by omega)), evV 10 6 (vI (((c.v) - (c.up)) + (d))) (show binA Tryz.prog .add 2 (vI ((c.v) - (c.up))) (vI d) = some (vI (((c.v) - (c.up)) + (d))) from add_i64 (by omega) (by omega)), evC 10 8 3 agg2 f22, ltF 10 9 2 c52, evC 10 12 2 agg2 f22, evV 10 14 (vI ((c.dn) - (d))) (show binA Tryz.prog .sub 2 (vI c.dn) (vI d) = some (vI ((c.dn) - (d))) from sub_i64 (by omega) (by omega)), gtT 10 15 2 c57, evUw 11 1 size30 f23 e59] [evLw 0 0 agg30 size30 f60, evR (vI 7)] (vT #[(vA #[(vI 0), (vI 0), (vI 0), (vI 0), (vI 0)]), (vI 7)]) h58 ⟨fun _ => by rw [e9], fun w => absurd (e9.symm.trans w) (by decide), x61⟩
          · obtain ⟨h62, e63⟩ : ∃ zq, zq = h19.setIfInBounds b1 (.cells #[(vI ((c.v) + (d))), (vI (c.up)), (vI (c.dn)), (vI (c.lo)), (vI (c.hi))] 30 (0, 0)) := ⟨_, rfl⟩
            have f65 := set_same e63 f22
            have f66 := set_other e63 f23 n14.symm
            have x67 := Ext.setNew x24 e63 o7
            obtain ⟨h68, e69⟩ : ∃ zq, zq = h62.setIfInBounds b1 (.cells #[(vI ((c.v) + (d))), (vI (c.up)), (vI ((c.dn) - (d))), (vI (c.lo)), (vI (c.hi))] 30 (0, 0)) := ⟨_, rfl⟩
            have f70 := set_same e69 f65
            have f71 := set_other e69 f66 n14.symm
            have x72 := Ext.setNew x67 e69 o7
            obtain ⟨h73, e74⟩ : ∃ zq, zq = h68.setIfInBounds b9 (.cells #[(vI ((c.v) + (d))), (vI (c.up)), (vI ((c.dn) - (d))), (vI (c.lo)), (vI (c.hi))] 30 (0, 0)) := ⟨_, rfl⟩
            have f75 := set_same e74 f71
            have x76 := Ext.setNew x72 e74 o16
            have m9 : appM c 1 d = ⟨c.v + d, c.up, c.dn - d, c.lo, c.hi⟩ := by have hd := (show d < 0 by omega); simp [appM, aV, aU, aD, hd]
            have e9 : appE c 1 d = 0 := appE_ok (by omega) c25 c26 (by rw [m9]; exact okc_mk (by dsimp only; omega))
            exact hCall_ev [evA 0 0 eb2 e4, evA 0 1 eb10 e12, evLw 1 0 agg30 size30 f17, evF 1 2 (show SoundCall Tryz.prog 77 #[(vA #[(vI c.v), (vI c.up), (vI c.dn), (vI c.lo), (vI c.hi)]), (vI d)] h11 (vI 0) h19 from (by have w9 := s20; rw [if_pos ⟨c25, c26⟩] at w9; exact w9)), geF 4 1 2 c27, evC 10 1 0 agg2 f22, evC 10 3 1 agg2 f22, evV 10 4 (vI ((c.v) - (c.up))) (show binA Tryz.prog .sub 2 (vI c.v) (vI c.up) = some (vI ((c.v) - (c.up))) from sub_i64 (by omega) (by omega)), evV 10 6 (vI (((c.v) - (c.up)) + (d))) (show binA Tryz.prog .add 2 (vI ((c.v) - (c.up))) (vI d) = some (vI (((c.v) - (c.up)) + (d))) from add_i64 (by omega) (by omega)), evC 10 8 3 agg2 f22, ltF 10 9 2 c52, evC 10 12 2 agg2 f22, evV 10 14 (vI ((c.dn) - (d))) (show binA Tryz.prog .sub 2 (vI c.dn) (vI d) = some (vI ((c.dn) - (d))) from sub_i64 (by omega) (by omega)), gtF 10 15 2 c57, evC 12 1 0 agg2 f22, evV 12 3 (vI ((c.v) + (d))) (show binA Tryz.prog .add 2 (vI c.v) (vI d) = some (vI ((c.v) + (d))) from add_i64 (by omega) (by omega)), evT 12 5 0 size2 f22 e63, evC 13 1 2 agg2 f65, evV 13 3 (vI ((c.dn) - (d))) (show binA Tryz.prog .sub 2 (vI c.dn) (vI d) = some (vI ((c.dn) - (d))) from sub_i64 (by omega) (by omega)), evT 13 5 2 size2 f65 e69, evLw 14 0 agg30 size30 f70, evUw 14 1 size30 f71 e74] [evLw 0 0 agg30 size30 f75, evR (vI 0)] (vT #[(vA #[(vI ((c.v) + (d))), (vI c.up), (vI ((c.dn) - (d))), (vI c.lo), (vI c.hi)]), (vI 0)]) h73 ⟨fun w => absurd e9 w, fun _ => by rw [m9], x76⟩
    · obtain ⟨h77, e78⟩ : ∃ zq, zq = h19.setIfInBounds b9 (.cells #[(vI 0), (vI 0), (vI 0), (vI 0), (vI 0)] 30 (0, 0)) := ⟨_, rfl⟩
      have f79 := set_same e78 f23
      have x80 := Ext.setNew x24 e78 o16
      have e9 : appE c 1 d = 2 := appE_arg (fun w => c26 w.2.2)
      exact hCall_ev [evA 0 0 eb2 e4, evA 0 1 eb10 e12, evLw 1 0 agg30 size30 f17, evF 1 2 (show SoundCall Tryz.prog 77 #[(vA #[(vI c.v), (vI c.up), (vI c.dn), (vI c.lo), (vI c.hi)]), (vI d)] h11 (vI 2) h19 from (by have w9 := s20; rw [if_neg (fun w => c26 w.2)] at w9; exact w9)), evUw 3 2 size30 f23 e78] [evLw 0 0 agg30 size30 f79, evR (vI 2)] (vT #[(vA #[(vI 0), (vI 0), (vI 0), (vI 0), (vI 0)]), (vI 2)]) h77 ⟨fun _ => by rw [e9], fun w => absurd (e9.symm.trans w) (by decide), x80⟩
  · obtain ⟨h81, e82⟩ : ∃ zq, zq = h19.setIfInBounds b9 (.cells #[(vI 0), (vI 0), (vI 0), (vI 0), (vI 0)] 30 (0, 0)) := ⟨_, rfl⟩
    have f83 := set_same e82 f23
    have x84 := Ext.setNew x24 e82 o16
    have e9 : appE c 1 d = 2 := appE_arg (fun w => absurd ((show okc c.v c.up c.dn c.lo c.hi = true from w.2.1).symm.trans c25) (by decide))
    exact hCall_ev [evA 0 0 eb2 e4, evA 0 1 eb10 e12, evLw 1 0 agg30 size30 f17, evF 1 2 (show SoundCall Tryz.prog 77 #[(vA #[(vI c.v), (vI c.up), (vI c.dn), (vI c.lo), (vI c.hi)]), (vI d)] h11 (vI 2) h19 from (by have w9 := s20; rw [if_neg (fun w => absurd (w.1.symm.trans c25) (by decide))] at w9; exact w9)), evUw 3 2 size30 f23 e82] [evLw 0 0 agg30 size30 f83, evR (vI 2)] (vT #[(vA #[(vI 0), (vI 0), (vI 0), (vI 0), (vI 0)]), (vI 2)]) h81 ⟨fun _ => by rw [e9], fun w => absurd (e9.symm.trans w) (by decide), x84⟩
set_option maxHeartbeats 4000000 in
theorem sfree_ok (h : Heap) (c : CntM) (d : Int) : WCall Tryz.prog 59 #[(Value.agg #[(vI (c.v)), (vI (c.up)), (vI (c.dn)), (vI (c.lo)), (vI (c.hi))]), (vI (d))] h (fun v h1 => (¬ appE c 3 d = 0 → v = .tuple #[.agg #[.int .i64 0, .int .i64 0, .int .i64 0, .int .i64 0, .int .i64 0], .int .i64 (appE c 3 d)]) ∧ (appE c 3 d = 0 → v = .tuple #[.agg #[.int .i64 (appM c 3 d).v, .int .i64 (appM c 3 d).up, .int .i64 (appM c 3 d).dn, .int .i64 (appM c 3 d).lo, .int .i64 (appM c 3 d).hi], .int .i64 0]) ∧ Ext h h1) := by
  obtain ⟨b1, eb2⟩ : ∃ zq, zq = h.size := ⟨_, rfl⟩
  obtain ⟨h3, e4⟩ : ∃ zq, zq = h.push (.cells #[(vI (c.v)), (vI (c.up)), (vI (c.dn)), (vI (c.lo)), (vI (c.hi))] 30 (0, 0)) := ⟨_, rfl⟩
  have f5 := push_new e4
  rw [← eb2] at f5
  have x6 : Ext h h3 := by rw [e4]; exact Ext.push _ _
  have o7 : h.size ≤ b1 := by have := (Ext.refl h).size; omega
  have x8 := (Ext.refl h).trans x6
  obtain ⟨b9, eb10⟩ : ∃ zq, zq = h3.size := ⟨_, rfl⟩
  obtain ⟨h11, e12⟩ : ∃ zq, zq = h3.push (.cells #[(vI 0), (vI 0), (vI 0), (vI 0), (vI 0)] 30 (0, 0)) := ⟨_, rfl⟩
  have f13 := push_new e12
  rw [← eb10] at f13
  have n14 : b9 ≠ b1 := by have := row_lt f5; omega
  have x15 : Ext h3 h11 := by rw [e12]; exact Ext.push _ _
  have o16 : h.size ≤ b9 := by have := x8.size; omega
  have f17 := x15 _ _ f5
  have x18 := x8.trans x15
  obtain ⟨_, h19, s20, rfl, x21⟩ := both_ok h11 c d
  have f22 := x21 _ _ f17
  have f23 := x21 _ _ f13
  have x24 := x18.trans x21
  rcases Bool.eq_false_or_eq_true (okc c.v c.up c.dn c.lo c.hi) with c25 | c25
  · by_cases c26 : -1152921504606846976 ≤ (d : Int) ∧ (d : Int) ≤ 1152921504606846976
    · have ww := okc_of c25
      have wn := nw_num c26
      by_cases c27 : (0 : Int) ≤ (d)
      · by_cases c28 : ((c.up) : Int) < (d)
        · obtain ⟨h29, e30⟩ : ∃ zq, zq = h19.setIfInBounds b9 (.cells #[(vI 0), (vI 0), (vI 0), (vI 0), (vI 0)] 30 (0, 0)) := ⟨_, rfl⟩
          have f31 := set_same e30 f23
          have x32 := Ext.setNew x24 e30 o16
          have m9 : appM c 3 d = ⟨c.v, c.up - d, c.dn, c.lo, c.hi⟩ := by have hd := (show ¬ d < 0 by omega); simp [appM, aV, aU, aD, hd]
          have e9 : appE c 3 d = 9 := by rw [appE_bad (by omega) c25 c26 (by rw [m9]; exact okc_no (by dsimp only; omega))]; rfl
          exact hCall_ev [evA 0 0 eb2 e4, evA 0 1 eb10 e12, evLw 1 0 agg30 size30 f17, evF 1 2 (show SoundCall Tryz.prog 77 #[(vA #[(vI c.v), (vI c.up), (vI c.dn), (vI c.lo), (vI c.hi)]), (vI d)] h11 (vI 0) h19 from (by have w9 := s20; rw [if_pos ⟨c25, c26⟩] at w9; exact w9)), geT 4 1 2 c27, evC 5 1 1 agg2 f22, ltT 5 3 2 c28, evUw 6 1 size30 f23 e30] [evLw 0 0 agg30 size30 f31, evR (vI 9)] (vT #[(vA #[(vI 0), (vI 0), (vI 0), (vI 0), (vI 0)]), (vI 9)]) h29 ⟨fun _ => by rw [e9], fun w => absurd (e9.symm.trans w) (by decide), x32⟩
        · obtain ⟨h33, e34⟩ : ∃ zq, zq = h19.setIfInBounds b1 (.cells #[(vI (c.v)), (vI ((c.up) - (d))), (vI (c.dn)), (vI (c.lo)), (vI (c.hi))] 30 (0, 0)) := ⟨_, rfl⟩
          have f35 := set_same e34 f22
          have f36 := set_other e34 f23 n14.symm
          have x37 := Ext.setNew x24 e34 o7
          obtain ⟨h38, e39⟩ : ∃ zq, zq = h33.setIfInBounds b9 (.cells #[(vI (c.v)), (vI ((c.up) - (d))), (vI (c.dn)), (vI (c.lo)), (vI (c.hi))] 30 (0, 0)) := ⟨_, rfl⟩
          have f40 := set_same e39 f36
          have x41 := Ext.setNew x37 e39 o16
          have m9 : appM c 3 d = ⟨c.v, c.up - d, c.dn, c.lo, c.hi⟩ := by have hd := (show ¬ d < 0 by omega); simp [appM, aV, aU, aD, hd]
          have e9 : appE c 3 d = 0 := appE_ok (by omega) c25 c26 (by rw [m9]; exact okc_mk (by dsimp only; omega))
          exact hCall_ev [evA 0 0 eb2 e4, evA 0 1 eb10 e12, evLw 1 0 agg30 size30 f17, evF 1 2 (show SoundCall Tryz.prog 77 #[(vA #[(vI c.v), (vI c.up), (vI c.dn), (vI c.lo), (vI c.hi)]), (vI d)] h11 (vI 0) h19 from (by have w9 := s20; rw [if_pos ⟨c25, c26⟩] at w9; exact w9)), geT 4 1 2 c27, evC 5 1 1 agg2 f22, ltF 5 3 2 c28, evC 7 1 1 agg2 f22, evV 7 3 (vI ((c.up) - (d))) (show binA Tryz.prog .sub 2 (vI c.up) (vI d) = some (vI ((c.up) - (d))) from sub_i64 (by omega) (by omega)), evT 7 5 1 size2 f22 e34, evLw 8 0 agg30 size30 f35, evUw 8 1 size30 f36 e39] [evLw 0 0 agg30 size30 f40, evR (vI 0)] (vT #[(vA #[(vI c.v), (vI ((c.up) - (d))), (vI c.dn), (vI c.lo), (vI c.hi)]), (vI 0)]) h38 ⟨fun w => absurd e9 w, fun _ => by rw [m9], x41⟩
      · by_cases c42 : ((c.dn) : Int) < (nw (d))
        · obtain ⟨h43, e44⟩ : ∃ zq, zq = h19.setIfInBounds b9 (.cells #[(vI 0), (vI 0), (vI 0), (vI 0), (vI 0)] 30 (0, 0)) := ⟨_, rfl⟩
          have f45 := set_same e44 f23
          have x46 := Ext.setNew x24 e44 o16
          have m9 : appM c 3 d = ⟨c.v, c.up, c.dn + d, c.lo, c.hi⟩ := by have hd := (show d < 0 by omega); simp [appM, aV, aU, aD, hd]
          have e9 : appE c 3 d = 9 := by rw [appE_bad (by omega) c25 c26 (by rw [m9]; exact okc_no (by dsimp only; omega))]; rfl
          exact hCall_ev [evA 0 0 eb2 e4, evA 0 1 eb10 e12, evLw 1 0 agg30 size30 f17, evF 1 2 (show SoundCall Tryz.prog 77 #[(vA #[(vI c.v), (vI c.up), (vI c.dn), (vI c.lo), (vI c.hi)]), (vI d)] h11 (vI 0) h19 from (by have w9 := s20; rw [if_pos ⟨c25, c26⟩] at w9; exact w9)), geF 4 1 2 c27, evC 9 1 2 agg2 f22, evV 9 3 (vI (nw (d))) (show (vI (nw (d))) = (vI (IntKind.i64.wrap (0 - (d)))) from rfl), ltT 9 4 2 c42, evUw 10 1 size30 f23 e44] [evLw 0 0 agg30 size30 f45, evR (vI 9)] (vT #[(vA #[(vI 0), (vI 0), (vI 0), (vI 0), (vI 0)]), (vI 9)]) h43 ⟨fun _ => by rw [e9], fun w => absurd (e9.symm.trans w) (by decide), x46⟩
        · obtain ⟨h47, e48⟩ : ∃ zq, zq = h19.setIfInBounds b1 (.cells #[(vI (c.v)), (vI (c.up)), (vI ((c.dn) + (d))), (vI (c.lo)), (vI (c.hi))] 30 (0, 0)) := ⟨_, rfl⟩
          have f49 := set_same e48 f22
          have f50 := set_other e48 f23 n14.symm
          have x51 := Ext.setNew x24 e48 o7
          obtain ⟨h52, e53⟩ : ∃ zq, zq = h47.setIfInBounds b9 (.cells #[(vI (c.v)), (vI (c.up)), (vI ((c.dn) + (d))), (vI (c.lo)), (vI (c.hi))] 30 (0, 0)) := ⟨_, rfl⟩
          have f54 := set_same e53 f50
          have x55 := Ext.setNew x51 e53 o16
          have m9 : appM c 3 d = ⟨c.v, c.up, c.dn + d, c.lo, c.hi⟩ := by have hd := (show d < 0 by omega); simp [appM, aV, aU, aD, hd]
          have e9 : appE c 3 d = 0 := appE_ok (by omega) c25 c26 (by rw [m9]; exact okc_mk (by dsimp only; omega))
          exact hCall_ev [evA 0 0 eb2 e4, evA 0 1 eb10 e12, evLw 1 0 agg30 size30 f17, evF 1 2 (show SoundCall Tryz.prog 77 #[(vA #[(vI c.v), (vI c.up), (vI c.dn), (vI c.lo), (vI c.hi)]), (vI d)] h11 (vI 0) h19 from (by have w9 := s20; rw [if_pos ⟨c25, c26⟩] at w9; exact w9)), geF 4 1 2 c27, evC 9 1 2 agg2 f22, evV 9 3 (vI (nw (d))) (show (vI (nw (d))) = (vI (IntKind.i64.wrap (0 - (d)))) from rfl), ltF 9 4 2 c42, evC 11 1 2 agg2 f22, evV 11 3 (vI ((c.dn) + (d))) (show binA Tryz.prog .add 2 (vI c.dn) (vI d) = some (vI ((c.dn) + (d))) from add_i64 (by omega) (by omega)), evT 11 5 2 size2 f22 e48, evLw 12 0 agg30 size30 f49, evUw 12 1 size30 f50 e53] [evLw 0 0 agg30 size30 f54, evR (vI 0)] (vT #[(vA #[(vI c.v), (vI c.up), (vI ((c.dn) + (d))), (vI c.lo), (vI c.hi)]), (vI 0)]) h52 ⟨fun w => absurd e9 w, fun _ => by rw [m9], x55⟩
    · obtain ⟨h56, e57⟩ : ∃ zq, zq = h19.setIfInBounds b9 (.cells #[(vI 0), (vI 0), (vI 0), (vI 0), (vI 0)] 30 (0, 0)) := ⟨_, rfl⟩
      have f58 := set_same e57 f23
      have x59 := Ext.setNew x24 e57 o16
      have e9 : appE c 3 d = 2 := appE_arg (fun w => c26 w.2.2)
      exact hCall_ev [evA 0 0 eb2 e4, evA 0 1 eb10 e12, evLw 1 0 agg30 size30 f17, evF 1 2 (show SoundCall Tryz.prog 77 #[(vA #[(vI c.v), (vI c.up), (vI c.dn), (vI c.lo), (vI c.hi)]), (vI d)] h11 (vI 2) h19 from (by have w9 := s20; rw [if_neg (fun w => c26 w.2)] at w9; exact w9)), evUw 3 2 size30 f23 e57] [evLw 0 0 agg30 size30 f58, evR (vI 2)] (vT #[(vA #[(vI 0), (vI 0), (vI 0), (vI 0), (vI 0)]), (vI 2)]) h56 ⟨fun _ => by rw [e9], fun w => absurd (e9.symm.trans w) (by decide), x59⟩
  · obtain ⟨h60, e61⟩ : ∃ zq, zq = h19.setIfInBounds b9 (.cells #[(vI 0), (vI 0), (vI 0), (vI 0), (vI 0)] 30 (0, 0)) := ⟨_, rfl⟩
    have f62 := set_same e61 f23
    have x63 := Ext.setNew x24 e61 o16
    have e9 : appE c 3 d = 2 := appE_arg (fun w => absurd ((show okc c.v c.up c.dn c.lo c.hi = true from w.2.1).symm.trans c25) (by decide))
    exact hCall_ev [evA 0 0 eb2 e4, evA 0 1 eb10 e12, evLw 1 0 agg30 size30 f17, evF 1 2 (show SoundCall Tryz.prog 77 #[(vA #[(vI c.v), (vI c.up), (vI c.dn), (vI c.lo), (vI c.hi)]), (vI d)] h11 (vI 2) h19 from (by have w9 := s20; rw [if_neg (fun w => absurd (w.1.symm.trans c25) (by decide))] at w9; exact w9)), evUw 3 2 size30 f23 e61] [evLw 0 0 agg30 size30 f62, evR (vI 2)] (vT #[(vA #[(vI 0), (vI 0), (vI 0), (vI 0), (vI 0)]), (vI 2)]) h60 ⟨fun _ => by rw [e9], fun w => absurd (e9.symm.trans w) (by decide), x63⟩
theorem app_23 (c : CntM) (d : Int) : appE c 2 d = appE c 3 d := by
  by_cases h : okC c = true ∧ ((-1152921504606846976 ≤ d ∧ d ≤ 1152921504606846976))
  · have w := okc_of (show okc c.v c.up c.dn c.lo c.hi = true from h.1)
    have e : okC (appM c 2 d) = okC (appM c 3 d) := by
      by_cases hd : d < 0
      · have e1 : appM c 2 d = ⟨c.v - d, c.up, c.dn + d, c.lo, c.hi⟩ := by simp [appM, aV, aU, aD, hd]
        have e2 : appM c 3 d = ⟨c.v, c.up, c.dn + d, c.lo, c.hi⟩ := by simp [appM, aV, aU, aD, hd]
        rw [e1, e2]
        by_cases g : 0 ≤ c.dn + d
        · rw [show okC _ = true from okc_mk (by dsimp only; omega), show okC _ = true from okc_mk (by dsimp only; omega)]
        · rw [show okC _ = false from okc_no (by dsimp only; omega), show okC _ = false from okc_no (by dsimp only; omega)]
      · have e1 : appM c 2 d = ⟨c.v - d, c.up - d, c.dn, c.lo, c.hi⟩ := by simp [appM, aV, aU, aD, hd]
        have e2 : appM c 3 d = ⟨c.v, c.up - d, c.dn, c.lo, c.hi⟩ := by simp [appM, aV, aU, aD, hd]
        rw [e1, e2]
        by_cases g : 0 ≤ c.up - d
        · rw [show okC _ = true from okc_mk (by dsimp only; omega), show okC _ = true from okc_mk (by dsimp only; omega)]
        · rw [show okC _ = false from okc_no (by dsimp only; omega), show okC _ = false from okc_no (by dsimp only; omega)]
    have e2 : appE c 2 d = if okC (appM c 2 d) = true then 0 else 9 := by unfold appE; rw [if_pos ⟨by omega, h.1, h.2⟩]; rfl
    have e3 : appE c 3 d = if okC (appM c 3 d) = true then 0 else 9 := by unfold appE; rw [if_pos ⟨by omega, h.1, h.2⟩]; rfl
    rw [e2, e3, e]
  · rw [appE_arg (fun q => h q.2), appE_arg (fun q => h q.2)]
theorem app_3v {c : CntM} {d : Int} (h : appE c 3 d = 0) : (appM c 3 d).v = c.v ∧ ((-1152921504606846976 ≤ c.v ∧ c.v ≤ 1152921504606846976)) ∧ ((-1152921504606846976 ≤ d ∧ d ≤ 1152921504606846976)) := ⟨rfl, (okc_of (show okc c.v c.up c.dn c.lo c.hi = true from (appE_zero h).2.1)).1, (appE_zero h).2.2.1⟩
theorem app_2m (c : CntM) (d : Int) : appM c 2 d = ⟨(appM c 3 d).v - d, (appM c 3 d).up, (appM c 3 d).dn, (appM c 3 d).lo, (appM c 3 d).hi⟩ := rfl
set_option maxHeartbeats 4000000 in
theorem sundo_ok (h : Heap) (c : CntM) (d : Int) : WCall Tryz.prog 58 #[(Value.agg #[(vI (c.v)), (vI (c.up)), (vI (c.dn)), (vI (c.lo)), (vI (c.hi))]), (vI (d))] h (fun v h1 => (¬ appE c 2 d = 0 → v = .tuple #[.agg #[.int .i64 0, .int .i64 0, .int .i64 0, .int .i64 0, .int .i64 0], .int .i64 (appE c 2 d)]) ∧ (appE c 2 d = 0 → v = .tuple #[.agg #[.int .i64 (appM c 2 d).v, .int .i64 (appM c 2 d).up, .int .i64 (appM c 2 d).dn, .int .i64 (appM c 2 d).lo, .int .i64 (appM c 2 d).hi], .int .i64 0]) ∧ Ext h h1) := by
  obtain ⟨b1, eb2⟩ : ∃ zq, zq = h.size := ⟨_, rfl⟩
  obtain ⟨h3, e4⟩ : ∃ zq, zq = h.push (.cells #[(vI (c.v)), (vI (c.up)), (vI (c.dn)), (vI (c.lo)), (vI (c.hi))] 30 (0, 0)) := ⟨_, rfl⟩
  have f5 := push_new e4
  rw [← eb2] at f5
  have x6 : Ext h h3 := by rw [e4]; exact Ext.push _ _
  have o7 : h.size ≤ b1 := by have := (Ext.refl h).size; omega
  have x8 := (Ext.refl h).trans x6
  obtain ⟨b9, eb10⟩ : ∃ zq, zq = h3.size := ⟨_, rfl⟩
  obtain ⟨h11, e12⟩ : ∃ zq, zq = h3.push (.cells #[(vI 0), (vI 0), (vI 0), (vI 0), (vI 0)] 30 (0, 0)) := ⟨_, rfl⟩
  have f13 := push_new e12
  rw [← eb10] at f13
  have x14 : Ext h3 h11 := by rw [e12]; exact Ext.push _ _
  have o15 : h.size ≤ b9 := by have := x8.size; omega
  have f17 := x14 _ _ f5
  have x18 := x8.trans x14
  obtain ⟨v19, h20, s21, q22, q23, x24⟩ := sfree_ok h11 c (d)
  have f25 := x24 _ _ f13
  have x26 := x18.trans x24
  by_cases c27 : ((appE c 3 d) : Int) = 0
  · have ww := app_3v c27
    obtain ⟨b28, eb29⟩ : ∃ zq, zq = h20.size := ⟨_, rfl⟩
    obtain ⟨h30, e31⟩ : ∃ zq, zq = h20.push (.cells #[(vI 0), (vI 0), (vI 0), (vI 0), (vI 0)] 30 (0, 0)) := ⟨_, rfl⟩
    have f33 := push_new e31
    rw [← eb29] at f33
    have n34 : b28 ≠ b9 := by have := row_lt f25; omega
    have x35 : Ext h20 h30 := by rw [e31]; exact Ext.push _ _
    have o36 : h.size ≤ b28 := by have := x26.size; omega
    have f37 := x35 _ _ f25
    have x38 := x26.trans x35
    obtain ⟨h39, e40⟩ : ∃ zq, zq = h30.setIfInBounds b28 (.cells #[(vI ((appM c 3 d).v)), (vI ((appM c 3 d).up)), (vI ((appM c 3 d).dn)), (vI ((appM c 3 d).lo)), (vI ((appM c 3 d).hi))] 30 (0, 0)) := ⟨_, rfl⟩
    have f41 := set_same e40 f33
    have f42 := set_other e40 f37 n34
    have x43 := Ext.setNew x38 e40 o36
    obtain ⟨h44, e45⟩ : ∃ zq, zq = h39.setIfInBounds b28 (.cells #[(vI (((appM c 3 d).v) - (d))), (vI ((appM c 3 d).up)), (vI ((appM c 3 d).dn)), (vI ((appM c 3 d).lo)), (vI ((appM c 3 d).hi))] 30 (0, 0)) := ⟨_, rfl⟩
    have f46 := set_same e45 f41
    have f47 := set_other e45 f42 n34
    have x48 := Ext.setNew x43 e45 o36
    obtain ⟨h49, e50⟩ : ∃ zq, zq = h44.setIfInBounds b9 (.cells #[(vI (((appM c 3 d).v) - (d))), (vI ((appM c 3 d).up)), (vI ((appM c 3 d).dn)), (vI ((appM c 3 d).lo)), (vI ((appM c 3 d).hi))] 30 (0, 0)) := ⟨_, rfl⟩
    have f51 := set_same e50 f47
    have x52 := Ext.setNew x48 e50 o15
    exact hCall_ev [evA 0 0 eb2 e4, evA 0 1 eb10 e12, evLw 1 0 agg30 size30 f17, evF 1 2 (by rw [q23 c27] at s21; exact s21), evA 1 6 eb29 e31, evUw 1 7 size30 f33 e40, evC 4 1 0 agg2 f41, evV 4 3 (vI (((appM c 3 d).v) - (d))) (show binA Tryz.prog .sub 2 (vI ((appM c 3 d).v)) (vI d) = some (vI (((appM c 3 d).v) - (d))) from sub_i64 (by omega) (by omega)), evT 4 5 0 size2 f41 e45, evLw 5 0 agg30 size30 f46, evUw 5 1 size30 f47 e50] [evLw 0 0 agg30 size30 f51, evR (vI 0)] (vT #[(vA #[(vI (((appM c 3 d).v) - (d))), (vI ((appM c 3 d).up)), (vI ((appM c 3 d).dn)), (vI ((appM c 3 d).lo)), (vI ((appM c 3 d).hi))]), (vI 0)]) h49 ⟨fun w => absurd (by rw [app_23]; exact c27) w, fun _ => by rw [app_2m], x52⟩
  · obtain ⟨b53, eb54⟩ : ∃ zq, zq = h20.size := ⟨_, rfl⟩
    obtain ⟨h55, e56⟩ : ∃ zq, zq = h20.push (.cells #[(vI 0), (vI 0), (vI 0), (vI 0), (vI 0)] 30 (0, 0)) := ⟨_, rfl⟩
    have f57 := push_new e56
    rw [← eb54] at f57
    have n58 : b53 ≠ b9 := by have := row_lt f25; omega
    have x59 : Ext h20 h55 := by rw [e56]; exact Ext.push _ _
    have o60 : h.size ≤ b53 := by have := x26.size; omega
    have f61 := x59 _ _ f25
    have x62 := x26.trans x59
    obtain ⟨h63, e64⟩ : ∃ zq, zq = h55.setIfInBounds b53 (.cells #[(vI 0), (vI 0), (vI 0), (vI 0), (vI 0)] 30 (0, 0)) := ⟨_, rfl⟩
    have f65 := set_other e64 f61 n58
    have x66 := Ext.setNew x62 e64 o60
    obtain ⟨h67, e68⟩ : ∃ zq, zq = h63.setIfInBounds b9 (.cells #[(vI 0), (vI 0), (vI 0), (vI 0), (vI 0)] 30 (0, 0)) := ⟨_, rfl⟩
    have f69 := set_same e68 f65
    have x70 := Ext.setNew x66 e68 o15
    exact hCall_ev [evA 0 0 eb2 e4, evA 0 1 eb10 e12, evLw 1 0 agg30 size30 f17, evF 1 2 (by rw [q22 c27] at s21; exact s21), evA 1 6 eb54 e56, evUw 1 7 size30 f57 e64, neT 2 1 35 c27, evUw 3 2 size30 f65 e68] [evLw 0 0 agg30 size30 f69, evR (vI (appE c 3 d))] (vT #[(vA #[(vI 0), (vI 0), (vI 0), (vI 0), (vI 0)]), (vI (appE c 3 d))]) h67 ⟨fun _ => by rw [app_23], fun w => absurd (by rw [app_23] at w; exact w) c27, x70⟩
set_option maxHeartbeats 4000000 in
theorem srapply_ok (h : Heap) (c : CntM) (ph d : Int) : WCall Tryz.prog 32 #[(Value.agg #[(vI (c.v)), (vI (c.up)), (vI (c.dn)), (vI (c.lo)), (vI (c.hi))]), (vI (ph)), (vI (d))] h (fun v h1 => (¬ appE c ph d = 0 → v = .tuple #[.agg #[.int .i64 0, .int .i64 0, .int .i64 0, .int .i64 0, .int .i64 0], .int .i64 (appE c ph d)]) ∧ (appE c ph d = 0 → v = .tuple #[.agg #[.int .i64 (appM c ph d).v, .int .i64 (appM c ph d).up, .int .i64 (appM c ph d).dn, .int .i64 (appM c ph d).lo, .int .i64 (appM c ph d).hi], .int .i64 0]) ∧ Ext h h1) := by
  obtain ⟨b1, eb2⟩ : ∃ zq, zq = h.size := ⟨_, rfl⟩
  obtain ⟨h3, e4⟩ : ∃ zq, zq = h.push (.cells #[(vI (c.v)), (vI (c.up)), (vI (c.dn)), (vI (c.lo)), (vI (c.hi))] 30 (0, 0)) := ⟨_, rfl⟩
  have f5 := push_new e4
  rw [← eb2] at f5
  have x6 : Ext h h3 := by rw [e4]; exact Ext.push _ _
  have o7 : h.size ≤ b1 := by have := (Ext.refl h).size; omega
  have x8 := (Ext.refl h).trans x6
  obtain ⟨b9, eb10⟩ : ∃ zq, zq = h3.size := ⟨_, rfl⟩
  obtain ⟨h11, e12⟩ : ∃ zq, zq = h3.push (.cells #[(vI 0), (vI 0), (vI 0), (vI 0), (vI 0)] 30 (0, 0)) := ⟨_, rfl⟩
  have f13 := push_new e12
  rw [← eb10] at f13
  have x14 : Ext h3 h11 := by rw [e12]; exact Ext.push _ _
  have o15 : h.size ≤ b9 := by have := x8.size; omega
  have f17 := x14 _ _ f5
  have x18 := x8.trans x14
  by_cases c19 : ((ph) : Int) = 1
  · obtain ⟨v20, h21, s22, q23, q24, x25⟩ := sdo_ok h11 c (d)
    have f26 := x25 _ _ f13
    have x27 := x18.trans x25
    by_cases c28 : ((appE c 1 d) : Int) = 0
    · obtain ⟨h29, e30⟩ : ∃ zq, zq = h21.setIfInBounds b9 (.cells #[(vI ((appM c 1 d).v)), (vI ((appM c 1 d).up)), (vI ((appM c 1 d).dn)), (vI ((appM c 1 d).lo)), (vI ((appM c 1 d).hi))] 30 (0, 0)) := ⟨_, rfl⟩
      have f31 := set_same e30 f26
      have x32 := Ext.setNew x27 e30 o15
      exact hCall_ev [evA 0 0 eb2 e4, evA 0 1 eb10 e12, eqT 2 0 3 c19, evLw 3 0 agg30 size30 f17, evF 3 2 (by rw [q24 c28] at s22; exact s22), evUw 3 5 size30 f26 e30] [evLw 0 0 agg30 size30 f31, evR (vI 0)] (vT #[(vA #[(vI ((appM c 1 d).v)), (vI ((appM c 1 d).up)), (vI ((appM c 1 d).dn)), (vI ((appM c 1 d).lo)), (vI ((appM c 1 d).hi))]), (vI 0)]) h29 ⟨fun w => absurd c28 (by rw [c19] at w; exact w), fun _ => by rw [c19], x32⟩
    · obtain ⟨h33, e34⟩ : ∃ zq, zq = h21.setIfInBounds b9 (.cells #[(vI 0), (vI 0), (vI 0), (vI 0), (vI 0)] 30 (0, 0)) := ⟨_, rfl⟩
      have f35 := set_same e34 f26
      have x36 := Ext.setNew x27 e34 o15
      exact hCall_ev [evA 0 0 eb2 e4, evA 0 1 eb10 e12, eqT 2 0 3 c19, evLw 3 0 agg30 size30 f17, evF 3 2 (by rw [q23 c28] at s22; exact s22), evUw 3 5 size30 f26 e34] [evLw 0 0 agg30 size30 f35, evR (vI (appE c 1 d))] (vT #[(vA #[(vI 0), (vI 0), (vI 0), (vI 0), (vI 0)]), (vI (appE c 1 d))]) h33 ⟨fun _ => by rw [c19], fun w => absurd (by rw [c19] at w; exact w) c28, x36⟩
  · by_cases c37 : ((ph) : Int) = 2
    · obtain ⟨v38, h39, s40, q41, q42, x43⟩ := sundo_ok h11 c (d)
      have f44 := x43 _ _ f13
      have x45 := x18.trans x43
      by_cases c46 : ((appE c 2 d) : Int) = 0
      · obtain ⟨h47, e48⟩ : ∃ zq, zq = h39.setIfInBounds b9 (.cells #[(vI ((appM c 2 d).v)), (vI ((appM c 2 d).up)), (vI ((appM c 2 d).dn)), (vI ((appM c 2 d).lo)), (vI ((appM c 2 d).hi))] 30 (0, 0)) := ⟨_, rfl⟩
        have f49 := set_same e48 f44
        have x50 := Ext.setNew x45 e48 o15
        exact hCall_ev [evA 0 0 eb2 e4, evA 0 1 eb10 e12, eqF 2 0 3 c19, eqT 4 0 3 c37, evLw 5 0 agg30 size30 f17, evF 5 2 (by rw [q42 c46] at s40; exact s40), evUw 5 5 size30 f44 e48] [evLw 0 0 agg30 size30 f49, evR (vI 0)] (vT #[(vA #[(vI ((appM c 2 d).v)), (vI ((appM c 2 d).up)), (vI ((appM c 2 d).dn)), (vI ((appM c 2 d).lo)), (vI ((appM c 2 d).hi))]), (vI 0)]) h47 ⟨fun w => absurd c46 (by rw [c37] at w; exact w), fun _ => by rw [c37], x50⟩
      · obtain ⟨h51, e52⟩ : ∃ zq, zq = h39.setIfInBounds b9 (.cells #[(vI 0), (vI 0), (vI 0), (vI 0), (vI 0)] 30 (0, 0)) := ⟨_, rfl⟩
        have f53 := set_same e52 f44
        have x54 := Ext.setNew x45 e52 o15
        exact hCall_ev [evA 0 0 eb2 e4, evA 0 1 eb10 e12, eqF 2 0 3 c19, eqT 4 0 3 c37, evLw 5 0 agg30 size30 f17, evF 5 2 (by rw [q41 c46] at s40; exact s40), evUw 5 5 size30 f44 e52] [evLw 0 0 agg30 size30 f53, evR (vI (appE c 2 d))] (vT #[(vA #[(vI 0), (vI 0), (vI 0), (vI 0), (vI 0)]), (vI (appE c 2 d))]) h51 ⟨fun _ => by rw [c37], fun w => absurd (by rw [c37] at w; exact w) c46, x54⟩
    · by_cases c55 : ((ph) : Int) = 3
      · obtain ⟨v56, h57, s58, q59, q60, x61⟩ := sfree_ok h11 c (d)
        have f62 := x61 _ _ f13
        have x63 := x18.trans x61
        by_cases c64 : ((appE c 3 d) : Int) = 0
        · obtain ⟨h65, e66⟩ : ∃ zq, zq = h57.setIfInBounds b9 (.cells #[(vI ((appM c 3 d).v)), (vI ((appM c 3 d).up)), (vI ((appM c 3 d).dn)), (vI ((appM c 3 d).lo)), (vI ((appM c 3 d).hi))] 30 (0, 0)) := ⟨_, rfl⟩
          have f67 := set_same e66 f62
          have x68 := Ext.setNew x63 e66 o15
          exact hCall_ev [evA 0 0 eb2 e4, evA 0 1 eb10 e12, eqF 2 0 3 c19, eqF 4 0 3 c37, eqT 6 0 3 c55, evLw 7 0 agg30 size30 f17, evF 7 2 (by rw [q60 c64] at s58; exact s58), evUw 7 5 size30 f62 e66] [evLw 0 0 agg30 size30 f67, evR (vI 0)] (vT #[(vA #[(vI ((appM c 3 d).v)), (vI ((appM c 3 d).up)), (vI ((appM c 3 d).dn)), (vI ((appM c 3 d).lo)), (vI ((appM c 3 d).hi))]), (vI 0)]) h65 ⟨fun w => absurd c64 (by rw [c55] at w; exact w), fun _ => by rw [c55], x68⟩
        · obtain ⟨h69, e70⟩ : ∃ zq, zq = h57.setIfInBounds b9 (.cells #[(vI 0), (vI 0), (vI 0), (vI 0), (vI 0)] 30 (0, 0)) := ⟨_, rfl⟩
          have f71 := set_same e70 f62
          have x72 := Ext.setNew x63 e70 o15
          exact hCall_ev [evA 0 0 eb2 e4, evA 0 1 eb10 e12, eqF 2 0 3 c19, eqF 4 0 3 c37, eqT 6 0 3 c55, evLw 7 0 agg30 size30 f17, evF 7 2 (by rw [q59 c64] at s58; exact s58), evUw 7 5 size30 f62 e70] [evLw 0 0 agg30 size30 f71, evR (vI (appE c 3 d))] (vT #[(vA #[(vI 0), (vI 0), (vI 0), (vI 0), (vI 0)]), (vI (appE c 3 d))]) h69 ⟨fun _ => by rw [c55], fun w => absurd (by rw [c55] at w; exact w) c64, x72⟩
      · obtain ⟨h73, e74⟩ : ∃ zq, zq = h11.setIfInBounds b9 (.cells #[(vI 0), (vI 0), (vI 0), (vI 0), (vI 0)] 30 (0, 0)) := ⟨_, rfl⟩
        have f75 := set_same e74 f13
        have x76 := Ext.setNew x18 e74 o15
        have e9 : appE c ph d = 2 := appE_arg (fun w => by omega)
        exact hCall_ev [evA 0 0 eb2 e4, evA 0 1 eb10 e12, eqF 2 0 3 c19, eqF 4 0 3 c37, eqF 6 0 3 c55, evUw 8 1 size30 f13 e74] [evLw 0 0 agg30 size30 f75, evR (vI 2)] (vT #[(vA #[(vI 0), (vI 0), (vI 0), (vI 0), (vI 0)]), (vI 2)]) h73 ⟨fun _ => by rw [e9], fun w => absurd (e9.symm.trans w) (by decide), x76⟩
def csL (m : Sto) : List CntM := m.map (·.2)
theorem csL_len (m : Sto) : (csL m).length = m.length := List.length_map ..
theorem strc_one (x : ByteArray) : (strc x).toList.all (·.oneCell') = true := rfl
theorem cntc_one (x : CntM) : (cntc x).toList.all (·.oneCell') = true := rfl
/-- How many keys are below a key. -/
def posK (m : Sto) (k : ByteArray) : Nat := (m.takeWhile fun p => sl p.1 k).length
theorem posK_le (m : Sto) (k : ByteArray) : posK m k ≤ m.length := by
  unfold posK
  exact (List.takeWhile_sublist _).length_le
theorem posK_is {k : ByteArray} : ∀ {m : Sto} {i : Nat}, i ≤ m.length → (∀ j x, j < i → (ksL m)[j]? = some x → sl x k = true) → (∀ x, (ksL m)[i]? = some x → sl x k = false) → posK m k = i
  | [], i, h, _, _ => by simp [posK] at *; omega
  | p :: m, 0, _, _, h => by
    have := h p.1 rfl
    simp [posK, List.takeWhile_cons, this]
  | p :: m, i + 1, hl, h1, h2 => by
    have h0 := h1 0 p.1 (by omega) rfl
    have q := posK_is (m := m) (i := i) (k := k) (by simpa using hl) (fun j x hj hx => h1 (j + 1) x (by omega) hx) (fun x hx => h2 x hx)
    unfold posK at q ⊢
    rw [List.takeWhile_cons, if_pos h0, List.length_cons, q]
theorem pos_split {m1 m2 : Sto} {k : ByteArray} {c : CntM} (w : Ord (m1 ++ (k, c) :: m2)) : posK (m1 ++ (k, c) :: m2) k = m1.length := by
  refine posK_is (by simp) (fun j x hj hx => ?_) (fun x hx => ?_)
  · have h1 : (ksL (m1 ++ (k, c) :: m2))[m1.length]? = some k := by unfold ksL; simp
    obtain ⟨l1, e1⟩ := List.getElem?_eq_some_iff.1 hx
    obtain ⟨l2, e2⟩ := List.getElem?_eq_some_iff.1 h1
    have this : sl ((ksL (m1 ++ (k, c) :: m2))[j]'l1) ((ksL (m1 ++ (k, c) :: m2))[m1.length]'l2) = true := List.pairwise_iff_getElem.1 w j m1.length l1 l2 hj
    rw [e1, e2] at this; exact this
  · have h1 : (ksL (m1 ++ (k, c) :: m2))[m1.length]? = some k := by unfold ksL; simp
    rw [h1] at hx; cases hx; exact sl_irrefl _
theorem pos_have {m : Sto} (w : WfM m) {k el : ByteArray} (h : (ksL m)[posK m k]? = some el) : el = k ↔ getE m k = 0 := by
  constructor
  · intro e
    rw [e] at h
    cases q : findK m k with
    | none => exact absurd (List.mem_of_getElem? h) (findK_none.1 q)
    | some c => exact (getE_some q).1
  · intro e
    obtain ⟨m1, m2, hm⟩ := findK_split (getE_zero e)
    have w' := w.ord
    rw [hm] at w' h
    rw [pos_split w'] at h
    unfold ksL at h
    simpa using h.symm
theorem pos_end {m : Sto} (w : WfM m) {k : ByteArray} (h : posK m k = m.length) : ¬ getE m k = 0 := by
  intro e
  obtain ⟨m1, m2, hm⟩ := findK_split (getE_zero e)
  have w' := w.ord
  rw [hm] at w' h
  rw [pos_split w'] at h
  simp at h
theorem pos_lt {m : Sto} (w : WfM m) {k : ByteArray} (h : getE m k = 0) : posK m k < m.length := by
  have h1 := posK_le m k
  have h2 : ¬ posK m k = m.length := fun e => pos_end w e h
  omega
theorem pos_get {m : Sto} (w : WfM m) {k : ByteArray} (h : getE m k = 0) {j : Nat} {c : CntM} (hx : (csL m)[j]? = some c) (hj : j = posK m k) : c = getC m k := by
  obtain ⟨m1, m2, hm⟩ := findK_split (getE_zero h)
  subst hj
  rw [hm] at hx
  have w' := w.ord
  rw [hm] at w'
  rw [pos_split w'] at hx
  unfold csL at hx
  simp at hx; exact hx.symm
theorem ins_pos (k : ByteArray) (c : CntM) : ∀ m : Sto, insK k c m = m.take (posK m k) ++ (k, c) :: m.drop (posK m k)
  | [] => rfl
  | p :: m => by
    unfold insK posK
    rw [List.takeWhile_cons]
    split
    · rw [ins_pos k c m]; simp [posK]
    · rfl
theorem ks_ins (m : Sto) (k : ByteArray) (c : CntM) : ksL (insK k c m) = (ksL m).take (posK m k) ++ [k] ++ (ksL m).drop (posK m k) := by rw [ins_pos]; unfold ksL; simp [List.map_take, List.map_drop]
theorem cs_ins (m : Sto) (k : ByteArray) (c : CntM) : csL (insK k c m) = (csL m).take (posK m k) ++ [c] ++ (csL m).drop (posK m k) := by rw [ins_pos]; unfold csL; simp [List.map_take, List.map_drop]
theorem cs_set {m : Sto} (w : WfM m) {k : ByteArray} (h : getE m k = 0) (a : CntM) : csL (setK m k a) = (csL m).set (posK m k) a := by
  obtain ⟨m1, m2, hm⟩ := findK_split (getE_zero h)
  have w1 := w.ord.apart
  have w2 := w.ord
  rw [hm] at w1 w2
  rw [show setK m k a = m1 ++ (k, a) :: m2 by rw [hm]; exact setK_split a w1, show posK m k = m1.length by rw [hm]; exact pos_split w2]
  conv => rhs; rw [hm]
  unfold csL; simp
theorem drop_mid {α : Type} {l1 l2 : List α} {x : α} {n : Nat} (h : n = l1.length) : (l1 ++ x :: l2).drop (n + 1) = l2 := by
  rw [List.append_cons]; exact List.drop_left' (by simp [h])
theorem ks_del {m : Sto} (w : WfM m) {k : ByteArray} (h : getE m k = 0) : ksL (delK m k) = (ksL m).take (posK m k) ++ (ksL m).drop (posK m k + 1) := by
  obtain ⟨m1, m2, hm⟩ := findK_split (getE_zero h)
  have w1 := w.ord.apart
  have w2 := w.ord
  rw [hm] at w1 w2
  rw [show delK m k = m1 ++ m2 by rw [hm]; exact delK_split w1, show posK m k = m1.length by rw [hm]; exact pos_split w2]
  conv => rhs; rw [hm]
  unfold ksL
  rw [List.map_append, List.map_append, List.map_cons, List.take_left' (List.length_map ..), drop_mid (List.length_map ..).symm]
theorem cs_del {m : Sto} (w : WfM m) {k : ByteArray} (h : getE m k = 0) : csL (delK m k) = (csL m).take (posK m k) ++ (csL m).drop (posK m k + 1) := by
  obtain ⟨m1, m2, hm⟩ := findK_split (getE_zero h)
  have w1 := w.ord.apart
  have w2 := w.ord
  rw [hm] at w1 w2
  rw [show delK m k = m1 ++ m2 by rw [hm]; exact delK_split w1, show posK m k = m1.length by rw [hm]; exact pos_split w2]
  conv => rhs; rw [hm]
  unfold csL
  rw [List.map_append, List.map_append, List.map_cons, List.take_left' (List.length_map ..), drop_mid (List.length_map ..).symm]
/-- A store of the document: its row, and the rows of its lists. -/
structure RfRow (T S : TypeId) (h : Heap) (O : Nat → Prop) (t : Nat) (m : Sto) (a b : Option Addr) (c d : Nat) : Prop where
  row : h[t]? = some (.cells #[.bool true, .slice a (ksL m).length c, .slice b (csL m).length d] T (0, 0))
  ks : OwnAt h 9 strc (ksL m) (.slice a (ksL m).length c)
  cs : OwnAt h S cntc (csL m) (.slice b (csL m).length d)
  foot : ∀ z, O z ↔ z = t ∨ blk (.slice a (ksL m).length c) z ∨ blk (.slice b (csL m).length d) z
def RfAt (T S : TypeId) (h : Heap) (O : Nat → Prop) (t : Nat) (m : Sto) : Prop := ∃ a b c d, RfRow T S h O t m a b c d
section
variable {T S : TypeId} {h h1 : Heap} {O : Nat → Prop} {t : Nat} {m : Sto}
theorem RfAt.keep (k : RfAt T S h O t m) (w : ∀ b r, O b → h[b]? = some r → h1[b]? = some r) : RfAt T S h1 O t m := by
  obtain ⟨a, b, c, d, k⟩ := k
  exact ⟨a, b, c, d, w _ _ ((k.foot _).2 (.inl rfl)) k.row, k.ks.keep fun b r hb q => w b r ((k.foot _).2 (.inr (.inl hb))) q, k.cs.keep fun b r hb q => w b r ((k.foot _).2 (.inr (.inr hb))) q, k.foot⟩
theorem RfAt.celled (k : RfAt T S h O t m) : Celled h O := by
  obtain ⟨a, b, c, d, k⟩ := k
  intro z hz
  rcases (k.foot z).1 hz with rfl | hz | hz
  · exact ⟨_, _, _, k.row⟩
  · exact k.ks.celled z hz
  · exact k.cs.celled z hz
theorem RfAt.blk_lt (k : RfAt T S h O t m) {b : Nat} (hb : O b) : b < h.size := k.celled.data.blk_lt hb
theorem rf_new {a b : Option Addr} {c d : Nat} (hr : h[t]? = some (.cells #[.bool true, .slice a (ksL m).length c, .slice b (csL m).length d] T (0, 0))) (h1 : OwnAt h 9 strc (ksL m) (.slice a (ksL m).length c)) (h2 : OwnAt h S cntc (csL m) (.slice b (csL m).length d)) :
    RfAt T S h (fun z => z = t ∨ blk (.slice a (ksL m).length c) z ∨ blk (.slice b (csL m).length d) z) t m := ⟨a, b, c, d, hr, h1, h2, fun _ => Iff.rfl⟩
end
set_option maxHeartbeats 4000000 in
theorem svalid_ok (h : Heap) {t : Nat} {a b : Option Addr} {n c m d : Nat} {fr : Nat × Nat} (ht : h[t]? = some (.cells #[.bool true, .slice a n c, .slice b m d] 53 fr)) : WCall Tryz.prog 27 #[(vP t 0)] h (fun v h1 => v = .bool true ∧ h = h1) := by
  exact hCall_ev [evC 1 6 0 agg4 ht] [] (vB true) h ⟨rfl, rfl⟩
set_option maxHeartbeats 4000000 in
theorem snew_ok (h : Heap)  : WCall Tryz.prog 7 #[] h (fun v h1 => ∃ b O, v = .pointer (some ⟨b, 0, none⟩) ∧ RfAt 53 30 h1 O b [] ∧ Ext h h1 ∧ ∀ z, O z → h.size ≤ z) := by
  obtain ⟨b1, eb2⟩ : ∃ zq, zq = h.size := ⟨_, rfl⟩
  obtain ⟨h3, e4⟩ : ∃ zq, zq = h.push (.cells #[(vB true), (Value.slice none 0 0), (Value.slice none 0 0)] 53 (0, 0)) := ⟨_, rfl⟩
  have f5 := push_new e4
  rw [← eb2] at f5
  have x6 : Ext h h3 := by rw [e4]; exact Ext.push _ _
  have o7 : h.size ≤ b1 := by have := (Ext.refl h).size; omega
  have x8 := (Ext.refl h).trans x6
  exact hCall_ev [evA 1 1 eb2 e4] [] (vP b1 0) h3 ⟨b1, _, rfl, rf_new (a := none) (b := none) (c := 0) (d := 0) f5 (.inl ⟨rfl, rfl⟩) (.inl ⟨rfl, rfl⟩), x8, fun z hz => hz.elim (fun w => by have := o7; omega) (fun w => w.elim (fun q => q.elim) (fun q => q.elim))⟩
set_option maxHeartbeats 4000000 in
theorem at_ok (h : Heap) {O : Nat → Prop} {t : Nat} {ms : Sto} (hT : RfAt 53 30 h O t ms) (ok : WfM ms) (key : ByteArray) : WCall Tryz.prog 30 #[(vP t 0), (vS key)] h (fun v h1 => v = .tuple #[.int .i64 ((posK ms key : Nat) : Int), .bool (decide (getE ms key = 0))] ∧ Ext h h1) := by
  have hT' := hT
  obtain ⟨ka, ca, kc, cc, T⟩ := hT
  have kl := ksL_len ms
  have cl := csL_len ms
  have few := ok.few
  suffices H : ∀ K : Value → Heap → Prop, (∀ v h1, (fun v h1 => v = .tuple #[.int .i64 ((posK ms key : Nat) : Int), .bool (decide (getE ms key = 0))] ∧ Ext h h1) v h1 → K v h1) → WCall Tryz.prog 30 #[(vP t 0), (vS key)] h K from H _ fun _ _ q => q
  intro K hK
  refine wcall_at { tmps := #[(vP t 0), (vS key), vZ, vZ, vZ, vZ, vZ, vZ, vZ, vZ, vZ, vZ, vZ, vZ, vZ, vZ, vZ, vZ, vZ, vZ, vZ, vZ, vZ, vZ, vZ, vZ, vZ, vZ, vZ, vZ, vZ, vZ, vZ, vZ, vZ, vZ, vZ, vZ, vZ, vZ, vZ, vZ, vZ, vZ, vZ, vZ], defers := [] } (by kernel_rfl) ?_
  refine wc_seq' (subc (bodyOf Tryz.prog 30) [0]) (subc (bodyOf Tryz.prog 30) [1]) (by kernel_rfl) ?_
  refine wc_ev [] .normal h [(4, (vI 0)), (5, (vB false))] ?_
  refine wc_seq' (subc (bodyOf Tryz.prog 30) [1, 0]) (subc (bodyOf Tryz.prog 30) [1, 1]) (by kernel_rfl) ?_
  refine wc_ev [] .normal h [(6, (vI 0))] ?_
  refine wc_seq' (subc (bodyOf Tryz.prog 30) [1, 1, 0]) (subc (bodyOf Tryz.prog 30) [1, 1, 1]) (by kernel_rfl) ?_
  refine wc_block' 0 (subc (bodyOf Tryz.prog 30) [1, 1, 0, 0]) (by kernel_rfl) ?_
  refine wc_loop' (subc (bodyOf Tryz.prog 30) [1, 1, 0, 0, 0]) (by kernel_rfl) (fun n' a' h' => ∃ (k : Int) (g0 : Nat → Value), a' = { tmps := #[(vP t 0), (vS key), vZ, vZ, (vI 0), (vB false), (vI k), (g0 7), (g0 8), (g0 9), (g0 10), (g0 11), (g0 12), (g0 13), (g0 14), (g0 15), (g0 16), (g0 17), (g0 18), (g0 19), (g0 20), (g0 21), (g0 22), (g0 23), (g0 24), (g0 25), (g0 26), vZ, vZ, vZ, vZ, vZ, vZ, vZ, vZ, vZ, vZ, vZ, vZ, vZ, vZ, vZ, vZ, vZ, vZ, vZ], defers := [] } ∧ Ext h h' ∧ n' = (ksL ms).length - k.toNat ∧ (0 ≤ k ∧ k ≤ ((ksL ms).length : Nat)) ∧ (∀ (j : Nat) (x : ByteArray), j < k.toNat → (ksL ms)[j]? = some x → sl x key = true)) ?_ ((ksL ms).length - (0 : Int).toNat) ⟨0, (fun i => ([vU, vU, vU, vU, vU, vU, vU, vZ, vZ, vZ, vZ, vZ, vZ, vZ, vZ, vZ, vZ, vZ, vZ, vZ, vZ, vZ, vZ, vZ, vZ, vZ, vZ] : List Value).getD i undef), by as_aux_lemma => kernel_rfl, (Ext.refl h), rfl, by omega, fun j x hj _ => absurd hj (by omega)⟩
  rintro n' _ h2 ⟨k, g0, rfl, x3, m4, i5, i6⟩
  by_cases c7 : ((k) : Int) < (((ksL ms).length : Nat))
  · obtain ⟨i9, v10, e11, l12, g13⟩ := list_at (ksL ms) (e := (k)) (by omega) (by first | omega | (simp only [List.length_set, List.length_append, List.length_singleton]; omega))
    obtain ⟨b14, o15, k16, q17, a18⟩ := (T.ks.slice strc_size).at strc_size g13
    rcases Bool.eq_false_or_eq_true (sl v10 key) with c19 | c19
    · refine wc_ev [evC 2 4 1 agg40 (x3 _ _ T.row), ltT 2 6 3 c7, evC 2 11 1 agg40 (x3 _ _ T.row), evV 2 13 (vP b14 o15) (show indexAddrA Tryz.prog 40 (vL ka ((ksL ms).length) kc) (vI k) = some (vP b14 o15) from a18 und40 size9 e11), evV 2 14 (vS v10) (show loadT Tryz.prog h2 9 (vP b14 o15) = some (vS v10) from (k16.keep fun b r _ q => x3 b r q).cell (j := 0) agg9 rfl), evV 2 16 (vB true) (show binA Tryz.prog .lss 9 (vS v10) (vS key) = some (vB true) from str_lss c19), evV 3 1 (vI ((k) + 1)) (show binA Tryz.prog .add 3 (vI k) (vI 1) = some (vI ((k) + 1)) from add_i64 (by omega) (by omega))] .normal h2 [(7, (vI k)), (8, (vP t 0)), (9, (vP t 0)), (10, (vP t 1)), (11, (vL ka ((ksL ms).length) kc)), (12, (vI (((ksL ms).length : Nat)))), (13, (vB true)), (14, (vB true)), (15, (vP t 0)), (16, (vP t 0)), (17, (vP t 1)), (18, (vL ka ((ksL ms).length) kc)), (19, (vI k)), (20, (vP b14 o15)), (21, (vS v10)), (22, (vS key)), (23, (vB true)), (24, (vB true)), (25, (vI k)), (26, (vI ((k) + 1))), (6, (vI ((k) + 1)))] ?_
      exact ⟨(ksL ms).length - (k + 1).toNat, by omega, ⟨k + 1, (fun i => ([vU, vU, vU, vU, vU, vU, vU, (vI k), (vP t 0), (vP t 0), (vP t 1), (vL ka ((ksL ms).length) kc), (vI (((ksL ms).length : Nat))), (vB true), (vB true), (vP t 0), (vP t 0), (vP t 1), (vL ka ((ksL ms).length) kc), (vI k), (vP b14 o15), (vS v10), (vS key), (vB true), (vB true), (vI k), (vI ((k) + 1))] : List Value).getD i undef), by as_aux_lemma => kernel_rfl, x3, rfl, by omega, fun j' x hj w => by
          rcases Nat.lt_or_eq_of_le (Nat.le_of_lt_succ (show j' < k.toNat + 1 by omega)) with g | g
          · exact i6 j' x g w
          · rw [show j' = i9 by omega] at w; rw [w] at g13; cases g13; exact c19⟩⟩
    · refine wc_ev [evC 2 4 1 agg40 (x3 _ _ T.row), ltT 2 6 3 c7, evC 2 11 1 agg40 (x3 _ _ T.row), evV 2 13 (vP b14 o15) (show indexAddrA Tryz.prog 40 (vL ka ((ksL ms).length) kc) (vI k) = some (vP b14 o15) from a18 und40 size9 e11), evV 2 14 (vS v10) (show loadT Tryz.prog h2 9 (vP b14 o15) = some (vS v10) from (k16.keep fun b r _ q => x3 b r q).cell (j := 0) agg9 rfl), evV 2 16 (vB false) (show binA Tryz.prog .lss 9 (vS v10) (vS key) = some (vB false) from str_lss c19)] (.exit 0) h2 [(7, (vI k)), (8, (vP t 0)), (9, (vP t 0)), (10, (vP t 1)), (11, (vL ka ((ksL ms).length) kc)), (12, (vI (((ksL ms).length : Nat)))), (13, (vB true)), (14, (vB true)), (15, (vP t 0)), (16, (vP t 0)), (17, (vP t 1)), (18, (vL ka ((ksL ms).length) kc)), (19, (vI k)), (20, (vP b14 o15)), (21, (vS v10)), (22, (vS key)), (23, (vB false)), (24, (vB false))] ?_
      obtain ⟨b20, o21, k22, q23, a24⟩ := (T.ks.slice strc_size).at strc_size g13
      by_cases c25 : (v10 : ByteArray) = key
      · refine wc_ev [evC 4 5 1 agg40 (x3 _ _ T.row), ltT 4 7 3 c7, evC 4 12 1 agg40 (x3 _ _ T.row), evV 4 14 (vP b20 o21) (show indexAddrA Tryz.prog 40 (vL ka ((ksL ms).length) kc) (vI k) = some (vP b20 o21) from a24 und40 size9 e11), evV 4 15 (vS v10) (show loadT Tryz.prog h2 9 (vP b20 o21) = some (vS v10) from (k22.keep fun b r _ q => x3 b r q).cell (j := 0) agg9 rfl), seT 4 17 9 c25] .ret h2 [(27, (vI k)), (28, (vI k)), (29, (vP t 0)), (30, (vP t 0)), (31, (vP t 1)), (32, (vL ka ((ksL ms).length) kc)), (33, (vI (((ksL ms).length : Nat)))), (34, (vB true)), (35, (vB true)), (36, (vP t 0)), (37, (vP t 0)), (38, (vP t 1)), (39, (vL ka ((ksL ms).length) kc)), (40, (vI k)), (41, (vP b20 o21)), (42, (vS v10)), (43, (vS key)), (44, (vB true)), (45, (vB true)), (4, (vI k)), (5, (vB true))] ?_
        have pe : posK ms key = i9 := posK_is (by omega) (fun j' x hj w => i6 j' x (by omega) w) (fun x w => by rw [g13] at w; cases w; exact c19)
        have ph := pos_have ok (k := key) (by rw [pe]; exact g13)
        have pn : getE ms key = 0 := ph.1 c25
        exact end_ev [] (vT #[(vI k), (vB true)]) (hK _ _ (⟨by rw [pe, decide_eq_true pn, show ((i9 : Nat) : Int) = k by omega], x3⟩))
      · refine wc_ev [evC 4 5 1 agg40 (x3 _ _ T.row), ltT 4 7 3 c7, evC 4 12 1 agg40 (x3 _ _ T.row), evV 4 14 (vP b20 o21) (show indexAddrA Tryz.prog 40 (vL ka ((ksL ms).length) kc) (vI k) = some (vP b20 o21) from a24 und40 size9 e11), evV 4 15 (vS v10) (show loadT Tryz.prog h2 9 (vP b20 o21) = some (vS v10) from (k22.keep fun b r _ q => x3 b r q).cell (j := 0) agg9 rfl), seF 4 17 9 c25] .ret h2 [(27, (vI k)), (28, (vI k)), (29, (vP t 0)), (30, (vP t 0)), (31, (vP t 1)), (32, (vL ka ((ksL ms).length) kc)), (33, (vI (((ksL ms).length : Nat)))), (34, (vB true)), (35, (vB true)), (36, (vP t 0)), (37, (vP t 0)), (38, (vP t 1)), (39, (vL ka ((ksL ms).length) kc)), (40, (vI k)), (41, (vP b20 o21)), (42, (vS v10)), (43, (vS key)), (44, (vB false)), (45, (vB false)), (4, (vI k)), (5, (vB false))] ?_
        have pe : posK ms key = i9 := posK_is (by omega) (fun j' x hj w => i6 j' x (by omega) w) (fun x w => by rw [g13] at w; cases w; exact c19)
        have ph := pos_have ok (k := key) (by rw [pe]; exact g13)
        have pn : ¬ getE ms key = 0 := fun w => c25 (ph.2 w)
        exact end_ev [] (vT #[(vI k), (vB false)]) (hK _ _ (⟨by rw [pe, decide_eq_false pn, show ((i9 : Nat) : Int) = k by omega], x3⟩))
  · refine wc_ev [evC 2 4 1 agg40 (x3 _ _ T.row), ltF 2 6 3 c7] (.exit 0) h2 [(7, (vI k)), (8, (vP t 0)), (9, (vP t 0)), (10, (vP t 1)), (11, (vL ka ((ksL ms).length) kc)), (12, (vI (((ksL ms).length : Nat)))), (13, (vB false)), (14, (vB false)), (15, vZ), (16, vZ), (17, vZ), (18, vZ), (19, vZ), (20, vZ), (21, vZ), (22, vZ), (23, vZ), (24, (vB false))] ?_
    refine wc_ev [evC 4 5 1 agg40 (x3 _ _ T.row), ltF 4 7 3 c7] .ret h2 [(27, (vI k)), (28, (vI k)), (29, (vP t 0)), (30, (vP t 0)), (31, (vP t 1)), (32, (vL ka ((ksL ms).length) kc)), (33, (vI (((ksL ms).length : Nat)))), (34, (vB false)), (35, (vB false)), (36, vZ), (37, vZ), (38, vZ), (39, vZ), (40, vZ), (41, vZ), (42, vZ), (43, vZ), (44, vZ), (45, (vB false)), (4, (vI k)), (5, (vB false))] ?_
    have pe : posK ms key = k.toNat := posK_is (by omega) i6 (fun x hx => absurd (List.getElem?_eq_some_iff.1 hx).1 (by omega))
    have pn := pos_end ok (show posK ms key = ms.length by omega)
    exact end_ev [] (vT #[(vI k), (vB false)]) (hK _ _ (⟨by rw [pe, decide_eq_false pn, show ((k.toNat : Nat) : Int) = k by omega], x3⟩))
theorem rf_of {T S : TypeId} {h : Heap} {t : Nat} {m : Sto} {a b : Option Addr} {c d : Nat} {xs : List ByteArray} {ys : List CntM} {n1 n2 : Nat} (hk : ksL m = xs) (hc : csL m = ys) (e1 : xs.length = n1) (e2 : ys.length = n2) (hr : h[t]? = some (.cells #[.bool true, .slice a n1 c, .slice b n2 d] T (0, 0))) (h1 : OwnAt h 9 strc xs (.slice a n1 c)) (h2 : OwnAt h S cntc ys (.slice b n2 d)) :
    RfAt T S h (fun z => z = t ∨ blk (.slice a n1 c) z ∨ blk (.slice b n2 d) z) t m := by
  subst hk; subst hc; subst e1; subst e2; exact rf_new hr h1 h2
theorem ks_app {m : Sto} {k : ByteArray} {ph d : Int} : ksL (apSM m k ph d) = ksL m := by unfold apSM ksL; split; exact setK_keys _ _ _; rfl
theorem csL_at {m : Sto} {j : Nat} {c : CntM} (h : (csL m)[j]? = some c) : ∃ k, m[j]? = some (k, c) := by
  unfold csL at h
  rw [List.getElem?_map] at h
  cases q : m[j]? with
  | none => rw [q] at h; cases h
  | some p => rw [q] at h; simp only [Option.map_some, Option.some.injEq] at h; exact ⟨p.1, by rw [← h]⟩
theorem names_at {m : Sto} (w : WfM m) {j : Nat} {k : ByteArray} (h : (ksL m)[j]? = some k) : nameB k = true := by
  obtain ⟨p, hp, rfl⟩ := List.mem_map.1 (List.mem_of_getElem? h); exact w.names p hp
theorem quiet_no {m : Sto} {j : Nat} {k : ByteArray} {c : CntM} (h : m[j]? = some (k, c)) (hq : ¬ c.up = 0 ∨ ¬ c.dn = 0) : quietB m = false := by
  refine Bool.eq_false_iff.2 fun w => ?_
  have := List.all_eq_true.1 w _ (List.mem_of_getElem? h)
  simp at this; omega
theorem vals_next {m : Sto} {j : Nat} {k : ByteArray} {c : CntM} (h : m[j]? = some (k, c)) : valsL (m.take (j + 1)) = valsL (m.take j) ++ [c.v] := valsL_next h
theorem filt_next' {l : List ByteArray} {F : ByteArray → Bool} {j : Nat} {x : ByteArray} (h : l[j]? = some x) : (l.take (j + 1)).filter F = (l.take j).filter F ++ if F x = true then [x] else [] := by
  rw [take_next h, List.filter_append, List.filter_cons]; split <;> rfl
theorem shl_i64 {t : TypeId} {a d : Int} {k : Nat} (hd : d = 2 ^ k) (hk : k ≤ 63) (h : -9223372036854775808 ≤ a * d ∧ a * d ≤ 9223372036854775807) : binA Tryz.prog .shl t (.int .i64 a) (.int .u64 (k : Int)) = some (.int .i64 (a * d)) := by
  simp only [binA, shiftA]
  rw [if_pos (.inl trivial), if_neg (by omega), show min ((k : Int)).toNat IntKind.i64.bits = k by simp [IntKind.bits]; omega, ← hd]
  congr 2
  rw [IntKind.wrap_i64]; omega
set_option maxHeartbeats 4000000 in
theorem sget_ok (h : Heap) {O : Nat → Prop} {t : Nat} {ms : Sto} (hT : RfAt 53 30 h O t ms) (ok : WfM ms) (k : ByteArray) : WCall Tryz.prog 20 #[(vP t 0), (vS k)] h (fun v h1 => v = (Value.tuple #[(Value.agg #[(vI ((getC ms k).v)), (vI ((getC ms k).up)), (vI ((getC ms k).dn)), (vI ((getC ms k).lo)), (vI ((getC ms k).hi))]), (vI (getE ms k))]) ∧ Ext h h1) := by
  have hT' := hT
  obtain ⟨ka, ca, kc, cc, T⟩ := hT
  have kl := ksL_len ms
  have cl := csL_len ms
  have few := ok.few
  obtain ⟨b1, eb2⟩ : ∃ zq, zq = h.size := ⟨_, rfl⟩
  obtain ⟨h3, e4⟩ : ∃ zq, zq = h.push (.cells #[(vI 0), (vI 0), (vI 0), (vI 0), (vI 0)] 30 (0, 0)) := ⟨_, rfl⟩
  have f5 := push_new e4
  rw [← eb2] at f5
  have x6 : Ext h h3 := by rw [e4]; exact Ext.push _ _
  have o7 : h.size ≤ b1 := by have := (Ext.refl h).size; omega
  have x8 := (Ext.refl h).trans x6
  obtain ⟨_, _, sn9, rfl, rfl⟩ := svalid_ok h3 (x8 _ _ T.row)
  obtain ⟨_, h10, s11, rfl, x12⟩ := at_ok h3 (hT'.keep fun b r _ q => x8 b r q) ok k
  have qpl13 := posK_le ms k
  have f14 := x12 _ _ f5
  have x15 := x8.trans x12
  by_cases c16 : ((getE ms k) : Int) = 0
  · have pl17 := pos_lt ok c16
    obtain ⟨i18, v19, e20, l21, g22⟩ := list_at (csL ms) (e := (((posK ms k : Nat) : Int))) (by omega) (by first | omega | (simp only [List.length_set, List.length_append, List.length_singleton]; omega))
    obtain ⟨b23, o24, k25, q26, a27⟩ := (T.cs.slice cntc_size).at cntc_size g22
    obtain ⟨h28, e29⟩ : ∃ zq, zq = h10.setIfInBounds b1 (.cells #[(vI (v19.v)), (vI (v19.up)), (vI (v19.dn)), (vI (v19.lo)), (vI (v19.hi))] 30 (0, 0)) := ⟨_, rfl⟩
    have f30 := set_same e29 f14
    have x31 := Ext.setNew x15 e29 o7
    have ge := pos_get ok c16 g22 (by omega)
    exact hCall_ev [evA 0 0 eb2 e4, evF 1 1 sn9, evF 3 2 (show SoundCall Tryz.prog 30 #[(vP t 0), (vS k)] h3 (vT #[(vI (((posK ms k : Nat) : Int))), (vB true)]) h10 from (by have w9 := s11; rw [decide_eq_true c16] at w9; exact w9)), evC 6 3 2 agg51 (x15 _ _ T.row), evV 6 5 (vP b23 o24) (show indexAddrA Tryz.prog 51 (vL ca ((csL ms).length) cc) (vI (((posK ms k : Nat) : Int))) = some (vP b23 o24) from a27 und51 size30 e20), evV 6 6 (vA #[(vI v19.v), (vI v19.up), (vI v19.dn), (vI v19.lo), (vI v19.hi)]) (show loadT Tryz.prog h10 30 (vP b23 o24) = some (vA #[(vI v19.v), (vI v19.up), (vI v19.dn), (vI v19.lo), (vI v19.hi)]) from (k25.keep fun b r _ q => x15 b r q).agg (j := 0) agg30 size30 (show 0 + 5 ≤ 5 by decide) (by kernel_rfl)), evUw 6 7 size30 f14 e29] [evLw 0 0 agg30 size30 f30, evR (vI 0)] (vT #[(vA #[(vI v19.v), (vI v19.up), (vI v19.dn), (vI v19.lo), (vI v19.hi)]), (vI 0)]) h28 ⟨by rw [← ge, c16], x31⟩
  · obtain ⟨h32, e33⟩ : ∃ zq, zq = h10.setIfInBounds b1 (.cells #[(vI 0), (vI 0), (vI 0), (vI 0), (vI 0)] 30 (0, 0)) := ⟨_, rfl⟩
    have f34 := set_same e33 f14
    have x35 := Ext.setNew x15 e33 o7
    exact hCall_ev [evA 0 0 eb2 e4, evF 1 1 sn9, evF 3 2 (show SoundCall Tryz.prog 30 #[(vP t 0), (vS k)] h3 (vT #[(vI (((posK ms k : Nat) : Int))), (vB false)]) h10 from (by have w9 := s11; rw [decide_eq_false c16] at w9; exact w9)), evUw 5 1 size30 f14 e33] [evLw 0 0 agg30 size30 f34, evR (vI 5)] (vT #[(vA #[(vI 0), (vI 0), (vI 0), (vI 0), (vI 0)]), (vI 5)]) h32 ⟨by rw [(getE_ne c16).2.1, (getE_ne c16).2.2]; rfl, x35⟩
set_option maxRecDepth 10000 in
set_option maxHeartbeats 4000000 in
theorem sput_ok (h : Heap) {O : Nat → Prop} {t : Nat} {ms : Sto} (hT : RfAt 53 30 h O t ms) (ok : WfM ms) (k : ByteArray) (hk9 : k.size ≤ 9223372036854775807) (c : CntM) : WCall Tryz.prog 9 #[(vP t 0), (vS k), (Value.agg #[(vI (c.v)), (vI (c.up)), (vI (c.dn)), (vI (c.lo)), (vI (c.hi))])] h (fun v h1 => v = .int .i64 (putE ms k c) ∧ Chg O h h1 ∧ ∃ O', RfAt 53 30 h1 O' t (putM ms k c) ∧ ∀ b, O' b → O b ∨ h.size ≤ b) := by
  have hT' := hT
  obtain ⟨ka, ca, kc, cc, T⟩ := hT
  have kl := ksL_len ms
  have cl := csL_len ms
  have few := ok.few
  suffices H : ∀ K : Value → Heap → Prop, (∀ v h1, (fun v h1 => v = .int .i64 (putE ms k c) ∧ Chg O h h1 ∧ ∃ O', RfAt 53 30 h1 O' t (putM ms k c) ∧ ∀ b, O' b → O b ∨ h.size ≤ b) v h1 → K v h1) → WCall Tryz.prog 9 #[(vP t 0), (vS k), (Value.agg #[(vI (c.v)), (vI (c.up)), (vI (c.dn)), (vI (c.lo)), (vI (c.hi))])] h K from H _ fun _ _ q => q
  intro K hK
  refine wcall_at { tmps := #[(vP t 0), (vS k), (vA #[(vI c.v), (vI c.up), (vI c.dn), (vI c.lo), (vI c.hi)]), vZ, vZ, vZ, vZ, vZ, vZ, vZ, vZ, vZ, vZ, vZ, vZ, vZ, vZ, vZ, vZ, vZ, vZ, vZ, vZ, vZ, vZ, vZ, vZ, vZ, vZ, vZ, vZ, vZ, vZ, vZ, vZ, vZ, vZ, vZ, vZ, vZ, vZ, vZ, vZ, vZ, vZ, vZ, vZ, vZ, vZ, vZ, vZ, vZ, vZ, vZ, vZ, vZ, vZ, vZ, vZ, vZ, vZ, vZ, vZ, vZ, vZ, vZ, vZ, vZ, vZ, vZ, vZ, vZ, vZ], defers := [] } (by kernel_rfl) ?_
  obtain ⟨b1, eb2⟩ : ∃ zq, zq = h.size := ⟨_, rfl⟩
  obtain ⟨h3, e4⟩ : ∃ zq, zq = h.push (.cells #[(vI (c.v)), (vI (c.up)), (vI (c.dn)), (vI (c.lo)), (vI (c.hi))] 30 (0, 0)) := ⟨_, rfl⟩
  have f5 := push_new e4
  rw [← eb2] at f5
  have n6 : b1 ≠ t := by have := row_lt T.row; omega
  have x7 : Ext h h3 := by rw [e4]; exact Ext.push _ _
  have o8 : h.size ≤ b1 := by have := (Ext.refl h).size; omega
  have x9 := (Ext.refl h).trans x7
  obtain ⟨_, _, sn10, rfl, rfl⟩ := svalid_ok h3 (x9 _ _ T.row)
  obtain ⟨_, _, sn11, rfl, rfl⟩ := rname_ok h3 k (by omega)
  rcases Bool.eq_false_or_eq_true ((nameB k)) with c12 | c12
  · obtain ⟨_, h13, s14, rfl, x15⟩ := schkC_ok h3 (c.v) (c.up) (c.dn) (c.lo) (c.hi)
    have f17 := x15 _ _ f5
    have x18 := x9.trans x15
    rcases Bool.eq_false_or_eq_true (okc c.v c.up c.dn c.lo c.hi) with c19 | c19
    · obtain ⟨_, h20, s21, rfl, x22⟩ := at_ok h13 (hT'.keep fun b r _ q => x18 b r q) ok k
      have qpl23 := posK_le ms k
      have f24 := x22 _ _ f17
      have x25 := x18.trans x22
      by_cases c26 : ((getE ms k) : Int) = 0
      · have pl27 := pos_lt ok c26
        refine wc_ev [evA 0 0 eb2 e4, evF 1 1 sn10, evFb 3 1 c12 sn11, evLw 5 0 agg30 size30 f5, evF 5 1 (by rw [if_pos c19] at s14; exact s14), evF 7 2 (show SoundCall Tryz.prog 30 #[(vP t 0), (vS k)] h13 (vT #[(vI (((posK ms k : Nat) : Int))), (vB true)]) h20 from (by have w9 := s21; rw [decide_eq_true c26] at w9; exact w9))] .ret h20 [(5, (vP b1 0)), (6, (vI 0)), (9, (vP t 0)), (10, (vB true)), (11, (vB false)), (12, (vS k)), (13, (vB true)), (14, (vB false)), (15, (vA #[(vI c.v), (vI c.up), (vI c.dn), (vI c.lo), (vI c.hi)])), (16, (vI 0)), (17, (vB false)), (19, (vP t 0)), (20, (vS k)), (21, (vT #[(vI (((posK ms k : Nat) : Int))), (vB true)])), (18, (vT #[(vI (((posK ms k : Nat) : Int))), (vB true)])), (22, (vI (((posK ms k : Nat) : Int)))), (23, (vB true)), (7, (vI (((posK ms k : Nat) : Int)))), (8, (vB true)), (24, (vB true)), (6, (vI 6))] ?_
        have ee : putE ms k c = 6 := by unfold putE; rw [if_pos c12, if_pos (show okC c = true from c19), if_pos c26]
        exact end_ev [] (vI 6) (hK _ _ (⟨by rw [ee], Chg.ext x25, O, by unfold putM; rw [ee, if_neg (by decide)]; exact hT'.keep fun b r _ q => x25 b r q, fun b hb => .inl hb⟩))
      · by_cases c28 : (64 : Int) ≤ (((ksL ms).length : Nat))
        · refine wc_ev [evA 0 0 eb2 e4, evF 1 1 sn10, evFb 3 1 c12 sn11, evLw 5 0 agg30 size30 f5, evF 5 1 (by rw [if_pos c19] at s14; exact s14), evF 7 2 (show SoundCall Tryz.prog 30 #[(vP t 0), (vS k)] h13 (vT #[(vI (((posK ms k : Nat) : Int))), (vB false)]) h20 from (by have w9 := s21; rw [decide_eq_false c26] at w9; exact w9)), evC 10 3 1 agg40 (x25 _ _ T.row), geT 10 5 3 c28] .ret h20 [(5, (vP b1 0)), (6, (vI 0)), (9, (vP t 0)), (10, (vB true)), (11, (vB false)), (12, (vS k)), (13, (vB true)), (14, (vB false)), (15, (vA #[(vI c.v), (vI c.up), (vI c.dn), (vI c.lo), (vI c.hi)])), (16, (vI 0)), (17, (vB false)), (19, (vP t 0)), (20, (vS k)), (21, (vT #[(vI (((posK ms k : Nat) : Int))), (vB false)])), (18, (vT #[(vI (((posK ms k : Nat) : Int))), (vB false)])), (22, (vI (((posK ms k : Nat) : Int)))), (23, (vB false)), (7, (vI (((posK ms k : Nat) : Int)))), (8, (vB false)), (24, (vB false)), (25, (vP t 0)), (26, (vP t 0)), (27, (vP t 1)), (28, (vL ka ((ksL ms).length) kc)), (29, (vI (((ksL ms).length : Nat)))), (30, (vB true)), (6, (vI 4))] ?_
          have ee : putE ms k c = 4 := by unfold putE; rw [if_pos c12, if_pos (show okC c = true from c19), if_neg c26, if_pos (by omega)]
          exact end_ev [] (vI 4) (hK _ _ (⟨by rw [ee], Chg.ext x25, O, by unfold putM; rw [ee, if_neg (by decide)]; exact hT'.keep fun b r _ q => x25 b r q, fun b hb => .inl hb⟩))
        · obtain ⟨b29, eb30⟩ : ∃ zq, zq = h20.size := ⟨_, rfl⟩
          obtain ⟨h31, e32⟩ : ∃ zq, zq = h20.push (.cells #[] 9 (0, 0)) := ⟨_, rfl⟩
          have f33 := push_new e32
          rw [← eb30] at f33
          have n34 : b29 ≠ b1 := by have := row_lt f24; omega
          have x35 : Ext h20 h31 := by rw [e32]; exact Ext.push _ _
          have o36 : h.size ≤ b29 := by have := x25.size; omega
          have f37 := x35 _ _ f24
          have x38 := x25.trans x35
          obtain ⟨_, p39⟩ := own_pre (t := 40) strc_size und40 size9 (by decide) T.ks (kd := .i64) (n := ((((posK ms k : Nat) : Int)) : Int)) (by omega) (by omega)
          have e40 := List.length_take (i := ((((posK ms k : Nat) : Int)) : Int).toNat) (l := (ksL ms))
          obtain ⟨b41, eb42⟩ : ∃ zq, zq = h31.size := ⟨_, rfl⟩
          obtain ⟨h43, e44⟩ : ∃ zq, zq = h31.push (.cells #[(vS k)] 9 (0, 0)) := ⟨_, rfl⟩
          have f45 := push_new e44
          rw [← eb42] at f45
          have x46 : Ext h31 h43 := by rw [e44]; exact Ext.push _ _
          have o47 : h.size ≤ b41 := by have := x38.size; omega
          have f48 := x46 _ _ f37
          have f49 := x46 _ _ f33
          have x50 := x38.trans x46
          obtain ⟨_, p51⟩ := own_suf (t := 40) strc_size und40 size9 (by decide) T.ks (kd := .i64) (n := ((((posK ms k : Nat) : Int)) : Int)) (by omega) (by omega)
          have e52 := List.length_drop (i := ((((posK ms k : Nat) : Int)) : Int).toNat) (l := (ksL ms))
          obtain ⟨w53, h54, e55, p56, x57, n58⟩ := own_clone und40 sizeb9 zero9 rfl (by decide) strc_size (ys := ((ksL ms).take ((((posK ms k : Nat) : Int)) : Int).toNat)) f49 (p39.keep fun b r _ q => x50 b r q) (by omega) (by unfold maxLen; omega)
          obtain ⟨a59, c60, rfl⟩ := (p56.slice strc_size).len
          have z61 : b29 < h43.size := row_lt f49
          have n62 : ∀ zz, blk (Value.slice a59 (((ksL ms).take ((((posK ms k : Nat) : Int)) : Int).toNat).length) (c60)) zz → zz = b29 ∨ h43.size ≤ zz := fun zz hz => by rcases n58 zz hz with e | e <;> omega
          have n63 : ∀ zz, blk (Value.slice a59 (((ksL ms).take ((((posK ms k : Nat) : Int)) : Int).toNat).length) (c60)) zz → ¬ zz = b1 := fun zz hz ez => by have := n34; have := row_lt f48; rcases n62 zz hz with g | g <;> omega
          have o64 : ∀ zz, blk (Value.slice a59 (((ksL ms).take ((((posK ms k : Nat) : Int)) : Int).toNat).length) (c60)) zz → h.size ≤ zz := fun zz hz => by have := o36; have := x50.size; rcases n62 zz hz with g | g <;> omega
          have f65 := x57 _ _ f48
          have f66 := x57 _ _ f45
          have x67 := x50.trans x57
          obtain ⟨w68, h69, e70, p71, c72, n73, z74⟩ := own_append und40 sizeb9 zero9 rfl (by decide) strc_size (x := k) p56 f66 rfl (by omega) (by unfold maxLen; omega)
          obtain ⟨a75, c76, rfl⟩ := (p71.slice strc_size).len
          have z77 : h.size ≤ h54.size := x67.size
          have x78 : Ext h _ := (Chg.then (O := fun _ => False) (Chg.ext x67) c72 (fun b hb => .inr (o64 b hb))).toExt'
          have f79 := c72.same _ _ f65 (fun hb => n63 _ hb rfl)
          have n80 : ∀ zz, blk (Value.slice a75 ((((ksL ms).take ((((posK ms k : Nat) : Int)) : Int).toNat) ++ [k]).length) (c76)) zz → ¬ zz = b1 := fun zz hz ez => by have := n73 zz hz; have := row_lt f65; omega
          have n81 : ∀ zz, blk (Value.slice a75 ((((ksL ms).take ((((posK ms k : Nat) : Int)) : Int).toNat) ++ [k]).length) (c76)) zz → ¬ zz = t := fun zz hz ez => by have := n73 zz hz; have := row_lt (x67 _ _ T.row); omega
          have o82 : ∀ zz, blk (Value.slice a75 ((((ksL ms).take ((((posK ms k : Nat) : Int)) : Int).toNat) ++ [k]).length) (c76)) zz → h.size ≤ zz := fun zz hz => by have := n73 zz hz; have := z77; omega
          obtain ⟨w83, h84, e85, p86, c87, n88⟩ := own_append_many und40 sizeb9 zero9 rfl (by decide) strc_size strc_one (xs := (((ksL ms).take ((((posK ms k : Nat) : Int)) : Int).toNat) ++ [k])) (ys := ((ksL ms).drop ((((posK ms k : Nat) : Int)) : Int).toNat)) p71 (p51.keep fun b r _ q => x78 b r q) (by simp only [List.length_append, List.length_take, List.length_drop, List.length_singleton] at *; omega) (by unfold maxLen; simp only [List.length_append, List.length_take, List.length_drop, List.length_singleton] at *; omega)
          obtain ⟨a89, c90, rfl⟩ := (p86.slice strc_size).len
          have z91 : h.size ≤ h69.size := x78.size
          have x92 : Ext h _ := (Chg.then (O := fun _ => False) (Chg.ext x78) c87 (fun b hb => .inr (o82 b hb))).toExt'
          have f93 := c87.same _ _ f79 (fun hb => n80 _ hb rfl)
          have z94 : h.size ≤ h69.size := x78.size
          have n95 : ∀ zz, (blk (Value.slice a89 (((((ksL ms).take ((((posK ms k : Nat) : Int)) : Int).toNat) ++ [k]) ++ ((ksL ms).drop ((((posK ms k : Nat) : Int)) : Int).toNat)).length) (c90))) zz → ¬ zz = t := fun zz hz ez => by rcases n88 zz hz with g | g; (exact n81 _ g ez); have := row_lt (x78 _ _ T.row); omega
          have o96 : ∀ zz, (blk (Value.slice a89 (((((ksL ms).take ((((posK ms k : Nat) : Int)) : Int).toNat) ++ [k]) ++ ((ksL ms).drop ((((posK ms k : Nat) : Int)) : Int).toNat)).length) (c90))) zz → h.size ≤ zz := fun zz hz => by rcases n88 zz hz with g | g; (exact o82 zz g); omega
          obtain ⟨h97, e98⟩ : ∃ zq, zq = h84.setIfInBounds t (.cells #[(vB true), (Value.slice a89 (((((ksL ms).take ((((posK ms k : Nat) : Int)) : Int).toNat) ++ [k]) ++ ((ksL ms).drop ((((posK ms k : Nat) : Int)) : Int).toNat)).length) (c90)), (Value.slice ca ((csL ms).length) (cc))] 53 (0, 0)) := ⟨_, rfl⟩
          have f99 := set_same e98 (x92 _ _ T.row)
          have f100 := set_other e98 f93 n6.symm
          have p101 := (T.cs.keep fun b r _ q => x92 b r q).keep fun b r hb q => (Chg.set e98).same b r q ((fun b hb => (T.cs.keep fun b r _ q => x92 b r q).ne (x92 _ _ T.row) (by decide) hb) b hb)
          have p102 := p86.keep fun b r hb q => (Chg.set e98).same b r q (n95 b hb)
          have x103 := (Chg.ext (O := O) x92).then (Chg.set e98) (fun b hb => by subst hb; exact (.inl ((T.foot _).2 (.inl rfl))))
          obtain ⟨b104, eb105⟩ : ∃ zq, zq = h97.size := ⟨_, rfl⟩
          obtain ⟨h106, e107⟩ : ∃ zq, zq = h97.push (.cells #[] 30 (0, 0)) := ⟨_, rfl⟩
          have f108 := push_new e107
          rw [← eb105] at f108
          have n109 : b104 ≠ t := by have := row_lt f99; omega
          have n110 : ∀ zz, (blk (Value.slice ca ((csL ms).length) (cc))) zz → ¬ zz = b104 := fun zz hz ez => by have := p101.blk_lt hz; omega
          have n111 : ∀ zz, (blk (Value.slice a89 (((((ksL ms).take ((((posK ms k : Nat) : Int)) : Int).toNat) ++ [k]) ++ ((ksL ms).drop ((((posK ms k : Nat) : Int)) : Int).toNat)).length) (c90))) zz → ¬ zz = b104 := fun zz hz ez => by have := p102.blk_lt hz; omega
          have x112 : Ext h97 h106 := by rw [e107]; exact Ext.push _ _
          have o113 : h.size ≤ b104 := by have := x103.size; omega
          have f114 := x112 _ _ f100
          have f115 := x112 _ _ f99
          have p116 := p101.keep fun b r _ q => x112 b r q
          have p117 := p102.keep fun b r _ q => x112 b r q
          have x118 := x103.trans (Chg.ext x112)
          obtain ⟨_, p119⟩ := own_pre (t := 51) cntc_size und51 size30 (by decide) p116 (kd := .i64) (n := ((((posK ms k : Nat) : Int)) : Int)) (by omega) (by omega)
          have e120 := List.length_take (i := ((((posK ms k : Nat) : Int)) : Int).toNat) (l := (csL ms))
          obtain ⟨b121, eb122⟩ : ∃ zq, zq = h106.size := ⟨_, rfl⟩
          obtain ⟨h123, e124⟩ : ∃ zq, zq = h106.push (.cells #[(vI (c.v)), (vI (c.up)), (vI (c.dn)), (vI (c.lo)), (vI (c.hi))] 30 (0, 0)) := ⟨_, rfl⟩
          have f125 := push_new e124
          rw [← eb122] at f125
          have x126 : Ext h106 h123 := by rw [e124]; exact Ext.push _ _
          have o127 : h.size ≤ b121 := by have := x118.size; omega
          have f128 := x126 _ _ f114
          have f129 := x126 _ _ f115
          have f130 := x126 _ _ f108
          have p131 := p116.keep fun b r _ q => x126 b r q
          have p132 := p117.keep fun b r _ q => x126 b r q
          have p133 := p119.keep fun b r _ q => x126 b r q
          have x134 := x118.trans (Chg.ext x126)
          obtain ⟨_, p135⟩ := own_suf (t := 51) cntc_size und51 size30 (by decide) p131 (kd := .i64) (n := ((((posK ms k : Nat) : Int)) : Int)) (by omega) (by omega)
          have e136 := List.length_drop (i := ((((posK ms k : Nat) : Int)) : Int).toNat) (l := (csL ms))
          obtain ⟨w137, h138, e139, p140, x141, n142⟩ := own_clone und51 sizeb30 zero30 rfl (by decide) cntc_size (ys := ((csL ms).take ((((posK ms k : Nat) : Int)) : Int).toNat)) f130 p133 (by omega) (by unfold maxLen; omega)
          obtain ⟨a143, c144, rfl⟩ := (p140.slice cntc_size).len
          have z145 : b104 < h123.size := row_lt f130
          have n146 : ∀ zz, blk (Value.slice a143 (((csL ms).take ((((posK ms k : Nat) : Int)) : Int).toNat).length) (c144)) zz → zz = b104 ∨ h123.size ≤ zz := fun zz hz => by rcases n142 zz hz with e | e <;> omega
          have n147 : ∀ zz, blk (Value.slice a143 (((csL ms).take ((((posK ms k : Nat) : Int)) : Int).toNat).length) (c144)) zz → ¬ zz = t := fun zz hz ez => by have := n109; have := row_lt f129; rcases n146 zz hz with g | g <;> omega
          have n148 : ∀ zz, blk (Value.slice a143 (((csL ms).take ((((posK ms k : Nat) : Int)) : Int).toNat).length) (c144)) zz → ¬ (blk (Value.slice ca ((csL ms).length) (cc))) zz := fun zz hz ez => by have := p131.blk_lt ez; rcases n146 zz hz with g | g; (subst g; exact n110 _ ez rfl); omega
          have n149 : ∀ zz, blk (Value.slice a143 (((csL ms).take ((((posK ms k : Nat) : Int)) : Int).toNat).length) (c144)) zz → ¬ (blk (Value.slice a89 (((((ksL ms).take ((((posK ms k : Nat) : Int)) : Int).toNat) ++ [k]) ++ ((ksL ms).drop ((((posK ms k : Nat) : Int)) : Int).toNat)).length) (c90))) zz := fun zz hz ez => by have := p132.blk_lt ez; rcases n146 zz hz with g | g; (subst g; exact n111 _ ez rfl); omega
          have n150 : ∀ zz, blk (Value.slice a143 (((csL ms).take ((((posK ms k : Nat) : Int)) : Int).toNat).length) (c144)) zz → ¬ (blk (Value.slice (suf ca (((((posK ms k : Nat) : Int)) : Int).toNat * 5)) (((csL ms).drop ((((posK ms k : Nat) : Int)) : Int).toNat).length) ((cc - ((((posK ms k : Nat) : Int)) : Int).toNat)))) zz := fun zz hz ez => by have := p135.blk_lt ez; rcases n146 zz hz with g | g; (subst g; exact (fun zz w1 w2 => n110 zz (suf_blk w1) w2) _ ez rfl); omega
          have o151 : ∀ zz, blk (Value.slice a143 (((csL ms).take ((((posK ms k : Nat) : Int)) : Int).toNat).length) (c144)) zz → h.size ≤ zz := fun zz hz => by have := o113; have := x134.size; rcases n146 zz hz with g | g <;> omega
          have f152 := x141 _ _ f128
          have f153 := x141 _ _ f129
          have f154 := x141 _ _ f125
          have p155 := p131.keep fun b r _ q => x141 b r q
          have p156 := p132.keep fun b r _ q => x141 b r q
          have p157 := p135.keep fun b r _ q => x141 b r q
          have x158 := x134.trans (Chg.ext x141)
          obtain ⟨w159, h160, e161, p162, c163, n164, z165⟩ := own_append und51 sizeb30 zero30 rfl (by decide) cntc_size (x := c) p140 f154 rfl (by omega) (by unfold maxLen; omega)
          obtain ⟨a166, c167, rfl⟩ := (p162.slice cntc_size).len
          have z168 : h.size ≤ h138.size := x158.size
          have x169 := x158.then c163 (fun b hb => .inr (o151 b hb))
          have f170 := c163.same _ _ f153 (fun hb => n147 _ hb rfl)
          have p171 := p155.keep fun b r hb q => c163.same b r q ((fun b hb hb2 => n148 b hb2 hb) b hb)
          have p172 := p156.keep fun b r hb q => c163.same b r q ((fun b hb hb2 => n149 b hb2 hb) b hb)
          have p173 := p157.keep fun b r hb q => c163.same b r q ((fun b hb hb2 => n150 b hb2 hb) b hb)
          have n174 : ∀ zz, blk (Value.slice a166 ((((csL ms).take ((((posK ms k : Nat) : Int)) : Int).toNat) ++ [c]).length) (c167)) zz → ¬ zz = t := fun zz hz ez => by have := n164 zz hz; have := row_lt f153; omega
          have n175 : ∀ zz, blk (Value.slice a166 ((((csL ms).take ((((posK ms k : Nat) : Int)) : Int).toNat) ++ [c]).length) (c167)) zz → ¬ (blk (Value.slice a89 (((((ksL ms).take ((((posK ms k : Nat) : Int)) : Int).toNat) ++ [k]) ++ ((ksL ms).drop ((((posK ms k : Nat) : Int)) : Int).toNat)).length) (c90))) zz := fun zz hz ez => by have := n164 zz hz; have := p156.blk_lt ez; omega
          have o176 : ∀ zz, blk (Value.slice a166 ((((csL ms).take ((((posK ms k : Nat) : Int)) : Int).toNat) ++ [c]).length) (c167)) zz → h.size ≤ zz := fun zz hz => by have := n164 zz hz; have := z168; omega
          obtain ⟨w177, h178, e179, p180, c181, n182⟩ := own_append_many und51 sizeb30 zero30 rfl (by decide) cntc_size cntc_one (xs := (((csL ms).take ((((posK ms k : Nat) : Int)) : Int).toNat) ++ [c])) (ys := ((csL ms).drop ((((posK ms k : Nat) : Int)) : Int).toNat)) p162 p173 (by simp only [List.length_append, List.length_take, List.length_drop, List.length_singleton] at *; omega) (by unfold maxLen; simp only [List.length_append, List.length_take, List.length_drop, List.length_singleton] at *; omega)
          obtain ⟨a183, c184, rfl⟩ := (p180.slice cntc_size).len
          have z185 : h.size ≤ h160.size := x169.size
          have x186 := x169.then c181 (fun b hb => .inr (o176 b hb))
          have f187 := c181.same _ _ f170 (fun hb => n174 _ hb rfl)
          have p188 := p172.keep fun b r hb q => c181.same b r q ((fun b hb hb2 => n175 b hb2 hb) b hb)
          have z189 : h.size ≤ h160.size := x169.size
          have n190 : ∀ zz, (blk (Value.slice a183 (((((csL ms).take ((((posK ms k : Nat) : Int)) : Int).toNat) ++ [c]) ++ ((csL ms).drop ((((posK ms k : Nat) : Int)) : Int).toNat)).length) (c184))) zz → ¬ zz = t := fun zz hz ez => by rcases n182 zz hz with g | g; (exact n174 _ g ez); have := row_lt f170; omega
          have o191 : ∀ zz, (blk (Value.slice a183 (((((csL ms).take ((((posK ms k : Nat) : Int)) : Int).toNat) ++ [c]) ++ ((csL ms).drop ((((posK ms k : Nat) : Int)) : Int).toNat)).length) (c184))) zz → h.size ≤ zz := fun zz hz => by rcases n182 zz hz with g | g; (exact o176 zz g); omega
          obtain ⟨h192, e193⟩ : ∃ zq, zq = h178.setIfInBounds t (.cells #[(vB true), (Value.slice a89 (((((ksL ms).take ((((posK ms k : Nat) : Int)) : Int).toNat) ++ [k]) ++ ((ksL ms).drop ((((posK ms k : Nat) : Int)) : Int).toNat)).length) (c90)), (Value.slice a183 (((((csL ms).take ((((posK ms k : Nat) : Int)) : Int).toNat) ++ [c]) ++ ((csL ms).drop ((((posK ms k : Nat) : Int)) : Int).toNat)).length) (c184))] 53 (0, 0)) := ⟨_, rfl⟩
          have f194 := set_same e193 f187
          have p195 := p188.keep fun b r hb q => (Chg.set e193).same b r q (n95 b hb)
          have p196 := p180.keep fun b r hb q => (Chg.set e193).same b r q (n190 b hb)
          have x197 := x186.then (Chg.set e193) (fun b hb => by subst hb; exact (.inl ((T.foot _).2 (.inl rfl))))
          refine wc_ev [evA 0 0 eb2 e4, evF 1 1 sn10, evFb 3 1 c12 sn11, evLw 5 0 agg30 size30 f5, evF 5 1 (by rw [if_pos c19] at s14; exact s14), evF 7 2 (show SoundCall Tryz.prog 30 #[(vP t 0), (vS k)] h13 (vT #[(vI (((posK ms k : Nat) : Int))), (vB false)]) h20 from (by have w9 := s21; rw [decide_eq_false c26] at w9; exact w9)), evC 10 3 1 agg40 (x25 _ _ T.row), geF 10 5 3 c28, evS 12 1 0 eb30 e32, evC 12 5 1 agg40 (x38 _ _ T.row), evV 12 7 (Value.slice ka (((ksL ms).take ((((posK ms k : Nat) : Int)) : Int).toNat).length) (kc)) (show sliceA Tryz.prog h31 40 (vL ka ((ksL ms).length) kc) none (some (vI (((posK ms k : Nat) : Int)))) none = some (Value.slice ka (((ksL ms).take ((((posK ms k : Nat) : Int)) : Int).toNat).length) (kc)) from (own_pre strc_size und40 size9 (by decide) (T.ks.keep fun b r _ q => x38 b r q) (kd := .i64) (n := ((((posK ms k : Nat) : Int)) : Int)) (by omega) (by omega)).1), evS 12 10 1 eb42 e44, evC 12 15 1 agg40 (x50 _ _ T.row), evV 12 17 (Value.slice (suf ka (((((posK ms k : Nat) : Int)) : Int).toNat * 1)) (((ksL ms).drop ((((posK ms k : Nat) : Int)) : Int).toNat).length) ((kc - ((((posK ms k : Nat) : Int)) : Int).toNat))) (show sliceA Tryz.prog h43 40 (vL ka ((ksL ms).length) kc) (some (vI (((posK ms k : Nat) : Int)))) none none = some (Value.slice (suf ka (((((posK ms k : Nat) : Int)) : Int).toNat * 1)) (((ksL ms).drop ((((posK ms k : Nat) : Int)) : Int).toNat).length) ((kc - ((((posK ms k : Nat) : Int)) : Int).toNat))) from (own_suf strc_size und40 size9 (by decide) (T.ks.keep fun b r _ q => x50 b r q) (kd := .i64) (n := ((((posK ms k : Nat) : Int)) : Int)) (by omega) (by omega)).1), evP 12 8 e55, evV 99 0 undef (show sliceA Tryz.prog h54 40 (vL ka ((ksL ms).length) kc) (some (vI (((posK ms k : Nat) : Int)))) none none = some (Value.slice (suf ka (((((posK ms k : Nat) : Int)) : Int).toNat * 1)) (((ksL ms).drop ((((posK ms k : Nat) : Int)) : Int).toNat).length) ((kc - ((((posK ms k : Nat) : Int)) : Int).toNat))) from (own_suf strc_size und40 size9 (by decide) (T.ks.keep fun b r _ q => x67 b r q) (kd := .i64) (n := ((((posK ms k : Nat) : Int)) : Int)) (by omega) (by omega)).1), evC 99 0 1 agg40 (x67 _ _ T.row), evP 12 11 e70, evV 99 0 undef (show sliceA Tryz.prog h69 40 (vL ka ((ksL ms).length) kc) (some (vI (((posK ms k : Nat) : Int)))) none none = some (Value.slice (suf ka (((((posK ms k : Nat) : Int)) : Int).toNat * 1)) (((ksL ms).drop ((((posK ms k : Nat) : Int)) : Int).toNat).length) ((kc - ((((posK ms k : Nat) : Int)) : Int).toNat))) from (own_suf strc_size und40 size9 (by decide) (T.ks.keep fun b r _ q => x78 b r q) (kd := .i64) (n := ((((posK ms k : Nat) : Int)) : Int)) (by omega) (by omega)).1), evC 99 0 1 agg40 (x78 _ _ T.row), evP 12 18 e85, evH 12 21 undef h97 (show (storeT Tryz.prog h84 40 (vP t 1) (Value.slice a89 (((((ksL ms).take ((((posK ms k : Nat) : Int)) : Int).toNat) ++ [k]) ++ ((ksL ms).drop ((((posK ms k : Nat) : Int)) : Int).toNat)).length) (c90)) = some h97 ∧ (undef : Value) = undef) from ⟨by rw [e98]; exact store_cells size40 rfl (x92 _ _ T.row) (by decide) (by simp) rfl (by kernel_rfl), rfl⟩), evS 13 1 0 eb105 e107, evC 13 5 2 agg51 f115, evV 13 7 (Value.slice ca (((csL ms).take ((((posK ms k : Nat) : Int)) : Int).toNat).length) (cc)) (show sliceA Tryz.prog h106 51 (vL ca ((csL ms).length) cc) none (some (vI (((posK ms k : Nat) : Int)))) none = some (Value.slice ca (((csL ms).take ((((posK ms k : Nat) : Int)) : Int).toNat).length) (cc)) from (own_pre cntc_size und51 size30 (by decide) p116 (kd := .i64) (n := ((((posK ms k : Nat) : Int)) : Int)) (by omega) (by omega)).1), evLw 13 9 agg30 size30 f114, evS 13 10 1 eb122 e124, evC 13 15 2 agg51 f129, evV 13 17 (Value.slice (suf ca (((((posK ms k : Nat) : Int)) : Int).toNat * 5)) (((csL ms).drop ((((posK ms k : Nat) : Int)) : Int).toNat).length) ((cc - ((((posK ms k : Nat) : Int)) : Int).toNat))) (show sliceA Tryz.prog h123 51 (vL ca ((csL ms).length) cc) (some (vI (((posK ms k : Nat) : Int)))) none none = some (Value.slice (suf ca (((((posK ms k : Nat) : Int)) : Int).toNat * 5)) (((csL ms).drop ((((posK ms k : Nat) : Int)) : Int).toNat).length) ((cc - ((((posK ms k : Nat) : Int)) : Int).toNat))) from (own_suf cntc_size und51 size30 (by decide) p131 (kd := .i64) (n := ((((posK ms k : Nat) : Int)) : Int)) (by omega) (by omega)).1), evP 13 8 e139, evV 99 0 undef (show sliceA Tryz.prog h138 51 (vL ca ((csL ms).length) cc) (some (vI (((posK ms k : Nat) : Int)))) none none = some (Value.slice (suf ca (((((posK ms k : Nat) : Int)) : Int).toNat * 5)) (((csL ms).drop ((((posK ms k : Nat) : Int)) : Int).toNat).length) ((cc - ((((posK ms k : Nat) : Int)) : Int).toNat))) from (own_suf cntc_size und51 size30 (by decide) p155 (kd := .i64) (n := ((((posK ms k : Nat) : Int)) : Int)) (by omega) (by omega)).1), evC 99 0 2 agg51 f153, evLw 99 0 agg30 size30 f152, evP 13 11 e161, evV 99 0 undef (show sliceA Tryz.prog h160 51 (vL ca ((csL ms).length) cc) (some (vI (((posK ms k : Nat) : Int)))) none none = some (Value.slice (suf ca (((((posK ms k : Nat) : Int)) : Int).toNat * 5)) (((csL ms).drop ((((posK ms k : Nat) : Int)) : Int).toNat).length) ((cc - ((((posK ms k : Nat) : Int)) : Int).toNat))) from (own_suf cntc_size und51 size30 (by decide) p171 (kd := .i64) (n := ((((posK ms k : Nat) : Int)) : Int)) (by omega) (by omega)).1), evC 99 0 2 agg51 f170, evP 13 18 e179, evT 13 21 2 size51 f187 e193] .ret h192 [(5, (vP b1 0)), (6, (vI 0)), (9, (vP t 0)), (10, (vB true)), (11, (vB false)), (12, (vS k)), (13, (vB true)), (14, (vB false)), (15, (vA #[(vI c.v), (vI c.up), (vI c.dn), (vI c.lo), (vI c.hi)])), (16, (vI 0)), (17, (vB false)), (19, (vP t 0)), (20, (vS k)), (21, (vT #[(vI (((posK ms k : Nat) : Int))), (vB false)])), (18, (vT #[(vI (((posK ms k : Nat) : Int))), (vB false)])), (22, (vI (((posK ms k : Nat) : Int)))), (23, (vB false)), (7, (vI (((posK ms k : Nat) : Int)))), (8, (vB false)), (24, (vB false)), (25, (vP t 0)), (26, (vP t 0)), (27, (vP t 1)), (28, (vL ka ((ksL ms).length) kc)), (29, (vI (((ksL ms).length : Nat)))), (30, (vB false)), (31, (vP t 0)), (32, (vL (some ⟨b29, 0, none⟩) 0 0)), (33, (vP t 0)), (34, (vP t 0)), (35, (vP t 1)), (36, (vL ka ((ksL ms).length) kc)), (37, (vI (((posK ms k : Nat) : Int)))), (38, (Value.slice ka (((ksL ms).take ((((posK ms k : Nat) : Int)) : Int).toNat).length) (kc))), (40, (vS k)), (41, (vL (some ⟨b41, 0, none⟩) 1 1)), (43, (vP t 0)), (44, (vP t 0)), (45, (vP t 1)), (46, (vL ka ((ksL ms).length) kc)), (47, (vI (((posK ms k : Nat) : Int)))), (48, (Value.slice (suf ka (((((posK ms k : Nat) : Int)) : Int).toNat * 1)) (((ksL ms).drop ((((posK ms k : Nat) : Int)) : Int).toNat).length) ((kc - ((((posK ms k : Nat) : Int)) : Int).toNat)))), (39, (Value.slice a59 (((ksL ms).take ((((posK ms k : Nat) : Int)) : Int).toNat).length) (c60))), (42, (Value.slice a75 ((((ksL ms).take ((((posK ms k : Nat) : Int)) : Int).toNat) ++ [k]).length) (c76))), (49, (Value.slice a89 (((((ksL ms).take ((((posK ms k : Nat) : Int)) : Int).toNat) ++ [k]) ++ ((ksL ms).drop ((((posK ms k : Nat) : Int)) : Int).toNat)).length) (c90))), (50, (vP t 0)), (51, (vP t 1)), (52, (vP t 0)), (53, (vL (some ⟨b104, 0, none⟩) 0 0)), (54, (vP t 0)), (55, (vP t 0)), (56, (vP t 2)), (57, (vL ca ((csL ms).length) cc)), (58, (vI (((posK ms k : Nat) : Int)))), (59, (Value.slice ca (((csL ms).take ((((posK ms k : Nat) : Int)) : Int).toNat).length) (cc))), (61, (vA #[(vI c.v), (vI c.up), (vI c.dn), (vI c.lo), (vI c.hi)])), (62, (vL (some ⟨b121, 0, none⟩) 1 1)), (64, (vP t 0)), (65, (vP t 0)), (66, (vP t 2)), (67, (vL ca ((csL ms).length) cc)), (68, (vI (((posK ms k : Nat) : Int)))), (69, (Value.slice (suf ca (((((posK ms k : Nat) : Int)) : Int).toNat * 5)) (((csL ms).drop ((((posK ms k : Nat) : Int)) : Int).toNat).length) ((cc - ((((posK ms k : Nat) : Int)) : Int).toNat)))), (60, (Value.slice a143 (((csL ms).take ((((posK ms k : Nat) : Int)) : Int).toNat).length) (c144))), (63, (Value.slice a166 ((((csL ms).take ((((posK ms k : Nat) : Int)) : Int).toNat) ++ [c]).length) (c167))), (70, (Value.slice a183 (((((csL ms).take ((((posK ms k : Nat) : Int)) : Int).toNat) ++ [c]) ++ ((csL ms).drop ((((posK ms k : Nat) : Int)) : Int).toNat)).length) (c184))), (71, (vP t 0)), (72, (vP t 2)), (6, (vI 0))] ?_
          have ee : putE ms k c = 0 := by unfold putE; rw [if_pos c12, if_pos (show okC c = true from c19), if_neg c26, if_neg (by omega)]
          have kx : ksL (putM ms k c) = ((((ksL ms).take ((((posK ms k : Nat) : Int)) : Int).toNat) ++ [k]) ++ ((ksL ms).drop ((((posK ms k : Nat) : Int)) : Int).toNat)) := by rw [show putM ms k c = insK k c ms from if_pos ee, ks_ins]; rfl
          have cx : csL (putM ms k c) = ((((csL ms).take ((((posK ms k : Nat) : Int)) : Int).toNat) ++ [c]) ++ ((csL ms).drop ((((posK ms k : Nat) : Int)) : Int).toNat)) := by rw [show putM ms k c = insK k c ms from if_pos ee, cs_ins]; rfl
          exact end_ev [] (vI 0) (hK _ _ (⟨by rw [ee], x197, _, rf_of kx cx rfl rfl f194 p195 p196, fun b hb => hb.elim (fun w => .inl ((T.foot b).2 (.inl w))) (fun w => w.elim (fun w => .inr (o96 b (pre_blk w))) (fun w => .inr (o191 b (pre_blk w))))⟩))
    · refine wc_ev [evA 0 0 eb2 e4, evF 1 1 sn10, evFb 3 1 c12 sn11, evLw 5 0 agg30 size30 f5, evF 5 1 (by rw [if_neg (by rw [c19]; decide)] at s14; exact s14)] .ret h13 [(5, (vP b1 0)), (6, (vI 0)), (9, (vP t 0)), (10, (vB true)), (11, (vB false)), (12, (vS k)), (13, (vB true)), (14, (vB false)), (15, (vA #[(vI c.v), (vI c.up), (vI c.dn), (vI c.lo), (vI c.hi)])), (16, (vI 2)), (17, (vB true)), (6, (vI 2))] ?_
      have ee : putE ms k c = 2 := by unfold putE; rw [if_pos c12, if_neg (show ¬ okC c = true from by intro w; exact absurd ((show okc c.v c.up c.dn c.lo c.hi = true from w).symm.trans c19) (by decide))]
      exact end_ev [] (vI 2) (hK _ _ (⟨by rw [ee], Chg.ext x18, O, by unfold putM; rw [ee, if_neg (by decide)]; exact hT'.keep fun b r _ q => x18 b r q, fun b hb => .inl hb⟩))
  · refine wc_ev [evA 0 0 eb2 e4, evF 1 1 sn10, evFb 3 1 c12 sn11] .ret h3 [(5, (vP b1 0)), (6, (vI 0)), (9, (vP t 0)), (10, (vB true)), (11, (vB false)), (12, (vS k)), (13, (vB false)), (14, (vB true)), (6, (vI 14))] ?_
    have ee : putE ms k c = 14 := by unfold putE; rw [if_neg (by rw [c12]; decide)]
    exact end_ev [] (vI 14) (hK _ _ (⟨by rw [ee], Chg.ext x9, O, by unfold putM; rw [ee, if_neg (by decide)]; exact hT'.keep fun b r _ q => x9 b r q, fun b hb => .inl hb⟩))
set_option maxRecDepth 10000 in
set_option maxHeartbeats 4000000 in
theorem srapp_ok (h : Heap) {O : Nat → Prop} {t : Nat} {ms : Sto} (hT : RfAt 53 30 h O t ms) (ok : WfM ms) (k : ByteArray) (ph d : Int) : WCall Tryz.prog 11 #[(vP t 0), (vS k), (vI (ph)), (vI (d))] h (fun v h1 => v = .tuple #[.int .i64 (apSV ms k ph d), .int .i64 (apSE ms k ph d)] ∧ Chg O h h1 ∧ ∃ O', RfAt 53 30 h1 O' t (apSM ms k ph d) ∧ ∀ b, O' b → O b ∨ h.size ≤ b) := by
  have hT' := hT
  obtain ⟨ka, ca, kc, cc, T⟩ := hT
  have kl := ksL_len ms
  have cl := csL_len ms
  have few := ok.few
  suffices H : ∀ K : Value → Heap → Prop, (∀ v h1, (fun v h1 => v = .tuple #[.int .i64 (apSV ms k ph d), .int .i64 (apSE ms k ph d)] ∧ Chg O h h1 ∧ ∃ O', RfAt 53 30 h1 O' t (apSM ms k ph d) ∧ ∀ b, O' b → O b ∨ h.size ≤ b) v h1 → K v h1) → WCall Tryz.prog 11 #[(vP t 0), (vS k), (vI (ph)), (vI (d))] h K from H _ fun _ _ q => q
  intro K hK
  refine wcall_at { tmps := #[(vP t 0), (vS k), (vI ph), (vI d), vZ, vZ, vZ, vZ, vZ, vZ, vZ, vZ, vZ, vZ, vZ, vZ, vZ, vZ, vZ, vZ, vZ, vZ, vZ, vZ, vZ, vZ, vZ, vZ, vZ, vZ, vZ, vZ, vZ, vZ, vZ, vZ, vZ, vZ, vZ, vZ, vZ, vZ, vZ, vZ, vZ, vZ, vZ, vZ, vZ, vZ, vZ, vZ, vZ, vZ, vZ, vZ, vZ, vZ], defers := [] } (by kernel_rfl) ?_
  obtain ⟨_, h2, s3, rfl, x4⟩ := sget_ok h (hT'.keep fun b r _ q => (Ext.refl h) b r q) ok k
  have x5 := (Ext.refl h).trans x4
  by_cases c6 : ((getE ms k) : Int) = 0
  · obtain ⟨b7, eb8⟩ : ∃ zq, zq = h2.size := ⟨_, rfl⟩
    obtain ⟨h9, e10⟩ : ∃ zq, zq = h2.push (.cells #[(vI 0), (vI 0), (vI 0), (vI 0), (vI 0)] 30 (0, 0)) := ⟨_, rfl⟩
    have f11 := push_new e10
    rw [← eb8] at f11
    have x12 : Ext h2 h9 := by rw [e10]; exact Ext.push _ _
    have o13 : h.size ≤ b7 := by have := x5.size; omega
    have x14 := x5.trans x12
    obtain ⟨h15, e16⟩ : ∃ zq, zq = h9.setIfInBounds b7 (.cells #[(vI ((getC ms k).v)), (vI ((getC ms k).up)), (vI ((getC ms k).dn)), (vI ((getC ms k).lo)), (vI ((getC ms k).hi))] 30 (0, 0)) := ⟨_, rfl⟩
    have f17 := set_same e16 f11
    have x18 := Ext.setNew x14 e16 o13
    obtain ⟨v19, h20, s21, q22, q23, x24⟩ := srapply_ok h15 (getC ms k) (ph) (d)
    have x25 := x18.trans x24
    by_cases c26 : ((appE (getC ms k) ph d) : Int) = 0
    · obtain ⟨b27, eb28⟩ : ∃ zq, zq = h20.size := ⟨_, rfl⟩
      obtain ⟨h29, e30⟩ : ∃ zq, zq = h20.push (.cells #[(vI 0), (vI 0), (vI 0), (vI 0), (vI 0)] 30 (0, 0)) := ⟨_, rfl⟩
      have f31 := push_new e30
      rw [← eb28] at f31
      have n32 : b27 ≠ t := by have := row_lt (x25 _ _ T.row); omega
      have x33 : Ext h20 h29 := by rw [e30]; exact Ext.push _ _
      have o34 : h.size ≤ b27 := by have := x25.size; omega
      have x35 := x25.trans x33
      obtain ⟨h36, e37⟩ : ∃ zq, zq = h29.setIfInBounds b27 (.cells #[(vI ((appM (getC ms k) ph d).v)), (vI ((appM (getC ms k) ph d).up)), (vI ((appM (getC ms k) ph d).dn)), (vI ((appM (getC ms k) ph d).lo)), (vI ((appM (getC ms k) ph d).hi))] 30 (0, 0)) := ⟨_, rfl⟩
      have f38 := set_same e37 f31
      have x39 := Ext.setNew x35 e37 o34
      obtain ⟨_, h40, s41, rfl, x42⟩ := at_ok h36 (hT'.keep fun b r _ q => x39 b r q) ok k
      have qpl43 := posK_le ms k
      have f44 := x42 _ _ f38
      have x45 := x39.trans x42
      have pl46 := pos_lt ok c6
      obtain ⟨b47, eb48⟩ : ∃ zq, zq = h40.size := ⟨_, rfl⟩
      obtain ⟨h49, e50⟩ : ∃ zq, zq = h40.push (.cells #[] 30 (0, 0)) := ⟨_, rfl⟩
      have f51 := push_new e50
      rw [← eb48] at f51
      have n52 : b47 ≠ b27 := by have := row_lt f44; omega
      have n53 : b47 ≠ t := by have := row_lt (x45 _ _ T.row); omega
      have n54 : ∀ zz, (blk (Value.slice ka ((ksL ms).length) (kc))) zz → ¬ zz = b47 := fun zz hz ez => by have := (T.ks.keep fun b r _ q => x45 b r q).blk_lt hz; omega
      have x55 : Ext h40 h49 := by rw [e50]; exact Ext.push _ _
      have o56 : h.size ≤ b47 := by have := x45.size; omega
      have f57 := x55 _ _ f44
      have x58 := x45.trans x55
      obtain ⟨w59, h60, e61, p62, x63, n64⟩ := own_clone und51 sizeb30 zero30 rfl (by decide) cntc_size (ys := (csL ms)) f51 ((T.cs.keep fun b r _ q => x58 b r q).slice cntc_size) (by omega) (by unfold maxLen; omega)
      obtain ⟨a65, c66, rfl⟩ := (p62.slice cntc_size).len
      have z67 : b47 < h49.size := row_lt f51
      have n68 : ∀ zz, blk (Value.slice a65 ((csL ms).length) (c66)) zz → zz = b47 ∨ h49.size ≤ zz := fun zz hz => by rcases n64 zz hz with e | e <;> omega
      have n69 : ∀ zz, blk (Value.slice a65 ((csL ms).length) (c66)) zz → ¬ zz = b27 := fun zz hz ez => by have := n52; have := row_lt f57; rcases n68 zz hz with g | g <;> omega
      have n70 : ∀ zz, blk (Value.slice a65 ((csL ms).length) (c66)) zz → ¬ zz = t := fun zz hz ez => by have := n53; have := row_lt (x58 _ _ T.row); rcases n68 zz hz with g | g <;> omega
      have n71 : ∀ zz, blk (Value.slice a65 ((csL ms).length) (c66)) zz → ¬ (blk (Value.slice ka ((ksL ms).length) (kc))) zz := fun zz hz ez => by have := (T.ks.keep fun b r _ q => x58 b r q).blk_lt ez; rcases n68 zz hz with g | g; (subst g; exact n54 _ ez rfl); omega
      have o72 : ∀ zz, blk (Value.slice a65 ((csL ms).length) (c66)) zz → h.size ≤ zz := fun zz hz => by have := o56; have := x58.size; rcases n68 zz hz with g | g <;> omega
      have f73 := x63 _ _ f57
      have x74 := x58.trans x63
      obtain ⟨h75, e76⟩ : ∃ zq, zq = h60.setIfInBounds t (.cells #[(vB true), (Value.slice ka ((ksL ms).length) (kc)), (Value.slice a65 ((csL ms).length) (c66))] 53 (0, 0)) := ⟨_, rfl⟩
      have f77 := set_same e76 (x74 _ _ T.row)
      have f78 := set_other e76 f73 n32.symm
      have p79 := (T.ks.keep fun b r _ q => x74 b r q).keep fun b r hb q => (Chg.set e76).same b r q ((fun b hb => (T.ks.keep fun b r _ q => x74 b r q).ne (x74 _ _ T.row) (by decide) hb) b hb)
      have p80 := p62.keep fun b r hb q => (Chg.set e76).same b r q (n70 b hb)
      have x81 := (Chg.ext (O := O) x74).then (Chg.set e76) (fun b hb => by subst hb; exact (.inl ((T.foot _).2 (.inl rfl))))
      obtain ⟨i82, v83, e84, l85, g86⟩ := list_at (csL ms) (e := (((posK ms k : Nat) : Int))) (by omega) (by first | omega | (simp only [List.length_set, List.length_append, List.length_singleton]; omega))
      obtain ⟨b87, o88, q89, a90, k91, u92⟩ := p80.store cntc_size g86
      obtain ⟨h93, e94, p95, c96, z97⟩ := u92 (j := 0) (y := (appM (getC ms k) ph d)) (u := (Value.agg #[(vI ((appM (getC ms k) ph d).v)), (vI ((appM (getC ms k) ph d).up)), (vI ((appM (getC ms k) ph d).dn)), (vI ((appM (getC ms k) ph d).lo)), (vI ((appM (getC ms k) ph d).hi))])) size30 rfl rfl (by decide) (by kernel_rfl)
      have c98 : Chg (blk (Value.slice a65 ((csL ms).length) (c66))) h75 h93 := c96.weak fun q hq => by subst hq; exact q89
      have z99 : h.size ≤ h75.size := x81.size
      have x100 := x81.then c98 (fun b hb => .inr (o72 b hb))
      have f101 := c98.same _ _ f78 (fun hb => n69 _ hb rfl)
      have f102 := c98.same _ _ f77 (fun hb => n70 _ hb rfl)
      have p103 := p79.keep fun b r hb q => c98.same b r q ((fun b hb hb2 => n71 b hb2 hb) b hb)
      refine wc_ev [evF 1 2 (show SoundCall Tryz.prog 20 #[(vP t 0), (vS k)] h (vT #[(vA #[(vI ((getC ms k).v)), (vI ((getC ms k).up)), (vI ((getC ms k).dn)), (vI ((getC ms k).lo)), (vI ((getC ms k).hi))]), (vI 0)]) h2 from (by have w104 := s3; rw [c6] at w104; exact w104)), evA 1 6 eb8 e10, evUw 1 7 size30 f11 e16, evLw 4 0 agg30 size30 f17, evF 4 3 (by rw [q23 c26] at s21; exact s21), evA 4 7 eb28 e30, evUw 4 8 size30 f31 e37, evF 7 2 (show SoundCall Tryz.prog 30 #[(vP t 0), (vS k)] h36 (vT #[(vI (((posK ms k : Nat) : Int))), (vB true)]) h40 from (by have w9 := s41; rw [decide_eq_true c6] at w9; exact w9)), evS 8 1 0 eb48 e50, evC 8 5 2 agg51 (x58 _ _ T.row), evP 8 6 e61, evH 8 9 undef h75 (show (storeT Tryz.prog h60 51 (vP t 2) (vL a65 ((csL ms).length) c66) = some h75 ∧ (undef : Value) = undef) from ⟨by rw [e76]; exact store_cells size51 rfl (x74 _ _ T.row) (by decide) (by simp) rfl (by kernel_rfl), rfl⟩), evC 9 3 2 agg51 f77, evLw 9 5 agg30 size30 f78, evV 9 6 (vP b87 o88) (show indexAddrA Tryz.prog 51 (vL a65 ((csL ms).length) c66) (vI (((posK ms k : Nat) : Int))) = some (vP b87 o88) from a90 und51 size30 e84), evH 9 7 undef h93 (show (storeT Tryz.prog h75 30 (vP b87 o88) (vA #[(vI ((appM (getC ms k) ph d).v)), (vI ((appM (getC ms k) ph d).up)), (vI ((appM (getC ms k) ph d).dn)), (vI ((appM (getC ms k) ph d).lo)), (vI ((appM (getC ms k) ph d).hi))]) = some h93 ∧ (undef : Value) = undef) from ⟨e94, rfl⟩), evC 10 1 0 agg2 f101] .ret h93 [(8, (vI 0)), (9, (vI 0)), (16, (vP t 0)), (17, (vS k)), (18, (vT #[(vA #[(vI ((getC ms k).v)), (vI ((getC ms k).up)), (vI ((getC ms k).dn)), (vI ((getC ms k).lo)), (vI ((getC ms k).hi))]), (vI 0)])), (15, (vT #[(vA #[(vI ((getC ms k).v)), (vI ((getC ms k).up)), (vI ((getC ms k).dn)), (vI ((getC ms k).lo)), (vI ((getC ms k).hi))]), (vI 0)])), (19, (vA #[(vI ((getC ms k).v)), (vI ((getC ms k).up)), (vI ((getC ms k).dn)), (vI ((getC ms k).lo)), (vI ((getC ms k).hi))])), (20, (vI 0)), (10, (vP b7 0)), (11, (vI 0)), (21, (vI 0)), (22, (vB false)), (25, (vA #[(vI ((getC ms k).v)), (vI ((getC ms k).up)), (vI ((getC ms k).dn)), (vI ((getC ms k).lo)), (vI ((getC ms k).hi))])), (26, (vI ph)), (27, (vI d)), (28, (vT #[(vA #[(vI ((appM (getC ms k) ph d).v)), (vI ((appM (getC ms k) ph d).up)), (vI ((appM (getC ms k) ph d).dn)), (vI ((appM (getC ms k) ph d).lo)), (vI ((appM (getC ms k) ph d).hi))]), (vI 0)])), (24, (vT #[(vA #[(vI ((appM (getC ms k) ph d).v)), (vI ((appM (getC ms k) ph d).up)), (vI ((appM (getC ms k) ph d).dn)), (vI ((appM (getC ms k) ph d).lo)), (vI ((appM (getC ms k) ph d).hi))]), (vI 0)])), (29, (vA #[(vI ((appM (getC ms k) ph d).v)), (vI ((appM (getC ms k) ph d).up)), (vI ((appM (getC ms k) ph d).dn)), (vI ((appM (getC ms k) ph d).lo)), (vI ((appM (getC ms k) ph d).hi))])), (30, (vI 0)), (12, (vP b27 0)), (11, (vI 0)), (31, (vI 0)), (32, (vB false)), (35, (vP t 0)), (36, (vS k)), (37, (vT #[(vI (((posK ms k : Nat) : Int))), (vB true)])), (34, (vT #[(vI (((posK ms k : Nat) : Int))), (vB true)])), (38, (vI (((posK ms k : Nat) : Int)))), (39, (vB true)), (13, (vI (((posK ms k : Nat) : Int)))), (14, (vB true)), (40, (vP t 0)), (41, (vL (some ⟨b47, 0, none⟩) 0 0)), (42, (vP t 0)), (43, (vP t 0)), (44, (vP t 2)), (45, (vL ca ((csL ms).length) cc)), (46, (vL a65 ((csL ms).length) c66)), (47, (vP t 0)), (48, (vP t 2)), (49, (vP t 0)), (50, (vP t 0)), (51, (vP t 2)), (52, (vL a65 ((csL ms).length) c66)), (53, (vI (((posK ms k : Nat) : Int)))), (54, (vA #[(vI ((appM (getC ms k) ph d).v)), (vI ((appM (getC ms k) ph d).up)), (vI ((appM (getC ms k) ph d).dn)), (vI ((appM (getC ms k) ph d).lo)), (vI ((appM (getC ms k) ph d).hi))])), (55, (vP b87 o88)), (56, (vP b27 0)), (57, (vI ((appM (getC ms k) ph d).v))), (8, (vI ((appM (getC ms k) ph d).v))), (9, (vI 0))] ?_
      have ee : apSE ms k ph d = appE (getC ms k) ph d := by unfold apSE; rw [if_pos c6]
      have cx : csL (apSM ms k ph d) = ((csL ms).set i82 (appM (getC ms k) ph d)) := by rw [show apSM ms k ph d = setK ms k (appM (getC ms k) ph d) from if_pos (by rw [ee]; exact c26), cs_set ok c6, show i82 = posK ms k by omega]
      exact end_ev [] (vT #[(vI ((appM (getC ms k) ph d).v)), (vI 0)]) (hK _ _ (⟨by unfold apSV; rw [ee, if_pos c26, c26], x100, _, rf_of ks_app cx rfl (List.length_set ..) f102 p103 p95, fun b hb => hb.elim (fun w => .inl ((T.foot b).2 (.inl w))) (fun w => w.elim (fun w => .inl ((T.foot b).2 (.inr (.inl w)))) (fun w => .inr (o72 b (pre_blk w))))⟩))
    · obtain ⟨b105, eb106⟩ : ∃ zq, zq = h20.size := ⟨_, rfl⟩
      obtain ⟨h107, e108⟩ : ∃ zq, zq = h20.push (.cells #[(vI 0), (vI 0), (vI 0), (vI 0), (vI 0)] 30 (0, 0)) := ⟨_, rfl⟩
      have f109 := push_new e108
      rw [← eb106] at f109
      have x110 : Ext h20 h107 := by rw [e108]; exact Ext.push _ _
      have o111 : h.size ≤ b105 := by have := x25.size; omega
      have x112 := x25.trans x110
      obtain ⟨h113, e114⟩ : ∃ zq, zq = h107.setIfInBounds b105 (.cells #[(vI 0), (vI 0), (vI 0), (vI 0), (vI 0)] 30 (0, 0)) := ⟨_, rfl⟩
      have x115 := Ext.setNew x112 e114 o111
      refine wc_ev [evF 1 2 (show SoundCall Tryz.prog 20 #[(vP t 0), (vS k)] h (vT #[(vA #[(vI ((getC ms k).v)), (vI ((getC ms k).up)), (vI ((getC ms k).dn)), (vI ((getC ms k).lo)), (vI ((getC ms k).hi))]), (vI 0)]) h2 from (by have w104 := s3; rw [c6] at w104; exact w104)), evA 1 6 eb8 e10, evUw 1 7 size30 f11 e16, evLw 4 0 agg30 size30 f17, evF 4 3 (by rw [q22 c26] at s21; exact s21), evA 4 7 eb106 e108, evUw 4 8 size30 f109 e114, neT 5 1 35 c26] .ret h113 [(8, (vI 0)), (9, (vI 0)), (16, (vP t 0)), (17, (vS k)), (18, (vT #[(vA #[(vI ((getC ms k).v)), (vI ((getC ms k).up)), (vI ((getC ms k).dn)), (vI ((getC ms k).lo)), (vI ((getC ms k).hi))]), (vI 0)])), (15, (vT #[(vA #[(vI ((getC ms k).v)), (vI ((getC ms k).up)), (vI ((getC ms k).dn)), (vI ((getC ms k).lo)), (vI ((getC ms k).hi))]), (vI 0)])), (19, (vA #[(vI ((getC ms k).v)), (vI ((getC ms k).up)), (vI ((getC ms k).dn)), (vI ((getC ms k).lo)), (vI ((getC ms k).hi))])), (20, (vI 0)), (10, (vP b7 0)), (11, (vI 0)), (21, (vI 0)), (22, (vB false)), (25, (vA #[(vI ((getC ms k).v)), (vI ((getC ms k).up)), (vI ((getC ms k).dn)), (vI ((getC ms k).lo)), (vI ((getC ms k).hi))])), (26, (vI ph)), (27, (vI d)), (28, (vT #[(vA #[(vI 0), (vI 0), (vI 0), (vI 0), (vI 0)]), (vI (appE (getC ms k) ph d))])), (24, (vT #[(vA #[(vI 0), (vI 0), (vI 0), (vI 0), (vI 0)]), (vI (appE (getC ms k) ph d))])), (29, (vA #[(vI 0), (vI 0), (vI 0), (vI 0), (vI 0)])), (30, (vI (appE (getC ms k) ph d))), (12, (vP b105 0)), (11, (vI (appE (getC ms k) ph d))), (31, (vI (appE (getC ms k) ph d))), (32, (vB true)), (33, (vI (appE (getC ms k) ph d))), (8, (vI 0)), (9, (vI (appE (getC ms k) ph d)))] ?_
      have ee : apSE ms k ph d = appE (getC ms k) ph d := by unfold apSE; rw [if_pos c6]
      exact end_ev [] (vT #[(vI 0), (vI (appE (getC ms k) ph d))]) (hK _ _ (⟨by unfold apSV; rw [ee, if_neg c26], Chg.ext x115, O, by unfold apSM; rw [ee, if_neg c26]; exact hT'.keep fun b r _ q => x115 b r q, fun b hb => .inl hb⟩))
  · obtain ⟨b116, eb117⟩ : ∃ zq, zq = h2.size := ⟨_, rfl⟩
    obtain ⟨h118, e119⟩ : ∃ zq, zq = h2.push (.cells #[(vI 0), (vI 0), (vI 0), (vI 0), (vI 0)] 30 (0, 0)) := ⟨_, rfl⟩
    have f120 := push_new e119
    rw [← eb117] at f120
    have x121 : Ext h2 h118 := by rw [e119]; exact Ext.push _ _
    have o122 : h.size ≤ b116 := by have := x5.size; omega
    have x123 := x5.trans x121
    obtain ⟨h124, e125⟩ : ∃ zq, zq = h118.setIfInBounds b116 (.cells #[(vI 0), (vI 0), (vI 0), (vI 0), (vI 0)] 30 (0, 0)) := ⟨_, rfl⟩
    have x126 := Ext.setNew x123 e125 o122
    refine wc_ev [evF 1 2 (show SoundCall Tryz.prog 20 #[(vP t 0), (vS k)] h (vT #[(vA #[(vI 0), (vI 0), (vI 0), (vI 0), (vI 0)]), (vI 5)]) h2 from (by have w127 := s3; rw [(getE_ne c6).2.1, (getE_ne c6).2.2] at w127; exact w127)), evA 1 6 eb117 e119, evUw 1 7 size30 f120 e125] .ret h124 [(8, (vI 0)), (9, (vI 0)), (16, (vP t 0)), (17, (vS k)), (18, (vT #[(vA #[(vI 0), (vI 0), (vI 0), (vI 0), (vI 0)]), (vI 5)])), (15, (vT #[(vA #[(vI 0), (vI 0), (vI 0), (vI 0), (vI 0)]), (vI 5)])), (19, (vA #[(vI 0), (vI 0), (vI 0), (vI 0), (vI 0)])), (20, (vI 5)), (10, (vP b116 0)), (11, (vI 5)), (21, (vI 5)), (22, (vB true)), (23, (vI 5)), (8, (vI 0)), (9, (vI 5))] ?_
    have ee : apSE ms k ph d = 5 := by unfold apSE; rw [if_neg c6]
    exact end_ev [] (vT #[(vI 0), (vI 5)]) (hK _ _ (⟨by unfold apSV; rw [ee, if_neg (by decide)], Chg.ext x126, O, by unfold apSM; rw [ee, if_neg (by decide)]; exact hT'.keep fun b r _ q => x126 b r q, fun b hb => .inl hb⟩))
set_option maxRecDepth 10000 in
set_option maxHeartbeats 4000000 in
theorem srem_ok (h : Heap) {O : Nat → Prop} {t : Nat} {ms : Sto} (hT : RfAt 53 30 h O t ms) (ok : WfM ms) (k : ByteArray) : WCall Tryz.prog 13 #[(vP t 0), (vS k)] h (fun v h1 => v = .int .i64 (getE ms k) ∧ Chg O h h1 ∧ ∃ O', RfAt 53 30 h1 O' t (remM ms k) ∧ ∀ b, O' b → O b ∨ h.size ≤ b) := by
  have hT' := hT
  obtain ⟨ka, ca, kc, cc, T⟩ := hT
  have kl := ksL_len ms
  have cl := csL_len ms
  have few := ok.few
  suffices H : ∀ K : Value → Heap → Prop, (∀ v h1, (fun v h1 => v = .int .i64 (getE ms k) ∧ Chg O h h1 ∧ ∃ O', RfAt 53 30 h1 O' t (remM ms k) ∧ ∀ b, O' b → O b ∨ h.size ≤ b) v h1 → K v h1) → WCall Tryz.prog 13 #[(vP t 0), (vS k)] h K from H _ fun _ _ q => q
  intro K hK
  refine wcall_at { tmps := #[(vP t 0), (vS k), vZ, vZ, vZ, vZ, vZ, vZ, vZ, vZ, vZ, vZ, vZ, vZ, vZ, vZ, vZ, vZ, vZ, vZ, vZ, vZ, vZ, vZ, vZ, vZ, vZ, vZ, vZ, vZ, vZ, vZ, vZ, vZ, vZ, vZ, vZ, vZ, vZ, vZ, vZ, vZ, vZ, vZ, vZ, vZ, vZ, vZ, vZ, vZ, vZ, vZ, vZ, vZ, vZ, vZ, vZ, vZ, vZ, vZ, vZ, vZ], defers := [] } (by kernel_rfl) ?_
  obtain ⟨_, h2, s3, rfl, x4⟩ := sget_ok h (hT'.keep fun b r _ q => (Ext.refl h) b r q) ok k
  have x5 := (Ext.refl h).trans x4
  by_cases c6 : ((getE ms k) : Int) = 0
  · obtain ⟨b7, eb8⟩ : ∃ zq, zq = h2.size := ⟨_, rfl⟩
    obtain ⟨h9, e10⟩ : ∃ zq, zq = h2.push (.cells #[(vI 0), (vI 0), (vI 0), (vI 0), (vI 0)] 30 (0, 0)) := ⟨_, rfl⟩
    have f11 := push_new e10
    rw [← eb8] at f11
    have x12 : Ext h2 h9 := by rw [e10]; exact Ext.push _ _
    have o13 : h.size ≤ b7 := by have := x5.size; omega
    have x14 := x5.trans x12
    obtain ⟨h15, e16⟩ : ∃ zq, zq = h9.setIfInBounds b7 (.cells #[(vI ((getC ms k).v)), (vI ((getC ms k).up)), (vI ((getC ms k).dn)), (vI ((getC ms k).lo)), (vI ((getC ms k).hi))] 30 (0, 0)) := ⟨_, rfl⟩
    have x17 := Ext.setNew x14 e16 o13
    obtain ⟨_, h18, s19, rfl, x20⟩ := at_ok h15 (hT'.keep fun b r _ q => x17 b r q) ok k
    have qpl21 := posK_le ms k
    have x22 := x17.trans x20
    have pl23 := pos_lt ok c6
    obtain ⟨b24, eb25⟩ : ∃ zq, zq = h18.size := ⟨_, rfl⟩
    obtain ⟨h26, e27⟩ : ∃ zq, zq = h18.push (.cells #[] 9 (0, 0)) := ⟨_, rfl⟩
    have f28 := push_new e27
    rw [← eb25] at f28
    have n29 : b24 ≠ t := by have := row_lt (x22 _ _ T.row); omega
    have x30 : Ext h18 h26 := by rw [e27]; exact Ext.push _ _
    have o31 : h.size ≤ b24 := by have := x22.size; omega
    have x32 := x22.trans x30
    obtain ⟨_, p33⟩ := own_pre (t := 40) strc_size und40 size9 (by decide) T.ks (kd := .i64) (n := ((((posK ms k : Nat) : Int)) : Int)) (by omega) (by omega)
    have e34 := List.length_take (i := ((((posK ms k : Nat) : Int)) : Int).toNat) (l := (ksL ms))
    obtain ⟨_, p35⟩ := own_suf (t := 40) strc_size und40 size9 (by decide) T.ks (kd := .i64) (n := (((((posK ms k : Nat) : Int)) + 1) : Int)) (by omega) (by omega)
    have e36 := List.length_drop (i := (((((posK ms k : Nat) : Int)) + 1) : Int).toNat) (l := (ksL ms))
    obtain ⟨w37, h38, e39, p40, x41, n42⟩ := own_clone und40 sizeb9 zero9 rfl (by decide) strc_size (ys := ((ksL ms).take ((((posK ms k : Nat) : Int)) : Int).toNat)) f28 (p33.keep fun b r _ q => x32 b r q) (by omega) (by unfold maxLen; omega)
    obtain ⟨a43, c44, rfl⟩ := (p40.slice strc_size).len
    have z45 : b24 < h26.size := row_lt f28
    have n46 : ∀ zz, blk (Value.slice a43 (((ksL ms).take ((((posK ms k : Nat) : Int)) : Int).toNat).length) (c44)) zz → zz = b24 ∨ h26.size ≤ zz := fun zz hz => by rcases n42 zz hz with e | e <;> omega
    have n47 : ∀ zz, blk (Value.slice a43 (((ksL ms).take ((((posK ms k : Nat) : Int)) : Int).toNat).length) (c44)) zz → ¬ zz = t := fun zz hz ez => by have := n29; have := row_lt (x32 _ _ T.row); rcases n46 zz hz with g | g <;> omega
    have o48 : ∀ zz, blk (Value.slice a43 (((ksL ms).take ((((posK ms k : Nat) : Int)) : Int).toNat).length) (c44)) zz → h.size ≤ zz := fun zz hz => by have := o31; have := x32.size; rcases n46 zz hz with g | g <;> omega
    have x49 := x32.trans x41
    obtain ⟨w50, h51, e52, p53, c54, n55⟩ := own_append_many und40 sizeb9 zero9 rfl (by decide) strc_size strc_one (xs := ((ksL ms).take ((((posK ms k : Nat) : Int)) : Int).toNat)) (ys := ((ksL ms).drop (((((posK ms k : Nat) : Int)) + 1) : Int).toNat)) p40 (p35.keep fun b r _ q => x49 b r q) (by simp only [List.length_append, List.length_take, List.length_drop, List.length_singleton] at *; omega) (by unfold maxLen; simp only [List.length_append, List.length_take, List.length_drop, List.length_singleton] at *; omega)
    obtain ⟨a56, c57, rfl⟩ := (p53.slice strc_size).len
    have z58 : h.size ≤ h38.size := x49.size
    have x59 : Ext h _ := (Chg.then (O := fun _ => False) (Chg.ext x49) c54 (fun b hb => .inr (o48 b hb))).toExt'
    have z60 : h.size ≤ h38.size := x49.size
    have n61 : ∀ zz, (blk (Value.slice a56 ((((ksL ms).take ((((posK ms k : Nat) : Int)) : Int).toNat) ++ ((ksL ms).drop (((((posK ms k : Nat) : Int)) + 1) : Int).toNat)).length) (c57))) zz → ¬ zz = t := fun zz hz ez => by rcases n55 zz hz with g | g; (exact n47 _ g ez); have := row_lt (x49 _ _ T.row); omega
    have o62 : ∀ zz, (blk (Value.slice a56 ((((ksL ms).take ((((posK ms k : Nat) : Int)) : Int).toNat) ++ ((ksL ms).drop (((((posK ms k : Nat) : Int)) + 1) : Int).toNat)).length) (c57))) zz → h.size ≤ zz := fun zz hz => by rcases n55 zz hz with g | g; (exact o48 zz g); omega
    obtain ⟨h63, e64⟩ : ∃ zq, zq = h51.setIfInBounds t (.cells #[(vB true), (Value.slice a56 ((((ksL ms).take ((((posK ms k : Nat) : Int)) : Int).toNat) ++ ((ksL ms).drop (((((posK ms k : Nat) : Int)) + 1) : Int).toNat)).length) (c57)), (Value.slice ca ((csL ms).length) (cc))] 53 (0, 0)) := ⟨_, rfl⟩
    have f65 := set_same e64 (x59 _ _ T.row)
    have p66 := (T.cs.keep fun b r _ q => x59 b r q).keep fun b r hb q => (Chg.set e64).same b r q ((fun b hb => (T.cs.keep fun b r _ q => x59 b r q).ne (x59 _ _ T.row) (by decide) hb) b hb)
    have p67 := p53.keep fun b r hb q => (Chg.set e64).same b r q (n61 b hb)
    have x68 := (Chg.ext (O := O) x59).then (Chg.set e64) (fun b hb => by subst hb; exact (.inl ((T.foot _).2 (.inl rfl))))
    obtain ⟨b69, eb70⟩ : ∃ zq, zq = h63.size := ⟨_, rfl⟩
    obtain ⟨h71, e72⟩ : ∃ zq, zq = h63.push (.cells #[] 30 (0, 0)) := ⟨_, rfl⟩
    have f73 := push_new e72
    rw [← eb70] at f73
    have n74 : b69 ≠ t := by have := row_lt f65; omega
    have n75 : ∀ zz, (blk (Value.slice a56 ((((ksL ms).take ((((posK ms k : Nat) : Int)) : Int).toNat) ++ ((ksL ms).drop (((((posK ms k : Nat) : Int)) + 1) : Int).toNat)).length) (c57))) zz → ¬ zz = b69 := fun zz hz ez => by have := p67.blk_lt hz; omega
    have x76 : Ext h63 h71 := by rw [e72]; exact Ext.push _ _
    have o77 : h.size ≤ b69 := by have := x68.size; omega
    have f78 := x76 _ _ f65
    have p79 := p66.keep fun b r _ q => x76 b r q
    have p80 := p67.keep fun b r _ q => x76 b r q
    have x81 := x68.trans (Chg.ext x76)
    obtain ⟨_, p82⟩ := own_pre (t := 51) cntc_size und51 size30 (by decide) p79 (kd := .i64) (n := ((((posK ms k : Nat) : Int)) : Int)) (by omega) (by omega)
    have e83 := List.length_take (i := ((((posK ms k : Nat) : Int)) : Int).toNat) (l := (csL ms))
    obtain ⟨_, p84⟩ := own_suf (t := 51) cntc_size und51 size30 (by decide) p79 (kd := .i64) (n := (((((posK ms k : Nat) : Int)) + 1) : Int)) (by omega) (by omega)
    have e85 := List.length_drop (i := (((((posK ms k : Nat) : Int)) + 1) : Int).toNat) (l := (csL ms))
    obtain ⟨w86, h87, e88, p89, x90, n91⟩ := own_clone und51 sizeb30 zero30 rfl (by decide) cntc_size (ys := ((csL ms).take ((((posK ms k : Nat) : Int)) : Int).toNat)) f73 p82 (by omega) (by unfold maxLen; omega)
    obtain ⟨a92, c93, rfl⟩ := (p89.slice cntc_size).len
    have z94 : b69 < h71.size := row_lt f73
    have n95 : ∀ zz, blk (Value.slice a92 (((csL ms).take ((((posK ms k : Nat) : Int)) : Int).toNat).length) (c93)) zz → zz = b69 ∨ h71.size ≤ zz := fun zz hz => by rcases n91 zz hz with e | e <;> omega
    have n96 : ∀ zz, blk (Value.slice a92 (((csL ms).take ((((posK ms k : Nat) : Int)) : Int).toNat).length) (c93)) zz → ¬ zz = t := fun zz hz ez => by have := n74; have := row_lt f78; rcases n95 zz hz with g | g <;> omega
    have n97 : ∀ zz, blk (Value.slice a92 (((csL ms).take ((((posK ms k : Nat) : Int)) : Int).toNat).length) (c93)) zz → ¬ (blk (Value.slice a56 ((((ksL ms).take ((((posK ms k : Nat) : Int)) : Int).toNat) ++ ((ksL ms).drop (((((posK ms k : Nat) : Int)) + 1) : Int).toNat)).length) (c57))) zz := fun zz hz ez => by have := p80.blk_lt ez; rcases n95 zz hz with g | g; (subst g; exact n75 _ ez rfl); omega
    have o98 : ∀ zz, blk (Value.slice a92 (((csL ms).take ((((posK ms k : Nat) : Int)) : Int).toNat).length) (c93)) zz → h.size ≤ zz := fun zz hz => by have := o77; have := x81.size; rcases n95 zz hz with g | g <;> omega
    have f99 := x90 _ _ f78
    have p100 := p79.keep fun b r _ q => x90 b r q
    have p101 := p80.keep fun b r _ q => x90 b r q
    have p102 := p84.keep fun b r _ q => x90 b r q
    have x103 := x81.trans (Chg.ext x90)
    obtain ⟨w104, h105, e106, p107, c108, n109⟩ := own_append_many und51 sizeb30 zero30 rfl (by decide) cntc_size cntc_one (xs := ((csL ms).take ((((posK ms k : Nat) : Int)) : Int).toNat)) (ys := ((csL ms).drop (((((posK ms k : Nat) : Int)) + 1) : Int).toNat)) p89 p102 (by simp only [List.length_append, List.length_take, List.length_drop, List.length_singleton] at *; omega) (by unfold maxLen; simp only [List.length_append, List.length_take, List.length_drop, List.length_singleton] at *; omega)
    obtain ⟨a110, c111, rfl⟩ := (p107.slice cntc_size).len
    have z112 : h.size ≤ h87.size := x103.size
    have x113 := x103.then c108 (fun b hb => .inr (o98 b hb))
    have f114 := c108.same _ _ f99 (fun hb => n96 _ hb rfl)
    have p115 := p101.keep fun b r hb q => c108.same b r q ((fun b hb hb2 => n97 b hb2 hb) b hb)
    have z116 : h.size ≤ h87.size := x103.size
    have n117 : ∀ zz, (blk (Value.slice a110 ((((csL ms).take ((((posK ms k : Nat) : Int)) : Int).toNat) ++ ((csL ms).drop (((((posK ms k : Nat) : Int)) + 1) : Int).toNat)).length) (c111))) zz → ¬ zz = t := fun zz hz ez => by rcases n109 zz hz with g | g; (exact n96 _ g ez); have := row_lt f99; omega
    have o118 : ∀ zz, (blk (Value.slice a110 ((((csL ms).take ((((posK ms k : Nat) : Int)) : Int).toNat) ++ ((csL ms).drop (((((posK ms k : Nat) : Int)) + 1) : Int).toNat)).length) (c111))) zz → h.size ≤ zz := fun zz hz => by rcases n109 zz hz with g | g; (exact o98 zz g); omega
    obtain ⟨h119, e120⟩ : ∃ zq, zq = h105.setIfInBounds t (.cells #[(vB true), (Value.slice a56 ((((ksL ms).take ((((posK ms k : Nat) : Int)) : Int).toNat) ++ ((ksL ms).drop (((((posK ms k : Nat) : Int)) + 1) : Int).toNat)).length) (c57)), (Value.slice a110 ((((csL ms).take ((((posK ms k : Nat) : Int)) : Int).toNat) ++ ((csL ms).drop (((((posK ms k : Nat) : Int)) + 1) : Int).toNat)).length) (c111))] 53 (0, 0)) := ⟨_, rfl⟩
    have f121 := set_same e120 f114
    have p122 := p115.keep fun b r hb q => (Chg.set e120).same b r q (n61 b hb)
    have p123 := p107.keep fun b r hb q => (Chg.set e120).same b r q (n117 b hb)
    have x124 := x113.then (Chg.set e120) (fun b hb => by subst hb; exact (.inl ((T.foot _).2 (.inl rfl))))
    refine wc_ev [evF 1 2 (show SoundCall Tryz.prog 20 #[(vP t 0), (vS k)] h (vT #[(vA #[(vI ((getC ms k).v)), (vI ((getC ms k).up)), (vI ((getC ms k).dn)), (vI ((getC ms k).lo)), (vI ((getC ms k).hi))]), (vI 0)]) h2 from (by have w125 := s3; rw [c6] at w125; exact w125)), evA 1 6 eb8 e10, evUw 1 7 size30 f11 e16, evF 4 2 (show SoundCall Tryz.prog 30 #[(vP t 0), (vS k)] h15 (vT #[(vI (((posK ms k : Nat) : Int))), (vB true)]) h18 from (by have w9 := s19; rw [decide_eq_true c6] at w9; exact w9)), evS 5 1 0 eb25 e27, evC 5 5 1 agg40 (x32 _ _ T.row), evV 5 7 (Value.slice ka (((ksL ms).take ((((posK ms k : Nat) : Int)) : Int).toNat).length) (kc)) (show sliceA Tryz.prog h26 40 (vL ka ((ksL ms).length) kc) none (some (vI (((posK ms k : Nat) : Int)))) none = some (Value.slice ka (((ksL ms).take ((((posK ms k : Nat) : Int)) : Int).toNat).length) (kc)) from (own_pre strc_size und40 size9 (by decide) (T.ks.keep fun b r _ q => x32 b r q) (kd := .i64) (n := ((((posK ms k : Nat) : Int)) : Int)) (by omega) (by omega)).1), evC 5 12 1 agg40 (x32 _ _ T.row), evV 5 14 (vI ((((posK ms k : Nat) : Int)) + 1)) (show binA Tryz.prog .add 3 (vI (((posK ms k : Nat) : Int))) (vI 1) = some (vI ((((posK ms k : Nat) : Int)) + 1)) from add_i64 (by omega) (by omega)), evV 5 15 (Value.slice (suf ka ((((((posK ms k : Nat) : Int)) + 1) : Int).toNat * 1)) (((ksL ms).drop (((((posK ms k : Nat) : Int)) + 1) : Int).toNat).length) ((kc - (((((posK ms k : Nat) : Int)) + 1) : Int).toNat))) (show sliceA Tryz.prog h26 40 (vL ka ((ksL ms).length) kc) (some (vI ((((posK ms k : Nat) : Int)) + 1))) none none = some (Value.slice (suf ka ((((((posK ms k : Nat) : Int)) + 1) : Int).toNat * 1)) (((ksL ms).drop (((((posK ms k : Nat) : Int)) + 1) : Int).toNat).length) ((kc - (((((posK ms k : Nat) : Int)) + 1) : Int).toNat))) from (own_suf strc_size und40 size9 (by decide) (T.ks.keep fun b r _ q => x32 b r q) (kd := .i64) (n := (((((posK ms k : Nat) : Int)) + 1) : Int)) (by omega) (by omega)).1), evP 5 8 e39, evV 99 0 undef (show sliceA Tryz.prog h38 40 (vL ka ((ksL ms).length) kc) (some (vI ((((posK ms k : Nat) : Int)) + 1))) none none = some (Value.slice (suf ka ((((((posK ms k : Nat) : Int)) + 1) : Int).toNat * 1)) (((ksL ms).drop (((((posK ms k : Nat) : Int)) + 1) : Int).toNat).length) ((kc - (((((posK ms k : Nat) : Int)) + 1) : Int).toNat))) from (own_suf strc_size und40 size9 (by decide) (T.ks.keep fun b r _ q => x49 b r q) (kd := .i64) (n := (((((posK ms k : Nat) : Int)) + 1) : Int)) (by omega) (by omega)).1), evC 99 0 1 agg40 (x49 _ _ T.row), evP 5 16 e52, evH 5 19 undef h63 (show (storeT Tryz.prog h51 40 (vP t 1) (Value.slice a56 ((((ksL ms).take ((((posK ms k : Nat) : Int)) : Int).toNat) ++ ((ksL ms).drop (((((posK ms k : Nat) : Int)) + 1) : Int).toNat)).length) (c57)) = some h63 ∧ (undef : Value) = undef) from ⟨by rw [e64]; exact store_cells size40 rfl (x59 _ _ T.row) (by decide) (by simp) rfl (by kernel_rfl), rfl⟩), evS 6 1 0 eb70 e72, evC 6 5 2 agg51 f78, evV 6 7 (Value.slice ca (((csL ms).take ((((posK ms k : Nat) : Int)) : Int).toNat).length) (cc)) (show sliceA Tryz.prog h71 51 (vL ca ((csL ms).length) cc) none (some (vI (((posK ms k : Nat) : Int)))) none = some (Value.slice ca (((csL ms).take ((((posK ms k : Nat) : Int)) : Int).toNat).length) (cc)) from (own_pre cntc_size und51 size30 (by decide) p79 (kd := .i64) (n := ((((posK ms k : Nat) : Int)) : Int)) (by omega) (by omega)).1), evC 6 12 2 agg51 f78, evV 6 14 (vI ((((posK ms k : Nat) : Int)) + 1)) (show binA Tryz.prog .add 3 (vI (((posK ms k : Nat) : Int))) (vI 1) = some (vI ((((posK ms k : Nat) : Int)) + 1)) from add_i64 (by omega) (by omega)), evV 6 15 (Value.slice (suf ca ((((((posK ms k : Nat) : Int)) + 1) : Int).toNat * 5)) (((csL ms).drop (((((posK ms k : Nat) : Int)) + 1) : Int).toNat).length) ((cc - (((((posK ms k : Nat) : Int)) + 1) : Int).toNat))) (show sliceA Tryz.prog h71 51 (vL ca ((csL ms).length) cc) (some (vI ((((posK ms k : Nat) : Int)) + 1))) none none = some (Value.slice (suf ca ((((((posK ms k : Nat) : Int)) + 1) : Int).toNat * 5)) (((csL ms).drop (((((posK ms k : Nat) : Int)) + 1) : Int).toNat).length) ((cc - (((((posK ms k : Nat) : Int)) + 1) : Int).toNat))) from (own_suf cntc_size und51 size30 (by decide) p79 (kd := .i64) (n := (((((posK ms k : Nat) : Int)) + 1) : Int)) (by omega) (by omega)).1), evP 6 8 e88, evV 99 0 undef (show sliceA Tryz.prog h87 51 (vL ca ((csL ms).length) cc) (some (vI ((((posK ms k : Nat) : Int)) + 1))) none none = some (Value.slice (suf ca ((((((posK ms k : Nat) : Int)) + 1) : Int).toNat * 5)) (((csL ms).drop (((((posK ms k : Nat) : Int)) + 1) : Int).toNat).length) ((cc - (((((posK ms k : Nat) : Int)) + 1) : Int).toNat))) from (own_suf cntc_size und51 size30 (by decide) p100 (kd := .i64) (n := (((((posK ms k : Nat) : Int)) + 1) : Int)) (by omega) (by omega)).1), evC 99 0 2 agg51 f99, evP 6 16 e106, evT 6 19 2 size51 f114 e120] .ret h119 [(4, (vI 0)), (10, (vP t 0)), (11, (vS k)), (12, (vT #[(vA #[(vI ((getC ms k).v)), (vI ((getC ms k).up)), (vI ((getC ms k).dn)), (vI ((getC ms k).lo)), (vI ((getC ms k).hi))]), (vI 0)])), (9, (vT #[(vA #[(vI ((getC ms k).v)), (vI ((getC ms k).up)), (vI ((getC ms k).dn)), (vI ((getC ms k).lo)), (vI ((getC ms k).hi))]), (vI 0)])), (13, (vA #[(vI ((getC ms k).v)), (vI ((getC ms k).up)), (vI ((getC ms k).dn)), (vI ((getC ms k).lo)), (vI ((getC ms k).hi))])), (14, (vI 0)), (5, (vP b7 0)), (6, (vI 0)), (15, (vI 0)), (16, (vB false)), (19, (vP t 0)), (20, (vS k)), (21, (vT #[(vI (((posK ms k : Nat) : Int))), (vB true)])), (18, (vT #[(vI (((posK ms k : Nat) : Int))), (vB true)])), (22, (vI (((posK ms k : Nat) : Int)))), (23, (vB true)), (7, (vI (((posK ms k : Nat) : Int)))), (8, (vB true)), (24, (vP t 0)), (25, (vL (some ⟨b24, 0, none⟩) 0 0)), (26, (vP t 0)), (27, (vP t 0)), (28, (vP t 1)), (29, (vL ka ((ksL ms).length) kc)), (30, (vI (((posK ms k : Nat) : Int)))), (31, (Value.slice ka (((ksL ms).take ((((posK ms k : Nat) : Int)) : Int).toNat).length) (kc))), (33, (vP t 0)), (34, (vP t 0)), (35, (vP t 1)), (36, (vL ka ((ksL ms).length) kc)), (37, (vI (((posK ms k : Nat) : Int)))), (38, (vI ((((posK ms k : Nat) : Int)) + 1))), (39, (Value.slice (suf ka ((((((posK ms k : Nat) : Int)) + 1) : Int).toNat * 1)) (((ksL ms).drop (((((posK ms k : Nat) : Int)) + 1) : Int).toNat).length) ((kc - (((((posK ms k : Nat) : Int)) + 1) : Int).toNat)))), (32, (Value.slice a43 (((ksL ms).take ((((posK ms k : Nat) : Int)) : Int).toNat).length) (c44))), (40, (Value.slice a56 ((((ksL ms).take ((((posK ms k : Nat) : Int)) : Int).toNat) ++ ((ksL ms).drop (((((posK ms k : Nat) : Int)) + 1) : Int).toNat)).length) (c57))), (41, (vP t 0)), (42, (vP t 1)), (43, (vP t 0)), (44, (vL (some ⟨b69, 0, none⟩) 0 0)), (45, (vP t 0)), (46, (vP t 0)), (47, (vP t 2)), (48, (vL ca ((csL ms).length) cc)), (49, (vI (((posK ms k : Nat) : Int)))), (50, (Value.slice ca (((csL ms).take ((((posK ms k : Nat) : Int)) : Int).toNat).length) (cc))), (52, (vP t 0)), (53, (vP t 0)), (54, (vP t 2)), (55, (vL ca ((csL ms).length) cc)), (56, (vI (((posK ms k : Nat) : Int)))), (57, (vI ((((posK ms k : Nat) : Int)) + 1))), (58, (Value.slice (suf ca ((((((posK ms k : Nat) : Int)) + 1) : Int).toNat * 5)) (((csL ms).drop (((((posK ms k : Nat) : Int)) + 1) : Int).toNat).length) ((cc - (((((posK ms k : Nat) : Int)) + 1) : Int).toNat)))), (51, (Value.slice a92 (((csL ms).take ((((posK ms k : Nat) : Int)) : Int).toNat).length) (c93))), (59, (Value.slice a110 ((((csL ms).take ((((posK ms k : Nat) : Int)) : Int).toNat) ++ ((csL ms).drop (((((posK ms k : Nat) : Int)) + 1) : Int).toNat)).length) (c111))), (60, (vP t 0)), (61, (vP t 2)), (4, (vI 0))] ?_
    have kx : ksL (remM ms k) = (((ksL ms).take ((((posK ms k : Nat) : Int)) : Int).toNat) ++ ((ksL ms).drop (((((posK ms k : Nat) : Int)) + 1) : Int).toNat)) := by rw [show remM ms k = delK ms k from rfl, ks_del ok c6]; rfl
    have cx : csL (remM ms k) = (((csL ms).take ((((posK ms k : Nat) : Int)) : Int).toNat) ++ ((csL ms).drop (((((posK ms k : Nat) : Int)) + 1) : Int).toNat)) := by rw [show remM ms k = delK ms k from rfl, cs_del ok c6]; rfl
    exact end_ev [] (vI 0) (hK _ _ (⟨by rw [c6], x124, _, rf_of kx cx rfl rfl f121 p122 p123, fun b hb => hb.elim (fun w => .inl ((T.foot b).2 (.inl w))) (fun w => w.elim (fun w => .inr (o62 b (pre_blk w))) (fun w => .inr (o118 b (pre_blk w))))⟩))
  · obtain ⟨b126, eb127⟩ : ∃ zq, zq = h2.size := ⟨_, rfl⟩
    obtain ⟨h128, e129⟩ : ∃ zq, zq = h2.push (.cells #[(vI 0), (vI 0), (vI 0), (vI 0), (vI 0)] 30 (0, 0)) := ⟨_, rfl⟩
    have f130 := push_new e129
    rw [← eb127] at f130
    have x131 : Ext h2 h128 := by rw [e129]; exact Ext.push _ _
    have o132 : h.size ≤ b126 := by have := x5.size; omega
    have x133 := x5.trans x131
    obtain ⟨h134, e135⟩ : ∃ zq, zq = h128.setIfInBounds b126 (.cells #[(vI 0), (vI 0), (vI 0), (vI 0), (vI 0)] 30 (0, 0)) := ⟨_, rfl⟩
    have x136 := Ext.setNew x133 e135 o132
    refine wc_ev [evF 1 2 (show SoundCall Tryz.prog 20 #[(vP t 0), (vS k)] h (vT #[(vA #[(vI 0), (vI 0), (vI 0), (vI 0), (vI 0)]), (vI 5)]) h2 from (by have w137 := s3; rw [(getE_ne c6).2.1, (getE_ne c6).2.2] at w137; exact w137)), evA 1 6 eb127 e129, evUw 1 7 size30 f130 e135] .ret h134 [(4, (vI 0)), (10, (vP t 0)), (11, (vS k)), (12, (vT #[(vA #[(vI 0), (vI 0), (vI 0), (vI 0), (vI 0)]), (vI 5)])), (9, (vT #[(vA #[(vI 0), (vI 0), (vI 0), (vI 0), (vI 0)]), (vI 5)])), (13, (vA #[(vI 0), (vI 0), (vI 0), (vI 0), (vI 0)])), (14, (vI 5)), (5, (vP b126 0)), (6, (vI 5)), (15, (vI 5)), (16, (vB true)), (17, (vI 5)), (4, (vI 5))] ?_
    exact end_ev [] (vI 5) (hK _ _ (⟨by rw [(getE_ne c6).2.1], Chg.ext x136, O, by rw [remM_none (getE_ne c6).1]; exact hT'.keep fun b r _ q => x136 b r q, fun b hb => .inl hb⟩))
end C08
