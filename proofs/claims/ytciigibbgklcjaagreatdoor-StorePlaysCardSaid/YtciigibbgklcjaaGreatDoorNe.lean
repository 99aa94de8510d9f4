/- A store and the document's show the same. -/
import Derived.Test.YtciigibbgklcjaaGreatDoorNc
import Derived.Test.YtciigibbgklcjaaGreatDoorMy
import Derived.KernelRfl
open Go Go.AM Go.Proofs
namespace C08
set_option maxHeartbeats 4000000 in
theorem slen_ok (h : Heap) {O : Nat → Prop} {t : Nat} {ms : Sto} (hT : RfAt 53 30 h O t ms) (ok : WfM ms) : WCall Tryz.prog 43 #[(vP t 0)] h (fun v h1 => v = .int .i64 ((ms.length : Nat) : Int) ∧ Ext h h1) := by
  have hT' := hT
  obtain ⟨ka, ca, kc, cc, T⟩ := hT
  have kl := ksL_len ms
  have cl := csL_len ms
  have few := ok.few
  obtain ⟨_, _, sn1, rfl, rfl⟩ := svalid_ok h T.row
  exact hCall_ev [evF 1 1 sn1, evC 3 3 1 agg40 T.row] [] (vI (((ksL ms).length : Nat))) h ⟨by rw [kl], (Ext.refl h)⟩
set_option maxHeartbeats 4000000 in
theorem skeys_ok (h : Heap) {O : Nat → Prop} {t : Nat} {ms : Sto} (hT : RfAt 53 30 h O t ms) (ok : WfM ms) : WCall Tryz.prog 41 #[(vP t 0)] h (fun v h1 => ∃ oa oc, v = .slice oa (ksL ms).length oc ∧ OwnAt h1 9 strc (ksL ms) v ∧ Ext h h1 ∧ ∀ b, blk v b → h.size ≤ b) := by
  have hT' := hT
  obtain ⟨ka, ca, kc, cc, T⟩ := hT
  have kl := ksL_len ms
  have cl := csL_len ms
  have few := ok.few
  obtain ⟨_, _, sn1, rfl, rfl⟩ := svalid_ok h T.row
  obtain ⟨b2, eb3⟩ : ∃ zq, zq = h.size := ⟨_, rfl⟩
  obtain ⟨h4, e5⟩ : ∃ zq, zq = h.push (.cells #[] 9 (0, 0)) := ⟨_, rfl⟩
  have f6 := push_new e5
  rw [← eb3] at f6
  have x7 : Ext h h4 := by rw [e5]; exact Ext.push _ _
  have o8 : h.size ≤ b2 := by have := (Ext.refl h).size; omega
  have x9 := (Ext.refl h).trans x7
  obtain ⟨w10, h11, e12, p13, x14, n15⟩ := own_clone und40 sizeb9 zero9 rfl (by decide) strc_size (ys := (ksL ms)) f6 ((T.ks.keep fun b r _ q => x9 b r q).slice strc_size) (by omega) (by unfold maxLen; omega)
  obtain ⟨a16, c17, rfl⟩ := (p13.slice strc_size).len
  have z18 : b2 < h4.size := row_lt f6
  have n19 : ∀ zz, blk (Value.slice a16 ((ksL ms).length) (c17)) zz → zz = b2 ∨ h4.size ≤ zz := fun zz hz => by rcases n15 zz hz with e | e <;> omega
  have o20 : ∀ zz, blk (Value.slice a16 ((ksL ms).length) (c17)) zz → h.size ≤ zz := fun zz hz => by have := o8; have := x9.size; rcases n19 zz hz with g | g <;> omega
  have x21 := x9.trans x14
  exact hCall_ev [evF 1 1 sn1, evS 3 0 0 eb3 e5, evC 3 4 1 agg40 (x9 _ _ T.row), evP 3 5 e12] [] (vL a16 ((ksL ms).length) c17) h11 ⟨_, _, rfl, p13, x21, o20⟩
set_option maxHeartbeats 4000000 in
theorem scopy_ok (h : Heap) {O : Nat → Prop} {t : Nat} {ms : Sto} (hT : RfAt 53 30 h O t ms) (ok : WfM ms) : WCall Tryz.prog 18 #[(vP t 0)] h (fun v h1 => ∃ b O, v = .pointer (some ⟨b, 0, none⟩) ∧ RfAt 53 30 h1 O b ms ∧ Ext h h1 ∧ ∀ z, O z → h.size ≤ z) := by
  have hT' := hT
  obtain ⟨ka, ca, kc, cc, T⟩ := hT
  have kl := ksL_len ms
  have cl := csL_len ms
  have few := ok.few
  obtain ⟨_, _, sn1, rfl, rfl⟩ := svalid_ok h T.row
  obtain ⟨b2, eb3⟩ : ∃ zq, zq = h.size := ⟨_, rfl⟩
  obtain ⟨h4, e5⟩ : ∃ zq, zq = h.push (.cells #[] 9 (0, 0)) := ⟨_, rfl⟩
  have f6 := push_new e5
  rw [← eb3] at f6
  have x7 : Ext h h4 := by rw [e5]; exact Ext.push _ _
  have o8 : h.size ≤ b2 := by have := (Ext.refl h).size; omega
  have x9 := (Ext.refl h).trans x7
  obtain ⟨b10, eb11⟩ : ∃ zq, zq = h4.size := ⟨_, rfl⟩
  obtain ⟨h12, e13⟩ : ∃ zq, zq = h4.push (.cells #[] 30 (0, 0)) := ⟨_, rfl⟩
  have f14 := push_new e13
  rw [← eb11] at f14
  have x15 : Ext h4 h12 := by rw [e13]; exact Ext.push _ _
  have o16 : h.size ≤ b10 := by have := x9.size; omega
  have f17 := x15 _ _ f6
  have x18 := x9.trans x15
  obtain ⟨w19, h20, e21, p22, x23, n24⟩ := own_clone und40 sizeb9 zero9 rfl (by decide) strc_size (ys := (ksL ms)) f17 ((T.ks.keep fun b r _ q => x18 b r q).slice strc_size) (by omega) (by unfold maxLen; omega)
  obtain ⟨a25, c26, rfl⟩ := (p22.slice strc_size).len
  have z27 : b2 < h12.size := row_lt f17
  have n28 : ∀ zz, blk (Value.slice a25 ((ksL ms).length) (c26)) zz → zz = b2 ∨ h12.size ≤ zz := fun zz hz => by rcases n24 zz hz with e | e <;> omega
  have o29 : ∀ zz, blk (Value.slice a25 ((ksL ms).length) (c26)) zz → h.size ≤ zz := fun zz hz => by have := o8; have := x18.size; rcases n28 zz hz with g | g <;> omega
  have f30 := x23 _ _ f14
  have x31 := x18.trans x23
  obtain ⟨w32, h33, e34, p35, x36, n37⟩ := own_clone und51 sizeb30 zero30 rfl (by decide) cntc_size (ys := (csL ms)) f30 ((T.cs.keep fun b r _ q => x31 b r q).slice cntc_size) (by omega) (by unfold maxLen; omega)
  obtain ⟨a38, c39, rfl⟩ := (p35.slice cntc_size).len
  have z40 : b10 < h20.size := row_lt f30
  have n41 : ∀ zz, blk (Value.slice a38 ((csL ms).length) (c39)) zz → zz = b10 ∨ h20.size ≤ zz := fun zz hz => by rcases n37 zz hz with e | e <;> omega
  have o42 : ∀ zz, blk (Value.slice a38 ((csL ms).length) (c39)) zz → h.size ≤ zz := fun zz hz => by have := o16; have := x31.size; rcases n41 zz hz with g | g <;> omega
  have p43 := p22.keep fun b r _ q => x36 b r q
  have x44 := x31.trans x36
  obtain ⟨b45, eb46⟩ : ∃ zq, zq = h33.size := ⟨_, rfl⟩
  obtain ⟨h47, e48⟩ : ∃ zq, zq = h33.push (.cells #[(vB true), (Value.slice a25 ((ksL ms).length) (c26)), (Value.slice a38 ((csL ms).length) (c39))] 53 (0, 0)) := ⟨_, rfl⟩
  have f49 := push_new e48
  rw [← eb46] at f49
  have x50 : Ext h33 h47 := by rw [e48]; exact Ext.push _ _
  have o51 : h.size ≤ b45 := by have := x44.size; omega
  have p52 := p43.keep fun b r _ q => x50 b r q
  have p53 := p35.keep fun b r _ q => x50 b r q
  have x54 := x44.trans x50
  exact hCall_ev [evF 1 1 sn1, evS 3 0 0 eb3 e5, evC 3 4 1 agg40 (x9 _ _ T.row), evS 3 6 0 eb11 e13, evC 3 10 2 agg51 (x18 _ _ T.row), evP 3 5 e21, evC 99 0 2 agg51 (x31 _ _ T.row), evP 3 11 e34, evA 3 13 eb46 e48] [] (vP b45 0) h47 ⟨b45, _, rfl, rf_of rfl rfl rfl rfl f49 p52 p53, x54, fun z hz => hz.elim (fun w => by have := o51; omega) (fun w => w.elim (o29 z) (o42 z))⟩
set_option maxHeartbeats 4000000 in
theorem srin_ok (h : Heap) {O : Nat → Prop} {t : Nat} {ms : Sto} (hT : RfAt 53 30 h O t ms) (ok : WfM ms) (r0 r1 : ByteArray) (hr0 : r0.size ≤ 9223372036854775807) (hr1 : r1.size ≤ 9223372036854775807) : WCall Tryz.prog 15 #[(vP t 0), (Value.agg #[(vS r0), (vS r1)])] h (fun v h1 => ∃ oa oc, v = .tuple #[.slice oa (inL ms r0 r1).length oc, .int .i64 (inE r0 r1)] ∧ OwnAt h1 9 strc (inL ms r0 r1) (.slice oa (inL ms r0 r1).length oc) ∧ Ext h h1 ∧ ∀ b, blk (.slice oa (inL ms r0 r1).length oc) b → h.size ≤ b) := by
  have hT' := hT
  obtain ⟨ka, ca, kc, cc, T⟩ := hT
  have kl := ksL_len ms
  have cl := csL_len ms
  have few := ok.few
  suffices H : ∀ K : Value → Heap → Prop, (∀ v h1, (fun v h1 => ∃ oa oc, v = .tuple #[.slice oa (inL ms r0 r1).length oc, .int .i64 (inE r0 r1)] ∧ OwnAt h1 9 strc (inL ms r0 r1) (.slice oa (inL ms r0 r1).length oc) ∧ Ext h h1 ∧ ∀ b, blk (.slice oa (inL ms r0 r1).length oc) b → h.size ≤ b) v h1 → K v h1) → WCall Tryz.prog 15 #[(vP t 0), (Value.agg #[(vS r0), (vS r1)])] h K from H _ fun _ _ q => q
  intro K hK
  refine wcall_at { tmps := #[(vP t 0), (vA #[(vS r0), (vS r1)]), vZ, vZ, vZ, vZ, vZ, vZ, vZ, vZ, vZ, vZ, vZ, vZ, vZ, vZ, vZ, vZ, vZ, vZ, vZ, vZ, vZ, vZ, vZ, vZ, vZ, vZ, vZ, vZ, vZ, vZ, vZ, vZ, vZ, vZ, vZ, vZ, vZ, vZ, vZ, vZ, vZ], defers := [] } (by kernel_rfl) ?_
  refine wc_seq' (subc (bodyOf Tryz.prog 15) [0]) (subc (bodyOf Tryz.prog 15) [1]) (by kernel_rfl) ?_
  obtain ⟨b1, eb2⟩ : ∃ zq, zq = h.size := ⟨_, rfl⟩
  obtain ⟨h3, e4⟩ : ∃ zq, zq = h.push (.cells #[(vS r0), (vS r1)] 32 (0, 0)) := ⟨_, rfl⟩
  have f5 := push_new e4
  rw [← eb2] at f5
  have x6 : Ext h h3 := by rw [e4]; exact Ext.push _ _
  have o7 : h.size ≤ b1 := by have := (Ext.refl h).size; omega
  have x8 := (Ext.refl h).trans x6
  refine wc_ev [evA 0 0 eb2 e4] .normal h3 [(3, (vP b1 0)), (4, (vL none 0 0)), (5, (vI 0))] ?_
  refine wc_seq' (subc (bodyOf Tryz.prog 15) [1, 0]) (subc (bodyOf Tryz.prog 15) [1, 1]) (by kernel_rfl) ?_
  obtain ⟨_, _, sn9, rfl, rfl⟩ := svalid_ok h3 (x8 _ _ T.row)
  refine wc_ev [evF 1 1 sn9] .normal h3 [(8, (vP t 0)), (9, (vB true)), (10, (vB false))] ?_
  refine wc_seq' (subc (bodyOf Tryz.prog 15) [1, 1, 0]) (subc (bodyOf Tryz.prog 15) [1, 1, 1]) (by kernel_rfl) ?_
  obtain ⟨_, hh10, sn11, rfl, x12⟩ := sckE_can h3 r0 r1 (by omega) (by omega)
  have f13 := x12 _ _ f5
  have x14 := x8.trans x12
  by_cases c15 : (((rchk r0 r1)) : Int) = 0
  · refine wc_ev [evLw 3 0 agg32 size32 f5, evF 3 1 sn11, neF 3 2 35 c15] .normal hh10 [(11, (vA #[(vS r0), (vS r1)])), (12, (vI ((rchk r0 r1)))), (13, (vB false))] ?_
    refine wc_seq' (subc (bodyOf Tryz.prog 15) [1, 1, 1, 0]) (subc (bodyOf Tryz.prog 15) [1, 1, 1, 1]) (by kernel_rfl) ?_
    refine wc_ev [] .normal hh10 [(6, (vL none 0 0))] ?_
    refine wc_seq' (subc (bodyOf Tryz.prog 15) [1, 1, 1, 1, 0]) (subc (bodyOf Tryz.prog 15) [1, 1, 1, 1, 1]) (by kernel_rfl) ?_
    refine wc_seq' (subc (bodyOf Tryz.prog 15) [1, 1, 1, 1, 0, 0]) (subc (bodyOf Tryz.prog 15) [1, 1, 1, 1, 0, 1]) (by kernel_rfl) ?_
    refine wc_ev [] .normal hh10 [(7, (vI 0))] ?_
    refine wc_block' 0 (subc (bodyOf Tryz.prog 15) [1, 1, 1, 1, 0, 1, 0]) (by kernel_rfl) ?_
    refine wc_loop' (subc (bodyOf Tryz.prog 15) [1, 1, 1, 1, 0, 1, 0, 0]) (by kernel_rfl) (fun n' a' h' => ∃ (k : Int) (out : List ByteArray) (oa : Option Addr) (oc : Nat) (g0 : Nat → Value), a' = { tmps := #[(vP t 0), (vA #[(vS r0), (vS r1)]), vZ, (vP b1 0), (vL none 0 0), (vI 0), (vL oa out.length oc), (vI k), (vP t 0), (vB true), (vB false), (vA #[(vS r0), (vS r1)]), (vI ((rchk r0 r1))), (vB false), (g0 14), (g0 15), (g0 16), (g0 17), (g0 18), (g0 19), (g0 20), (g0 21), (g0 22), (g0 23), (g0 24), (g0 25), (g0 26), (g0 27), (g0 28), (g0 29), (g0 30), (g0 31), (g0 32), (g0 33), (g0 34), (g0 35), (g0 36), (g0 37), (g0 38), (g0 39), (g0 40), (g0 41), vZ], defers := [] } ∧ Ext h h' ∧ n' = (ksL ms).length - k.toNat ∧ h'[b1]? = some (.cells #[(vS r0), (vS r1)] 32 (0, 0)) ∧ (0 ≤ k ∧ k ≤ ((ksL ms).length : Nat)) ∧ out = ((ksL ms).take k.toNat).filter (fun k => rhas r0 r1 k) ∧ (∀ zz, blk (vL oa out.length oc) zz → h.size ≤ zz) ∧ OwnAt h' 9 strc out (vL oa out.length oc)) ?_ ((ksL ms).length - (0 : Int).toNat) ⟨0, [], none, 0, (fun i => ([vU, vU, vU, vU, vU, vU, vU, vU, vU, vU, vU, vU, vU, vU, vZ, vZ, vZ, vZ, vZ, vZ, vZ, vZ, vZ, vZ, vZ, vZ, vZ, vZ, vZ, vZ, vZ, vZ, vZ, vZ, vZ, vZ, vZ, vZ, vZ, vZ, vZ, vZ] : List Value).getD i undef), by as_aux_lemma => kernel_rfl, x14, rfl, f13, by omega, rfl, fun zz hz => hz.elim, .inl ⟨rfl, rfl⟩⟩
    rintro n' _ h16 ⟨k, out, oa, oc, g0, rfl, x17, m18, f19, i20, i21, i22, p23⟩
    have lo1 : out.length ≤ 64 := by have e9 := congrArg List.length i21; have := List.length_filter_le (fun k => rhas r0 r1 k) ((ksL ms).take k.toNat); rw [← e9, List.length_take] at this; omega
    by_cases c24 : ((k) : Int) < (((ksL ms).length : Nat))
    · obtain ⟨i25, v26, e27, l28, g29⟩ := list_at (ksL ms) (e := (k)) (by omega) (by first | omega | (simp only [List.length_set, List.length_append, List.length_singleton]; omega))
      obtain ⟨b30, o31, k32, q33, a34⟩ := (T.ks.slice strc_size).at strc_size g29
      have zv35 := name_size (names_at ok g29)
      obtain ⟨_, hh36, sn37, rfl, x38⟩ := shasB_can h16 r0 r1 v26 (by omega) (by omega) (by omega)
      have f39 := x38 _ _ f19
      have p40 := p23.keep fun b r _ q => x38 b r q
      have x41 := x17.trans x38
      rcases Bool.eq_false_or_eq_true ((rhas r0 r1 v26)) with c42 | c42
      · obtain ⟨b43, o44, k45, q46, a47⟩ := (T.ks.slice strc_size).at strc_size g29
        have zv35 := name_size (names_at ok g29)
        obtain ⟨b48, eb49⟩ : ∃ zq, zq = hh36.size := ⟨_, rfl⟩
        obtain ⟨h50, e51⟩ : ∃ zq, zq = hh36.push (.cells #[(vS v26)] 9 (0, 0)) := ⟨_, rfl⟩
        have f52 := push_new e51
        rw [← eb49] at f52
        have x53 : Ext hh36 h50 := by rw [e51]; exact Ext.push _ _
        have o54 : h.size ≤ b48 := by have := x41.size; omega
        have f55 := x53 _ _ f39
        have p56 := p40.keep fun b r _ q => x53 b r q
        have x57 := x41.trans x53
        obtain ⟨w58, h59, e60, p61, c62, n63, z64⟩ := own_append und40 sizeb9 zero9 rfl (by decide) strc_size (x := v26) p56 f52 rfl (by omega) (by unfold maxLen; omega)
        obtain ⟨a65, c66, rfl⟩ := (p61.slice strc_size).len
        have z67 : h.size ≤ h50.size := x57.size
        have x68 : Ext h _ := (Chg.then (O := fun _ => False) (Chg.ext x57) c62 (fun b hb => .inr (i22 b hb))).toExt'
        have f69 := c62.same _ _ f55 (fun hb => p56.ne f55 (by decide) hb rfl)
        have o70 : ∀ zz, blk (Value.slice a65 ((out ++ [v26]).length) (c66)) zz → h.size ≤ zz := fun zz hz => by have := n63 zz hz; have := z67; omega
        refine wc_ev [evC 7 4 1 agg40 (x17 _ _ T.row), ltT 7 6 3 c24, evLw 9 0 agg32 size32 f19, evC 9 4 1 agg40 (x17 _ _ T.row), evV 9 6 (vP b30 o31) (show indexAddrA Tryz.prog 40 (vL ka ((ksL ms).length) kc) (vI k) = some (vP b30 o31) from a34 und40 size9 e27), evV 9 7 (vS v26) (show loadT Tryz.prog h16 9 (vP b30 o31) = some (vS v26) from (k32.keep fun b r _ q => x17 b r q).cell (j := 0) agg9 rfl), evFb 9 8 c42 sn37, evC 10 4 1 agg40 (x41 _ _ T.row), evV 10 6 (vP b43 o44) (show indexAddrA Tryz.prog 40 (vL ka ((ksL ms).length) kc) (vI k) = some (vP b43 o44) from a47 und40 size9 e27), evV 10 7 (vS v26) (show loadT Tryz.prog hh36 9 (vP b43 o44) = some (vS v26) from (k45.keep fun b r _ q => x41 b r q).cell (j := 0) agg9 rfl), evS 10 8 1 eb49 e51, evP 10 9 e60, evV 8 1 (vI ((k) + 1)) (show binA Tryz.prog .add 3 (vI k) (vI 1) = some (vI ((k) + 1)) from add_i64 (by omega) (by omega))] .normal h59 [(14, (vI k)), (15, (vP t 0)), (16, (vP t 0)), (17, (vP t 1)), (18, (vL ka ((ksL ms).length) kc)), (19, (vI (((ksL ms).length : Nat)))), (20, (vB true)), (23, (vA #[(vS r0), (vS r1)])), (24, (vP t 0)), (25, (vP t 0)), (26, (vP t 1)), (27, (vL ka ((ksL ms).length) kc)), (28, (vI k)), (29, (vP b30 o31)), (30, (vS v26)), (31, (vB true)), (32, (vL oa out.length oc)), (33, (vP t 0)), (34, (vP t 0)), (35, (vP t 1)), (36, (vL ka ((ksL ms).length) kc)), (37, (vI k)), (38, (vP b43 o44)), (39, (vS v26)), (40, (vL (some ⟨b48, 0, none⟩) 1 1)), (41, (vL a65 ((out ++ [v26]).length) c66)), (6, (vL a65 ((out ++ [v26]).length) c66)), (21, (vI k)), (22, (vI ((k) + 1))), (7, (vI ((k) + 1)))] ?_
        exact ⟨(ksL ms).length - (k + 1).toNat, by omega, ⟨k + 1, (out ++ [v26]), a65, c66, (fun i => ([vU, vU, vU, vU, vU, vU, vU, vU, vU, vU, vU, vU, vU, vU, (vI k), (vP t 0), (vP t 0), (vP t 1), (vL ka ((ksL ms).length) kc), (vI (((ksL ms).length : Nat))), (vB true), (vI k), (vI ((k) + 1)), (vA #[(vS r0), (vS r1)]), (vP t 0), (vP t 0), (vP t 1), (vL ka ((ksL ms).length) kc), (vI k), (vP b30 o31), (vS v26), (vB true), (vL oa out.length oc), (vP t 0), (vP t 0), (vP t 1), (vL ka ((ksL ms).length) kc), (vI k), (vP b43 o44), (vS v26), (vL (some ⟨b48, 0, none⟩) 1 1), (vL a65 ((out ++ [v26]).length) c66)] : List Value).getD i undef), by as_aux_lemma => kernel_rfl, x68, rfl, f69, by omega, by rw [show (k + 1).toNat = i25 + 1 by omega, filt_next' g29, show i25 = k.toNat by omega, ← i21, if_pos c42], o70, p61⟩⟩
      · refine wc_ev [evC 7 4 1 agg40 (x17 _ _ T.row), ltT 7 6 3 c24, evLw 9 0 agg32 size32 f19, evC 9 4 1 agg40 (x17 _ _ T.row), evV 9 6 (vP b30 o31) (show indexAddrA Tryz.prog 40 (vL ka ((ksL ms).length) kc) (vI k) = some (vP b30 o31) from a34 und40 size9 e27), evV 9 7 (vS v26) (show loadT Tryz.prog h16 9 (vP b30 o31) = some (vS v26) from (k32.keep fun b r _ q => x17 b r q).cell (j := 0) agg9 rfl), evFb 9 8 c42 sn37, evV 8 1 (vI ((k) + 1)) (show binA Tryz.prog .add 3 (vI k) (vI 1) = some (vI ((k) + 1)) from add_i64 (by omega) (by omega))] .normal hh36 [(14, (vI k)), (15, (vP t 0)), (16, (vP t 0)), (17, (vP t 1)), (18, (vL ka ((ksL ms).length) kc)), (19, (vI (((ksL ms).length : Nat)))), (20, (vB true)), (23, (vA #[(vS r0), (vS r1)])), (24, (vP t 0)), (25, (vP t 0)), (26, (vP t 1)), (27, (vL ka ((ksL ms).length) kc)), (28, (vI k)), (29, (vP b30 o31)), (30, (vS v26)), (31, (vB false)), (21, (vI k)), (22, (vI ((k) + 1))), (7, (vI ((k) + 1)))] ?_
        exact ⟨(ksL ms).length - (k + 1).toNat, by omega, ⟨k + 1, out, oa, oc, (fun i => ([vU, vU, vU, vU, vU, vU, vU, vU, vU, vU, vU, vU, vU, vU, (vI k), (vP t 0), (vP t 0), (vP t 1), (vL ka ((ksL ms).length) kc), (vI (((ksL ms).length : Nat))), (vB true), (vI k), (vI ((k) + 1)), (vA #[(vS r0), (vS r1)]), (vP t 0), (vP t 0), (vP t 1), (vL ka ((ksL ms).length) kc), (vI k), (vP b30 o31), (vS v26), (vB false), (g0 32), (g0 33), (g0 34), (g0 35), (g0 36), (g0 37), (g0 38), (g0 39), (g0 40), (g0 41)] : List Value).getD i undef), by as_aux_lemma => kernel_rfl, x41, rfl, f39, by omega, by rw [show (k + 1).toNat = i25 + 1 by omega, filt_next' g29, show i25 = k.toNat by omega, ← i21, if_neg (by rw [c42]; decide), List.append_nil], i22, p40⟩⟩
    · refine wc_ev [evC 7 4 1 agg40 (x17 _ _ T.row), ltF 7 6 3 c24] (.exit 0) h16 [(14, (vI k)), (15, (vP t 0)), (16, (vP t 0)), (17, (vP t 1)), (18, (vL ka ((ksL ms).length) kc)), (19, (vI (((ksL ms).length : Nat)))), (20, (vB false))] ?_
      refine wc_ev [] .ret h16 [(42, (vL oa out.length oc)), (4, (vL oa out.length oc)), (5, (vI 0))] ?_
      have e8 := i21
      rw [List.take_of_length_le (by omega)] at e8
      have ek : out = inL ms r0 r1 := by unfold inL; rw [if_pos c15]; exact e8
      exact end_ev [] (vT #[(vL oa out.length oc), (vI 0)]) (hK _ _ (⟨oa, oc, by unfold inE; rw [if_pos c15, ek], by rw [← ek]; exact p23, x17, by rw [← ek]; exact i22⟩))
  · refine wc_ev [evLw 3 0 agg32 size32 f5, evF 3 1 sn11, neT 3 2 35 c15] .ret hh10 [(11, (vA #[(vS r0), (vS r1)])), (12, (vI ((rchk r0 r1)))), (13, (vB true)), (4, (vL none 0 0)), (5, (vI 2))] ?_
    exact end_ev [] (vT #[(vL none 0 0), (vI 2)]) (hK _ _ (⟨none, 0, by unfold inL inE; rw [if_neg c15, if_neg c15]; rfl, by unfold inL; rw [if_neg c15]; exact .inl ⟨rfl, rfl⟩, x14, fun b hb => hb.elim⟩))
set_option maxHeartbeats 4000000 in
theorem squiet_ok (h : Heap) {O : Nat → Prop} {t : Nat} {ms : Sto} (hT : RfAt 53 30 h O t ms) (ok : WfM ms) : WCall Tryz.prog 44 #[(vP t 0)] h (fun v h1 => v = .bool (quietB ms) ∧ Ext h h1) := by
  have hT' := hT
  obtain ⟨ka, ca, kc, cc, T⟩ := hT
  have kl := ksL_len ms
  have cl := csL_len ms
  have few := ok.few
  suffices H : ∀ K : Value → Heap → Prop, (∀ v h1, (fun v h1 => v = .bool (quietB ms) ∧ Ext h h1) v h1 → K v h1) → WCall Tryz.prog 44 #[(vP t 0)] h K from H _ fun _ _ q => q
  intro K hK
  refine wcall_at { tmps := #[(vP t 0), vZ, vZ, vZ, vZ, vZ, vZ, vZ, vZ, vZ, vZ, vZ, vZ, vZ, vZ, vZ, vZ, vZ, vZ, vZ, vZ, vZ, vZ, vZ, vZ, vZ, vZ, vZ, vZ, vZ, vZ, vZ, vZ, vZ, vZ, vZ], defers := [] } (by kernel_rfl) ?_
  refine wc_seq' (subc (bodyOf Tryz.prog 44) [0]) (subc (bodyOf Tryz.prog 44) [1]) (by kernel_rfl) ?_
  refine wc_ev [] .normal h [(2, (vB false))] ?_
  refine wc_seq' (subc (bodyOf Tryz.prog 44) [1, 0]) (subc (bodyOf Tryz.prog 44) [1, 1]) (by kernel_rfl) ?_
  obtain ⟨_, _, sn1, rfl, rfl⟩ := svalid_ok h T.row
  refine wc_ev [evF 1 1 sn1] .normal h [(4, (vP t 0)), (5, (vB true)), (6, (vB false))] ?_
  refine wc_seq' (subc (bodyOf Tryz.prog 44) [1, 1, 0]) (subc (bodyOf Tryz.prog 44) [1, 1, 1]) (by kernel_rfl) ?_
  refine wc_seq' (subc (bodyOf Tryz.prog 44) [1, 1, 0, 0]) (subc (bodyOf Tryz.prog 44) [1, 1, 0, 1]) (by kernel_rfl) ?_
  refine wc_ev [] .normal h [(3, (vI 0))] ?_
  refine wc_block' 0 (subc (bodyOf Tryz.prog 44) [1, 1, 0, 1, 0]) (by kernel_rfl) ?_
  refine wc_loop' (subc (bodyOf Tryz.prog 44) [1, 1, 0, 1, 0, 0]) (by kernel_rfl) (fun n' a' h' => ∃ (k : Int) (g0 : Nat → Value), a' = { tmps := #[(vP t 0), vZ, (g0 2), (vI k), (vP t 0), (vB true), (vB false), (g0 7), (g0 8), (g0 9), (g0 10), (g0 11), (g0 12), (g0 13), (g0 14), (g0 15), (g0 16), (g0 17), (g0 18), (g0 19), (g0 20), (g0 21), (g0 22), (g0 23), (g0 24), (g0 25), (g0 26), (g0 27), (g0 28), (g0 29), (g0 30), (g0 31), (g0 32), (g0 33), (g0 34), (g0 35)], defers := [] } ∧ Ext h h' ∧ n' = (csL ms).length - k.toNat ∧ (0 ≤ k ∧ k ≤ ((csL ms).length : Nat)) ∧ quietB (ms.take k.toNat) = true) ?_ ((csL ms).length - (0 : Int).toNat) ⟨0, (fun i => ([vU, vU, (vB false), vU, vU, vU, vU, vZ, vZ, vZ, vZ, vZ, vZ, vZ, vZ, vZ, vZ, vZ, vZ, vZ, vZ, vZ, vZ, vZ, vZ, vZ, vZ, vZ, vZ, vZ, vZ, vZ, vZ, vZ, vZ, vZ] : List Value).getD i undef), by as_aux_lemma => kernel_rfl, (Ext.refl h), rfl, by omega, rfl⟩
  rintro n' _ h2 ⟨k, g0, rfl, x3, m4, i5, i6⟩
  by_cases c7 : ((k) : Int) < (((csL ms).length : Nat))
  · obtain ⟨i9, v10, e11, l12, g13⟩ := list_at (csL ms) (e := (k)) (by omega) (by first | omega | (simp only [List.length_set, List.length_append, List.length_singleton]; omega))
    obtain ⟨b14, o15, k16, q17, a18⟩ := (T.cs.slice cntc_size).at cntc_size g13
    by_cases c19 : ((v10.up) : Int) = 0
    · obtain ⟨b20, o21, k22, q23, a24⟩ := (T.cs.slice cntc_size).at cntc_size g13
      by_cases c25 : ((v10.dn) : Int) = 0
      · refine wc_ev [evC 4 4 2 agg51 (x3 _ _ T.row), ltT 4 6 3 c7, evC 6 3 2 agg51 (x3 _ _ T.row), evV 6 5 (vP b14 o15) (show indexAddrA Tryz.prog 51 (vL ca ((csL ms).length) cc) (vI k) = some (vP b14 o15) from a18 und51 size30 e11), evV 6 7 (vI v10.up) (show loadT Tryz.prog h2 2 (vP b14 (o15 + 1)) = some (vI v10.up) from (k16.keep fun b r _ q => x3 b r q).cell (j := 1) agg2 rfl), neF 6 8 2 c19, evC 6 13 2 agg51 (x3 _ _ T.row), evV 6 15 (vP b20 o21) (show indexAddrA Tryz.prog 51 (vL ca ((csL ms).length) cc) (vI k) = some (vP b20 o21) from a24 und51 size30 e11), evV 6 17 (vI v10.dn) (show loadT Tryz.prog h2 2 (vP b20 (o21 + 2)) = some (vI v10.dn) from (k22.keep fun b r _ q => x3 b r q).cell (j := 2) agg2 rfl), neF 6 18 2 c25, evV 5 1 (vI ((k) + 1)) (show binA Tryz.prog .add 3 (vI k) (vI 1) = some (vI ((k) + 1)) from add_i64 (by omega) (by omega))] .normal h2 [(7, (vI k)), (8, (vP t 0)), (9, (vP t 0)), (10, (vP t 2)), (11, (vL ca ((csL ms).length) cc)), (12, (vI (((csL ms).length : Nat)))), (13, (vB true)), (16, (vP t 0)), (17, (vP t 0)), (18, (vP t 2)), (19, (vL ca ((csL ms).length) cc)), (20, (vI k)), (21, (vP b14 o15)), (22, (vP b14 (o15 + 1))), (23, (vI v10.up)), (24, (vB false)), (25, (vB false)), (26, (vP t 0)), (27, (vP t 0)), (28, (vP t 2)), (29, (vL ca ((csL ms).length) cc)), (30, (vI k)), (31, (vP b20 o21)), (32, (vP b20 (o21 + 2))), (33, (vI v10.dn)), (34, (vB false)), (35, (vB false)), (14, (vI k)), (15, (vI ((k) + 1))), (3, (vI ((k) + 1)))] ?_
        exact ⟨(csL ms).length - (k + 1).toNat, by omega, ⟨k + 1, (fun i => ([vU, vU, (g0 2), vU, vU, vU, vU, (vI k), (vP t 0), (vP t 0), (vP t 2), (vL ca ((csL ms).length) cc), (vI (((csL ms).length : Nat))), (vB true), (vI k), (vI ((k) + 1)), (vP t 0), (vP t 0), (vP t 2), (vL ca ((csL ms).length) cc), (vI k), (vP b14 o15), (vP b14 (o15 + 1)), (vI v10.up), (vB false), (vB false), (vP t 0), (vP t 0), (vP t 2), (vL ca ((csL ms).length) cc), (vI k), (vP b20 o21), (vP b20 (o21 + 2)), (vI v10.dn), (vB false), (vB false)] : List Value).getD i undef), by as_aux_lemma => kernel_rfl, x3, rfl, by omega, by obtain ⟨kk, hm⟩ := csL_at g13; rw [show (k + 1).toNat = i9 + 1 by omega, quiet_next hm, show i9 = k.toNat by omega, i6]; simp [c19, c25]⟩⟩
      · refine wc_ev [evC 4 4 2 agg51 (x3 _ _ T.row), ltT 4 6 3 c7, evC 6 3 2 agg51 (x3 _ _ T.row), evV 6 5 (vP b14 o15) (show indexAddrA Tryz.prog 51 (vL ca ((csL ms).length) cc) (vI k) = some (vP b14 o15) from a18 und51 size30 e11), evV 6 7 (vI v10.up) (show loadT Tryz.prog h2 2 (vP b14 (o15 + 1)) = some (vI v10.up) from (k16.keep fun b r _ q => x3 b r q).cell (j := 1) agg2 rfl), neF 6 8 2 c19, evC 6 13 2 agg51 (x3 _ _ T.row), evV 6 15 (vP b20 o21) (show indexAddrA Tryz.prog 51 (vL ca ((csL ms).length) cc) (vI k) = some (vP b20 o21) from a24 und51 size30 e11), evV 6 17 (vI v10.dn) (show loadT Tryz.prog h2 2 (vP b20 (o21 + 2)) = some (vI v10.dn) from (k22.keep fun b r _ q => x3 b r q).cell (j := 2) agg2 rfl), neT 6 18 2 c25] .ret h2 [(7, (vI k)), (8, (vP t 0)), (9, (vP t 0)), (10, (vP t 2)), (11, (vL ca ((csL ms).length) cc)), (12, (vI (((csL ms).length : Nat)))), (13, (vB true)), (16, (vP t 0)), (17, (vP t 0)), (18, (vP t 2)), (19, (vL ca ((csL ms).length) cc)), (20, (vI k)), (21, (vP b14 o15)), (22, (vP b14 (o15 + 1))), (23, (vI v10.up)), (24, (vB false)), (25, (vB false)), (26, (vP t 0)), (27, (vP t 0)), (28, (vP t 2)), (29, (vL ca ((csL ms).length) cc)), (30, (vI k)), (31, (vP b20 o21)), (32, (vP b20 (o21 + 2))), (33, (vI v10.dn)), (34, (vB true)), (35, (vB true)), (2, (vB false))] ?_
        obtain ⟨kk, hm⟩ := csL_at g13
        have e9 := quiet_no hm (.inr c25)
        exact end_ev [] (vB false) (hK _ _ (⟨by rw [e9], x3⟩))
    · refine wc_ev [evC 4 4 2 agg51 (x3 _ _ T.row), ltT 4 6 3 c7, evC 6 3 2 agg51 (x3 _ _ T.row), evV 6 5 (vP b14 o15) (show indexAddrA Tryz.prog 51 (vL ca ((csL ms).length) cc) (vI k) = some (vP b14 o15) from a18 und51 size30 e11), evV 6 7 (vI v10.up) (show loadT Tryz.prog h2 2 (vP b14 (o15 + 1)) = some (vI v10.up) from (k16.keep fun b r _ q => x3 b r q).cell (j := 1) agg2 rfl), neT 6 8 2 c19] .ret h2 [(7, (vI k)), (8, (vP t 0)), (9, (vP t 0)), (10, (vP t 2)), (11, (vL ca ((csL ms).length) cc)), (12, (vI (((csL ms).length : Nat)))), (13, (vB true)), (16, (vP t 0)), (17, (vP t 0)), (18, (vP t 2)), (19, (vL ca ((csL ms).length) cc)), (20, (vI k)), (21, (vP b14 o15)), (22, (vP b14 (o15 + 1))), (23, (vI v10.up)), (24, (vB true)), (25, (vB true)), (26, vZ), (27, vZ), (28, vZ), (29, vZ), (30, vZ), (31, vZ), (32, vZ), (33, vZ), (34, vZ), (35, (vB true)), (2, (vB false))] ?_
      obtain ⟨kk, hm⟩ := csL_at g13
      have e9 := quiet_no hm (.inl c19)
      exact end_ev [] (vB false) (hK _ _ (⟨by rw [e9], x3⟩))
  · refine wc_ev [evC 4 4 2 agg51 (x3 _ _ T.row), ltF 4 6 3 c7] (.exit 0) h2 [(7, (vI k)), (8, (vP t 0)), (9, (vP t 0)), (10, (vP t 2)), (11, (vL ca ((csL ms).length) cc)), (12, (vI (((csL ms).length : Nat)))), (13, (vB false))] ?_
    refine wc_ev [] .ret h2 [(2, (vB true))] ?_
    have e9 := i6
    rw [List.take_of_length_le (by omega)] at e9
    exact end_ev [] (vB true) (hK _ _ (⟨by rw [e9], x3⟩))
/-- What skaldref01.Check gives. -/
def schkN (a : Int) : Int := if ((a) : Int) < (-1152921504606846976) then 7 else (if (1152921504606846976 : Int) < (a) then 7 else 0)
set_option maxHeartbeats 4000000 in
theorem schkN_ok (h : Heap) (a : Int) : WCall Tryz.prog 83 #[(vI (a))] h (fun v h1 => v = (vI ((schkN a))) ∧ h = h1) := by
  by_cases c1 : ((a) : Int) < (-1152921504606846976)
  · have e2 : (schkN a) = 7 := by unfold schkN; rw [if_pos c1]
    exact hCall_ev [ltT 1 1 2 c1] [] (vI 7) h ⟨by rw [e2], rfl⟩
  · by_cases c3 : (1152921504606846976 : Int) < (a)
    · have e4 : (schkN a) = 7 := by unfold schkN; rw [if_neg c1, if_pos c3]
      exact hCall_ev [ltF 1 1 2 c1, gtT 1 4 2 c3] [] (vI 7) h ⟨by rw [e4], rfl⟩
    · have e5 : (schkN a) = 0 := by unfold schkN; rw [if_neg c1, if_neg c3]
      exact hCall_ev [ltF 1 1 2 c1, gtF 1 4 2 c3] [] (vI 0) h ⟨by rw [e5], rfl⟩
theorem schkN_in {a : Int} (h : (-1152921504606846976 ≤ a ∧ a ≤ 1152921504606846976)) : schkN a = 0 := by unfold schkN; rw [if_neg (by omega), if_neg (by omega)]
theorem schkN_out {a : Int} (h : ¬ (-1152921504606846976 ≤ a ∧ a ≤ 1152921504606846976)) : schkN a = 7 := by unfold schkN; split; rfl; rw [if_pos (by omega)]
set_option maxHeartbeats 4000000 in
theorem ssum1_ok (h : Heap) (xs : List Int) (sa : Option Addr) (cp : Nat) (hl : SliceAt h icell 1 xs (.slice sa xs.length cp)) (hlen : xs.length ≤ 10000) (hn : ∀ x ∈ xs, (-1152921504606846976 ≤ x ∧ x ≤ 1152921504606846976)) : WCall Tryz.prog 65 #[(Value.slice sa (xs.length) (cp))] h (fun v h1 => v = .tuple #[.int .i64 (sumV xs), .int .i64 (sumE xs)] ∧ Ext h h1) := by
  suffices H : ∀ K : Value → Heap → Prop, (∀ v h1, (fun v h1 => v = .tuple #[.int .i64 (sumV xs), .int .i64 (sumE xs)] ∧ Ext h h1) v h1 → K v h1) → WCall Tryz.prog 65 #[(Value.slice sa (xs.length) (cp))] h K from H _ fun _ _ q => q
  intro K hK
  refine wcall_at { tmps := #[(vL sa xs.length cp), vZ, vZ, vZ, vZ, vZ, vZ, vZ, vZ, vZ, vZ, vZ, vZ, vZ, vZ, vZ, vZ, vZ, vZ, vZ, vZ, vZ, vZ, vZ, vZ, vZ, vZ, vZ, vZ, vZ, vZ, vZ, vZ, vZ, vZ, vZ, vZ, vZ, vZ, vZ, vZ, vZ, vZ, vZ, vZ, vZ, vZ, vZ, vZ, vZ, vZ, vZ, vZ, vZ, vZ, vZ, vZ, vZ, vZ, vZ], defers := [] } (by kernel_rfl) ?_
  refine wc_seq' (subc (bodyOf Tryz.prog 65) [0]) (subc (bodyOf Tryz.prog 65) [1]) (by kernel_rfl) ?_
  refine wc_ev [] .normal h [(2, (vI 0)), (3, (vI 0))] ?_
  refine wc_seq' (subc (bodyOf Tryz.prog 65) [1, 0]) (subc (bodyOf Tryz.prog 65) [1, 1]) (by kernel_rfl) ?_
  by_cases c1 : (10000 : Int) < ((xs.length : Nat))
  · refine wc_ev [gtT 1 2 3 c1] .ret h [(7, (vL sa xs.length cp)), (8, (vI ((xs.length : Nat)))), (9, (vB true)), (2, (vI 0)), (3, (vI 12))] ?_
    exfalso
    omega
  · refine wc_ev [gtF 1 2 3 c1] .normal h [(7, (vL sa xs.length cp)), (8, (vI ((xs.length : Nat)))), (9, (vB false))] ?_
    refine wc_seq' (subc (bodyOf Tryz.prog 65) [1, 1, 0]) (subc (bodyOf Tryz.prog 65) [1, 1, 1]) (by kernel_rfl) ?_
    refine wc_ev [] .normal h [(4, (vI 0)), (5, (vI 0))] ?_
    refine wc_seq' (subc (bodyOf Tryz.prog 65) [1, 1, 1, 0]) (subc (bodyOf Tryz.prog 65) [1, 1, 1, 1]) (by kernel_rfl) ?_
    refine wc_seq' (subc (bodyOf Tryz.prog 65) [1, 1, 1, 0, 0]) (subc (bodyOf Tryz.prog 65) [1, 1, 1, 0, 1]) (by kernel_rfl) ?_
    refine wc_ev [] .normal h [(6, (vI 0))] ?_
    refine wc_block' 0 (subc (bodyOf Tryz.prog 65) [1, 1, 1, 0, 1, 0]) (by kernel_rfl) ?_
    refine wc_loop' (subc (bodyOf Tryz.prog 65) [1, 1, 1, 0, 1, 0, 0]) (by kernel_rfl) (fun n' a' h' => ∃ (k : Int) (hi : Int) (lo : Int) (g0 : Nat → Value), a' = { tmps := #[(vL sa xs.length cp), vZ, (g0 2), (g0 3), (vI hi), (vI lo), (vI k), (vL sa xs.length cp), (vI ((xs.length : Nat))), (vB false), (g0 10), (g0 11), (g0 12), (g0 13), (g0 14), (g0 15), (g0 16), (g0 17), (g0 18), (g0 19), (g0 20), (g0 21), (g0 22), (g0 23), (g0 24), (g0 25), (g0 26), (g0 27), (g0 28), (g0 29), (g0 30), (g0 31), (g0 32), (g0 33), (g0 34), (g0 35), vZ, vZ, vZ, vZ, vZ, vZ, vZ, vZ, vZ, vZ, vZ, vZ, vZ, vZ, vZ, vZ, vZ, vZ, vZ, vZ, vZ, vZ, vZ, vZ], defers := [] } ∧ Ext h h' ∧ n' = xs.length - k.toNat ∧ (0 ≤ k ∧ k ≤ (xs.length : Nat)) ∧ sumI (xs.take k.toNat) = 4294967296 * hi + lo ∧ (0 ≤ lo ∧ lo ≤ 4294967295 * k) ∧ (-(268435456 * k) ≤ hi ∧ hi ≤ 268435456 * k)) ?_ (xs.length - (0 : Int).toNat) ⟨0, 0, 0, (fun i => ([vU, vU, (vI 0), (vI 0), vU, vU, vU, vU, vU, vU, vZ, vZ, vZ, vZ, vZ, vZ, vZ, vZ, vZ, vZ, vZ, vZ, vZ, vZ, vZ, vZ, vZ, vZ, vZ, vZ, vZ, vZ, vZ, vZ, vZ, vZ] : List Value).getD i undef), by as_aux_lemma => kernel_rfl, (Ext.refl h), rfl, by omega, rfl, by omega, by omega⟩
    rintro n' _ h2 ⟨k, hi, lo, g0, rfl, x3, m4, i5, i6, i7, i9⟩
    by_cases c10 : ((k) : Int) < ((xs.length : Nat))
    · obtain ⟨i11, v12, e13, l14, g15⟩ := list_at xs (e := (k)) (by omega) (by first | omega | (simp only [List.length_set, List.length_append, List.length_singleton]; omega))
      obtain ⟨b16, o17, k18, q19, a20⟩ := hl.at icell_size g15
      have := hn _ (List.mem_of_getElem? g15)
      obtain ⟨_, _, s21, rfl, rfl⟩ := schkN_ok h2 (v12)
      by_cases c22 : -1152921504606846976 ≤ ((v12) : Int) ∧ ((v12) : Int) ≤ 1152921504606846976
      · obtain ⟨b23, o24, k25, q26, a27⟩ := hl.at icell_size g15
        have := hn _ (List.mem_of_getElem? g15)
        obtain ⟨b28, o29, k30, q31, a32⟩ := hl.at icell_size g15
        have := hn _ (List.mem_of_getElem? g15)
        refine wc_ev [ltT 5 3 3 c10, evV 7 2 (vP b16 o17) (show indexAddrA Tryz.prog 67 (vL sa xs.length cp) (vI k) = some (vP b16 o17) from a20 und67 size2 e13), evV 7 3 (vI v12) (show loadT Tryz.prog h2 2 (vP b16 o17) = some (vI v12) from (k18.keep fun b r _ q => x3 b r q).cell (j := 0) agg2 rfl), evF 7 4 (by rw [schkN_in c22] at s21; exact s21), evV 9 3 (vP b23 o24) (show indexAddrA Tryz.prog 67 (vL sa xs.length cp) (vI k) = some (vP b23 o24) from a27 und67 size2 e13), evV 9 4 (vI v12) (show loadT Tryz.prog h2 2 (vP b23 o24) = some (vI v12) from (k25.keep fun b r _ q => x3 b r q).cell (j := 0) agg2 rfl), evV 9 5 (vI ((v12) / 4294967296)) (show binA Tryz.prog .shr 2 (vI v12) (Value.int .u64 32) = some (vI ((v12) / 4294967296)) from shr_i64 (k := 32) (d := 4294967296) (by decide) (by decide)), evV 9 6 (vI ((hi) + ((v12) / 4294967296))) (show binA Tryz.prog .add 2 (vI hi) (vI ((v12) / 4294967296)) = some (vI ((hi) + ((v12) / 4294967296))) from add_i64 (by omega) (by omega)), evV 10 3 (vP b28 o29) (show indexAddrA Tryz.prog 67 (vL sa xs.length cp) (vI k) = some (vP b28 o29) from a32 und67 size2 e13), evV 10 4 (vI v12) (show loadT Tryz.prog h2 2 (vP b28 o29) = some (vI v12) from (k30.keep fun b r _ q => x3 b r q).cell (j := 0) agg2 rfl), evV 10 5 (vI (((v12) % 4294967296))) (show binA Tryz.prog .and 2 (vI v12) (vI 4294967295) = some (vI (((v12) % 4294967296))) from and_i64 (k := 32) (n := 4294967296) (d := 4294967296) (by decide) rfl (by decide)), evV 10 6 (vI ((lo) + (((v12) % 4294967296)))) (show binA Tryz.prog .add 2 (vI lo) (vI (((v12) % 4294967296))) = some (vI ((lo) + (((v12) % 4294967296)))) from add_i64 (by omega) (by omega)), evV 6 1 (vI ((k) + 1)) (show binA Tryz.prog .add 3 (vI k) (vI 1) = some (vI ((k) + 1)) from add_i64 (by omega) (by omega))] .normal h2 [(10, (vI k)), (11, (vL sa xs.length cp)), (12, (vI ((xs.length : Nat)))), (13, (vB true)), (16, (vL sa xs.length cp)), (17, (vI k)), (18, (vP b16 o17)), (19, (vI v12)), (20, (vI 0)), (21, (vB false)), (22, (vI hi)), (23, (vL sa xs.length cp)), (24, (vI k)), (25, (vP b23 o24)), (26, (vI v12)), (27, (vI ((v12) / 4294967296))), (28, (vI ((hi) + ((v12) / 4294967296)))), (4, (vI ((hi) + ((v12) / 4294967296)))), (29, (vI lo)), (30, (vL sa xs.length cp)), (31, (vI k)), (32, (vP b28 o29)), (33, (vI v12)), (34, (vI (((v12) % 4294967296)))), (35, (vI ((lo) + (((v12) % 4294967296))))), (5, (vI ((lo) + (((v12) % 4294967296))))), (14, (vI k)), (15, (vI ((k) + 1))), (6, (vI ((k) + 1)))] ?_
        exact ⟨xs.length - (k + 1).toNat, by omega, ⟨k + 1, (hi) + ((v12) / 4294967296), (lo) + (((v12) % 4294967296)), (fun i => ([vU, vU, (g0 2), (g0 3), vU, vU, vU, vU, vU, vU, (vI k), (vL sa xs.length cp), (vI ((xs.length : Nat))), (vB true), (vI k), (vI ((k) + 1)), (vL sa xs.length cp), (vI k), (vP b16 o17), (vI v12), (vI 0), (vB false), (vI hi), (vL sa xs.length cp), (vI k), (vP b23 o24), (vI v12), (vI ((v12) / 4294967296)), (vI ((hi) + ((v12) / 4294967296))), (vI lo), (vL sa xs.length cp), (vI k), (vP b28 o29), (vI v12), (vI (((v12) % 4294967296))), (vI ((lo) + (((v12) % 4294967296))))] : List Value).getD i undef), by as_aux_lemma => kernel_rfl, x3, rfl, by omega, by rw [show (k + 1).toNat = i11 + 1 by omega, take_next g15, sumI_app, show i11 = k.toNat by omega]; omega, by omega, by omega⟩⟩
      · refine wc_ev [ltT 5 3 3 c10, evV 7 2 (vP b16 o17) (show indexAddrA Tryz.prog 67 (vL sa xs.length cp) (vI k) = some (vP b16 o17) from a20 und67 size2 e13), evV 7 3 (vI v12) (show loadT Tryz.prog h2 2 (vP b16 o17) = some (vI v12) from (k18.keep fun b r _ q => x3 b r q).cell (j := 0) agg2 rfl), evF 7 4 (by rw [schkN_out c22] at s21; exact s21)] .ret h2 [(10, (vI k)), (11, (vL sa xs.length cp)), (12, (vI ((xs.length : Nat)))), (13, (vB true)), (16, (vL sa xs.length cp)), (17, (vI k)), (18, (vP b16 o17)), (19, (vI v12)), (20, (vI 7)), (21, (vB true)), (2, (vI 0)), (3, (vI 7))] ?_
        exfalso
        omega
    · refine wc_ev [ltF 5 3 3 c10] (.exit 0) h2 [(10, (vI k)), (11, (vL sa xs.length cp)), (12, (vI ((xs.length : Nat)))), (13, (vB false))] ?_
      by_cases c33 : (((hi) + ((lo) / 4294967296)) : Int) < (-268435456)
      · refine wc_ev [evV 11 2 (vI ((lo) / 4294967296)) (show binA Tryz.prog .shr 2 (vI lo) (Value.int .u64 32) = some (vI ((lo) / 4294967296)) from shr_i64 (k := 32) (d := 4294967296) (by decide) (by decide)), evV 11 3 (vI ((hi) + ((lo) / 4294967296))) (show binA Tryz.prog .add 2 (vI hi) (vI ((lo) / 4294967296)) = some (vI ((hi) + ((lo) / 4294967296))) from add_i64 (by omega) (by omega)), evV 12 1 (vI (((lo) % 4294967296))) (show binA Tryz.prog .and 2 (vI lo) (vI 4294967295) = some (vI (((lo) % 4294967296))) from and_i64 (k := 32) (n := 4294967296) (d := 4294967296) (by decide) rfl (by decide)), ltT 13 1 2 c33] .ret h2 [(36, (vI hi)), (37, (vI lo)), (38, (vI ((lo) / 4294967296))), (39, (vI ((hi) + ((lo) / 4294967296)))), (4, (vI ((hi) + ((lo) / 4294967296)))), (40, (vI lo)), (41, (vI (((lo) % 4294967296)))), (5, (vI (((lo) % 4294967296)))), (42, (vI ((hi) + ((lo) / 4294967296)))), (43, (vB true)), (44, (vB true)), (45, vZ), (46, vZ), (47, (vB true)), (48, (vB true)), (49, vZ), (50, vZ), (51, vZ), (52, vZ), (53, vZ), (54, vZ), (55, (vB true)), (2, (vI 0)), (3, (vI 7))] ?_
        have e9 := i6
        rw [List.take_of_length_le (by omega)] at e9
        have sf := sum_facts xs
        have s9 : sumE xs = 7 ∧ sumV xs = 0 := sf.2 (by omega)
        exact end_ev [] (vT #[(vI 0), (vI 7)]) (hK _ _ (⟨by rw [s9.1, s9.2], x3⟩))
      · by_cases c34 : (268435456 : Int) < ((hi) + ((lo) / 4294967296))
        · refine wc_ev [evV 11 2 (vI ((lo) / 4294967296)) (show binA Tryz.prog .shr 2 (vI lo) (Value.int .u64 32) = some (vI ((lo) / 4294967296)) from shr_i64 (k := 32) (d := 4294967296) (by decide) (by decide)), evV 11 3 (vI ((hi) + ((lo) / 4294967296))) (show binA Tryz.prog .add 2 (vI hi) (vI ((lo) / 4294967296)) = some (vI ((hi) + ((lo) / 4294967296))) from add_i64 (by omega) (by omega)), evV 12 1 (vI (((lo) % 4294967296))) (show binA Tryz.prog .and 2 (vI lo) (vI 4294967295) = some (vI (((lo) % 4294967296))) from and_i64 (k := 32) (n := 4294967296) (d := 4294967296) (by decide) rfl (by decide)), ltF 13 1 2 c33, gtT 13 4 2 c34] .ret h2 [(36, (vI hi)), (37, (vI lo)), (38, (vI ((lo) / 4294967296))), (39, (vI ((hi) + ((lo) / 4294967296)))), (4, (vI ((hi) + ((lo) / 4294967296)))), (40, (vI lo)), (41, (vI (((lo) % 4294967296)))), (5, (vI (((lo) % 4294967296)))), (42, (vI ((hi) + ((lo) / 4294967296)))), (43, (vB false)), (44, (vB false)), (45, (vI ((hi) + ((lo) / 4294967296)))), (46, (vB true)), (47, (vB true)), (48, (vB true)), (49, vZ), (50, vZ), (51, vZ), (52, vZ), (53, vZ), (54, vZ), (55, (vB true)), (2, (vI 0)), (3, (vI 7))] ?_
          have e9 := i6
          rw [List.take_of_length_le (by omega)] at e9
          have sf := sum_facts xs
          have s9 : sumE xs = 7 ∧ sumV xs = 0 := sf.2 (by omega)
          exact end_ev [] (vT #[(vI 0), (vI 7)]) (hK _ _ (⟨by rw [s9.1, s9.2], x3⟩))
        · by_cases c35 : (((hi) + ((lo) / 4294967296)) : Int) = 268435456
          · by_cases c36 : (0 : Int) < (((lo) % 4294967296))
            · refine wc_ev [evV 11 2 (vI ((lo) / 4294967296)) (show binA Tryz.prog .shr 2 (vI lo) (Value.int .u64 32) = some (vI ((lo) / 4294967296)) from shr_i64 (k := 32) (d := 4294967296) (by decide) (by decide)), evV 11 3 (vI ((hi) + ((lo) / 4294967296))) (show binA Tryz.prog .add 2 (vI hi) (vI ((lo) / 4294967296)) = some (vI ((hi) + ((lo) / 4294967296))) from add_i64 (by omega) (by omega)), evV 12 1 (vI (((lo) % 4294967296))) (show binA Tryz.prog .and 2 (vI lo) (vI 4294967295) = some (vI (((lo) % 4294967296))) from and_i64 (k := 32) (n := 4294967296) (d := 4294967296) (by decide) rfl (by decide)), ltF 13 1 2 c33, gtF 13 4 2 c34, eqT 13 8 2 c35, gtT 13 11 2 c36] .ret h2 [(36, (vI hi)), (37, (vI lo)), (38, (vI ((lo) / 4294967296))), (39, (vI ((hi) + ((lo) / 4294967296)))), (4, (vI ((hi) + ((lo) / 4294967296)))), (40, (vI lo)), (41, (vI (((lo) % 4294967296)))), (5, (vI (((lo) % 4294967296)))), (42, (vI ((hi) + ((lo) / 4294967296)))), (43, (vB false)), (44, (vB false)), (45, (vI ((hi) + ((lo) / 4294967296)))), (46, (vB false)), (47, (vB false)), (48, (vB false)), (49, (vI ((hi) + ((lo) / 4294967296)))), (50, (vB true)), (51, (vB true)), (52, (vI (((lo) % 4294967296)))), (53, (vB true)), (54, (vB true)), (55, (vB true)), (2, (vI 0)), (3, (vI 7))] ?_
              have e9 := i6
              rw [List.take_of_length_le (by omega)] at e9
              have sf := sum_facts xs
              have s9 : sumE xs = 7 ∧ sumV xs = 0 := sf.2 (by omega)
              exact end_ev [] (vT #[(vI 0), (vI 7)]) (hK _ _ (⟨by rw [s9.1, s9.2], x3⟩))
            · refine wc_ev [evV 11 2 (vI ((lo) / 4294967296)) (show binA Tryz.prog .shr 2 (vI lo) (Value.int .u64 32) = some (vI ((lo) / 4294967296)) from shr_i64 (k := 32) (d := 4294967296) (by decide) (by decide)), evV 11 3 (vI ((hi) + ((lo) / 4294967296))) (show binA Tryz.prog .add 2 (vI hi) (vI ((lo) / 4294967296)) = some (vI ((hi) + ((lo) / 4294967296))) from add_i64 (by omega) (by omega)), evV 12 1 (vI (((lo) % 4294967296))) (show binA Tryz.prog .and 2 (vI lo) (vI 4294967295) = some (vI (((lo) % 4294967296))) from and_i64 (k := 32) (n := 4294967296) (d := 4294967296) (by decide) rfl (by decide)), ltF 13 1 2 c33, gtF 13 4 2 c34, eqT 13 8 2 c35, gtF 13 11 2 c36, evV 15 1 (vI (((hi) + ((lo) / 4294967296)) * 4294967296)) (show binA Tryz.prog .shl 2 (vI ((hi) + ((lo) / 4294967296))) (Value.int .u64 32) = some (vI (((hi) + ((lo) / 4294967296)) * 4294967296)) from shl_i64 (k := 32) (d := 4294967296) (by decide) (by decide) (by omega)), evV 15 3 (vI ((((hi) + ((lo) / 4294967296)) * 4294967296) + (((lo) % 4294967296)))) (show binA Tryz.prog .add 2 (vI (((hi) + ((lo) / 4294967296)) * 4294967296)) (vI (((lo) % 4294967296))) = some (vI ((((hi) + ((lo) / 4294967296)) * 4294967296) + (((lo) % 4294967296)))) from add_i64 (by omega) (by omega))] .ret h2 [(36, (vI hi)), (37, (vI lo)), (38, (vI ((lo) / 4294967296))), (39, (vI ((hi) + ((lo) / 4294967296)))), (4, (vI ((hi) + ((lo) / 4294967296)))), (40, (vI lo)), (41, (vI (((lo) % 4294967296)))), (5, (vI (((lo) % 4294967296)))), (42, (vI ((hi) + ((lo) / 4294967296)))), (43, (vB false)), (44, (vB false)), (45, (vI ((hi) + ((lo) / 4294967296)))), (46, (vB false)), (47, (vB false)), (48, (vB false)), (49, (vI ((hi) + ((lo) / 4294967296)))), (50, (vB true)), (51, (vB true)), (52, (vI (((lo) % 4294967296)))), (53, (vB false)), (54, (vB false)), (55, (vB false)), (56, (vI ((hi) + ((lo) / 4294967296)))), (57, (vI (((hi) + ((lo) / 4294967296)) * 4294967296))), (58, (vI (((lo) % 4294967296)))), (59, (vI ((((hi) + ((lo) / 4294967296)) * 4294967296) + (((lo) % 4294967296))))), (2, (vI ((((hi) + ((lo) / 4294967296)) * 4294967296) + (((lo) % 4294967296))))), (3, (vI 0))] ?_
              have e9 := i6
              rw [List.take_of_length_le (by omega)] at e9
              have sf := sum_facts xs
              have s9 : sumE xs = 0 ∧ sumV xs = sumI xs := sf.1 (by omega)
              have v9 : (((hi) + ((lo) / 4294967296)) * 4294967296) + (((lo) % 4294967296)) = sumI xs := by omega
              exact end_ev [] (vT #[(vI ((((hi) + ((lo) / 4294967296)) * 4294967296) + (((lo) % 4294967296)))), (vI 0)]) (hK _ _ (⟨by rw [s9.1, s9.2, ← v9], x3⟩))
          · refine wc_ev [evV 11 2 (vI ((lo) / 4294967296)) (show binA Tryz.prog .shr 2 (vI lo) (Value.int .u64 32) = some (vI ((lo) / 4294967296)) from shr_i64 (k := 32) (d := 4294967296) (by decide) (by decide)), evV 11 3 (vI ((hi) + ((lo) / 4294967296))) (show binA Tryz.prog .add 2 (vI hi) (vI ((lo) / 4294967296)) = some (vI ((hi) + ((lo) / 4294967296))) from add_i64 (by omega) (by omega)), evV 12 1 (vI (((lo) % 4294967296))) (show binA Tryz.prog .and 2 (vI lo) (vI 4294967295) = some (vI (((lo) % 4294967296))) from and_i64 (k := 32) (n := 4294967296) (d := 4294967296) (by decide) rfl (by decide)), ltF 13 1 2 c33, gtF 13 4 2 c34, eqF 13 8 2 c35, evV 15 1 (vI (((hi) + ((lo) / 4294967296)) * 4294967296)) (show binA Tryz.prog .shl 2 (vI ((hi) + ((lo) / 4294967296))) (Value.int .u64 32) = some (vI (((hi) + ((lo) / 4294967296)) * 4294967296)) from shl_i64 (k := 32) (d := 4294967296) (by decide) (by decide) (by omega)), evV 15 3 (vI ((((hi) + ((lo) / 4294967296)) * 4294967296) + (((lo) % 4294967296)))) (show binA Tryz.prog .add 2 (vI (((hi) + ((lo) / 4294967296)) * 4294967296)) (vI (((lo) % 4294967296))) = some (vI ((((hi) + ((lo) / 4294967296)) * 4294967296) + (((lo) % 4294967296)))) from add_i64 (by omega) (by omega))] .ret h2 [(36, (vI hi)), (37, (vI lo)), (38, (vI ((lo) / 4294967296))), (39, (vI ((hi) + ((lo) / 4294967296)))), (4, (vI ((hi) + ((lo) / 4294967296)))), (40, (vI lo)), (41, (vI (((lo) % 4294967296)))), (5, (vI (((lo) % 4294967296)))), (42, (vI ((hi) + ((lo) / 4294967296)))), (43, (vB false)), (44, (vB false)), (45, (vI ((hi) + ((lo) / 4294967296)))), (46, (vB false)), (47, (vB false)), (48, (vB false)), (49, (vI ((hi) + ((lo) / 4294967296)))), (50, (vB false)), (51, (vB false)), (52, vZ), (53, vZ), (54, (vB false)), (55, (vB false)), (56, (vI ((hi) + ((lo) / 4294967296)))), (57, (vI (((hi) + ((lo) / 4294967296)) * 4294967296))), (58, (vI (((lo) % 4294967296)))), (59, (vI ((((hi) + ((lo) / 4294967296)) * 4294967296) + (((lo) % 4294967296))))), (2, (vI ((((hi) + ((lo) / 4294967296)) * 4294967296) + (((lo) % 4294967296))))), (3, (vI 0))] ?_
            have e9 := i6
            rw [List.take_of_length_le (by omega)] at e9
            have sf := sum_facts xs
            have s9 : sumE xs = 0 ∧ sumV xs = sumI xs := sf.1 (by omega)
            have v9 : (((hi) + ((lo) / 4294967296)) * 4294967296) + (((lo) % 4294967296)) = sumI xs := by omega
            exact end_ev [] (vT #[(vI ((((hi) + ((lo) / 4294967296)) * 4294967296) + (((lo) % 4294967296)))), (vI 0)]) (hK _ _ (⟨by rw [s9.1, s9.2, ← v9], x3⟩))
set_option maxHeartbeats 4000000 in
theorem srsum_ok (h : Heap) {O : Nat → Prop} {t : Nat} {ms : Sto} (hT : RfAt 53 30 h O t ms) (ok : WfM ms) : WCall Tryz.prog 45 #[(vP t 0)] h (fun v h1 => v = .tuple #[.int .i64 (sumV (valsL ms)), .int .i64 (sumE (valsL ms))] ∧ Ext h h1) := by
  have hT' := hT
  obtain ⟨ka, ca, kc, cc, T⟩ := hT
  have kl := ksL_len ms
  have cl := csL_len ms
  have few := ok.few
  suffices H : ∀ K : Value → Heap → Prop, (∀ v h1, (fun v h1 => v = .tuple #[.int .i64 (sumV (valsL ms)), .int .i64 (sumE (valsL ms))] ∧ Ext h h1) v h1 → K v h1) → WCall Tryz.prog 45 #[(vP t 0)] h K from H _ fun _ _ q => q
  intro K hK
  refine wcall_at { tmps := #[(vP t 0), vZ, vZ, vZ, vZ, vZ, vZ, vZ, vZ, vZ, vZ, vZ, vZ, vZ, vZ, vZ, vZ, vZ, vZ, vZ, vZ, vZ, vZ, vZ, vZ, vZ, vZ, vZ, vZ, vZ, vZ, vZ, vZ], defers := [] } (by kernel_rfl) ?_
  refine wc_seq' (subc (bodyOf Tryz.prog 45) [0]) (subc (bodyOf Tryz.prog 45) [1]) (by kernel_rfl) ?_
  refine wc_ev [] .normal h [(2, (vI 0)), (3, (vI 0))] ?_
  refine wc_seq' (subc (bodyOf Tryz.prog 45) [1, 0]) (subc (bodyOf Tryz.prog 45) [1, 1]) (by kernel_rfl) ?_
  obtain ⟨_, _, sn1, rfl, rfl⟩ := svalid_ok h T.row
  refine wc_ev [evF 1 1 sn1] .normal h [(6, (vP t 0)), (7, (vB true)), (8, (vB false))] ?_
  refine wc_seq' (subc (bodyOf Tryz.prog 45) [1, 1, 0]) (subc (bodyOf Tryz.prog 45) [1, 1, 1]) (by kernel_rfl) ?_
  refine wc_ev [] .normal h [(4, (vL none 0 0))] ?_
  refine wc_seq' (subc (bodyOf Tryz.prog 45) [1, 1, 1, 0]) (subc (bodyOf Tryz.prog 45) [1, 1, 1, 1]) (by kernel_rfl) ?_
  refine wc_seq' (subc (bodyOf Tryz.prog 45) [1, 1, 1, 0, 0]) (subc (bodyOf Tryz.prog 45) [1, 1, 1, 0, 1]) (by kernel_rfl) ?_
  refine wc_ev [] .normal h [(5, (vI 0))] ?_
  refine wc_block' 0 (subc (bodyOf Tryz.prog 45) [1, 1, 1, 0, 1, 0]) (by kernel_rfl) ?_
  refine wc_loop' (subc (bodyOf Tryz.prog 45) [1, 1, 1, 0, 1, 0, 0]) (by kernel_rfl) (fun n' a' h' => ∃ (k : Int) (out : List Int) (oa : Option Addr) (oc : Nat) (g0 : Nat → Value), a' = { tmps := #[(vP t 0), vZ, (vI 0), (vI 0), (vL oa out.length oc), (vI k), (vP t 0), (vB true), (vB false), (g0 9), (g0 10), (g0 11), (g0 12), (g0 13), (g0 14), (g0 15), (g0 16), (g0 17), (g0 18), (g0 19), (g0 20), (g0 21), (g0 22), (g0 23), (g0 24), (g0 25), (g0 26), (g0 27), (g0 28), vZ, vZ, vZ, vZ], defers := [] } ∧ Ext h h' ∧ n' = (csL ms).length - k.toNat ∧ (0 ≤ k ∧ k ≤ ((csL ms).length : Nat)) ∧ out = valsL (ms.take k.toNat) ∧ (∀ zz, blk (vL oa out.length oc) zz → h.size ≤ zz) ∧ OwnAt h' 2 icell out (vL oa out.length oc)) ?_ ((csL ms).length - (0 : Int).toNat) ⟨0, [], none, 0, (fun i => ([vU, vU, vU, vU, vU, vU, vU, vU, vU, vZ, vZ, vZ, vZ, vZ, vZ, vZ, vZ, vZ, vZ, vZ, vZ, vZ, vZ, vZ, vZ, vZ, vZ, vZ, vZ] : List Value).getD i undef), by as_aux_lemma => kernel_rfl, (Ext.refl h), rfl, by omega, rfl, fun zz hz => hz.elim, .inl ⟨rfl, rfl⟩⟩
  rintro n' _ h2 ⟨k, out, oa, oc, g0, rfl, x3, m4, i5, i6, i7, p8⟩
  have lo1 : out.length ≤ 64 := by have e9 := congrArg List.length i6; rw [show (valsL (ms.take k.toNat)).length = _ from List.length_map .., List.length_take] at e9; omega
  by_cases c9 : ((k) : Int) < (((csL ms).length : Nat))
  · obtain ⟨i10, v11, e12, l13, g14⟩ := list_at (csL ms) (e := (k)) (by omega) (by first | omega | (simp only [List.length_set, List.length_append, List.length_singleton]; omega))
    obtain ⟨b15, o16, k17, q18, a19⟩ := (T.cs.slice cntc_size).at cntc_size g14
    obtain ⟨b20, eb21⟩ : ∃ zq, zq = h2.size := ⟨_, rfl⟩
    obtain ⟨h22, e23⟩ : ∃ zq, zq = h2.push (.cells #[(vI (v11.v))] 2 (0, 0)) := ⟨_, rfl⟩
    have f24 := push_new e23
    rw [← eb21] at f24
    have x25 : Ext h2 h22 := by rw [e23]; exact Ext.push _ _
    have o26 : h.size ≤ b20 := by have := x3.size; omega
    have p27 := p8.keep fun b r _ q => x25 b r q
    have x28 := x3.trans x25
    obtain ⟨w29, h30, e31, p32, c33, n34, z35⟩ := own_append und67 sizeb2 zero2 rfl (by decide) icell_size (x := v11.v) p27 f24 rfl (by omega) (by unfold maxLen; omega)
    obtain ⟨a36, c37, rfl⟩ := (p32.slice icell_size).len
    have z38 : h.size ≤ h22.size := x28.size
    have x39 : Ext h _ := (Chg.then (O := fun _ => False) (Chg.ext x28) c33 (fun b hb => .inr (i7 b hb))).toExt'
    have o40 : ∀ zz, blk (Value.slice a36 ((out ++ [v11.v]).length) (c37)) zz → h.size ≤ zz := fun zz hz => by have := n34 zz hz; have := z38; omega
    refine wc_ev [evC 5 4 2 agg51 (x3 _ _ T.row), ltT 5 6 3 c9, evC 7 4 2 agg51 (x3 _ _ T.row), evV 7 6 (vP b15 o16) (show indexAddrA Tryz.prog 51 (vL ca ((csL ms).length) cc) (vI k) = some (vP b15 o16) from a19 und51 size30 e12), evV 7 8 (vI v11.v) (show loadT Tryz.prog h2 2 (vP b15 o16) = some (vI v11.v) from (k17.keep fun b r _ q => x3 b r q).cell (j := 0) agg2 rfl), evS 7 9 1 eb21 e23, evP 7 10 e31, evV 6 1 (vI ((k) + 1)) (show binA Tryz.prog .add 3 (vI k) (vI 1) = some (vI ((k) + 1)) from add_i64 (by omega) (by omega))] .normal h30 [(9, (vI k)), (10, (vP t 0)), (11, (vP t 0)), (12, (vP t 2)), (13, (vL ca ((csL ms).length) cc)), (14, (vI (((csL ms).length : Nat)))), (15, (vB true)), (18, (vL oa out.length oc)), (19, (vP t 0)), (20, (vP t 0)), (21, (vP t 2)), (22, (vL ca ((csL ms).length) cc)), (23, (vI k)), (24, (vP b15 o16)), (25, (vP b15 o16)), (26, (vI v11.v)), (27, (vL (some ⟨b20, 0, none⟩) 1 1)), (28, (vL a36 ((out ++ [v11.v]).length) c37)), (4, (vL a36 ((out ++ [v11.v]).length) c37)), (16, (vI k)), (17, (vI ((k) + 1))), (5, (vI ((k) + 1)))] ?_
    exact ⟨(csL ms).length - (k + 1).toNat, by omega, ⟨k + 1, (out ++ [v11.v]), a36, c37, (fun i => ([vU, vU, vU, vU, vU, vU, vU, vU, vU, (vI k), (vP t 0), (vP t 0), (vP t 2), (vL ca ((csL ms).length) cc), (vI (((csL ms).length : Nat))), (vB true), (vI k), (vI ((k) + 1)), (vL oa out.length oc), (vP t 0), (vP t 0), (vP t 2), (vL ca ((csL ms).length) cc), (vI k), (vP b15 o16), (vP b15 o16), (vI v11.v), (vL (some ⟨b20, 0, none⟩) 1 1), (vL a36 ((out ++ [v11.v]).length) c37)] : List Value).getD i undef), by as_aux_lemma => kernel_rfl, x39, rfl, by omega, by obtain ⟨kk, hm⟩ := csL_at g14; rw [show (k + 1).toNat = i10 + 1 by omega, vals_next hm, show i10 = k.toNat by omega, ← i6], o40, p32⟩⟩
  · refine wc_ev [evC 5 4 2 agg51 (x3 _ _ T.row), ltF 5 6 3 c9] (.exit 0) h2 [(9, (vI k)), (10, (vP t 0)), (11, (vP t 0)), (12, (vP t 2)), (13, (vL ca ((csL ms).length) cc)), (14, (vI (((csL ms).length : Nat)))), (15, (vB false))] ?_
    obtain ⟨_, hh41, sn42, rfl, x43⟩ := ssum1_ok h2 out _ _ (p8.slice icell_size) (by omega) (by rw [show out = valsL ms from by have e8 := i6; rw [List.take_of_length_le (by omega)] at e8; exact e8]; exact ok.vals)
    have x44 := x3.trans x43
    refine wc_ev [evF 8 1 sn42] .ret hh41 [(29, (vL oa out.length oc)), (30, (vT #[(vI (sumV out)), (vI (sumE out))])), (31, (vI (sumV out))), (32, (vI (sumE out))), (2, (vI (sumV out))), (3, (vI (sumE out)))] ?_
    have e8 := i6
    rw [List.take_of_length_le (by omega)] at e8
    exact end_ev [] (vT #[(vI (sumV out)), (vI (sumE out))]) (hK _ _ (⟨by rw [← e8], x44⟩))
set_option maxHeartbeats 4000000 in
theorem alike_ok (h : Heap) {O1 O2 : Nat → Prop} {t1 t2 : Nat} {ms : Sto} (ht1 : StAt 50 h O1 t1 ms) (ht2 : RfAt 53 30 h O2 t2 ms) (ok : WfM ms) : WCall Tryz.prog 21 #[(vP t1 0), (vP t2 0)] h (fun v h1 => v = .bool true ∧ Ext h h1) := by
  suffices H : ∀ K : Value → Heap → Prop, (∀ v h1, (fun v h1 => v = .bool true ∧ Ext h h1) v h1 → K v h1) → WCall Tryz.prog 21 #[(vP t1 0), (vP t2 0)] h K from H _ fun _ _ q => q
  intro K hK
  refine wcall_at { tmps := #[(vP t1 0), (vP t2 0), vZ, vZ, vZ, vZ, vZ, vZ, vZ, vZ, vZ, vZ, vZ, vZ, vZ, vZ, vZ, vZ, vZ, vZ, vZ, vZ, vZ, vZ, vZ, vZ, vZ, vZ, vZ, vZ, vZ, vZ, vZ, vZ, vZ, vZ, vZ, vZ, vZ, vZ, vZ, vZ, vZ, vZ, vZ, vZ, vZ, vZ, vZ, vZ, vZ, vZ, vZ, vZ, vZ, vZ, vZ, vZ, vZ, vZ, vZ, vZ, vZ, vZ, vZ, vZ, vZ, vZ, vZ, vZ, vZ, vZ, vZ, vZ, vZ, vZ, vZ, vZ, vZ, vZ, vZ, vZ, vZ, vZ, vZ, vZ], defers := [] } (by kernel_rfl) ?_
  refine wc_seq' (subc (bodyOf Tryz.prog 21) [0]) (subc (bodyOf Tryz.prog 21) [1]) (by kernel_rfl) ?_
  refine wc_ev [] .normal h [(4, (vB false))] ?_
  refine wc_seq' (subc (bodyOf Tryz.prog 21) [1, 0]) (subc (bodyOf Tryz.prog 21) [1, 1]) (by kernel_rfl) ?_
  obtain ⟨_, h2, s3, w4, c5, rfl, o6, x7, b8⟩ := keys_ok h (ht1.keep fun b r _ q => (Ext.refl h) b r q) ok 
  have l9 := ok.few
  have l9 := ok.few
  have l10 := keys_lens ms 
  have x11 := (Ext.refl h).trans x7
  have z12 : h.size ≤ h.size := (Ext.refl h).size
  have o13 : ∀ zz, blk (Value.slice w4 ((ksL ms).length) (c5)) zz → h.size ≤ zz := fun zz hz => by have := b8 zz hz; omega
  refine wc_ev [evF 1 1 s3] .normal h2 [(15, (vP t1 0)), (16, (vL w4 ((ksL ms).length) c5)), (5, (vL w4 ((ksL ms).length) c5))] ?_
  refine wc_seq' (subc (bodyOf Tryz.prog 21) [1, 1, 0]) (subc (bodyOf Tryz.prog 21) [1, 1, 1]) (by kernel_rfl) ?_
  obtain ⟨_, h14, s15, w16, c17, rfl, o18, x19, b20⟩ := skeys_ok h2 (ht2.keep fun b r _ q => x11 b r q) ok 
  have p21 := o6.keep fun b r _ q => x19 b r q
  have x22 := x11.trans x19
  have z23 : h.size ≤ h2.size := x11.size
  have o24 : ∀ zz, blk (Value.slice w16 ((ksL ms).length) (c17)) zz → h.size ≤ zz := fun zz hz => by have := b20 zz hz; omega
  obtain ⟨_, _, s25, rfl, rfl⟩ := same_ok h14 (ksL ms) (ksL ms) _ _ _ _ (p21.slice strc_size) (o18.slice strc_size) (by omega)
  rw [decide_eq_true rfl] at s25
  have q26 := ok.few
  obtain ⟨_, _, sn27, rfl, rfl⟩ := len_ok h14 (ht1.keep fun b r _ q => x22 b r q) ok
  obtain ⟨_, hh28, sn29, rfl, x30⟩ := slen_ok h14 (ht2.keep fun b r _ q => x22 b r q) ok 
  have p31 := p21.keep fun b r _ q => x30 b r q
  have p32 := o18.keep fun b r _ q => x30 b r q
  have x33 := x22.trans x30
  obtain ⟨_, hh34, sn35, rfl, x36⟩ := quiet_ok hh28 (ht1.keep fun b r _ q => x33 b r q) ok
  have p37 := p31.keep fun b r _ q => x36 b r q
  have p38 := p32.keep fun b r _ q => x36 b r q
  have x39 := x33.trans x36
  rcases Bool.eq_false_or_eq_true ((quietB ms)) with c40 | c40
  · obtain ⟨_, hh41, sn42, rfl, x43⟩ := squiet_ok hh34 (ht2.keep fun b r _ q => x39 b r q) ok 
    have p44 := p37.keep fun b r _ q => x43 b r q
    have p45 := p38.keep fun b r _ q => x43 b r q
    have x46 := x39.trans x43
    refine wc_ev [evF 2 2 s15, evF 2 3 s25, evF 2 7 sn27, evF 2 9 sn29, neF 2 10 3 (Eq.refl (((ms.length : Nat)) : Int)), evFb 2 14 c40 sn35, evFb 2 16 c40 sn42] .normal hh41 [(17, (vL w4 ((ksL ms).length) c5)), (18, (vP t2 0)), (19, (vL w16 ((ksL ms).length) c17)), (20, (vB true)), (21, (vB false)), (22, (vB false)), (23, (vP t1 0)), (24, (vI ((ms.length : Nat)))), (25, (vP t2 0)), (26, (vI ((ms.length : Nat)))), (27, (vB false)), (28, (vB false)), (29, (vB false)), (30, (vP t1 0)), (31, (vB true)), (32, (vP t2 0)), (33, (vB true)), (34, (vB false)), (35, (vB false))] ?_
    refine wc_seq' (subc (bodyOf Tryz.prog 21) [1, 1, 1, 0]) (subc (bodyOf Tryz.prog 21) [1, 1, 1, 1]) (by kernel_rfl) ?_
    obtain ⟨_, h47, s48, rfl, x49⟩ := ssum_ok hh41 (ht1.keep fun b r _ q => x46 b r q) ok
    have p50 := p44.keep fun b r _ q => x49 b r q
    have p51 := p45.keep fun b r _ q => x49 b r q
    have x52 := x46.trans x49
    refine wc_ev [evF 4 1 s48] .normal h47 [(37, (vP t1 0)), (38, (vT #[(vI (sumV (valsL ms))), (vI (sumE (valsL ms)))])), (36, (vT #[(vI (sumV (valsL ms))), (vI (sumE (valsL ms)))])), (39, (vI (sumV (valsL ms)))), (40, (vI (sumE (valsL ms)))), (6, (vI (sumV (valsL ms)))), (7, (vI (sumE (valsL ms))))] ?_
    refine wc_act { tmps := #[(vP t1 0), (vP t2 0), vZ, vZ, (vB false), (vL w4 ((ksL ms).length) c5), (vI (sumV (valsL ms))), (vI (sumE (valsL ms))), vZ, vZ, vZ, vZ, vZ, vZ, vZ, (vP t1 0), (vL w4 ((ksL ms).length) c5), (vL w4 ((ksL ms).length) c5), (vP t2 0), (vL w16 ((ksL ms).length) c17), (vB true), (vB false), (vB false), (vP t1 0), (vI ((ms.length : Nat))), (vP t2 0), (vI ((ms.length : Nat))), (vB false), (vB false), (vB false), (vP t1 0), (vB true), (vP t2 0), (vB true), (vB false), (vB false), (vT #[(vI (sumV (valsL ms))), (vI (sumE (valsL ms)))]), (vP t1 0), (vT #[(vI (sumV (valsL ms))), (vI (sumE (valsL ms)))]), (vI (sumV (valsL ms))), (vI (sumE (valsL ms))), vZ, vZ, vZ, vZ, vZ, vZ, vZ, vZ, vZ, vZ, vZ, vZ, vZ, vZ, vZ, vZ, vZ, vZ, vZ, vZ, vZ, vZ, vZ, vZ, vZ, vZ, vZ, vZ, vZ, vZ, vZ, vZ, vZ, vZ, vZ, vZ, vZ, vZ, vZ, vZ, vZ, vZ, vZ, vZ, vZ], defers := [] } (by as_aux_lemma => kernel_rfl) ?_
    refine wc_seq' (subc (bodyOf Tryz.prog 21) [1, 1, 1, 1, 0]) (subc (bodyOf Tryz.prog 21) [1, 1, 1, 1, 1]) (by kernel_rfl) ?_
    obtain ⟨_, hh53, sn54, rfl, x55⟩ := srsum_ok h47 (ht2.keep fun b r _ q => x52 b r q) ok 
    have p56 := p50.keep fun b r _ q => x55 b r q
    have p57 := p51.keep fun b r _ q => x55 b r q
    have x58 := x52.trans x55
    refine wc_ev [evF 5 1 sn54] .normal hh53 [(42, (vP t2 0)), (43, (vT #[(vI (sumV (valsL ms))), (vI (sumE (valsL ms)))])), (41, (vT #[(vI (sumV (valsL ms))), (vI (sumE (valsL ms)))])), (44, (vI (sumV (valsL ms)))), (45, (vI (sumE (valsL ms)))), (8, (vI (sumV (valsL ms)))), (9, (vI (sumE (valsL ms))))] ?_
    refine wc_seq' (subc (bodyOf Tryz.prog 21) [1, 1, 1, 1, 1, 0]) (subc (bodyOf Tryz.prog 21) [1, 1, 1, 1, 1, 1]) (by kernel_rfl) ?_
    refine wc_ev [neF 6 2 2 (Eq.refl ((sumV (valsL ms)) : Int)), neF 6 6 35 (Eq.refl ((sumE (valsL ms)) : Int))] .normal hh53 [(46, (vI (sumV (valsL ms)))), (47, (vI (sumV (valsL ms)))), (48, (vB false)), (49, (vB false)), (50, (vI (sumE (valsL ms)))), (51, (vI (sumE (valsL ms)))), (52, (vB false)), (53, (vB false))] ?_
    refine wc_seq' (subc (bodyOf Tryz.prog 21) [1, 1, 1, 1, 1, 1, 0]) (subc (bodyOf Tryz.prog 21) [1, 1, 1, 1, 1, 1, 1]) (by kernel_rfl) ?_
    refine wc_seq' (subc (bodyOf Tryz.prog 21) [1, 1, 1, 1, 1, 1, 0, 0]) (subc (bodyOf Tryz.prog 21) [1, 1, 1, 1, 1, 1, 0, 1]) (by kernel_rfl) ?_
    refine wc_ev [] .normal hh53 [(10, (vI 0))] ?_
    refine wc_block' 0 (subc (bodyOf Tryz.prog 21) [1, 1, 1, 1, 1, 1, 0, 1, 0]) (by kernel_rfl) ?_
    refine wc_loop' (subc (bodyOf Tryz.prog 21) [1, 1, 1, 1, 1, 1, 0, 1, 0, 0]) (by kernel_rfl) (fun n' a' h' => ∃ (k : Int) (g0 : Nat → Value), a' = { tmps := #[(vP t1 0), (vP t2 0), vZ, vZ, (g0 4), (vL w4 ((ksL ms).length) c5), (vI (sumV (valsL ms))), (vI (sumE (valsL ms))), (vI (sumV (valsL ms))), (vI (sumE (valsL ms))), (vI k), (g0 11), (g0 12), (g0 13), (g0 14), (vP t1 0), (vL w4 ((ksL ms).length) c5), (vL w4 ((ksL ms).length) c5), (vP t2 0), (vL w16 ((ksL ms).length) c17), (vB true), (vB false), (vB false), (vP t1 0), (vI ((ms.length : Nat))), (vP t2 0), (vI ((ms.length : Nat))), (vB false), (vB false), (vB false), (vP t1 0), (vB true), (vP t2 0), (vB true), (vB false), (vB false), (vT #[(vI (sumV (valsL ms))), (vI (sumE (valsL ms)))]), (vP t1 0), (vT #[(vI (sumV (valsL ms))), (vI (sumE (valsL ms)))]), (vI (sumV (valsL ms))), (vI (sumE (valsL ms))), (vT #[(vI (sumV (valsL ms))), (vI (sumE (valsL ms)))]), (vP t2 0), (vT #[(vI (sumV (valsL ms))), (vI (sumE (valsL ms)))]), (vI (sumV (valsL ms))), (vI (sumE (valsL ms))), (vI (sumV (valsL ms))), (vI (sumV (valsL ms))), (vB false), (vB false), (vI (sumE (valsL ms))), (vI (sumE (valsL ms))), (vB false), (vB false), (g0 54), (g0 55), (g0 56), (g0 57), (g0 58), (g0 59), (g0 60), (g0 61), (g0 62), (g0 63), (g0 64), (g0 65), (g0 66), (g0 67), (g0 68), (g0 69), (g0 70), (g0 71), (g0 72), (g0 73), (g0 74), (g0 75), (g0 76), (g0 77), (g0 78), (g0 79), (g0 80), (g0 81), (g0 82), (g0 83), (g0 84), (g0 85)], defers := [] } ∧ Ext h h' ∧ n' = (ksL ms).length + 0 - k.toNat ∧ (0 ≤ k ∧ k ≤ ((ksL ms).length : Nat) + 0) ∧ OwnAt h' 9 strc (ksL ms) (vL w4 ((ksL ms).length) c5) ∧ OwnAt h' 9 strc (ksL ms) (vL w16 ((ksL ms).length) c17)) ?_ ((ksL ms).length + 0 - (0 : Int).toNat) ⟨0, (fun i => ([vU, vU, vU, vU, (vB false), vU, vU, vU, vU, vU, vU, vZ, vZ, vZ, vZ, vU, vU, vU, vU, vU, vU, vU, vU, vU, vU, vU, vU, vU, vU, vU, vU, vU, vU, vU, vU, vU, vU, vU, vU, vU, vU, vU, vU, vU, vU, vU, vU, vU, vU, vU, vU, vU, vU, vU, vZ, vZ, vZ, vZ, vZ, vZ, vZ, vZ, vZ, vZ, vZ, vZ, vZ, vZ, vZ, vZ, vZ, vZ, vZ, vZ, vZ, vZ, vZ, vZ, vZ, vZ, vZ, vZ, vZ, vZ, vZ, vZ] : List Value).getD i undef), by as_aux_lemma => kernel_rfl, x58, rfl, by omega, p56, p57⟩
    rintro n' _ h59 ⟨k, g0, rfl, x60, m61, i62, p63, p64⟩
    by_cases c65 : ((k) : Int) < (((ksL ms).length : Nat))
    · obtain ⟨i66, v67, e68, l69, g70⟩ := list_at (ksL ms) (e := (k)) (by omega) (by first | omega | (simp only [List.length_set, List.length_append, List.length_singleton]; omega))
      obtain ⟨b71, o72, q73, a74, k75, u76⟩ := p63.store strc_size g70
      have gv77 := key_get g70
      have q78 := get_facts ms v67
      obtain ⟨_, hh79, sn80, rfl, x81⟩ := get_ok h59 (ht1.keep fun b r _ q => x60 b r q) ok v67
      have p82 := p63.keep fun b r _ q => x81 b r q
      have p83 := p64.keep fun b r _ q => x81 b r q
      have x84 := x60.trans x81
      obtain ⟨b85, eb86⟩ : ∃ zq, zq = hh79.size := ⟨_, rfl⟩
      obtain ⟨h87, e88⟩ : ∃ zq, zq = hh79.push (.cells #[(vI 0), (vI 0), (vI 0), (vI 0), (vI 0)] 30 (0, 0)) := ⟨_, rfl⟩
      have f89 := push_new e88
      rw [← eb86] at f89
      have n90 : ∀ zz, (blk (Value.slice w4 ((ksL ms).length) (c5))) zz → ¬ zz = b85 := fun zz hz ez => by have := p82.blk_lt hz; omega
      have n91 : ∀ zz, (blk (Value.slice w16 ((ksL ms).length) (c17))) zz → ¬ zz = b85 := fun zz hz ez => by have := p83.blk_lt hz; omega
      have x92 : Ext hh79 h87 := by rw [e88]; exact Ext.push _ _
      have o93 : h.size ≤ b85 := by have := x84.size; omega
      have p94 := p82.keep fun b r _ q => x92 b r q
      have p95 := p83.keep fun b r _ q => x92 b r q
      have x96 := x84.trans x92
      obtain ⟨h97, e98⟩ : ∃ zq, zq = h87.setIfInBounds b85 (.cells #[(vI ((getC ms v67).v)), (vI ((getC ms v67).up)), (vI ((getC ms v67).dn)), (vI ((getC ms v67).lo)), (vI ((getC ms v67).hi))] 30 (0, 0)) := ⟨_, rfl⟩
      have f99 := set_same e98 f89
      have p100 := p94.keep fun b r hb q => (Chg.set e98).same b r q (n90 b hb)
      have p101 := p95.keep fun b r hb q => (Chg.set e98).same b r q (n91 b hb)
      have x102 := Ext.setNew x96 e98 o93
      obtain ⟨b103, o104, q105, a106, k107, u108⟩ := p100.store strc_size g70
      have gv77 := key_get g70
      obtain ⟨_, hh109, sn110, rfl, x111⟩ := sget_ok h97 (ht2.keep fun b r _ q => x102 b r q) ok v67
      have f112 := x111 _ _ f99
      have p113 := p100.keep fun b r _ q => x111 b r q
      have p114 := p101.keep fun b r _ q => x111 b r q
      have x115 := x102.trans x111
      obtain ⟨b116, eb117⟩ : ∃ zq, zq = hh109.size := ⟨_, rfl⟩
      obtain ⟨h118, e119⟩ : ∃ zq, zq = hh109.push (.cells #[(vI 0), (vI 0), (vI 0), (vI 0), (vI 0)] 30 (0, 0)) := ⟨_, rfl⟩
      have f120 := push_new e119
      rw [← eb117] at f120
      have n121 : b116 ≠ b85 := by have := row_lt f112; omega
      have n122 : ∀ zz, (blk (Value.slice w4 ((ksL ms).length) (c5))) zz → ¬ zz = b116 := fun zz hz ez => by have := p113.blk_lt hz; omega
      have n123 : ∀ zz, (blk (Value.slice w16 ((ksL ms).length) (c17))) zz → ¬ zz = b116 := fun zz hz ez => by have := p114.blk_lt hz; omega
      have x124 : Ext hh109 h118 := by rw [e119]; exact Ext.push _ _
      have o125 : h.size ≤ b116 := by have := x115.size; omega
      have f126 := x124 _ _ f112
      have p127 := p113.keep fun b r _ q => x124 b r q
      have p128 := p114.keep fun b r _ q => x124 b r q
      have x129 := x115.trans x124
      obtain ⟨h130, e131⟩ : ∃ zq, zq = h118.setIfInBounds b116 (.cells #[(vI ((getC ms v67).v)), (vI ((getC ms v67).up)), (vI ((getC ms v67).dn)), (vI ((getC ms v67).lo)), (vI ((getC ms v67).hi))] 30 (0, 0)) := ⟨_, rfl⟩
      have f132 := set_same e131 f120
      have f133 := set_other e131 f126 n121
      have p134 := p127.keep fun b r hb q => (Chg.set e131).same b r q (n122 b hb)
      have p135 := p128.keep fun b r hb q => (Chg.set e131).same b r q (n123 b hb)
      have x136 := Ext.setNew x129 e131 o125
      refine wc_ev [ltT 9 3 3 c65, evV 11 3 (vP b71 o72) (show indexAddrA Tryz.prog 40 (vL w4 ((ksL ms).length) c5) (vI k) = some (vP b71 o72) from a74 und40 size9 e68), evV 11 4 (vS v67) (show loadT Tryz.prog h59 9 (vP b71 o72) = some (vS v67) from k75.cell (j := 0) agg9 rfl), evF 11 5 sn80, evA 11 9 eb86 e88, evUw 11 10 size30 f89 e98, evV 12 3 (vP b103 o104) (show indexAddrA Tryz.prog 40 (vL w4 ((ksL ms).length) c5) (vI k) = some (vP b103 o104) from a106 und40 size9 e68), evV 12 4 (vS v67) (show loadT Tryz.prog h97 9 (vP b103 o104) = some (vS v67) from k107.cell (j := 0) agg9 rfl), evF 12 5 sn110, evA 12 9 eb117 e119, evUw 12 10 size30 f120 e131, evLw 13 0 agg30 size30 f133, evLw 13 1 agg30 size30 f132, evV 13 2 (vB false) (show binA Tryz.prog .neq 30 (vA #[(vI ((getC ms v67).v)), (vI ((getC ms v67).up)), (vI ((getC ms v67).dn)), (vI ((getC ms v67).lo)), (vI ((getC ms v67).hi))]) (vA #[(vI ((getC ms v67).v)), (vI ((getC ms v67).up)), (vI ((getC ms v67).dn)), (vI ((getC ms v67).lo)), (vI ((getC ms v67).hi))]) = some (vB false) from cmp30_neq (decide_eq_false (not_not_intro ⟨rfl, rfl, rfl, rfl, rfl⟩))), neF 13 6 35 (Eq.refl ((getE ms v67) : Int)), evV 10 1 (vI ((k) + 1)) (show binA Tryz.prog .add 3 (vI k) (vI 1) = some (vI ((k) + 1)) from add_i64 (by omega) (by omega))] .normal h130 [(54, (vI k)), (55, (vL w4 ((ksL ms).length) c5)), (56, (vI (((ksL ms).length : Nat)))), (57, (vB true)), (61, (vP t1 0)), (62, (vL w4 ((ksL ms).length) c5)), (63, (vI k)), (64, (vP b71 o72)), (65, (vS v67)), (66, (vT #[(vA #[(vI ((getC ms v67).v)), (vI ((getC ms v67).up)), (vI ((getC ms v67).dn)), (vI ((getC ms v67).lo)), (vI ((getC ms v67).hi))]), (vI (getE ms v67))])), (60, (vT #[(vA #[(vI ((getC ms v67).v)), (vI ((getC ms v67).up)), (vI ((getC ms v67).dn)), (vI ((getC ms v67).lo)), (vI ((getC ms v67).hi))]), (vI (getE ms v67))])), (67, (vA #[(vI ((getC ms v67).v)), (vI ((getC ms v67).up)), (vI ((getC ms v67).dn)), (vI ((getC ms v67).lo)), (vI ((getC ms v67).hi))])), (68, (vI (getE ms v67))), (11, (vP b85 0)), (12, (vI (getE ms v67))), (70, (vP t2 0)), (71, (vL w4 ((ksL ms).length) c5)), (72, (vI k)), (73, (vP b103 o104)), (74, (vS v67)), (75, (vT #[(vA #[(vI ((getC ms v67).v)), (vI ((getC ms v67).up)), (vI ((getC ms v67).dn)), (vI ((getC ms v67).lo)), (vI ((getC ms v67).hi))]), (vI (getE ms v67))])), (69, (vT #[(vA #[(vI ((getC ms v67).v)), (vI ((getC ms v67).up)), (vI ((getC ms v67).dn)), (vI ((getC ms v67).lo)), (vI ((getC ms v67).hi))]), (vI (getE ms v67))])), (76, (vA #[(vI ((getC ms v67).v)), (vI ((getC ms v67).up)), (vI ((getC ms v67).dn)), (vI ((getC ms v67).lo)), (vI ((getC ms v67).hi))])), (77, (vI (getE ms v67))), (13, (vP b116 0)), (14, (vI (getE ms v67))), (78, (vA #[(vI ((getC ms v67).v)), (vI ((getC ms v67).up)), (vI ((getC ms v67).dn)), (vI ((getC ms v67).lo)), (vI ((getC ms v67).hi))])), (79, (vA #[(vI ((getC ms v67).v)), (vI ((getC ms v67).up)), (vI ((getC ms v67).dn)), (vI ((getC ms v67).lo)), (vI ((getC ms v67).hi))])), (80, (vB false)), (81, (vB false)), (82, (vI (getE ms v67))), (83, (vI (getE ms v67))), (84, (vB false)), (85, (vB false)), (58, (vI k)), (59, (vI ((k) + 1))), (10, (vI ((k) + 1)))] ?_
      exact ⟨(ksL ms).length + 0 - (k + 1).toNat, by omega, ⟨k + 1, (fun i => ([vU, vU, vU, vU, (g0 4), vU, vU, vU, vU, vU, vU, (vP b85 0), (vI (getE ms v67)), (vP b116 0), (vI (getE ms v67)), vU, vU, vU, vU, vU, vU, vU, vU, vU, vU, vU, vU, vU, vU, vU, vU, vU, vU, vU, vU, vU, vU, vU, vU, vU, vU, vU, vU, vU, vU, vU, vU, vU, vU, vU, vU, vU, vU, vU, (vI k), (vL w4 ((ksL ms).length) c5), (vI (((ksL ms).length : Nat))), (vB true), (vI k), (vI ((k) + 1)), (vT #[(vA #[(vI ((getC ms v67).v)), (vI ((getC ms v67).up)), (vI ((getC ms v67).dn)), (vI ((getC ms v67).lo)), (vI ((getC ms v67).hi))]), (vI (getE ms v67))]), (vP t1 0), (vL w4 ((ksL ms).length) c5), (vI k), (vP b71 o72), (vS v67), (vT #[(vA #[(vI ((getC ms v67).v)), (vI ((getC ms v67).up)), (vI ((getC ms v67).dn)), (vI ((getC ms v67).lo)), (vI ((getC ms v67).hi))]), (vI (getE ms v67))]), (vA #[(vI ((getC ms v67).v)), (vI ((getC ms v67).up)), (vI ((getC ms v67).dn)), (vI ((getC ms v67).lo)), (vI ((getC ms v67).hi))]), (vI (getE ms v67)), (vT #[(vA #[(vI ((getC ms v67).v)), (vI ((getC ms v67).up)), (vI ((getC ms v67).dn)), (vI ((getC ms v67).lo)), (vI ((getC ms v67).hi))]), (vI (getE ms v67))]), (vP t2 0), (vL w4 ((ksL ms).length) c5), (vI k), (vP b103 o104), (vS v67), (vT #[(vA #[(vI ((getC ms v67).v)), (vI ((getC ms v67).up)), (vI ((getC ms v67).dn)), (vI ((getC ms v67).lo)), (vI ((getC ms v67).hi))]), (vI (getE ms v67))]), (vA #[(vI ((getC ms v67).v)), (vI ((getC ms v67).up)), (vI ((getC ms v67).dn)), (vI ((getC ms v67).lo)), (vI ((getC ms v67).hi))]), (vI (getE ms v67)), (vA #[(vI ((getC ms v67).v)), (vI ((getC ms v67).up)), (vI ((getC ms v67).dn)), (vI ((getC ms v67).lo)), (vI ((getC ms v67).hi))]), (vA #[(vI ((getC ms v67).v)), (vI ((getC ms v67).up)), (vI ((getC ms v67).dn)), (vI ((getC ms v67).lo)), (vI ((getC ms v67).hi))]), (vB false), (vB false), (vI (getE ms v67)), (vI (getE ms v67)), (vB false), (vB false)] : List Value).getD i undef), by as_aux_lemma => kernel_rfl, x136, rfl, by omega, p134, p135⟩⟩
    · refine wc_ev [ltF 9 3 3 c65] (.exit 0) h59 [(54, (vI k)), (55, (vL w4 ((ksL ms).length) c5)), (56, (vI (((ksL ms).length : Nat)))), (57, (vB false))] ?_
      refine wc_ev [] .ret h59 [(4, (vB true))] ?_
      exact end_ev [] (vB true) (hK _ _ (⟨rfl, x60⟩))
  · obtain ⟨_, hh137, sn138, rfl, x139⟩ := squiet_ok hh34 (ht2.keep fun b r _ q => x39 b r q) ok 
    have p140 := p37.keep fun b r _ q => x139 b r q
    have p141 := p38.keep fun b r _ q => x139 b r q
    have x142 := x39.trans x139
    refine wc_ev [evF 2 2 s15, evF 2 3 s25, evF 2 7 sn27, evF 2 9 sn29, neF 2 10 3 (Eq.refl (((ms.length : Nat)) : Int)), evFb 2 14 c40 sn35, evFb 2 16 c40 sn138] .normal hh137 [(17, (vL w4 ((ksL ms).length) c5)), (18, (vP t2 0)), (19, (vL w16 ((ksL ms).length) c17)), (20, (vB true)), (21, (vB false)), (22, (vB false)), (23, (vP t1 0)), (24, (vI ((ms.length : Nat)))), (25, (vP t2 0)), (26, (vI ((ms.length : Nat)))), (27, (vB false)), (28, (vB false)), (29, (vB false)), (30, (vP t1 0)), (31, (vB false)), (32, (vP t2 0)), (33, (vB false)), (34, (vB false)), (35, (vB false))] ?_
    refine wc_seq' (subc (bodyOf Tryz.prog 21) [1, 1, 1, 0]) (subc (bodyOf Tryz.prog 21) [1, 1, 1, 1]) (by kernel_rfl) ?_
    obtain ⟨_, h143, s144, rfl, x145⟩ := ssum_ok hh137 (ht1.keep fun b r _ q => x142 b r q) ok
    have p146 := p140.keep fun b r _ q => x145 b r q
    have p147 := p141.keep fun b r _ q => x145 b r q
    have x148 := x142.trans x145
    refine wc_ev [evF 4 1 s144] .normal h143 [(37, (vP t1 0)), (38, (vT #[(vI (sumV (valsL ms))), (vI (sumE (valsL ms)))])), (36, (vT #[(vI (sumV (valsL ms))), (vI (sumE (valsL ms)))])), (39, (vI (sumV (valsL ms)))), (40, (vI (sumE (valsL ms)))), (6, (vI (sumV (valsL ms)))), (7, (vI (sumE (valsL ms))))] ?_
    refine wc_act { tmps := #[(vP t1 0), (vP t2 0), vZ, vZ, (vB false), (vL w4 ((ksL ms).length) c5), (vI (sumV (valsL ms))), (vI (sumE (valsL ms))), vZ, vZ, vZ, vZ, vZ, vZ, vZ, (vP t1 0), (vL w4 ((ksL ms).length) c5), (vL w4 ((ksL ms).length) c5), (vP t2 0), (vL w16 ((ksL ms).length) c17), (vB true), (vB false), (vB false), (vP t1 0), (vI ((ms.length : Nat))), (vP t2 0), (vI ((ms.length : Nat))), (vB false), (vB false), (vB false), (vP t1 0), (vB false), (vP t2 0), (vB false), (vB false), (vB false), (vT #[(vI (sumV (valsL ms))), (vI (sumE (valsL ms)))]), (vP t1 0), (vT #[(vI (sumV (valsL ms))), (vI (sumE (valsL ms)))]), (vI (sumV (valsL ms))), (vI (sumE (valsL ms))), vZ, vZ, vZ, vZ, vZ, vZ, vZ, vZ, vZ, vZ, vZ, vZ, vZ, vZ, vZ, vZ, vZ, vZ, vZ, vZ, vZ, vZ, vZ, vZ, vZ, vZ, vZ, vZ, vZ, vZ, vZ, vZ, vZ, vZ, vZ, vZ, vZ, vZ, vZ, vZ, vZ, vZ, vZ, vZ, vZ], defers := [] } (by as_aux_lemma => kernel_rfl) ?_
    refine wc_seq' (subc (bodyOf Tryz.prog 21) [1, 1, 1, 1, 0]) (subc (bodyOf Tryz.prog 21) [1, 1, 1, 1, 1]) (by kernel_rfl) ?_
    obtain ⟨_, hh149, sn150, rfl, x151⟩ := srsum_ok h143 (ht2.keep fun b r _ q => x148 b r q) ok 
    have p152 := p146.keep fun b r _ q => x151 b r q
    have p153 := p147.keep fun b r _ q => x151 b r q
    have x154 := x148.trans x151
    refine wc_ev [evF 5 1 sn150] .normal hh149 [(42, (vP t2 0)), (43, (vT #[(vI (sumV (valsL ms))), (vI (sumE (valsL ms)))])), (41, (vT #[(vI (sumV (valsL ms))), (vI (sumE (valsL ms)))])), (44, (vI (sumV (valsL ms)))), (45, (vI (sumE (valsL ms)))), (8, (vI (sumV (valsL ms)))), (9, (vI (sumE (valsL ms))))] ?_
    refine wc_seq' (subc (bodyOf Tryz.prog 21) [1, 1, 1, 1, 1, 0]) (subc (bodyOf Tryz.prog 21) [1, 1, 1, 1, 1, 1]) (by kernel_rfl) ?_
    refine wc_ev [neF 6 2 2 (Eq.refl ((sumV (valsL ms)) : Int)), neF 6 6 35 (Eq.refl ((sumE (valsL ms)) : Int))] .normal hh149 [(46, (vI (sumV (valsL ms)))), (47, (vI (sumV (valsL ms)))), (48, (vB false)), (49, (vB false)), (50, (vI (sumE (valsL ms)))), (51, (vI (sumE (valsL ms)))), (52, (vB false)), (53, (vB false))] ?_
    refine wc_seq' (subc (bodyOf Tryz.prog 21) [1, 1, 1, 1, 1, 1, 0]) (subc (bodyOf Tryz.prog 21) [1, 1, 1, 1, 1, 1, 1]) (by kernel_rfl) ?_
    refine wc_seq' (subc (bodyOf Tryz.prog 21) [1, 1, 1, 1, 1, 1, 0, 0]) (subc (bodyOf Tryz.prog 21) [1, 1, 1, 1, 1, 1, 0, 1]) (by kernel_rfl) ?_
    refine wc_ev [] .normal hh149 [(10, (vI 0))] ?_
    refine wc_block' 0 (subc (bodyOf Tryz.prog 21) [1, 1, 1, 1, 1, 1, 0, 1, 0]) (by kernel_rfl) ?_
    refine wc_loop' (subc (bodyOf Tryz.prog 21) [1, 1, 1, 1, 1, 1, 0, 1, 0, 0]) (by kernel_rfl) (fun n' a' h' => ∃ (k : Int) (g1 : Nat → Value), a' = { tmps := #[(vP t1 0), (vP t2 0), vZ, vZ, (g1 4), (vL w4 ((ksL ms).length) c5), (vI (sumV (valsL ms))), (vI (sumE (valsL ms))), (vI (sumV (valsL ms))), (vI (sumE (valsL ms))), (vI k), (g1 11), (g1 12), (g1 13), (g1 14), (vP t1 0), (vL w4 ((ksL ms).length) c5), (vL w4 ((ksL ms).length) c5), (vP t2 0), (vL w16 ((ksL ms).length) c17), (vB true), (vB false), (vB false), (vP t1 0), (vI ((ms.length : Nat))), (vP t2 0), (vI ((ms.length : Nat))), (vB false), (vB false), (vB false), (vP t1 0), (vB false), (vP t2 0), (vB false), (vB false), (vB false), (vT #[(vI (sumV (valsL ms))), (vI (sumE (valsL ms)))]), (vP t1 0), (vT #[(vI (sumV (valsL ms))), (vI (sumE (valsL ms)))]), (vI (sumV (valsL ms))), (vI (sumE (valsL ms))), (vT #[(vI (sumV (valsL ms))), (vI (sumE (valsL ms)))]), (vP t2 0), (vT #[(vI (sumV (valsL ms))), (vI (sumE (valsL ms)))]), (vI (sumV (valsL ms))), (vI (sumE (valsL ms))), (vI (sumV (valsL ms))), (vI (sumV (valsL ms))), (vB false), (vB false), (vI (sumE (valsL ms))), (vI (sumE (valsL ms))), (vB false), (vB false), (g1 54), (g1 55), (g1 56), (g1 57), (g1 58), (g1 59), (g1 60), (g1 61), (g1 62), (g1 63), (g1 64), (g1 65), (g1 66), (g1 67), (g1 68), (g1 69), (g1 70), (g1 71), (g1 72), (g1 73), (g1 74), (g1 75), (g1 76), (g1 77), (g1 78), (g1 79), (g1 80), (g1 81), (g1 82), (g1 83), (g1 84), (g1 85)], defers := [] } ∧ Ext h h' ∧ n' = (ksL ms).length + 0 - k.toNat ∧ (0 ≤ k ∧ k ≤ ((ksL ms).length : Nat) + 0) ∧ OwnAt h' 9 strc (ksL ms) (vL w4 ((ksL ms).length) c5) ∧ OwnAt h' 9 strc (ksL ms) (vL w16 ((ksL ms).length) c17)) ?_ ((ksL ms).length + 0 - (0 : Int).toNat) ⟨0, (fun i => ([vU, vU, vU, vU, (vB false), vU, vU, vU, vU, vU, vU, vZ, vZ, vZ, vZ, vU, vU, vU, vU, vU, vU, vU, vU, vU, vU, vU, vU, vU, vU, vU, vU, vU, vU, vU, vU, vU, vU, vU, vU, vU, vU, vU, vU, vU, vU, vU, vU, vU, vU, vU, vU, vU, vU, vU, vZ, vZ, vZ, vZ, vZ, vZ, vZ, vZ, vZ, vZ, vZ, vZ, vZ, vZ, vZ, vZ, vZ, vZ, vZ, vZ, vZ, vZ, vZ, vZ, vZ, vZ, vZ, vZ, vZ, vZ, vZ, vZ] : List Value).getD i undef), by as_aux_lemma => kernel_rfl, x154, rfl, by omega, p152, p153⟩
    rintro n' _ h155 ⟨k, g1, rfl, x156, m157, i158, p159, p160⟩
    by_cases c161 : ((k) : Int) < (((ksL ms).length : Nat))
    · obtain ⟨i162, v163, e164, l165, g166⟩ := list_at (ksL ms) (e := (k)) (by omega) (by first | omega | (simp only [List.length_set, List.length_append, List.length_singleton]; omega))
      obtain ⟨b167, o168, q169, a170, k171, u172⟩ := p159.store strc_size g166
      have gv173 := key_get g166
      have q174 := get_facts ms v163
      obtain ⟨_, hh175, sn176, rfl, x177⟩ := get_ok h155 (ht1.keep fun b r _ q => x156 b r q) ok v163
      have p178 := p159.keep fun b r _ q => x177 b r q
      have p179 := p160.keep fun b r _ q => x177 b r q
      have x180 := x156.trans x177
      obtain ⟨b181, eb182⟩ : ∃ zq, zq = hh175.size := ⟨_, rfl⟩
      obtain ⟨h183, e184⟩ : ∃ zq, zq = hh175.push (.cells #[(vI 0), (vI 0), (vI 0), (vI 0), (vI 0)] 30 (0, 0)) := ⟨_, rfl⟩
      have f185 := push_new e184
      rw [← eb182] at f185
      have n186 : ∀ zz, (blk (Value.slice w4 ((ksL ms).length) (c5))) zz → ¬ zz = b181 := fun zz hz ez => by have := p178.blk_lt hz; omega
      have n187 : ∀ zz, (blk (Value.slice w16 ((ksL ms).length) (c17))) zz → ¬ zz = b181 := fun zz hz ez => by have := p179.blk_lt hz; omega
      have x188 : Ext hh175 h183 := by rw [e184]; exact Ext.push _ _
      have o189 : h.size ≤ b181 := by have := x180.size; omega
      have p190 := p178.keep fun b r _ q => x188 b r q
      have p191 := p179.keep fun b r _ q => x188 b r q
      have x192 := x180.trans x188
      obtain ⟨h193, e194⟩ : ∃ zq, zq = h183.setIfInBounds b181 (.cells #[(vI ((getC ms v163).v)), (vI ((getC ms v163).up)), (vI ((getC ms v163).dn)), (vI ((getC ms v163).lo)), (vI ((getC ms v163).hi))] 30 (0, 0)) := ⟨_, rfl⟩
      have f195 := set_same e194 f185
      have p196 := p190.keep fun b r hb q => (Chg.set e194).same b r q (n186 b hb)
      have p197 := p191.keep fun b r hb q => (Chg.set e194).same b r q (n187 b hb)
      have x198 := Ext.setNew x192 e194 o189
      obtain ⟨b199, o200, q201, a202, k203, u204⟩ := p196.store strc_size g166
      have gv173 := key_get g166
      obtain ⟨_, hh205, sn206, rfl, x207⟩ := sget_ok h193 (ht2.keep fun b r _ q => x198 b r q) ok v163
      have f208 := x207 _ _ f195
      have p209 := p196.keep fun b r _ q => x207 b r q
      have p210 := p197.keep fun b r _ q => x207 b r q
      have x211 := x198.trans x207
      obtain ⟨b212, eb213⟩ : ∃ zq, zq = hh205.size := ⟨_, rfl⟩
      obtain ⟨h214, e215⟩ : ∃ zq, zq = hh205.push (.cells #[(vI 0), (vI 0), (vI 0), (vI 0), (vI 0)] 30 (0, 0)) := ⟨_, rfl⟩
      have f216 := push_new e215
      rw [← eb213] at f216
      have n217 : b212 ≠ b181 := by have := row_lt f208; omega
      have n218 : ∀ zz, (blk (Value.slice w4 ((ksL ms).length) (c5))) zz → ¬ zz = b212 := fun zz hz ez => by have := p209.blk_lt hz; omega
      have n219 : ∀ zz, (blk (Value.slice w16 ((ksL ms).length) (c17))) zz → ¬ zz = b212 := fun zz hz ez => by have := p210.blk_lt hz; omega
      have x220 : Ext hh205 h214 := by rw [e215]; exact Ext.push _ _
      have o221 : h.size ≤ b212 := by have := x211.size; omega
      have f222 := x220 _ _ f208
      have p223 := p209.keep fun b r _ q => x220 b r q
      have p224 := p210.keep fun b r _ q => x220 b r q
      have x225 := x211.trans x220
      obtain ⟨h226, e227⟩ : ∃ zq, zq = h214.setIfInBounds b212 (.cells #[(vI ((getC ms v163).v)), (vI ((getC ms v163).up)), (vI ((getC ms v163).dn)), (vI ((getC ms v163).lo)), (vI ((getC ms v163).hi))] 30 (0, 0)) := ⟨_, rfl⟩
      have f228 := set_same e227 f216
      have f229 := set_other e227 f222 n217
      have p230 := p223.keep fun b r hb q => (Chg.set e227).same b r q (n218 b hb)
      have p231 := p224.keep fun b r hb q => (Chg.set e227).same b r q (n219 b hb)
      have x232 := Ext.setNew x225 e227 o221
      refine wc_ev [ltT 9 3 3 c161, evV 11 3 (vP b167 o168) (show indexAddrA Tryz.prog 40 (vL w4 ((ksL ms).length) c5) (vI k) = some (vP b167 o168) from a170 und40 size9 e164), evV 11 4 (vS v163) (show loadT Tryz.prog h155 9 (vP b167 o168) = some (vS v163) from k171.cell (j := 0) agg9 rfl), evF 11 5 sn176, evA 11 9 eb182 e184, evUw 11 10 size30 f185 e194, evV 12 3 (vP b199 o200) (show indexAddrA Tryz.prog 40 (vL w4 ((ksL ms).length) c5) (vI k) = some (vP b199 o200) from a202 und40 size9 e164), evV 12 4 (vS v163) (show loadT Tryz.prog h193 9 (vP b199 o200) = some (vS v163) from k203.cell (j := 0) agg9 rfl), evF 12 5 sn206, evA 12 9 eb213 e215, evUw 12 10 size30 f216 e227, evLw 13 0 agg30 size30 f229, evLw 13 1 agg30 size30 f228, evV 13 2 (vB false) (show binA Tryz.prog .neq 30 (vA #[(vI ((getC ms v163).v)), (vI ((getC ms v163).up)), (vI ((getC ms v163).dn)), (vI ((getC ms v163).lo)), (vI ((getC ms v163).hi))]) (vA #[(vI ((getC ms v163).v)), (vI ((getC ms v163).up)), (vI ((getC ms v163).dn)), (vI ((getC ms v163).lo)), (vI ((getC ms v163).hi))]) = some (vB false) from cmp30_neq (decide_eq_false (not_not_intro ⟨rfl, rfl, rfl, rfl, rfl⟩))), neF 13 6 35 (Eq.refl ((getE ms v163) : Int)), evV 10 1 (vI ((k) + 1)) (show binA Tryz.prog .add 3 (vI k) (vI 1) = some (vI ((k) + 1)) from add_i64 (by omega) (by omega))] .normal h226 [(54, (vI k)), (55, (vL w4 ((ksL ms).length) c5)), (56, (vI (((ksL ms).length : Nat)))), (57, (vB true)), (61, (vP t1 0)), (62, (vL w4 ((ksL ms).length) c5)), (63, (vI k)), (64, (vP b167 o168)), (65, (vS v163)), (66, (vT #[(vA #[(vI ((getC ms v163).v)), (vI ((getC ms v163).up)), (vI ((getC ms v163).dn)), (vI ((getC ms v163).lo)), (vI ((getC ms v163).hi))]), (vI (getE ms v163))])), (60, (vT #[(vA #[(vI ((getC ms v163).v)), (vI ((getC ms v163).up)), (vI ((getC ms v163).dn)), (vI ((getC ms v163).lo)), (vI ((getC ms v163).hi))]), (vI (getE ms v163))])), (67, (vA #[(vI ((getC ms v163).v)), (vI ((getC ms v163).up)), (vI ((getC ms v163).dn)), (vI ((getC ms v163).lo)), (vI ((getC ms v163).hi))])), (68, (vI (getE ms v163))), (11, (vP b181 0)), (12, (vI (getE ms v163))), (70, (vP t2 0)), (71, (vL w4 ((ksL ms).length) c5)), (72, (vI k)), (73, (vP b199 o200)), (74, (vS v163)), (75, (vT #[(vA #[(vI ((getC ms v163).v)), (vI ((getC ms v163).up)), (vI ((getC ms v163).dn)), (vI ((getC ms v163).lo)), (vI ((getC ms v163).hi))]), (vI (getE ms v163))])), (69, (vT #[(vA #[(vI ((getC ms v163).v)), (vI ((getC ms v163).up)), (vI ((getC ms v163).dn)), (vI ((getC ms v163).lo)), (vI ((getC ms v163).hi))]), (vI (getE ms v163))])), (76, (vA #[(vI ((getC ms v163).v)), (vI ((getC ms v163).up)), (vI ((getC ms v163).dn)), (vI ((getC ms v163).lo)), (vI ((getC ms v163).hi))])), (77, (vI (getE ms v163))), (13, (vP b212 0)), (14, (vI (getE ms v163))), (78, (vA #[(vI ((getC ms v163).v)), (vI ((getC ms v163).up)), (vI ((getC ms v163).dn)), (vI ((getC ms v163).lo)), (vI ((getC ms v163).hi))])), (79, (vA #[(vI ((getC ms v163).v)), (vI ((getC ms v163).up)), (vI ((getC ms v163).dn)), (vI ((getC ms v163).lo)), (vI ((getC ms v163).hi))])), (80, (vB false)), (81, (vB false)), (82, (vI (getE ms v163))), (83, (vI (getE ms v163))), (84, (vB false)), (85, (vB false)), (58, (vI k)), (59, (vI ((k) + 1))), (10, (vI ((k) + 1)))] ?_
      exact ⟨(ksL ms).length + 0 - (k + 1).toNat, by omega, ⟨k + 1, (fun i => ([vU, vU, vU, vU, (g1 4), vU, vU, vU, vU, vU, vU, (vP b181 0), (vI (getE ms v163)), (vP b212 0), (vI (getE ms v163)), vU, vU, vU, vU, vU, vU, vU, vU, vU, vU, vU, vU, vU, vU, vU, vU, vU, vU, vU, vU, vU, vU, vU, vU, vU, vU, vU, vU, vU, vU, vU, vU, vU, vU, vU, vU, vU, vU, vU, (vI k), (vL w4 ((ksL ms).length) c5), (vI (((ksL ms).length : Nat))), (vB true), (vI k), (vI ((k) + 1)), (vT #[(vA #[(vI ((getC ms v163).v)), (vI ((getC ms v163).up)), (vI ((getC ms v163).dn)), (vI ((getC ms v163).lo)), (vI ((getC ms v163).hi))]), (vI (getE ms v163))]), (vP t1 0), (vL w4 ((ksL ms).length) c5), (vI k), (vP b167 o168), (vS v163), (vT #[(vA #[(vI ((getC ms v163).v)), (vI ((getC ms v163).up)), (vI ((getC ms v163).dn)), (vI ((getC ms v163).lo)), (vI ((getC ms v163).hi))]), (vI (getE ms v163))]), (vA #[(vI ((getC ms v163).v)), (vI ((getC ms v163).up)), (vI ((getC ms v163).dn)), (vI ((getC ms v163).lo)), (vI ((getC ms v163).hi))]), (vI (getE ms v163)), (vT #[(vA #[(vI ((getC ms v163).v)), (vI ((getC ms v163).up)), (vI ((getC ms v163).dn)), (vI ((getC ms v163).lo)), (vI ((getC ms v163).hi))]), (vI (getE ms v163))]), (vP t2 0), (vL w4 ((ksL ms).length) c5), (vI k), (vP b199 o200), (vS v163), (vT #[(vA #[(vI ((getC ms v163).v)), (vI ((getC ms v163).up)), (vI ((getC ms v163).dn)), (vI ((getC ms v163).lo)), (vI ((getC ms v163).hi))]), (vI (getE ms v163))]), (vA #[(vI ((getC ms v163).v)), (vI ((getC ms v163).up)), (vI ((getC ms v163).dn)), (vI ((getC ms v163).lo)), (vI ((getC ms v163).hi))]), (vI (getE ms v163)), (vA #[(vI ((getC ms v163).v)), (vI ((getC ms v163).up)), (vI ((getC ms v163).dn)), (vI ((getC ms v163).lo)), (vI ((getC ms v163).hi))]), (vA #[(vI ((getC ms v163).v)), (vI ((getC ms v163).up)), (vI ((getC ms v163).dn)), (vI ((getC ms v163).lo)), (vI ((getC ms v163).hi))]), (vB false), (vB false), (vI (getE ms v163)), (vI (getE ms v163)), (vB false), (vB false)] : List Value).getD i undef), by as_aux_lemma => kernel_rfl, x232, rfl, by omega, p230, p231⟩⟩
    · refine wc_ev [ltF 9 3 3 c161] (.exit 0) h155 [(54, (vI k)), (55, (vL w4 ((ksL ms).length) c5)), (56, (vI (((ksL ms).length : Nat)))), (57, (vB false))] ?_
      refine wc_ev [] .ret h155 [(4, (vB true))] ?_
      exact end_ev [] (vB true) (hK _ _ (⟨rfl, x156⟩))
end C08
