/- The run of StorePlays. -/
import Derived.Test.YtciigibbgklcjaaGreatDoorNe
import Derived.KernelRfl
open Go Go.AM Go.Proofs
namespace C08
theorem agg3 : isAggA Tryz.prog 3 = some false := by kernel_rfl
theorem agg34 : isAggA Tryz.prog 34 = some true := by kernel_rfl
set_option maxRecDepth 10000 in
set_option maxHeartbeats 4000000 in
theorem law_plays (h : Heap) (xs : List StepA) (sa : Option Addr) (cp : Nat) (hl : SliceAt h scell 11 xs (.slice sa xs.length cp)) (hlen : xs.length ≤ 9223372036854775807) : WCall Tryz.prog 3 #[(Value.slice sa (xs.length) (cp))] h (fun v h1 => v = .bool true ∧ Ext h h1) := by
  suffices H : ∀ K : Value → Heap → Prop, (∀ v h1, (fun v h1 => v = .bool true ∧ Ext h h1) v h1 → K v h1) → WCall Tryz.prog 3 #[(Value.slice sa (xs.length) (cp))] h K from H _ fun _ _ q => q
  intro K hK
  refine wcall_at { tmps := #[(vL sa xs.length cp), vZ, vZ, vZ, vZ, vZ, vZ, vZ, vZ, vZ, vZ, vZ, vZ, vZ, vZ, vZ, vZ, vZ, vZ, vZ, vZ, vZ, vZ, vZ, vZ, vZ, vZ, vZ, vZ, vZ, vZ, vZ, vZ, vZ, vZ, vZ, vZ, vZ, vZ, vZ, vZ, vZ, vZ, vZ, vZ, vZ, vZ, vZ, vZ, vZ, vZ, vZ, vZ, vZ, vZ, vZ, vZ, vZ, vZ, vZ, vZ, vZ, vZ, vZ, vZ, vZ, vZ, vZ, vZ, vZ, vZ, vZ, vZ, vZ, vZ, vZ, vZ, vZ, vZ, vZ, vZ, vZ, vZ, vZ, vZ, vZ, vZ, vZ, vZ, vZ, vZ, vZ, vZ, vZ, vZ, vZ, vZ, vZ, vZ, vZ, vZ, vZ, vZ, vZ, vZ, vZ, vZ, vZ, vZ, vZ, vZ, vZ, vZ, vZ, vZ, vZ, vZ, vZ, vZ, vZ, vZ, vZ, vZ, vZ, vZ, vZ, vZ, vZ, vZ, vZ, vZ, vZ, vZ, vZ, vZ, vZ, vZ, vZ, vZ, vZ, vZ, vZ, vZ, vZ, vZ, vZ, vZ, vZ, vZ, vZ, vZ, vZ, vZ, vZ, vZ], defers := [] } (by kernel_rfl) ?_
  refine wc_seq' (subc (bodyOf Tryz.prog 3) [0]) (subc (bodyOf Tryz.prog 3) [1]) (by kernel_rfl) ?_
  refine wc_ev [] .normal h [(2, (vB false))] ?_
  refine wc_seq' (subc (bodyOf Tryz.prog 3) [1, 0]) (subc (bodyOf Tryz.prog 3) [1, 1]) (by kernel_rfl) ?_
  obtain ⟨_, h2, s3, b4, rfl, q5, x6⟩ := short_ok h xs _ _ (hl.keep fun b r _ q => (Ext.refl h) b r q) hlen
  have x7 := (Ext.refl h).trans x6
  rcases Bool.eq_false_or_eq_true (b4) with c8 | c8
  · obtain ⟨l9xs, s9xs⟩ := q5 c8
    refine wc_ev [evFb 1 1 c8 s3] .normal h2 [(19, (vL sa xs.length cp)), (20, (vB true)), (21, (vB false))] ?_
    refine wc_seq' (subc (bodyOf Tryz.prog 3) [1, 1, 0]) (subc (bodyOf Tryz.prog 3) [1, 1, 1]) (by kernel_rfl) ?_
    obtain ⟨_, h9, s10, b11, O4525, rfl, p12, x13, w14⟩ := new_ok h2
    have x15 := x7.trans x13
    have z16 : h.size ≤ h2.size := x7.size
    have o17 : ∀ zz, O4525 zz → h.size ≤ zz := fun zz hz => by have := w14 zz hz; omega
    refine wc_ev [evF 3 0 s10] .normal h9 [(23, (vP b11 0)), (3, (vP b11 0))] ?_
    refine wc_seq' (subc (bodyOf Tryz.prog 3) [1, 1, 1, 0]) (subc (bodyOf Tryz.prog 3) [1, 1, 1, 1]) (by kernel_rfl) ?_
    obtain ⟨_, h18, s19, b20, O4536, rfl, p21, x22, w23⟩ := snew_ok h9
    have p24 := p12.keep fun b r _ q => x22 b r q
    have x25 := x15.trans x22
    have z26 : h.size ≤ h9.size := x15.size
    have n27 : ∀ zz, O4536 zz → ¬ O4525 zz := fun zz hz ez => by have := w23 zz hz; have := p12.blk_lt ez; omega
    have o28 : ∀ zz, O4536 zz → h.size ≤ zz := fun zz hz => by have := w23 zz hz; omega
    refine wc_ev [evF 4 0 s19] .normal h18 [(24, (vP b20 0)), (4, (vP b20 0))] ?_
    refine wc_seq' (subc (bodyOf Tryz.prog 3) [1, 1, 1, 1, 0]) (subc (bodyOf Tryz.prog 3) [1, 1, 1, 1, 1]) (by kernel_rfl) ?_
    refine wc_seq' (subc (bodyOf Tryz.prog 3) [1, 1, 1, 1, 0, 0]) (subc (bodyOf Tryz.prog 3) [1, 1, 1, 1, 0, 1]) (by kernel_rfl) ?_
    refine wc_ev [] .normal h18 [(5, (vI 0))] ?_
    refine wc_block' 0 (subc (bodyOf Tryz.prog 3) [1, 1, 1, 1, 0, 1, 0]) (by kernel_rfl) ?_
    refine wc_loop' (subc (bodyOf Tryz.prog 3) [1, 1, 1, 1, 0, 1, 0, 0]) (by kernel_rfl) (fun n' a' h' => ∃ (k : Int) (ms : Sto) (t1 : Nat) (t2 : Nat) (O1 : Nat → Prop) (O2 : Nat → Prop) (g0 : Nat → Value), a' = { tmps := #[(vL sa xs.length cp), vZ, (g0 2), (vP t1 0), (vP t2 0), (vI k), (g0 6), (g0 7), (g0 8), (g0 9), (g0 10), (g0 11), (g0 12), (g0 13), (g0 14), (g0 15), (g0 16), (g0 17), (g0 18), (vL sa xs.length cp), (vB true), (vB false), vZ, (vP b11 0), (vP b20 0), (g0 25), (g0 26), (g0 27), (g0 28), (g0 29), (g0 30), (g0 31), (g0 32), (g0 33), (g0 34), (g0 35), (g0 36), (g0 37), (g0 38), (g0 39), (g0 40), (g0 41), (g0 42), (g0 43), (g0 44), (g0 45), (g0 46), (g0 47), (g0 48), (g0 49), (g0 50), (g0 51), (g0 52), (g0 53), (g0 54), (g0 55), (g0 56), (g0 57), (g0 58), (g0 59), (g0 60), (g0 61), (g0 62), (g0 63), (g0 64), (g0 65), (g0 66), (g0 67), (g0 68), (g0 69), (g0 70), (g0 71), (g0 72), (g0 73), (g0 74), (g0 75), (g0 76), (g0 77), (g0 78), (g0 79), (g0 80), (g0 81), (g0 82), (g0 83), (g0 84), (g0 85), (g0 86), (g0 87), (g0 88), (g0 89), (g0 90), (g0 91), (g0 92), (g0 93), (g0 94), (g0 95), (g0 96), (g0 97), (g0 98), (g0 99), (g0 100), (g0 101), (g0 102), (g0 103), (g0 104), (g0 105), (g0 106), (g0 107), (g0 108), (g0 109), (g0 110), (g0 111), (g0 112), (g0 113), (g0 114), (g0 115), (g0 116), (g0 117), (g0 118), (g0 119), (g0 120), (g0 121), (g0 122), (g0 123), (g0 124), (g0 125), (g0 126), (g0 127), (g0 128), (g0 129), (g0 130), (g0 131), (g0 132), (g0 133), (g0 134), (g0 135), (g0 136), (g0 137), (g0 138), (g0 139), (g0 140), (g0 141), (g0 142), (g0 143), (g0 144), (g0 145), (g0 146), (g0 147), (g0 148), (g0 149), (g0 150), (g0 151), (g0 152), (g0 153), vZ], defers := [] } ∧ Ext h h' ∧ n' = xs.length - k.toNat ∧ (0 ≤ k ∧ k ≤ (xs.length : Nat)) ∧ WfM ms ∧ (∀ zz, O1 zz → h.size ≤ zz) ∧ (∀ zz, O2 zz → h.size ≤ zz) ∧ (∀ zz, O1 zz → ¬ O2 zz) ∧ StAt 50 h' O1 t1 ms ∧ RfAt 53 30 h' O2 t2 ms) ?_ (xs.length - (0 : Int).toNat) ⟨0, ([] : Sto), b11, b20, O4525, O4536, (fun i => ([vU, vU, (vB false), vU, vU, vU, vZ, vZ, vZ, vZ, vZ, vZ, vZ, vZ, vZ, vZ, vZ, vZ, vZ, vU, vU, vU, vU, vU, vU, vZ, vZ, vZ, vZ, vZ, vZ, vZ, vZ, vZ, vZ, vZ, vZ, vZ, vZ, vZ, vZ, vZ, vZ, vZ, vZ, vZ, vZ, vZ, vZ, vZ, vZ, vZ, vZ, vZ, vZ, vZ, vZ, vZ, vZ, vZ, vZ, vZ, vZ, vZ, vZ, vZ, vZ, vZ, vZ, vZ, vZ, vZ, vZ, vZ, vZ, vZ, vZ, vZ, vZ, vZ, vZ, vZ, vZ, vZ, vZ, vZ, vZ, vZ, vZ, vZ, vZ, vZ, vZ, vZ, vZ, vZ, vZ, vZ, vZ, vZ, vZ, vZ, vZ, vZ, vZ, vZ, vZ, vZ, vZ, vZ, vZ, vZ, vZ, vZ, vZ, vZ, vZ, vZ, vZ, vZ, vZ, vZ, vZ, vZ, vZ, vZ, vZ, vZ, vZ, vZ, vZ, vZ, vZ, vZ, vZ, vZ, vZ, vZ, vZ, vZ, vZ, vZ, vZ, vZ, vZ, vZ, vZ, vZ, vZ, vZ, vZ, vZ, vZ, vZ] : List Value).getD i undef), by as_aux_lemma => kernel_rfl, x25, rfl, by omega, WfM.nil, o17, o28, (fun zz w1 w2 => n27 zz w2 w1), p24, p21⟩
    rintro n' _ h29 ⟨k, ms, t1, t2, O1, O2, g0, rfl, x30, m31, i33, i34, i35, i36, i37, p38, p39⟩
    by_cases c40 : ((k) : Int) < ((xs.length : Nat))
    · obtain ⟨i41, v42, e43, l44, g45⟩ := list_at xs (e := (k)) (by omega) (by first | omega | (simp only [List.length_set, List.length_append, List.length_singleton]; omega))
      obtain ⟨b46, o47, k48, q49, a50⟩ := hl.at scell_size g45
      have := s9xs _ (List.mem_of_getElem? g45)
      obtain ⟨b51, eb52⟩ : ∃ zq, zq = h29.size := ⟨_, rfl⟩
      obtain ⟨h53, e54⟩ : ∃ zq, zq = h29.push (.cells #[(vI 0), (vS .empty), (vI 0), (vI 0), (vI 0), (vI 0), (vI 0), (vI 0), (vI 0), (vS .empty), (vS .empty)] 34 (0, 0)) := ⟨_, rfl⟩
      have f55 := push_new e54
      rw [← eb52] at f55
      have n56 : ∀ zz, O1 zz → ¬ zz = b51 := fun zz hz ez => by have := p38.blk_lt hz; omega
      have n57 : ∀ zz, O2 zz → ¬ zz = b51 := fun zz hz ez => by have := p39.blk_lt hz; omega
      have x58 : Ext h29 h53 := by rw [e54]; exact Ext.push _ _
      have o59 : h.size ≤ b51 := by have := x30.size; omega
      have p60 := p38.keep fun b r _ q => x58 b r q
      have p61 := p39.keep fun b r _ q => x58 b r q
      have x62 := x30.trans x58
      obtain ⟨h63, e64⟩ : ∃ zq, zq = h53.setIfInBounds b51 (.cells #[(vI (v42.k)), (vS v42.key), (vI (v42.c.v)), (vI (v42.c.up)), (vI (v42.c.dn)), (vI (v42.c.lo)), (vI (v42.c.hi)), (vI (v42.ph)), (vI (v42.d)), (vS v42.r0), (vS v42.r1)] 34 (0, 0)) := ⟨_, rfl⟩
      have f65 := set_same e64 f55
      have p66 := p60.keep fun b r hb q => (Chg.set e64).same b r q (n56 b hb)
      have p67 := p61.keep fun b r hb q => (Chg.set e64).same b r q (n57 b hb)
      have x68 := Ext.setNew x62 e64 o59
      by_cases c69 : ((v42.k) : Int) = 0
      · obtain ⟨_, h70, s71, rfl, x72, O4594, p73, o74⟩ := put_ok h63 p66 i34 v42.key v42.c
        have k75 := WfM.put i34 v42.key v42.c
        have q76 := put_facts ms v42.key v42.c
        have z77 : h.size ≤ h63.size := x68.size
        have x78 : Ext h _ := (Chg.then (O := fun _ => False) (Chg.ext x68) x72 (fun b hb => .inr (i35 b hb))).toExt'
        have f79 := x72.same _ _ f65 (fun hb => n56 _ hb rfl)
        have p80 := p67.keep fun b r hb q => x72.same b r q ((fun b hb hb2 => i37 b hb2 hb) b hb)
        have z81 : h.size ≤ h63.size := x68.size
        have n82 : ∀ zz, O4594 zz → ¬ O2 zz := fun zz hz ez => by rcases o74 zz hz with g | g; (exact i37 _ g ez); have := p67.blk_lt ez; omega
        have o83 : ∀ zz, O4594 zz → h.size ≤ zz := fun zz hz => by rcases o74 zz hz with g | g; (exact i35 zz g); omega
        obtain ⟨_, h84, s85, rfl, x86, O4609, p87, o88⟩ := sput_ok h70 p80 i34 v42.key (by omega) v42.c
        have k89 := WfM.put i34 v42.key v42.c
        have z90 : h.size ≤ h70.size := x78.size
        have x91 : Ext h _ := (Chg.then (O := fun _ => False) (Chg.ext x78) x86 (fun b hb => .inr (i36 b hb))).toExt'
        have f92 := x86.same _ _ f79 (fun hb => n57 _ hb rfl)
        have p93 := p73.keep fun b r hb q => x86.same b r q (n82 b hb)
        have z94 : h.size ≤ h70.size := x78.size
        have n95 : ∀ zz, O4609 zz → ¬ O4594 zz := fun zz hz ez => by rcases o88 zz hz with g | g; (exact n82 _ ez g); have := p73.blk_lt ez; omega
        have o96 : ∀ zz, O4609 zz → h.size ≤ zz := fun zz hz => by rcases o88 zz hz with g | g; (exact i36 zz g); omega
        have q97 := get_facts (putM ms v42.key v42.c) v42.key
        obtain ⟨_, hh98, sn99, rfl, x100⟩ := get_ok h84 p93 k75 v42.key
        have f101 := x100 _ _ f92
        have p102 := p93.keep fun b r _ q => x100 b r q
        have p103 := p87.keep fun b r _ q => x100 b r q
        have x104 := x91.trans x100
        obtain ⟨b105, eb106⟩ : ∃ zq, zq = hh98.size := ⟨_, rfl⟩
        obtain ⟨h107, e108⟩ : ∃ zq, zq = hh98.push (.cells #[(vI 0), (vI 0), (vI 0), (vI 0), (vI 0)] 30 (0, 0)) := ⟨_, rfl⟩
        have f109 := push_new e108
        rw [← eb106] at f109
        have n110 : b105 ≠ b51 := by have := row_lt f101; omega
        have n111 : ∀ zz, O4594 zz → ¬ zz = b105 := fun zz hz ez => by have := p102.blk_lt hz; omega
        have n112 : ∀ zz, O4609 zz → ¬ zz = b105 := fun zz hz ez => by have := p103.blk_lt hz; omega
        have x113 : Ext hh98 h107 := by rw [e108]; exact Ext.push _ _
        have o114 : h.size ≤ b105 := by have := x104.size; omega
        have f115 := x113 _ _ f101
        have p116 := p102.keep fun b r _ q => x113 b r q
        have p117 := p103.keep fun b r _ q => x113 b r q
        have x118 := x104.trans x113
        obtain ⟨h119, e120⟩ : ∃ zq, zq = h107.setIfInBounds b105 (.cells #[(vI ((getC (putM ms v42.key v42.c) v42.key).v)), (vI ((getC (putM ms v42.key v42.c) v42.key).up)), (vI ((getC (putM ms v42.key v42.c) v42.key).dn)), (vI ((getC (putM ms v42.key v42.c) v42.key).lo)), (vI ((getC (putM ms v42.key v42.c) v42.key).hi))] 30 (0, 0)) := ⟨_, rfl⟩
        have f121 := set_same e120 f109
        have f122 := set_other e120 f115 n110
        have p123 := p116.keep fun b r hb q => (Chg.set e120).same b r q (n111 b hb)
        have p124 := p117.keep fun b r hb q => (Chg.set e120).same b r q (n112 b hb)
        have x125 := Ext.setNew x118 e120 o114
        obtain ⟨_, hh126, sn127, rfl, x128⟩ := sget_ok h119 p124 k89 v42.key
        have f129 := x128 _ _ f121
        have p130 := p123.keep fun b r _ q => x128 b r q
        have p131 := p124.keep fun b r _ q => x128 b r q
        have x132 := x125.trans x128
        obtain ⟨b133, eb134⟩ : ∃ zq, zq = hh126.size := ⟨_, rfl⟩
        obtain ⟨h135, e136⟩ : ∃ zq, zq = hh126.push (.cells #[(vI 0), (vI 0), (vI 0), (vI 0), (vI 0)] 30 (0, 0)) := ⟨_, rfl⟩
        have f137 := push_new e136
        rw [← eb134] at f137
        have n138 : b133 ≠ b105 := by have := row_lt f129; omega
        have n139 : ∀ zz, O4594 zz → ¬ zz = b133 := fun zz hz ez => by have := p130.blk_lt hz; omega
        have n140 : ∀ zz, O4609 zz → ¬ zz = b133 := fun zz hz ez => by have := p131.blk_lt hz; omega
        have x141 : Ext hh126 h135 := by rw [e136]; exact Ext.push _ _
        have o142 : h.size ≤ b133 := by have := x132.size; omega
        have f143 := x141 _ _ f129
        have p144 := p130.keep fun b r _ q => x141 b r q
        have p145 := p131.keep fun b r _ q => x141 b r q
        have x146 := x132.trans x141
        obtain ⟨h147, e148⟩ : ∃ zq, zq = h135.setIfInBounds b133 (.cells #[(vI ((getC (putM ms v42.key v42.c) v42.key).v)), (vI ((getC (putM ms v42.key v42.c) v42.key).up)), (vI ((getC (putM ms v42.key v42.c) v42.key).dn)), (vI ((getC (putM ms v42.key v42.c) v42.key).lo)), (vI ((getC (putM ms v42.key v42.c) v42.key).hi))] 30 (0, 0)) := ⟨_, rfl⟩
        have f149 := set_same e148 f137
        have f150 := set_other e148 f143 n138
        have p151 := p144.keep fun b r hb q => (Chg.set e148).same b r q (n139 b hb)
        have p152 := p145.keep fun b r hb q => (Chg.set e148).same b r q (n140 b hb)
        have x153 := Ext.setNew x146 e148 o142
        obtain ⟨_, hh154, sn155, rfl, x156⟩ := alike_ok h147 p151 p152 k75
        have p157 := p151.keep fun b r _ q => x156 b r q
        have p158 := p152.keep fun b r _ q => x156 b r q
        have x159 := x153.trans x156
        refine wc_ev [ltT 6 3 3 c40, evV 8 2 (vP b46 o47) (show indexAddrA Tryz.prog 22 (vL sa xs.length cp) (vI k) = some (vP b46 o47) from a50 und22 size34 e43), evV 8 3 (vA #[(vI v42.k), (vS v42.key), (vI v42.c.v), (vI v42.c.up), (vI v42.c.dn), (vI v42.c.lo), (vI v42.c.hi), (vI v42.ph), (vI v42.d), (vS v42.r0), (vS v42.r1)]) (show loadT Tryz.prog h29 34 (vP b46 o47) = some (vA #[(vI v42.k), (vS v42.key), (vI v42.c.v), (vI v42.c.up), (vI v42.c.dn), (vI v42.c.lo), (vI v42.c.hi), (vI v42.ph), (vI v42.d), (vS v42.r0), (vS v42.r1)]) from (k48.keep fun b r _ q => x30 b r q).agg (j := 0) agg34 size34 (show 0 + 11 ≤ 11 by decide) (by kernel_rfl)), evA 8 4 eb52 e54, evUw 8 5 size34 f55 e64, evC 9 1 0 agg3 f65, eqT 10 0 3 c69, evC 11 2 1 agg9 f65, evL 11 4 2 agg30 size30 f65, evC 11 8 1 agg9 f65, evL 11 10 2 agg30 size30 f65, evF 11 5 s71, evL 99 0 2 agg30 size30 f79, evC 99 0 1 agg9 f79, evF 11 11 s85, neF 11 12 35 (Eq.refl ((putE ms v42.key v42.c) : Int)), evC 29 2 1 agg9 f92, evF 29 3 sn99, evA 29 7 eb106 e108, evUw 29 8 size30 f109 e120, evC 30 2 1 agg9 f122, evF 30 3 sn127, evA 30 7 eb134 e136, evUw 30 8 size30 f137 e148, evLw 31 0 agg30 size30 f150, evLw 31 1 agg30 size30 f149, evV 31 2 (vB false) (show binA Tryz.prog .neq 30 (vA #[(vI ((getC (putM ms v42.key v42.c) v42.key).v)), (vI ((getC (putM ms v42.key v42.c) v42.key).up)), (vI ((getC (putM ms v42.key v42.c) v42.key).dn)), (vI ((getC (putM ms v42.key v42.c) v42.key).lo)), (vI ((getC (putM ms v42.key v42.c) v42.key).hi))]) (vA #[(vI ((getC (putM ms v42.key v42.c) v42.key).v)), (vI ((getC (putM ms v42.key v42.c) v42.key).up)), (vI ((getC (putM ms v42.key v42.c) v42.key).dn)), (vI ((getC (putM ms v42.key v42.c) v42.key).lo)), (vI ((getC (putM ms v42.key v42.c) v42.key).hi))]) = some (vB false) from cmp30_neq (decide_eq_false (not_not_intro ⟨rfl, rfl, rfl, rfl, rfl⟩))), neF 31 6 35 (Eq.refl ((getE (putM ms v42.key v42.c) v42.key) : Int)), evF 31 11 sn155, evV 7 1 (vI ((k) + 1)) (show binA Tryz.prog .add 3 (vI k) (vI 1) = some (vI ((k) + 1)) from add_i64 (by omega) (by omega))] .normal hh154 [(25, (vI k)), (26, (vL sa xs.length cp)), (27, (vI ((xs.length : Nat)))), (28, (vB true)), (31, (vL sa xs.length cp)), (32, (vI k)), (33, (vP b46 o47)), (34, (vA #[(vI v42.k), (vS v42.key), (vI v42.c.v), (vI v42.c.up), (vI v42.c.dn), (vI v42.c.lo), (vI v42.c.hi), (vI v42.ph), (vI v42.d), (vS v42.r0), (vS v42.r1)])), (6, (vP b51 0)), (35, (vP b51 0)), (36, (vI v42.k)), (38, (vB true)), (37, (vB true)), (39, (vP t1 0)), (40, (vP b51 1)), (41, (vS v42.key)), (42, (vP b51 2)), (43, (vA #[(vI v42.c.v), (vI v42.c.up), (vI v42.c.dn), (vI v42.c.lo), (vI v42.c.hi)])), (45, (vP t2 0)), (46, (vP b51 1)), (47, (vS v42.key)), (48, (vP b51 2)), (49, (vA #[(vI v42.c.v), (vI v42.c.up), (vI v42.c.dn), (vI v42.c.lo), (vI v42.c.hi)])), (44, (vI (putE ms v42.key v42.c))), (50, (vI (putE ms v42.key v42.c))), (51, (vB false)), (127, (vP t1 0)), (128, (vP b51 1)), (129, (vS v42.key)), (130, (vT #[(vA #[(vI ((getC (putM ms v42.key v42.c) v42.key).v)), (vI ((getC (putM ms v42.key v42.c) v42.key).up)), (vI ((getC (putM ms v42.key v42.c) v42.key).dn)), (vI ((getC (putM ms v42.key v42.c) v42.key).lo)), (vI ((getC (putM ms v42.key v42.c) v42.key).hi))]), (vI (getE (putM ms v42.key v42.c) v42.key))])), (126, (vT #[(vA #[(vI ((getC (putM ms v42.key v42.c) v42.key).v)), (vI ((getC (putM ms v42.key v42.c) v42.key).up)), (vI ((getC (putM ms v42.key v42.c) v42.key).dn)), (vI ((getC (putM ms v42.key v42.c) v42.key).lo)), (vI ((getC (putM ms v42.key v42.c) v42.key).hi))]), (vI (getE (putM ms v42.key v42.c) v42.key))])), (131, (vA #[(vI ((getC (putM ms v42.key v42.c) v42.key).v)), (vI ((getC (putM ms v42.key v42.c) v42.key).up)), (vI ((getC (putM ms v42.key v42.c) v42.key).dn)), (vI ((getC (putM ms v42.key v42.c) v42.key).lo)), (vI ((getC (putM ms v42.key v42.c) v42.key).hi))])), (132, (vI (getE (putM ms v42.key v42.c) v42.key))), (15, (vP b105 0)), (16, (vI (getE (putM ms v42.key v42.c) v42.key))), (134, (vP t2 0)), (135, (vP b51 1)), (136, (vS v42.key)), (137, (vT #[(vA #[(vI ((getC (putM ms v42.key v42.c) v42.key).v)), (vI ((getC (putM ms v42.key v42.c) v42.key).up)), (vI ((getC (putM ms v42.key v42.c) v42.key).dn)), (vI ((getC (putM ms v42.key v42.c) v42.key).lo)), (vI ((getC (putM ms v42.key v42.c) v42.key).hi))]), (vI (getE (putM ms v42.key v42.c) v42.key))])), (133, (vT #[(vA #[(vI ((getC (putM ms v42.key v42.c) v42.key).v)), (vI ((getC (putM ms v42.key v42.c) v42.key).up)), (vI ((getC (putM ms v42.key v42.c) v42.key).dn)), (vI ((getC (putM ms v42.key v42.c) v42.key).lo)), (vI ((getC (putM ms v42.key v42.c) v42.key).hi))]), (vI (getE (putM ms v42.key v42.c) v42.key))])), (138, (vA #[(vI ((getC (putM ms v42.key v42.c) v42.key).v)), (vI ((getC (putM ms v42.key v42.c) v42.key).up)), (vI ((getC (putM ms v42.key v42.c) v42.key).dn)), (vI ((getC (putM ms v42.key v42.c) v42.key).lo)), (vI ((getC (putM ms v42.key v42.c) v42.key).hi))])), (139, (vI (getE (putM ms v42.key v42.c) v42.key))), (17, (vP b133 0)), (18, (vI (getE (putM ms v42.key v42.c) v42.key))), (140, (vA #[(vI ((getC (putM ms v42.key v42.c) v42.key).v)), (vI ((getC (putM ms v42.key v42.c) v42.key).up)), (vI ((getC (putM ms v42.key v42.c) v42.key).dn)), (vI ((getC (putM ms v42.key v42.c) v42.key).lo)), (vI ((getC (putM ms v42.key v42.c) v42.key).hi))])), (141, (vA #[(vI ((getC (putM ms v42.key v42.c) v42.key).v)), (vI ((getC (putM ms v42.key v42.c) v42.key).up)), (vI ((getC (putM ms v42.key v42.c) v42.key).dn)), (vI ((getC (putM ms v42.key v42.c) v42.key).lo)), (vI ((getC (putM ms v42.key v42.c) v42.key).hi))])), (142, (vB false)), (143, (vB false)), (144, (vI (getE (putM ms v42.key v42.c) v42.key))), (145, (vI (getE (putM ms v42.key v42.c) v42.key))), (146, (vB false)), (147, (vB false)), (148, (vB false)), (149, (vP t1 0)), (150, (vP t2 0)), (151, (vB true)), (152, (vB false)), (153, (vB false)), (29, (vI k)), (30, (vI ((k) + 1))), (5, (vI ((k) + 1)))] ?_
        exact ⟨xs.length - (k + 1).toNat, by omega, ⟨k + 1, (putM ms v42.key v42.c), t1, t2, O4594, O4609, (fun i => ([vU, vU, (g0 2), vU, vU, vU, (vP b51 0), (g0 7), (g0 8), (g0 9), (g0 10), (g0 11), (g0 12), (g0 13), (g0 14), (vP b105 0), (vI (getE (putM ms v42.key v42.c) v42.key)), (vP b133 0), (vI (getE (putM ms v42.key v42.c) v42.key)), vU, vU, vU, vU, vU, vU, (vI k), (vL sa xs.length cp), (vI ((xs.length : Nat))), (vB true), (vI k), (vI ((k) + 1)), (vL sa xs.length cp), (vI k), (vP b46 o47), (vA #[(vI v42.k), (vS v42.key), (vI v42.c.v), (vI v42.c.up), (vI v42.c.dn), (vI v42.c.lo), (vI v42.c.hi), (vI v42.ph), (vI v42.d), (vS v42.r0), (vS v42.r1)]), (vP b51 0), (vI v42.k), (vB true), (vB true), (vP t1 0), (vP b51 1), (vS v42.key), (vP b51 2), (vA #[(vI v42.c.v), (vI v42.c.up), (vI v42.c.dn), (vI v42.c.lo), (vI v42.c.hi)]), (vI (putE ms v42.key v42.c)), (vP t2 0), (vP b51 1), (vS v42.key), (vP b51 2), (vA #[(vI v42.c.v), (vI v42.c.up), (vI v42.c.dn), (vI v42.c.lo), (vI v42.c.hi)]), (vI (putE ms v42.key v42.c)), (vB false), (g0 52), (g0 53), (g0 54), (g0 55), (g0 56), (g0 57), (g0 58), (g0 59), (g0 60), (g0 61), (g0 62), (g0 63), (g0 64), (g0 65), (g0 66), (g0 67), (g0 68), (g0 69), (g0 70), (g0 71), (g0 72), (g0 73), (g0 74), (g0 75), (g0 76), (g0 77), (g0 78), (g0 79), (g0 80), (g0 81), (g0 82), (g0 83), (g0 84), (g0 85), (g0 86), (g0 87), (g0 88), (g0 89), (g0 90), (g0 91), (g0 92), (g0 93), (g0 94), (g0 95), (g0 96), (g0 97), (g0 98), (g0 99), (g0 100), (g0 101), (g0 102), (g0 103), (g0 104), (g0 105), (g0 106), (g0 107), (g0 108), (g0 109), (g0 110), (g0 111), (g0 112), (g0 113), (g0 114), (g0 115), (g0 116), (g0 117), (g0 118), (g0 119), (g0 120), (g0 121), (g0 122), (g0 123), (g0 124), (g0 125), (vT #[(vA #[(vI ((getC (putM ms v42.key v42.c) v42.key).v)), (vI ((getC (putM ms v42.key v42.c) v42.key).up)), (vI ((getC (putM ms v42.key v42.c) v42.key).dn)), (vI ((getC (putM ms v42.key v42.c) v42.key).lo)), (vI ((getC (putM ms v42.key v42.c) v42.key).hi))]), (vI (getE (putM ms v42.key v42.c) v42.key))]), (vP t1 0), (vP b51 1), (vS v42.key), (vT #[(vA #[(vI ((getC (putM ms v42.key v42.c) v42.key).v)), (vI ((getC (putM ms v42.key v42.c) v42.key).up)), (vI ((getC (putM ms v42.key v42.c) v42.key).dn)), (vI ((getC (putM ms v42.key v42.c) v42.key).lo)), (vI ((getC (putM ms v42.key v42.c) v42.key).hi))]), (vI (getE (putM ms v42.key v42.c) v42.key))]), (vA #[(vI ((getC (putM ms v42.key v42.c) v42.key).v)), (vI ((getC (putM ms v42.key v42.c) v42.key).up)), (vI ((getC (putM ms v42.key v42.c) v42.key).dn)), (vI ((getC (putM ms v42.key v42.c) v42.key).lo)), (vI ((getC (putM ms v42.key v42.c) v42.key).hi))]), (vI (getE (putM ms v42.key v42.c) v42.key)), (vT #[(vA #[(vI ((getC (putM ms v42.key v42.c) v42.key).v)), (vI ((getC (putM ms v42.key v42.c) v42.key).up)), (vI ((getC (putM ms v42.key v42.c) v42.key).dn)), (vI ((getC (putM ms v42.key v42.c) v42.key).lo)), (vI ((getC (putM ms v42.key v42.c) v42.key).hi))]), (vI (getE (putM ms v42.key v42.c) v42.key))]), (vP t2 0), (vP b51 1), (vS v42.key), (vT #[(vA #[(vI ((getC (putM ms v42.key v42.c) v42.key).v)), (vI ((getC (putM ms v42.key v42.c) v42.key).up)), (vI ((getC (putM ms v42.key v42.c) v42.key).dn)), (vI ((getC (putM ms v42.key v42.c) v42.key).lo)), (vI ((getC (putM ms v42.key v42.c) v42.key).hi))]), (vI (getE (putM ms v42.key v42.c) v42.key))]), (vA #[(vI ((getC (putM ms v42.key v42.c) v42.key).v)), (vI ((getC (putM ms v42.key v42.c) v42.key).up)), (vI ((getC (putM ms v42.key v42.c) v42.key).dn)), (vI ((getC (putM ms v42.key v42.c) v42.key).lo)), (vI ((getC (putM ms v42.key v42.c) v42.key).hi))]), (vI (getE (putM ms v42.key v42.c) v42.key)), (vA #[(vI ((getC (putM ms v42.key v42.c) v42.key).v)), (vI ((getC (putM ms v42.key v42.c) v42.key).up)), (vI ((getC (putM ms v42.key v42.c) v42.key).dn)), (vI ((getC (putM ms v42.key v42.c) v42.key).lo)), (vI ((getC (putM ms v42.key v42.c) v42.key).hi))]), (vA #[(vI ((getC (putM ms v42.key v42.c) v42.key).v)), (vI ((getC (putM ms v42.key v42.c) v42.key).up)), (vI ((getC (putM ms v42.key v42.c) v42.key).dn)), (vI ((getC (putM ms v42.key v42.c) v42.key).lo)), (vI ((getC (putM ms v42.key v42.c) v42.key).hi))]), (vB false), (vB false), (vI (getE (putM ms v42.key v42.c) v42.key)), (vI (getE (putM ms v42.key v42.c) v42.key)), (vB false), (vB false), (vB false), (vP t1 0), (vP t2 0), (vB true), (vB false), (vB false)] : List Value).getD i undef), by as_aux_lemma => kernel_rfl, x159, rfl, by omega, k75, o83, o96, (fun zz w1 w2 => n95 zz w2 w1), p157, p158⟩⟩
      · by_cases c160 : ((v42.k) : Int) = 1
        · obtain ⟨_, h161, s162, rfl, x163, O4703, p164, o165⟩ := sapply_ok h63 p66 i34 v42.key v42.ph v42.d
          have k166 := WfM.app i34 v42.key v42.ph v42.d
          have q167 := ap_facts ms v42.key v42.ph v42.d
          have q168 := apSM_len ms v42.key v42.ph v42.d
          have z169 : h.size ≤ h63.size := x68.size
          have x170 : Ext h _ := (Chg.then (O := fun _ => False) (Chg.ext x68) x163 (fun b hb => .inr (i35 b hb))).toExt'
          have f171 := x163.same _ _ f65 (fun hb => n56 _ hb rfl)
          have p172 := p67.keep fun b r hb q => x163.same b r q ((fun b hb hb2 => i37 b hb2 hb) b hb)
          have z173 : h.size ≤ h63.size := x68.size
          have n174 : ∀ zz, O4703 zz → ¬ O2 zz := fun zz hz ez => by rcases o165 zz hz with g | g; (exact i37 _ g ez); have := p67.blk_lt ez; omega
          have o175 : ∀ zz, O4703 zz → h.size ≤ zz := fun zz hz => by rcases o165 zz hz with g | g; (exact i35 zz g); omega
          obtain ⟨_, h176, s177, rfl, x178, O4718, p179, o180⟩ := srapp_ok h161 p172 i34 v42.key v42.ph v42.d
          have k181 := WfM.app i34 v42.key v42.ph v42.d
          have z182 : h.size ≤ h161.size := x170.size
          have x183 : Ext h _ := (Chg.then (O := fun _ => False) (Chg.ext x170) x178 (fun b hb => .inr (i36 b hb))).toExt'
          have f184 := x178.same _ _ f171 (fun hb => n57 _ hb rfl)
          have p185 := p164.keep fun b r hb q => x178.same b r q (n174 b hb)
          have z186 : h.size ≤ h161.size := x170.size
          have n187 : ∀ zz, O4718 zz → ¬ O4703 zz := fun zz hz ez => by rcases o180 zz hz with g | g; (exact n174 _ ez g); have := p164.blk_lt ez; omega
          have o188 : ∀ zz, O4718 zz → h.size ≤ zz := fun zz hz => by rcases o180 zz hz with g | g; (exact i36 zz g); omega
          have q189 := get_facts (apSM ms v42.key v42.ph v42.d) v42.key
          obtain ⟨_, hh190, sn191, rfl, x192⟩ := get_ok h176 p185 k166 v42.key
          have f193 := x192 _ _ f184
          have p194 := p185.keep fun b r _ q => x192 b r q
          have p195 := p179.keep fun b r _ q => x192 b r q
          have x196 := x183.trans x192
          obtain ⟨b197, eb198⟩ : ∃ zq, zq = hh190.size := ⟨_, rfl⟩
          obtain ⟨h199, e200⟩ : ∃ zq, zq = hh190.push (.cells #[(vI 0), (vI 0), (vI 0), (vI 0), (vI 0)] 30 (0, 0)) := ⟨_, rfl⟩
          have f201 := push_new e200
          rw [← eb198] at f201
          have n202 : b197 ≠ b51 := by have := row_lt f193; omega
          have n203 : ∀ zz, O4703 zz → ¬ zz = b197 := fun zz hz ez => by have := p194.blk_lt hz; omega
          have n204 : ∀ zz, O4718 zz → ¬ zz = b197 := fun zz hz ez => by have := p195.blk_lt hz; omega
          have x205 : Ext hh190 h199 := by rw [e200]; exact Ext.push _ _
          have o206 : h.size ≤ b197 := by have := x196.size; omega
          have f207 := x205 _ _ f193
          have p208 := p194.keep fun b r _ q => x205 b r q
          have p209 := p195.keep fun b r _ q => x205 b r q
          have x210 := x196.trans x205
          obtain ⟨h211, e212⟩ : ∃ zq, zq = h199.setIfInBounds b197 (.cells #[(vI ((getC (apSM ms v42.key v42.ph v42.d) v42.key).v)), (vI ((getC (apSM ms v42.key v42.ph v42.d) v42.key).up)), (vI ((getC (apSM ms v42.key v42.ph v42.d) v42.key).dn)), (vI ((getC (apSM ms v42.key v42.ph v42.d) v42.key).lo)), (vI ((getC (apSM ms v42.key v42.ph v42.d) v42.key).hi))] 30 (0, 0)) := ⟨_, rfl⟩
          have f213 := set_same e212 f201
          have f214 := set_other e212 f207 n202
          have p215 := p208.keep fun b r hb q => (Chg.set e212).same b r q (n203 b hb)
          have p216 := p209.keep fun b r hb q => (Chg.set e212).same b r q (n204 b hb)
          have x217 := Ext.setNew x210 e212 o206
          obtain ⟨_, hh218, sn219, rfl, x220⟩ := sget_ok h211 p216 k181 v42.key
          have f221 := x220 _ _ f213
          have p222 := p215.keep fun b r _ q => x220 b r q
          have p223 := p216.keep fun b r _ q => x220 b r q
          have x224 := x217.trans x220
          obtain ⟨b225, eb226⟩ : ∃ zq, zq = hh218.size := ⟨_, rfl⟩
          obtain ⟨h227, e228⟩ : ∃ zq, zq = hh218.push (.cells #[(vI 0), (vI 0), (vI 0), (vI 0), (vI 0)] 30 (0, 0)) := ⟨_, rfl⟩
          have f229 := push_new e228
          rw [← eb226] at f229
          have n230 : b225 ≠ b197 := by have := row_lt f221; omega
          have n231 : ∀ zz, O4703 zz → ¬ zz = b225 := fun zz hz ez => by have := p222.blk_lt hz; omega
          have n232 : ∀ zz, O4718 zz → ¬ zz = b225 := fun zz hz ez => by have := p223.blk_lt hz; omega
          have x233 : Ext hh218 h227 := by rw [e228]; exact Ext.push _ _
          have o234 : h.size ≤ b225 := by have := x224.size; omega
          have f235 := x233 _ _ f221
          have p236 := p222.keep fun b r _ q => x233 b r q
          have p237 := p223.keep fun b r _ q => x233 b r q
          have x238 := x224.trans x233
          obtain ⟨h239, e240⟩ : ∃ zq, zq = h227.setIfInBounds b225 (.cells #[(vI ((getC (apSM ms v42.key v42.ph v42.d) v42.key).v)), (vI ((getC (apSM ms v42.key v42.ph v42.d) v42.key).up)), (vI ((getC (apSM ms v42.key v42.ph v42.d) v42.key).dn)), (vI ((getC (apSM ms v42.key v42.ph v42.d) v42.key).lo)), (vI ((getC (apSM ms v42.key v42.ph v42.d) v42.key).hi))] 30 (0, 0)) := ⟨_, rfl⟩
          have f241 := set_same e240 f229
          have f242 := set_other e240 f235 n230
          have p243 := p236.keep fun b r hb q => (Chg.set e240).same b r q (n231 b hb)
          have p244 := p237.keep fun b r hb q => (Chg.set e240).same b r q (n232 b hb)
          have x245 := Ext.setNew x238 e240 o234
          obtain ⟨_, hh246, sn247, rfl, x248⟩ := alike_ok h239 p243 p244 k166
          have p249 := p243.keep fun b r _ q => x248 b r q
          have p250 := p244.keep fun b r _ q => x248 b r q
          have x251 := x245.trans x248
          refine wc_ev [ltT 6 3 3 c40, evV 8 2 (vP b46 o47) (show indexAddrA Tryz.prog 22 (vL sa xs.length cp) (vI k) = some (vP b46 o47) from a50 und22 size34 e43), evV 8 3 (vA #[(vI v42.k), (vS v42.key), (vI v42.c.v), (vI v42.c.up), (vI v42.c.dn), (vI v42.c.lo), (vI v42.c.hi), (vI v42.ph), (vI v42.d), (vS v42.r0), (vS v42.r1)]) (show loadT Tryz.prog h29 34 (vP b46 o47) = some (vA #[(vI v42.k), (vS v42.key), (vI v42.c.v), (vI v42.c.up), (vI v42.c.dn), (vI v42.c.lo), (vI v42.c.hi), (vI v42.ph), (vI v42.d), (vS v42.r0), (vS v42.r1)]) from (k48.keep fun b r _ q => x30 b r q).agg (j := 0) agg34 size34 (show 0 + 11 ≤ 11 by decide) (by kernel_rfl)), evA 8 4 eb52 e54, evUw 8 5 size34 f55 e64, evC 9 1 0 agg3 f65, eqF 10 0 3 c69, eqT 13 0 3 c160, evC 14 2 1 agg9 f65, evC 14 4 7 agg3 f65, evC 14 6 8 agg2 f65, evF 14 7 s162, evC 15 2 1 agg9 f171, evC 15 4 7 agg3 f171, evC 15 6 8 agg2 f171, evF 15 7 s177, neF 16 2 2 (Eq.refl ((apSV ms v42.key v42.ph v42.d) : Int)), neF 16 6 35 (Eq.refl ((apSE ms v42.key v42.ph v42.d) : Int)), evC 29 2 1 agg9 f184, evF 29 3 sn191, evA 29 7 eb198 e200, evUw 29 8 size30 f201 e212, evC 30 2 1 agg9 f214, evF 30 3 sn219, evA 30 7 eb226 e228, evUw 30 8 size30 f229 e240, evLw 31 0 agg30 size30 f242, evLw 31 1 agg30 size30 f241, evV 31 2 (vB false) (show binA Tryz.prog .neq 30 (vA #[(vI ((getC (apSM ms v42.key v42.ph v42.d) v42.key).v)), (vI ((getC (apSM ms v42.key v42.ph v42.d) v42.key).up)), (vI ((getC (apSM ms v42.key v42.ph v42.d) v42.key).dn)), (vI ((getC (apSM ms v42.key v42.ph v42.d) v42.key).lo)), (vI ((getC (apSM ms v42.key v42.ph v42.d) v42.key).hi))]) (vA #[(vI ((getC (apSM ms v42.key v42.ph v42.d) v42.key).v)), (vI ((getC (apSM ms v42.key v42.ph v42.d) v42.key).up)), (vI ((getC (apSM ms v42.key v42.ph v42.d) v42.key).dn)), (vI ((getC (apSM ms v42.key v42.ph v42.d) v42.key).lo)), (vI ((getC (apSM ms v42.key v42.ph v42.d) v42.key).hi))]) = some (vB false) from cmp30_neq (decide_eq_false (not_not_intro ⟨rfl, rfl, rfl, rfl, rfl⟩))), neF 31 6 35 (Eq.refl ((getE (apSM ms v42.key v42.ph v42.d) v42.key) : Int)), evF 31 11 sn247, evV 7 1 (vI ((k) + 1)) (show binA Tryz.prog .add 3 (vI k) (vI 1) = some (vI ((k) + 1)) from add_i64 (by omega) (by omega))] .normal hh246 [(25, (vI k)), (26, (vL sa xs.length cp)), (27, (vI ((xs.length : Nat)))), (28, (vB true)), (31, (vL sa xs.length cp)), (32, (vI k)), (33, (vP b46 o47)), (34, (vA #[(vI v42.k), (vS v42.key), (vI v42.c.v), (vI v42.c.up), (vI v42.c.dn), (vI v42.c.lo), (vI v42.c.hi), (vI v42.ph), (vI v42.d), (vS v42.r0), (vS v42.r1)])), (6, (vP b51 0)), (35, (vP b51 0)), (36, (vI v42.k)), (38, (vB false)), (37, (vB false)), (53, (vB true)), (52, (vB true)), (55, (vP t1 0)), (56, (vP b51 1)), (57, (vS v42.key)), (58, (vP b51 7)), (59, (vI v42.ph)), (60, (vP b51 8)), (61, (vI v42.d)), (62, (vT #[(vI (apSV ms v42.key v42.ph v42.d)), (vI (apSE ms v42.key v42.ph v42.d))])), (54, (vT #[(vI (apSV ms v42.key v42.ph v42.d)), (vI (apSE ms v42.key v42.ph v42.d))])), (63, (vI (apSV ms v42.key v42.ph v42.d))), (64, (vI (apSE ms v42.key v42.ph v42.d))), (7, (vI (apSV ms v42.key v42.ph v42.d))), (8, (vI (apSE ms v42.key v42.ph v42.d))), (66, (vP t2 0)), (67, (vP b51 1)), (68, (vS v42.key)), (69, (vP b51 7)), (70, (vI v42.ph)), (71, (vP b51 8)), (72, (vI v42.d)), (73, (vT #[(vI (apSV ms v42.key v42.ph v42.d)), (vI (apSE ms v42.key v42.ph v42.d))])), (65, (vT #[(vI (apSV ms v42.key v42.ph v42.d)), (vI (apSE ms v42.key v42.ph v42.d))])), (74, (vI (apSV ms v42.key v42.ph v42.d))), (75, (vI (apSE ms v42.key v42.ph v42.d))), (9, (vI (apSV ms v42.key v42.ph v42.d))), (10, (vI (apSE ms v42.key v42.ph v42.d))), (76, (vI (apSV ms v42.key v42.ph v42.d))), (77, (vI (apSV ms v42.key v42.ph v42.d))), (78, (vB false)), (79, (vB false)), (80, (vI (apSE ms v42.key v42.ph v42.d))), (81, (vI (apSE ms v42.key v42.ph v42.d))), (82, (vB false)), (83, (vB false)), (127, (vP t1 0)), (128, (vP b51 1)), (129, (vS v42.key)), (130, (vT #[(vA #[(vI ((getC (apSM ms v42.key v42.ph v42.d) v42.key).v)), (vI ((getC (apSM ms v42.key v42.ph v42.d) v42.key).up)), (vI ((getC (apSM ms v42.key v42.ph v42.d) v42.key).dn)), (vI ((getC (apSM ms v42.key v42.ph v42.d) v42.key).lo)), (vI ((getC (apSM ms v42.key v42.ph v42.d) v42.key).hi))]), (vI (getE (apSM ms v42.key v42.ph v42.d) v42.key))])), (126, (vT #[(vA #[(vI ((getC (apSM ms v42.key v42.ph v42.d) v42.key).v)), (vI ((getC (apSM ms v42.key v42.ph v42.d) v42.key).up)), (vI ((getC (apSM ms v42.key v42.ph v42.d) v42.key).dn)), (vI ((getC (apSM ms v42.key v42.ph v42.d) v42.key).lo)), (vI ((getC (apSM ms v42.key v42.ph v42.d) v42.key).hi))]), (vI (getE (apSM ms v42.key v42.ph v42.d) v42.key))])), (131, (vA #[(vI ((getC (apSM ms v42.key v42.ph v42.d) v42.key).v)), (vI ((getC (apSM ms v42.key v42.ph v42.d) v42.key).up)), (vI ((getC (apSM ms v42.key v42.ph v42.d) v42.key).dn)), (vI ((getC (apSM ms v42.key v42.ph v42.d) v42.key).lo)), (vI ((getC (apSM ms v42.key v42.ph v42.d) v42.key).hi))])), (132, (vI (getE (apSM ms v42.key v42.ph v42.d) v42.key))), (15, (vP b197 0)), (16, (vI (getE (apSM ms v42.key v42.ph v42.d) v42.key))), (134, (vP t2 0)), (135, (vP b51 1)), (136, (vS v42.key)), (137, (vT #[(vA #[(vI ((getC (apSM ms v42.key v42.ph v42.d) v42.key).v)), (vI ((getC (apSM ms v42.key v42.ph v42.d) v42.key).up)), (vI ((getC (apSM ms v42.key v42.ph v42.d) v42.key).dn)), (vI ((getC (apSM ms v42.key v42.ph v42.d) v42.key).lo)), (vI ((getC (apSM ms v42.key v42.ph v42.d) v42.key).hi))]), (vI (getE (apSM ms v42.key v42.ph v42.d) v42.key))])), (133, (vT #[(vA #[(vI ((getC (apSM ms v42.key v42.ph v42.d) v42.key).v)), (vI ((getC (apSM ms v42.key v42.ph v42.d) v42.key).up)), (vI ((getC (apSM ms v42.key v42.ph v42.d) v42.key).dn)), (vI ((getC (apSM ms v42.key v42.ph v42.d) v42.key).lo)), (vI ((getC (apSM ms v42.key v42.ph v42.d) v42.key).hi))]), (vI (getE (apSM ms v42.key v42.ph v42.d) v42.key))])), (138, (vA #[(vI ((getC (apSM ms v42.key v42.ph v42.d) v42.key).v)), (vI ((getC (apSM ms v42.key v42.ph v42.d) v42.key).up)), (vI ((getC (apSM ms v42.key v42.ph v42.d) v42.key).dn)), (vI ((getC (apSM ms v42.key v42.ph v42.d) v42.key).lo)), (vI ((getC (apSM ms v42.key v42.ph v42.d) v42.key).hi))])), (139, (vI (getE (apSM ms v42.key v42.ph v42.d) v42.key))), (17, (vP b225 0)), (18, (vI (getE (apSM ms v42.key v42.ph v42.d) v42.key))), (140, (vA #[(vI ((getC (apSM ms v42.key v42.ph v42.d) v42.key).v)), (vI ((getC (apSM ms v42.key v42.ph v42.d) v42.key).up)), (vI ((getC (apSM ms v42.key v42.ph v42.d) v42.key).dn)), (vI ((getC (apSM ms v42.key v42.ph v42.d) v42.key).lo)), (vI ((getC (apSM ms v42.key v42.ph v42.d) v42.key).hi))])), (141, (vA #[(vI ((getC (apSM ms v42.key v42.ph v42.d) v42.key).v)), (vI ((getC (apSM ms v42.key v42.ph v42.d) v42.key).up)), (vI ((getC (apSM ms v42.key v42.ph v42.d) v42.key).dn)), (vI ((getC (apSM ms v42.key v42.ph v42.d) v42.key).lo)), (vI ((getC (apSM ms v42.key v42.ph v42.d) v42.key).hi))])), (142, (vB false)), (143, (vB false)), (144, (vI (getE (apSM ms v42.key v42.ph v42.d) v42.key))), (145, (vI (getE (apSM ms v42.key v42.ph v42.d) v42.key))), (146, (vB false)), (147, (vB false)), (148, (vB false)), (149, (vP t1 0)), (150, (vP t2 0)), (151, (vB true)), (152, (vB false)), (153, (vB false)), (29, (vI k)), (30, (vI ((k) + 1))), (5, (vI ((k) + 1)))] ?_
          exact ⟨xs.length - (k + 1).toNat, by omega, ⟨k + 1, (apSM ms v42.key v42.ph v42.d), t1, t2, O4703, O4718, (fun i => ([vU, vU, (g0 2), vU, vU, vU, (vP b51 0), (vI (apSV ms v42.key v42.ph v42.d)), (vI (apSE ms v42.key v42.ph v42.d)), (vI (apSV ms v42.key v42.ph v42.d)), (vI (apSE ms v42.key v42.ph v42.d)), (g0 11), (g0 12), (g0 13), (g0 14), (vP b197 0), (vI (getE (apSM ms v42.key v42.ph v42.d) v42.key)), (vP b225 0), (vI (getE (apSM ms v42.key v42.ph v42.d) v42.key)), vU, vU, vU, vU, vU, vU, (vI k), (vL sa xs.length cp), (vI ((xs.length : Nat))), (vB true), (vI k), (vI ((k) + 1)), (vL sa xs.length cp), (vI k), (vP b46 o47), (vA #[(vI v42.k), (vS v42.key), (vI v42.c.v), (vI v42.c.up), (vI v42.c.dn), (vI v42.c.lo), (vI v42.c.hi), (vI v42.ph), (vI v42.d), (vS v42.r0), (vS v42.r1)]), (vP b51 0), (vI v42.k), (vB false), (vB false), (g0 39), (g0 40), (g0 41), (g0 42), (g0 43), (g0 44), (g0 45), (g0 46), (g0 47), (g0 48), (g0 49), (g0 50), (g0 51), (vB true), (vB true), (vT #[(vI (apSV ms v42.key v42.ph v42.d)), (vI (apSE ms v42.key v42.ph v42.d))]), (vP t1 0), (vP b51 1), (vS v42.key), (vP b51 7), (vI v42.ph), (vP b51 8), (vI v42.d), (vT #[(vI (apSV ms v42.key v42.ph v42.d)), (vI (apSE ms v42.key v42.ph v42.d))]), (vI (apSV ms v42.key v42.ph v42.d)), (vI (apSE ms v42.key v42.ph v42.d)), (vT #[(vI (apSV ms v42.key v42.ph v42.d)), (vI (apSE ms v42.key v42.ph v42.d))]), (vP t2 0), (vP b51 1), (vS v42.key), (vP b51 7), (vI v42.ph), (vP b51 8), (vI v42.d), (vT #[(vI (apSV ms v42.key v42.ph v42.d)), (vI (apSE ms v42.key v42.ph v42.d))]), (vI (apSV ms v42.key v42.ph v42.d)), (vI (apSE ms v42.key v42.ph v42.d)), (vI (apSV ms v42.key v42.ph v42.d)), (vI (apSV ms v42.key v42.ph v42.d)), (vB false), (vB false), (vI (apSE ms v42.key v42.ph v42.d)), (vI (apSE ms v42.key v42.ph v42.d)), (vB false), (vB false), (g0 84), (g0 85), (g0 86), (g0 87), (g0 88), (g0 89), (g0 90), (g0 91), (g0 92), (g0 93), (g0 94), (g0 95), (g0 96), (g0 97), (g0 98), (g0 99), (g0 100), (g0 101), (g0 102), (g0 103), (g0 104), (g0 105), (g0 106), (g0 107), (g0 108), (g0 109), (g0 110), (g0 111), (g0 112), (g0 113), (g0 114), (g0 115), (g0 116), (g0 117), (g0 118), (g0 119), (g0 120), (g0 121), (g0 122), (g0 123), (g0 124), (g0 125), (vT #[(vA #[(vI ((getC (apSM ms v42.key v42.ph v42.d) v42.key).v)), (vI ((getC (apSM ms v42.key v42.ph v42.d) v42.key).up)), (vI ((getC (apSM ms v42.key v42.ph v42.d) v42.key).dn)), (vI ((getC (apSM ms v42.key v42.ph v42.d) v42.key).lo)), (vI ((getC (apSM ms v42.key v42.ph v42.d) v42.key).hi))]), (vI (getE (apSM ms v42.key v42.ph v42.d) v42.key))]), (vP t1 0), (vP b51 1), (vS v42.key), (vT #[(vA #[(vI ((getC (apSM ms v42.key v42.ph v42.d) v42.key).v)), (vI ((getC (apSM ms v42.key v42.ph v42.d) v42.key).up)), (vI ((getC (apSM ms v42.key v42.ph v42.d) v42.key).dn)), (vI ((getC (apSM ms v42.key v42.ph v42.d) v42.key).lo)), (vI ((getC (apSM ms v42.key v42.ph v42.d) v42.key).hi))]), (vI (getE (apSM ms v42.key v42.ph v42.d) v42.key))]), (vA #[(vI ((getC (apSM ms v42.key v42.ph v42.d) v42.key).v)), (vI ((getC (apSM ms v42.key v42.ph v42.d) v42.key).up)), (vI ((getC (apSM ms v42.key v42.ph v42.d) v42.key).dn)), (vI ((getC (apSM ms v42.key v42.ph v42.d) v42.key).lo)), (vI ((getC (apSM ms v42.key v42.ph v42.d) v42.key).hi))]), (vI (getE (apSM ms v42.key v42.ph v42.d) v42.key)), (vT #[(vA #[(vI ((getC (apSM ms v42.key v42.ph v42.d) v42.key).v)), (vI ((getC (apSM ms v42.key v42.ph v42.d) v42.key).up)), (vI ((getC (apSM ms v42.key v42.ph v42.d) v42.key).dn)), (vI ((getC (apSM ms v42.key v42.ph v42.d) v42.key).lo)), (vI ((getC (apSM ms v42.key v42.ph v42.d) v42.key).hi))]), (vI (getE (apSM ms v42.key v42.ph v42.d) v42.key))]), (vP t2 0), (vP b51 1), (vS v42.key), (vT #[(vA #[(vI ((getC (apSM ms v42.key v42.ph v42.d) v42.key).v)), (vI ((getC (apSM ms v42.key v42.ph v42.d) v42.key).up)), (vI ((getC (apSM ms v42.key v42.ph v42.d) v42.key).dn)), (vI ((getC (apSM ms v42.key v42.ph v42.d) v42.key).lo)), (vI ((getC (apSM ms v42.key v42.ph v42.d) v42.key).hi))]), (vI (getE (apSM ms v42.key v42.ph v42.d) v42.key))]), (vA #[(vI ((getC (apSM ms v42.key v42.ph v42.d) v42.key).v)), (vI ((getC (apSM ms v42.key v42.ph v42.d) v42.key).up)), (vI ((getC (apSM ms v42.key v42.ph v42.d) v42.key).dn)), (vI ((getC (apSM ms v42.key v42.ph v42.d) v42.key).lo)), (vI ((getC (apSM ms v42.key v42.ph v42.d) v42.key).hi))]), (vI (getE (apSM ms v42.key v42.ph v42.d) v42.key)), (vA #[(vI ((getC (apSM ms v42.key v42.ph v42.d) v42.key).v)), (vI ((getC (apSM ms v42.key v42.ph v42.d) v42.key).up)), (vI ((getC (apSM ms v42.key v42.ph v42.d) v42.key).dn)), (vI ((getC (apSM ms v42.key v42.ph v42.d) v42.key).lo)), (vI ((getC (apSM ms v42.key v42.ph v42.d) v42.key).hi))]), (vA #[(vI ((getC (apSM ms v42.key v42.ph v42.d) v42.key).v)), (vI ((getC (apSM ms v42.key v42.ph v42.d) v42.key).up)), (vI ((getC (apSM ms v42.key v42.ph v42.d) v42.key).dn)), (vI ((getC (apSM ms v42.key v42.ph v42.d) v42.key).lo)), (vI ((getC (apSM ms v42.key v42.ph v42.d) v42.key).hi))]), (vB false), (vB false), (vI (getE (apSM ms v42.key v42.ph v42.d) v42.key)), (vI (getE (apSM ms v42.key v42.ph v42.d) v42.key)), (vB false), (vB false), (vB false), (vP t1 0), (vP t2 0), (vB true), (vB false), (vB false)] : List Value).getD i undef), by as_aux_lemma => kernel_rfl, x251, rfl, by omega, k166, o175, o188, (fun zz w1 w2 => n187 zz w2 w1), p249, p250⟩⟩
        · by_cases c252 : ((v42.k) : Int) = 2
          · obtain ⟨_, h253, s254, rfl, x255, O4811, p256, o257⟩ := remove_ok h63 p66 i34 v42.key
            have k258 := WfM.rem i34 v42.key
            have q259 := get_facts ms v42.key
            have z260 : h.size ≤ h63.size := x68.size
            have x261 : Ext h _ := (Chg.then (O := fun _ => False) (Chg.ext x68) x255 (fun b hb => .inr (i35 b hb))).toExt'
            have f262 := x255.same _ _ f65 (fun hb => n56 _ hb rfl)
            have p263 := p67.keep fun b r hb q => x255.same b r q ((fun b hb hb2 => i37 b hb2 hb) b hb)
            have z264 : h.size ≤ h63.size := x68.size
            have n265 : ∀ zz, O4811 zz → ¬ O2 zz := fun zz hz ez => by rcases o257 zz hz with g | g; (exact i37 _ g ez); have := p67.blk_lt ez; omega
            have o266 : ∀ zz, O4811 zz → h.size ≤ zz := fun zz hz => by rcases o257 zz hz with g | g; (exact i35 zz g); omega
            obtain ⟨_, h267, s268, rfl, x269, O4826, p270, o271⟩ := srem_ok h253 p263 i34 v42.key
            have k272 := WfM.rem i34 v42.key
            have z273 : h.size ≤ h253.size := x261.size
            have x274 : Ext h _ := (Chg.then (O := fun _ => False) (Chg.ext x261) x269 (fun b hb => .inr (i36 b hb))).toExt'
            have f275 := x269.same _ _ f262 (fun hb => n57 _ hb rfl)
            have p276 := p256.keep fun b r hb q => x269.same b r q (n265 b hb)
            have z277 : h.size ≤ h253.size := x261.size
            have n278 : ∀ zz, O4826 zz → ¬ O4811 zz := fun zz hz ez => by rcases o271 zz hz with g | g; (exact n265 _ ez g); have := p256.blk_lt ez; omega
            have o279 : ∀ zz, O4826 zz → h.size ≤ zz := fun zz hz => by rcases o271 zz hz with g | g; (exact i36 zz g); omega
            have q280 := get_facts (remM ms v42.key) v42.key
            obtain ⟨_, hh281, sn282, rfl, x283⟩ := get_ok h267 p276 k258 v42.key
            have f284 := x283 _ _ f275
            have p285 := p276.keep fun b r _ q => x283 b r q
            have p286 := p270.keep fun b r _ q => x283 b r q
            have x287 := x274.trans x283
            obtain ⟨b288, eb289⟩ : ∃ zq, zq = hh281.size := ⟨_, rfl⟩
            obtain ⟨h290, e291⟩ : ∃ zq, zq = hh281.push (.cells #[(vI 0), (vI 0), (vI 0), (vI 0), (vI 0)] 30 (0, 0)) := ⟨_, rfl⟩
            have f292 := push_new e291
            rw [← eb289] at f292
            have n293 : b288 ≠ b51 := by have := row_lt f284; omega
            have n294 : ∀ zz, O4811 zz → ¬ zz = b288 := fun zz hz ez => by have := p285.blk_lt hz; omega
            have n295 : ∀ zz, O4826 zz → ¬ zz = b288 := fun zz hz ez => by have := p286.blk_lt hz; omega
            have x296 : Ext hh281 h290 := by rw [e291]; exact Ext.push _ _
            have o297 : h.size ≤ b288 := by have := x287.size; omega
            have f298 := x296 _ _ f284
            have p299 := p285.keep fun b r _ q => x296 b r q
            have p300 := p286.keep fun b r _ q => x296 b r q
            have x301 := x287.trans x296
            obtain ⟨h302, e303⟩ : ∃ zq, zq = h290.setIfInBounds b288 (.cells #[(vI ((getC (remM ms v42.key) v42.key).v)), (vI ((getC (remM ms v42.key) v42.key).up)), (vI ((getC (remM ms v42.key) v42.key).dn)), (vI ((getC (remM ms v42.key) v42.key).lo)), (vI ((getC (remM ms v42.key) v42.key).hi))] 30 (0, 0)) := ⟨_, rfl⟩
            have f304 := set_same e303 f292
            have f305 := set_other e303 f298 n293
            have p306 := p299.keep fun b r hb q => (Chg.set e303).same b r q (n294 b hb)
            have p307 := p300.keep fun b r hb q => (Chg.set e303).same b r q (n295 b hb)
            have x308 := Ext.setNew x301 e303 o297
            obtain ⟨_, hh309, sn310, rfl, x311⟩ := sget_ok h302 p307 k272 v42.key
            have f312 := x311 _ _ f304
            have p313 := p306.keep fun b r _ q => x311 b r q
            have p314 := p307.keep fun b r _ q => x311 b r q
            have x315 := x308.trans x311
            obtain ⟨b316, eb317⟩ : ∃ zq, zq = hh309.size := ⟨_, rfl⟩
            obtain ⟨h318, e319⟩ : ∃ zq, zq = hh309.push (.cells #[(vI 0), (vI 0), (vI 0), (vI 0), (vI 0)] 30 (0, 0)) := ⟨_, rfl⟩
            have f320 := push_new e319
            rw [← eb317] at f320
            have n321 : b316 ≠ b288 := by have := row_lt f312; omega
            have n322 : ∀ zz, O4811 zz → ¬ zz = b316 := fun zz hz ez => by have := p313.blk_lt hz; omega
            have n323 : ∀ zz, O4826 zz → ¬ zz = b316 := fun zz hz ez => by have := p314.blk_lt hz; omega
            have x324 : Ext hh309 h318 := by rw [e319]; exact Ext.push _ _
            have o325 : h.size ≤ b316 := by have := x315.size; omega
            have f326 := x324 _ _ f312
            have p327 := p313.keep fun b r _ q => x324 b r q
            have p328 := p314.keep fun b r _ q => x324 b r q
            have x329 := x315.trans x324
            obtain ⟨h330, e331⟩ : ∃ zq, zq = h318.setIfInBounds b316 (.cells #[(vI ((getC (remM ms v42.key) v42.key).v)), (vI ((getC (remM ms v42.key) v42.key).up)), (vI ((getC (remM ms v42.key) v42.key).dn)), (vI ((getC (remM ms v42.key) v42.key).lo)), (vI ((getC (remM ms v42.key) v42.key).hi))] 30 (0, 0)) := ⟨_, rfl⟩
            have f332 := set_same e331 f320
            have f333 := set_other e331 f326 n321
            have p334 := p327.keep fun b r hb q => (Chg.set e331).same b r q (n322 b hb)
            have p335 := p328.keep fun b r hb q => (Chg.set e331).same b r q (n323 b hb)
            have x336 := Ext.setNew x329 e331 o325
            obtain ⟨_, hh337, sn338, rfl, x339⟩ := alike_ok h330 p334 p335 k258
            have p340 := p334.keep fun b r _ q => x339 b r q
            have p341 := p335.keep fun b r _ q => x339 b r q
            have x342 := x336.trans x339
            refine wc_ev [ltT 6 3 3 c40, evV 8 2 (vP b46 o47) (show indexAddrA Tryz.prog 22 (vL sa xs.length cp) (vI k) = some (vP b46 o47) from a50 und22 size34 e43), evV 8 3 (vA #[(vI v42.k), (vS v42.key), (vI v42.c.v), (vI v42.c.up), (vI v42.c.dn), (vI v42.c.lo), (vI v42.c.hi), (vI v42.ph), (vI v42.d), (vS v42.r0), (vS v42.r1)]) (show loadT Tryz.prog h29 34 (vP b46 o47) = some (vA #[(vI v42.k), (vS v42.key), (vI v42.c.v), (vI v42.c.up), (vI v42.c.dn), (vI v42.c.lo), (vI v42.c.hi), (vI v42.ph), (vI v42.d), (vS v42.r0), (vS v42.r1)]) from (k48.keep fun b r _ q => x30 b r q).agg (j := 0) agg34 size34 (show 0 + 11 ≤ 11 by decide) (by kernel_rfl)), evA 8 4 eb52 e54, evUw 8 5 size34 f55 e64, evC 9 1 0 agg3 f65, eqF 10 0 3 c69, eqF 13 0 3 c160, eqT 18 0 3 c252, evC 19 2 1 agg9 f65, evC 19 6 1 agg9 f65, evF 19 3 s254, evC 99 0 1 agg9 f262, evF 19 7 s268, neF 19 8 35 (Eq.refl ((getE ms v42.key) : Int)), evC 29 2 1 agg9 f275, evF 29 3 sn282, evA 29 7 eb289 e291, evUw 29 8 size30 f292 e303, evC 30 2 1 agg9 f305, evF 30 3 sn310, evA 30 7 eb317 e319, evUw 30 8 size30 f320 e331, evLw 31 0 agg30 size30 f333, evLw 31 1 agg30 size30 f332, evV 31 2 (vB false) (show binA Tryz.prog .neq 30 (vA #[(vI ((getC (remM ms v42.key) v42.key).v)), (vI ((getC (remM ms v42.key) v42.key).up)), (vI ((getC (remM ms v42.key) v42.key).dn)), (vI ((getC (remM ms v42.key) v42.key).lo)), (vI ((getC (remM ms v42.key) v42.key).hi))]) (vA #[(vI ((getC (remM ms v42.key) v42.key).v)), (vI ((getC (remM ms v42.key) v42.key).up)), (vI ((getC (remM ms v42.key) v42.key).dn)), (vI ((getC (remM ms v42.key) v42.key).lo)), (vI ((getC (remM ms v42.key) v42.key).hi))]) = some (vB false) from cmp30_neq (decide_eq_false (not_not_intro ⟨rfl, rfl, rfl, rfl, rfl⟩))), neF 31 6 35 (Eq.refl ((getE (remM ms v42.key) v42.key) : Int)), evF 31 11 sn338, evV 7 1 (vI ((k) + 1)) (show binA Tryz.prog .add 3 (vI k) (vI 1) = some (vI ((k) + 1)) from add_i64 (by omega) (by omega))] .normal hh337 [(25, (vI k)), (26, (vL sa xs.length cp)), (27, (vI ((xs.length : Nat)))), (28, (vB true)), (31, (vL sa xs.length cp)), (32, (vI k)), (33, (vP b46 o47)), (34, (vA #[(vI v42.k), (vS v42.key), (vI v42.c.v), (vI v42.c.up), (vI v42.c.dn), (vI v42.c.lo), (vI v42.c.hi), (vI v42.ph), (vI v42.d), (vS v42.r0), (vS v42.r1)])), (6, (vP b51 0)), (35, (vP b51 0)), (36, (vI v42.k)), (38, (vB false)), (37, (vB false)), (53, (vB false)), (52, (vB false)), (85, (vB true)), (84, (vB true)), (86, (vP t1 0)), (87, (vP b51 1)), (88, (vS v42.key)), (90, (vP t2 0)), (91, (vP b51 1)), (92, (vS v42.key)), (89, (vI (getE ms v42.key))), (93, (vI (getE ms v42.key))), (94, (vB false)), (127, (vP t1 0)), (128, (vP b51 1)), (129, (vS v42.key)), (130, (vT #[(vA #[(vI ((getC (remM ms v42.key) v42.key).v)), (vI ((getC (remM ms v42.key) v42.key).up)), (vI ((getC (remM ms v42.key) v42.key).dn)), (vI ((getC (remM ms v42.key) v42.key).lo)), (vI ((getC (remM ms v42.key) v42.key).hi))]), (vI (getE (remM ms v42.key) v42.key))])), (126, (vT #[(vA #[(vI ((getC (remM ms v42.key) v42.key).v)), (vI ((getC (remM ms v42.key) v42.key).up)), (vI ((getC (remM ms v42.key) v42.key).dn)), (vI ((getC (remM ms v42.key) v42.key).lo)), (vI ((getC (remM ms v42.key) v42.key).hi))]), (vI (getE (remM ms v42.key) v42.key))])), (131, (vA #[(vI ((getC (remM ms v42.key) v42.key).v)), (vI ((getC (remM ms v42.key) v42.key).up)), (vI ((getC (remM ms v42.key) v42.key).dn)), (vI ((getC (remM ms v42.key) v42.key).lo)), (vI ((getC (remM ms v42.key) v42.key).hi))])), (132, (vI (getE (remM ms v42.key) v42.key))), (15, (vP b288 0)), (16, (vI (getE (remM ms v42.key) v42.key))), (134, (vP t2 0)), (135, (vP b51 1)), (136, (vS v42.key)), (137, (vT #[(vA #[(vI ((getC (remM ms v42.key) v42.key).v)), (vI ((getC (remM ms v42.key) v42.key).up)), (vI ((getC (remM ms v42.key) v42.key).dn)), (vI ((getC (remM ms v42.key) v42.key).lo)), (vI ((getC (remM ms v42.key) v42.key).hi))]), (vI (getE (remM ms v42.key) v42.key))])), (133, (vT #[(vA #[(vI ((getC (remM ms v42.key) v42.key).v)), (vI ((getC (remM ms v42.key) v42.key).up)), (vI ((getC (remM ms v42.key) v42.key).dn)), (vI ((getC (remM ms v42.key) v42.key).lo)), (vI ((getC (remM ms v42.key) v42.key).hi))]), (vI (getE (remM ms v42.key) v42.key))])), (138, (vA #[(vI ((getC (remM ms v42.key) v42.key).v)), (vI ((getC (remM ms v42.key) v42.key).up)), (vI ((getC (remM ms v42.key) v42.key).dn)), (vI ((getC (remM ms v42.key) v42.key).lo)), (vI ((getC (remM ms v42.key) v42.key).hi))])), (139, (vI (getE (remM ms v42.key) v42.key))), (17, (vP b316 0)), (18, (vI (getE (remM ms v42.key) v42.key))), (140, (vA #[(vI ((getC (remM ms v42.key) v42.key).v)), (vI ((getC (remM ms v42.key) v42.key).up)), (vI ((getC (remM ms v42.key) v42.key).dn)), (vI ((getC (remM ms v42.key) v42.key).lo)), (vI ((getC (remM ms v42.key) v42.key).hi))])), (141, (vA #[(vI ((getC (remM ms v42.key) v42.key).v)), (vI ((getC (remM ms v42.key) v42.key).up)), (vI ((getC (remM ms v42.key) v42.key).dn)), (vI ((getC (remM ms v42.key) v42.key).lo)), (vI ((getC (remM ms v42.key) v42.key).hi))])), (142, (vB false)), (143, (vB false)), (144, (vI (getE (remM ms v42.key) v42.key))), (145, (vI (getE (remM ms v42.key) v42.key))), (146, (vB false)), (147, (vB false)), (148, (vB false)), (149, (vP t1 0)), (150, (vP t2 0)), (151, (vB true)), (152, (vB false)), (153, (vB false)), (29, (vI k)), (30, (vI ((k) + 1))), (5, (vI ((k) + 1)))] ?_
            exact ⟨xs.length - (k + 1).toNat, by omega, ⟨k + 1, (remM ms v42.key), t1, t2, O4811, O4826, (fun i => ([vU, vU, (g0 2), vU, vU, vU, (vP b51 0), (g0 7), (g0 8), (g0 9), (g0 10), (g0 11), (g0 12), (g0 13), (g0 14), (vP b288 0), (vI (getE (remM ms v42.key) v42.key)), (vP b316 0), (vI (getE (remM ms v42.key) v42.key)), vU, vU, vU, vU, vU, vU, (vI k), (vL sa xs.length cp), (vI ((xs.length : Nat))), (vB true), (vI k), (vI ((k) + 1)), (vL sa xs.length cp), (vI k), (vP b46 o47), (vA #[(vI v42.k), (vS v42.key), (vI v42.c.v), (vI v42.c.up), (vI v42.c.dn), (vI v42.c.lo), (vI v42.c.hi), (vI v42.ph), (vI v42.d), (vS v42.r0), (vS v42.r1)]), (vP b51 0), (vI v42.k), (vB false), (vB false), (g0 39), (g0 40), (g0 41), (g0 42), (g0 43), (g0 44), (g0 45), (g0 46), (g0 47), (g0 48), (g0 49), (g0 50), (g0 51), (vB false), (vB false), (g0 54), (g0 55), (g0 56), (g0 57), (g0 58), (g0 59), (g0 60), (g0 61), (g0 62), (g0 63), (g0 64), (g0 65), (g0 66), (g0 67), (g0 68), (g0 69), (g0 70), (g0 71), (g0 72), (g0 73), (g0 74), (g0 75), (g0 76), (g0 77), (g0 78), (g0 79), (g0 80), (g0 81), (g0 82), (g0 83), (vB true), (vB true), (vP t1 0), (vP b51 1), (vS v42.key), (vI (getE ms v42.key)), (vP t2 0), (vP b51 1), (vS v42.key), (vI (getE ms v42.key)), (vB false), (g0 95), (g0 96), (g0 97), (g0 98), (g0 99), (g0 100), (g0 101), (g0 102), (g0 103), (g0 104), (g0 105), (g0 106), (g0 107), (g0 108), (g0 109), (g0 110), (g0 111), (g0 112), (g0 113), (g0 114), (g0 115), (g0 116), (g0 117), (g0 118), (g0 119), (g0 120), (g0 121), (g0 122), (g0 123), (g0 124), (g0 125), (vT #[(vA #[(vI ((getC (remM ms v42.key) v42.key).v)), (vI ((getC (remM ms v42.key) v42.key).up)), (vI ((getC (remM ms v42.key) v42.key).dn)), (vI ((getC (remM ms v42.key) v42.key).lo)), (vI ((getC (remM ms v42.key) v42.key).hi))]), (vI (getE (remM ms v42.key) v42.key))]), (vP t1 0), (vP b51 1), (vS v42.key), (vT #[(vA #[(vI ((getC (remM ms v42.key) v42.key).v)), (vI ((getC (remM ms v42.key) v42.key).up)), (vI ((getC (remM ms v42.key) v42.key).dn)), (vI ((getC (remM ms v42.key) v42.key).lo)), (vI ((getC (remM ms v42.key) v42.key).hi))]), (vI (getE (remM ms v42.key) v42.key))]), (vA #[(vI ((getC (remM ms v42.key) v42.key).v)), (vI ((getC (remM ms v42.key) v42.key).up)), (vI ((getC (remM ms v42.key) v42.key).dn)), (vI ((getC (remM ms v42.key) v42.key).lo)), (vI ((getC (remM ms v42.key) v42.key).hi))]), (vI (getE (remM ms v42.key) v42.key)), (vT #[(vA #[(vI ((getC (remM ms v42.key) v42.key).v)), (vI ((getC (remM ms v42.key) v42.key).up)), (vI ((getC (remM ms v42.key) v42.key).dn)), (vI ((getC (remM ms v42.key) v42.key).lo)), (vI ((getC (remM ms v42.key) v42.key).hi))]), (vI (getE (remM ms v42.key) v42.key))]), (vP t2 0), (vP b51 1), (vS v42.key), (vT #[(vA #[(vI ((getC (remM ms v42.key) v42.key).v)), (vI ((getC (remM ms v42.key) v42.key).up)), (vI ((getC (remM ms v42.key) v42.key).dn)), (vI ((getC (remM ms v42.key) v42.key).lo)), (vI ((getC (remM ms v42.key) v42.key).hi))]), (vI (getE (remM ms v42.key) v42.key))]), (vA #[(vI ((getC (remM ms v42.key) v42.key).v)), (vI ((getC (remM ms v42.key) v42.key).up)), (vI ((getC (remM ms v42.key) v42.key).dn)), (vI ((getC (remM ms v42.key) v42.key).lo)), (vI ((getC (remM ms v42.key) v42.key).hi))]), (vI (getE (remM ms v42.key) v42.key)), (vA #[(vI ((getC (remM ms v42.key) v42.key).v)), (vI ((getC (remM ms v42.key) v42.key).up)), (vI ((getC (remM ms v42.key) v42.key).dn)), (vI ((getC (remM ms v42.key) v42.key).lo)), (vI ((getC (remM ms v42.key) v42.key).hi))]), (vA #[(vI ((getC (remM ms v42.key) v42.key).v)), (vI ((getC (remM ms v42.key) v42.key).up)), (vI ((getC (remM ms v42.key) v42.key).dn)), (vI ((getC (remM ms v42.key) v42.key).lo)), (vI ((getC (remM ms v42.key) v42.key).hi))]), (vB false), (vB false), (vI (getE (remM ms v42.key) v42.key)), (vI (getE (remM ms v42.key) v42.key)), (vB false), (vB false), (vB false), (vP t1 0), (vP t2 0), (vB true), (vB false), (vB false)] : List Value).getD i undef), by as_aux_lemma => kernel_rfl, x342, rfl, by omega, k258, o266, o279, (fun zz w1 w2 => n278 zz w2 w1), p340, p341⟩⟩
          · by_cases c343 : ((v42.k) : Int) = 3
            · obtain ⟨_, h344, s345, w346, c347, rfl, o348, x349, b350⟩ := in_ok h63 p66 i34 v42.r0 v42.r1
              have l351 := i34.few
              have l351 := i34.few
              have l352 := in_lens ms v42.r0 v42.r1
              have f353 := x349 _ _ f65
              have p354 := p66.keep fun b r _ q => x349 b r q
              have p355 := p67.keep fun b r _ q => x349 b r q
              have x356 := x68.trans x349
              have z357 : h.size ≤ h63.size := x68.size
              have o358 : ∀ zz, blk (Value.slice w346 ((inL ms v42.r0 v42.r1).length) (c347)) zz → h.size ≤ zz := fun zz hz => by have := b350 zz hz; omega
              obtain ⟨_, h359, s360, w361, c362, rfl, o363, x364, b365⟩ := srin_ok h344 p355 i34 v42.r0 v42.r1 (by omega) (by omega)
              have f366 := x364 _ _ f353
              have p367 := p354.keep fun b r _ q => x364 b r q
              have p368 := p355.keep fun b r _ q => x364 b r q
              have p369 := o348.keep fun b r _ q => x364 b r q
              have x370 := x356.trans x364
              have z371 : h.size ≤ h344.size := x356.size
              have o372 : ∀ zz, blk (Value.slice w361 ((inL ms v42.r0 v42.r1).length) (c362)) zz → h.size ≤ zz := fun zz hz => by have := b365 zz hz; omega
              obtain ⟨_, _, s373, rfl, rfl⟩ := same_ok h359 (inL ms v42.r0 v42.r1) (inL ms v42.r0 v42.r1) _ _ _ _ (p369.slice strc_size) (o363.slice strc_size) (by omega)
              rw [decide_eq_true rfl] at s373
              have q374 := get_facts ms v42.key
              obtain ⟨_, hh375, sn376, rfl, x377⟩ := get_ok h359 p367 i34 v42.key
              have f378 := x377 _ _ f366
              have p379 := p367.keep fun b r _ q => x377 b r q
              have p380 := p368.keep fun b r _ q => x377 b r q
              have x381 := x370.trans x377
              obtain ⟨b382, eb383⟩ : ∃ zq, zq = hh375.size := ⟨_, rfl⟩
              obtain ⟨h384, e385⟩ : ∃ zq, zq = hh375.push (.cells #[(vI 0), (vI 0), (vI 0), (vI 0), (vI 0)] 30 (0, 0)) := ⟨_, rfl⟩
              have f386 := push_new e385
              rw [← eb383] at f386
              have n387 : b382 ≠ b51 := by have := row_lt f378; omega
              have n388 : ∀ zz, O1 zz → ¬ zz = b382 := fun zz hz ez => by have := p379.blk_lt hz; omega
              have n389 : ∀ zz, O2 zz → ¬ zz = b382 := fun zz hz ez => by have := p380.blk_lt hz; omega
              have x390 : Ext hh375 h384 := by rw [e385]; exact Ext.push _ _
              have o391 : h.size ≤ b382 := by have := x381.size; omega
              have f392 := x390 _ _ f378
              have p393 := p379.keep fun b r _ q => x390 b r q
              have p394 := p380.keep fun b r _ q => x390 b r q
              have x395 := x381.trans x390
              obtain ⟨h396, e397⟩ : ∃ zq, zq = h384.setIfInBounds b382 (.cells #[(vI ((getC ms v42.key).v)), (vI ((getC ms v42.key).up)), (vI ((getC ms v42.key).dn)), (vI ((getC ms v42.key).lo)), (vI ((getC ms v42.key).hi))] 30 (0, 0)) := ⟨_, rfl⟩
              have f398 := set_same e397 f386
              have f399 := set_other e397 f392 n387
              have p400 := p393.keep fun b r hb q => (Chg.set e397).same b r q (n388 b hb)
              have p401 := p394.keep fun b r hb q => (Chg.set e397).same b r q (n389 b hb)
              have x402 := Ext.setNew x395 e397 o391
              obtain ⟨_, hh403, sn404, rfl, x405⟩ := sget_ok h396 p401 i34 v42.key
              have f406 := x405 _ _ f398
              have p407 := p400.keep fun b r _ q => x405 b r q
              have p408 := p401.keep fun b r _ q => x405 b r q
              have x409 := x402.trans x405
              obtain ⟨b410, eb411⟩ : ∃ zq, zq = hh403.size := ⟨_, rfl⟩
              obtain ⟨h412, e413⟩ : ∃ zq, zq = hh403.push (.cells #[(vI 0), (vI 0), (vI 0), (vI 0), (vI 0)] 30 (0, 0)) := ⟨_, rfl⟩
              have f414 := push_new e413
              rw [← eb411] at f414
              have n415 : b410 ≠ b382 := by have := row_lt f406; omega
              have n416 : ∀ zz, O1 zz → ¬ zz = b410 := fun zz hz ez => by have := p407.blk_lt hz; omega
              have n417 : ∀ zz, O2 zz → ¬ zz = b410 := fun zz hz ez => by have := p408.blk_lt hz; omega
              have x418 : Ext hh403 h412 := by rw [e413]; exact Ext.push _ _
              have o419 : h.size ≤ b410 := by have := x409.size; omega
              have f420 := x418 _ _ f406
              have p421 := p407.keep fun b r _ q => x418 b r q
              have p422 := p408.keep fun b r _ q => x418 b r q
              have x423 := x409.trans x418
              obtain ⟨h424, e425⟩ : ∃ zq, zq = h412.setIfInBounds b410 (.cells #[(vI ((getC ms v42.key).v)), (vI ((getC ms v42.key).up)), (vI ((getC ms v42.key).dn)), (vI ((getC ms v42.key).lo)), (vI ((getC ms v42.key).hi))] 30 (0, 0)) := ⟨_, rfl⟩
              have f426 := set_same e425 f414
              have f427 := set_other e425 f420 n415
              have p428 := p421.keep fun b r hb q => (Chg.set e425).same b r q (n416 b hb)
              have p429 := p422.keep fun b r hb q => (Chg.set e425).same b r q (n417 b hb)
              have x430 := Ext.setNew x423 e425 o419
              obtain ⟨_, hh431, sn432, rfl, x433⟩ := alike_ok h424 p428 p429 i34
              have p434 := p428.keep fun b r _ q => x433 b r q
              have p435 := p429.keep fun b r _ q => x433 b r q
              have x436 := x430.trans x433
              refine wc_ev [ltT 6 3 3 c40, evV 8 2 (vP b46 o47) (show indexAddrA Tryz.prog 22 (vL sa xs.length cp) (vI k) = some (vP b46 o47) from a50 und22 size34 e43), evV 8 3 (vA #[(vI v42.k), (vS v42.key), (vI v42.c.v), (vI v42.c.up), (vI v42.c.dn), (vI v42.c.lo), (vI v42.c.hi), (vI v42.ph), (vI v42.d), (vS v42.r0), (vS v42.r1)]) (show loadT Tryz.prog h29 34 (vP b46 o47) = some (vA #[(vI v42.k), (vS v42.key), (vI v42.c.v), (vI v42.c.up), (vI v42.c.dn), (vI v42.c.lo), (vI v42.c.hi), (vI v42.ph), (vI v42.d), (vS v42.r0), (vS v42.r1)]) from (k48.keep fun b r _ q => x30 b r q).agg (j := 0) agg34 size34 (show 0 + 11 ≤ 11 by decide) (by kernel_rfl)), evA 8 4 eb52 e54, evUw 8 5 size34 f55 e64, evC 9 1 0 agg3 f65, eqF 10 0 3 c69, eqF 13 0 3 c160, eqF 18 0 3 c252, eqT 21 0 3 c343, evL 22 2 9 agg32 size32 f65, evF 22 3 s345, evL 23 2 9 agg32 size32 f353, evF 23 3 s360, evF 24 2 s373, neF 24 7 35 (Eq.refl ((inE v42.r0 v42.r1) : Int)), evC 29 2 1 agg9 f366, evF 29 3 sn376, evA 29 7 eb383 e385, evUw 29 8 size30 f386 e397, evC 30 2 1 agg9 f399, evF 30 3 sn404, evA 30 7 eb411 e413, evUw 30 8 size30 f414 e425, evLw 31 0 agg30 size30 f427, evLw 31 1 agg30 size30 f426, evV 31 2 (vB false) (show binA Tryz.prog .neq 30 (vA #[(vI ((getC ms v42.key).v)), (vI ((getC ms v42.key).up)), (vI ((getC ms v42.key).dn)), (vI ((getC ms v42.key).lo)), (vI ((getC ms v42.key).hi))]) (vA #[(vI ((getC ms v42.key).v)), (vI ((getC ms v42.key).up)), (vI ((getC ms v42.key).dn)), (vI ((getC ms v42.key).lo)), (vI ((getC ms v42.key).hi))]) = some (vB false) from cmp30_neq (decide_eq_false (not_not_intro ⟨rfl, rfl, rfl, rfl, rfl⟩))), neF 31 6 35 (Eq.refl ((getE ms v42.key) : Int)), evF 31 11 sn432, evV 7 1 (vI ((k) + 1)) (show binA Tryz.prog .add 3 (vI k) (vI 1) = some (vI ((k) + 1)) from add_i64 (by omega) (by omega))] .normal hh431 [(25, (vI k)), (26, (vL sa xs.length cp)), (27, (vI ((xs.length : Nat)))), (28, (vB true)), (31, (vL sa xs.length cp)), (32, (vI k)), (33, (vP b46 o47)), (34, (vA #[(vI v42.k), (vS v42.key), (vI v42.c.v), (vI v42.c.up), (vI v42.c.dn), (vI v42.c.lo), (vI v42.c.hi), (vI v42.ph), (vI v42.d), (vS v42.r0), (vS v42.r1)])), (6, (vP b51 0)), (35, (vP b51 0)), (36, (vI v42.k)), (38, (vB false)), (37, (vB false)), (53, (vB false)), (52, (vB false)), (85, (vB false)), (84, (vB false)), (96, (vB true)), (95, (vB true)), (98, (vP t1 0)), (99, (vP b51 9)), (100, (vA #[(vS v42.r0), (vS v42.r1)])), (101, (vT #[(vL w346 ((inL ms v42.r0 v42.r1).length) c347), (vI (inE v42.r0 v42.r1))])), (97, (vT #[(vL w346 ((inL ms v42.r0 v42.r1).length) c347), (vI (inE v42.r0 v42.r1))])), (102, (vL w346 ((inL ms v42.r0 v42.r1).length) c347)), (103, (vI (inE v42.r0 v42.r1))), (11, (vL w346 ((inL ms v42.r0 v42.r1).length) c347)), (12, (vI (inE v42.r0 v42.r1))), (105, (vP t2 0)), (106, (vP b51 9)), (107, (vA #[(vS v42.r0), (vS v42.r1)])), (108, (vT #[(vL w361 ((inL ms v42.r0 v42.r1).length) c362), (vI (inE v42.r0 v42.r1))])), (104, (vT #[(vL w361 ((inL ms v42.r0 v42.r1).length) c362), (vI (inE v42.r0 v42.r1))])), (109, (vL w361 ((inL ms v42.r0 v42.r1).length) c362)), (110, (vI (inE v42.r0 v42.r1))), (13, (vL w361 ((inL ms v42.r0 v42.r1).length) c362)), (14, (vI (inE v42.r0 v42.r1))), (111, (vL w346 ((inL ms v42.r0 v42.r1).length) c347)), (112, (vL w361 ((inL ms v42.r0 v42.r1).length) c362)), (113, (vB true)), (114, (vB false)), (115, (vB false)), (116, (vI (inE v42.r0 v42.r1))), (117, (vI (inE v42.r0 v42.r1))), (118, (vB false)), (119, (vB false)), (127, (vP t1 0)), (128, (vP b51 1)), (129, (vS v42.key)), (130, (vT #[(vA #[(vI ((getC ms v42.key).v)), (vI ((getC ms v42.key).up)), (vI ((getC ms v42.key).dn)), (vI ((getC ms v42.key).lo)), (vI ((getC ms v42.key).hi))]), (vI (getE ms v42.key))])), (126, (vT #[(vA #[(vI ((getC ms v42.key).v)), (vI ((getC ms v42.key).up)), (vI ((getC ms v42.key).dn)), (vI ((getC ms v42.key).lo)), (vI ((getC ms v42.key).hi))]), (vI (getE ms v42.key))])), (131, (vA #[(vI ((getC ms v42.key).v)), (vI ((getC ms v42.key).up)), (vI ((getC ms v42.key).dn)), (vI ((getC ms v42.key).lo)), (vI ((getC ms v42.key).hi))])), (132, (vI (getE ms v42.key))), (15, (vP b382 0)), (16, (vI (getE ms v42.key))), (134, (vP t2 0)), (135, (vP b51 1)), (136, (vS v42.key)), (137, (vT #[(vA #[(vI ((getC ms v42.key).v)), (vI ((getC ms v42.key).up)), (vI ((getC ms v42.key).dn)), (vI ((getC ms v42.key).lo)), (vI ((getC ms v42.key).hi))]), (vI (getE ms v42.key))])), (133, (vT #[(vA #[(vI ((getC ms v42.key).v)), (vI ((getC ms v42.key).up)), (vI ((getC ms v42.key).dn)), (vI ((getC ms v42.key).lo)), (vI ((getC ms v42.key).hi))]), (vI (getE ms v42.key))])), (138, (vA #[(vI ((getC ms v42.key).v)), (vI ((getC ms v42.key).up)), (vI ((getC ms v42.key).dn)), (vI ((getC ms v42.key).lo)), (vI ((getC ms v42.key).hi))])), (139, (vI (getE ms v42.key))), (17, (vP b410 0)), (18, (vI (getE ms v42.key))), (140, (vA #[(vI ((getC ms v42.key).v)), (vI ((getC ms v42.key).up)), (vI ((getC ms v42.key).dn)), (vI ((getC ms v42.key).lo)), (vI ((getC ms v42.key).hi))])), (141, (vA #[(vI ((getC ms v42.key).v)), (vI ((getC ms v42.key).up)), (vI ((getC ms v42.key).dn)), (vI ((getC ms v42.key).lo)), (vI ((getC ms v42.key).hi))])), (142, (vB false)), (143, (vB false)), (144, (vI (getE ms v42.key))), (145, (vI (getE ms v42.key))), (146, (vB false)), (147, (vB false)), (148, (vB false)), (149, (vP t1 0)), (150, (vP t2 0)), (151, (vB true)), (152, (vB false)), (153, (vB false)), (29, (vI k)), (30, (vI ((k) + 1))), (5, (vI ((k) + 1)))] ?_
              exact ⟨xs.length - (k + 1).toNat, by omega, ⟨k + 1, ms, t1, t2, O1, O2, (fun i => ([vU, vU, (g0 2), vU, vU, vU, (vP b51 0), (g0 7), (g0 8), (g0 9), (g0 10), (vL w346 ((inL ms v42.r0 v42.r1).length) c347), (vI (inE v42.r0 v42.r1)), (vL w361 ((inL ms v42.r0 v42.r1).length) c362), (vI (inE v42.r0 v42.r1)), (vP b382 0), (vI (getE ms v42.key)), (vP b410 0), (vI (getE ms v42.key)), vU, vU, vU, vU, vU, vU, (vI k), (vL sa xs.length cp), (vI ((xs.length : Nat))), (vB true), (vI k), (vI ((k) + 1)), (vL sa xs.length cp), (vI k), (vP b46 o47), (vA #[(vI v42.k), (vS v42.key), (vI v42.c.v), (vI v42.c.up), (vI v42.c.dn), (vI v42.c.lo), (vI v42.c.hi), (vI v42.ph), (vI v42.d), (vS v42.r0), (vS v42.r1)]), (vP b51 0), (vI v42.k), (vB false), (vB false), (g0 39), (g0 40), (g0 41), (g0 42), (g0 43), (g0 44), (g0 45), (g0 46), (g0 47), (g0 48), (g0 49), (g0 50), (g0 51), (vB false), (vB false), (g0 54), (g0 55), (g0 56), (g0 57), (g0 58), (g0 59), (g0 60), (g0 61), (g0 62), (g0 63), (g0 64), (g0 65), (g0 66), (g0 67), (g0 68), (g0 69), (g0 70), (g0 71), (g0 72), (g0 73), (g0 74), (g0 75), (g0 76), (g0 77), (g0 78), (g0 79), (g0 80), (g0 81), (g0 82), (g0 83), (vB false), (vB false), (g0 86), (g0 87), (g0 88), (g0 89), (g0 90), (g0 91), (g0 92), (g0 93), (g0 94), (vB true), (vB true), (vT #[(vL w346 ((inL ms v42.r0 v42.r1).length) c347), (vI (inE v42.r0 v42.r1))]), (vP t1 0), (vP b51 9), (vA #[(vS v42.r0), (vS v42.r1)]), (vT #[(vL w346 ((inL ms v42.r0 v42.r1).length) c347), (vI (inE v42.r0 v42.r1))]), (vL w346 ((inL ms v42.r0 v42.r1).length) c347), (vI (inE v42.r0 v42.r1)), (vT #[(vL w361 ((inL ms v42.r0 v42.r1).length) c362), (vI (inE v42.r0 v42.r1))]), (vP t2 0), (vP b51 9), (vA #[(vS v42.r0), (vS v42.r1)]), (vT #[(vL w361 ((inL ms v42.r0 v42.r1).length) c362), (vI (inE v42.r0 v42.r1))]), (vL w361 ((inL ms v42.r0 v42.r1).length) c362), (vI (inE v42.r0 v42.r1)), (vL w346 ((inL ms v42.r0 v42.r1).length) c347), (vL w361 ((inL ms v42.r0 v42.r1).length) c362), (vB true), (vB false), (vB false), (vI (inE v42.r0 v42.r1)), (vI (inE v42.r0 v42.r1)), (vB false), (vB false), (g0 120), (g0 121), (g0 122), (g0 123), (g0 124), (g0 125), (vT #[(vA #[(vI ((getC ms v42.key).v)), (vI ((getC ms v42.key).up)), (vI ((getC ms v42.key).dn)), (vI ((getC ms v42.key).lo)), (vI ((getC ms v42.key).hi))]), (vI (getE ms v42.key))]), (vP t1 0), (vP b51 1), (vS v42.key), (vT #[(vA #[(vI ((getC ms v42.key).v)), (vI ((getC ms v42.key).up)), (vI ((getC ms v42.key).dn)), (vI ((getC ms v42.key).lo)), (vI ((getC ms v42.key).hi))]), (vI (getE ms v42.key))]), (vA #[(vI ((getC ms v42.key).v)), (vI ((getC ms v42.key).up)), (vI ((getC ms v42.key).dn)), (vI ((getC ms v42.key).lo)), (vI ((getC ms v42.key).hi))]), (vI (getE ms v42.key)), (vT #[(vA #[(vI ((getC ms v42.key).v)), (vI ((getC ms v42.key).up)), (vI ((getC ms v42.key).dn)), (vI ((getC ms v42.key).lo)), (vI ((getC ms v42.key).hi))]), (vI (getE ms v42.key))]), (vP t2 0), (vP b51 1), (vS v42.key), (vT #[(vA #[(vI ((getC ms v42.key).v)), (vI ((getC ms v42.key).up)), (vI ((getC ms v42.key).dn)), (vI ((getC ms v42.key).lo)), (vI ((getC ms v42.key).hi))]), (vI (getE ms v42.key))]), (vA #[(vI ((getC ms v42.key).v)), (vI ((getC ms v42.key).up)), (vI ((getC ms v42.key).dn)), (vI ((getC ms v42.key).lo)), (vI ((getC ms v42.key).hi))]), (vI (getE ms v42.key)), (vA #[(vI ((getC ms v42.key).v)), (vI ((getC ms v42.key).up)), (vI ((getC ms v42.key).dn)), (vI ((getC ms v42.key).lo)), (vI ((getC ms v42.key).hi))]), (vA #[(vI ((getC ms v42.key).v)), (vI ((getC ms v42.key).up)), (vI ((getC ms v42.key).dn)), (vI ((getC ms v42.key).lo)), (vI ((getC ms v42.key).hi))]), (vB false), (vB false), (vI (getE ms v42.key)), (vI (getE ms v42.key)), (vB false), (vB false), (vB false), (vP t1 0), (vP t2 0), (vB true), (vB false), (vB false)] : List Value).getD i undef), by as_aux_lemma => kernel_rfl, x436, rfl, by omega, i34, i35, i36, i37, p434, p435⟩⟩
            · by_cases c437 : ((v42.k) : Int) = 4
              · obtain ⟨_, h438, s439, b440, O5057, rfl, p441, x442, w443⟩ := copy_ok h63 p66 i34
                have f444 := x442 _ _ f65
                have p445 := p67.keep fun b r _ q => x442 b r q
                have x446 := x68.trans x442
                have z447 : h.size ≤ h63.size := x68.size
                have o448 : ∀ zz, O5057 zz → h.size ≤ zz := fun zz hz => by have := w443 zz hz; omega
                obtain ⟨_, h449, s450, b451, O5075, rfl, p452, x453, w454⟩ := scopy_ok h438 p445 i34
                have f455 := x453 _ _ f444
                have p456 := p441.keep fun b r _ q => x453 b r q
                have x457 := x446.trans x453
                have z458 : h.size ≤ h438.size := x446.size
                have n459 : ∀ zz, O5075 zz → ¬ O5057 zz := fun zz hz ez => by have := w454 zz hz; have := p441.blk_lt ez; omega
                have o460 : ∀ zz, O5075 zz → h.size ≤ zz := fun zz hz => by have := w454 zz hz; omega
                have q461 := get_facts ms v42.key
                obtain ⟨_, hh462, sn463, rfl, x464⟩ := get_ok h449 p456 i34 v42.key
                have f465 := x464 _ _ f455
                have p466 := p456.keep fun b r _ q => x464 b r q
                have p467 := p452.keep fun b r _ q => x464 b r q
                have x468 := x457.trans x464
                obtain ⟨b469, eb470⟩ : ∃ zq, zq = hh462.size := ⟨_, rfl⟩
                obtain ⟨h471, e472⟩ : ∃ zq, zq = hh462.push (.cells #[(vI 0), (vI 0), (vI 0), (vI 0), (vI 0)] 30 (0, 0)) := ⟨_, rfl⟩
                have f473 := push_new e472
                rw [← eb470] at f473
                have n474 : b469 ≠ b51 := by have := row_lt f465; omega
                have n475 : ∀ zz, O5057 zz → ¬ zz = b469 := fun zz hz ez => by have := p466.blk_lt hz; omega
                have n476 : ∀ zz, O5075 zz → ¬ zz = b469 := fun zz hz ez => by have := p467.blk_lt hz; omega
                have x477 : Ext hh462 h471 := by rw [e472]; exact Ext.push _ _
                have o478 : h.size ≤ b469 := by have := x468.size; omega
                have f479 := x477 _ _ f465
                have p480 := p466.keep fun b r _ q => x477 b r q
                have p481 := p467.keep fun b r _ q => x477 b r q
                have x482 := x468.trans x477
                obtain ⟨h483, e484⟩ : ∃ zq, zq = h471.setIfInBounds b469 (.cells #[(vI ((getC ms v42.key).v)), (vI ((getC ms v42.key).up)), (vI ((getC ms v42.key).dn)), (vI ((getC ms v42.key).lo)), (vI ((getC ms v42.key).hi))] 30 (0, 0)) := ⟨_, rfl⟩
                have f485 := set_same e484 f473
                have f486 := set_other e484 f479 n474
                have p487 := p480.keep fun b r hb q => (Chg.set e484).same b r q (n475 b hb)
                have p488 := p481.keep fun b r hb q => (Chg.set e484).same b r q (n476 b hb)
                have x489 := Ext.setNew x482 e484 o478
                obtain ⟨_, hh490, sn491, rfl, x492⟩ := sget_ok h483 p488 i34 v42.key
                have f493 := x492 _ _ f485
                have p494 := p487.keep fun b r _ q => x492 b r q
                have p495 := p488.keep fun b r _ q => x492 b r q
                have x496 := x489.trans x492
                obtain ⟨b497, eb498⟩ : ∃ zq, zq = hh490.size := ⟨_, rfl⟩
                obtain ⟨h499, e500⟩ : ∃ zq, zq = hh490.push (.cells #[(vI 0), (vI 0), (vI 0), (vI 0), (vI 0)] 30 (0, 0)) := ⟨_, rfl⟩
                have f501 := push_new e500
                rw [← eb498] at f501
                have n502 : b497 ≠ b469 := by have := row_lt f493; omega
                have n503 : ∀ zz, O5057 zz → ¬ zz = b497 := fun zz hz ez => by have := p494.blk_lt hz; omega
                have n504 : ∀ zz, O5075 zz → ¬ zz = b497 := fun zz hz ez => by have := p495.blk_lt hz; omega
                have x505 : Ext hh490 h499 := by rw [e500]; exact Ext.push _ _
                have o506 : h.size ≤ b497 := by have := x496.size; omega
                have f507 := x505 _ _ f493
                have p508 := p494.keep fun b r _ q => x505 b r q
                have p509 := p495.keep fun b r _ q => x505 b r q
                have x510 := x496.trans x505
                obtain ⟨h511, e512⟩ : ∃ zq, zq = h499.setIfInBounds b497 (.cells #[(vI ((getC ms v42.key).v)), (vI ((getC ms v42.key).up)), (vI ((getC ms v42.key).dn)), (vI ((getC ms v42.key).lo)), (vI ((getC ms v42.key).hi))] 30 (0, 0)) := ⟨_, rfl⟩
                have f513 := set_same e512 f501
                have f514 := set_other e512 f507 n502
                have p515 := p508.keep fun b r hb q => (Chg.set e512).same b r q (n503 b hb)
                have p516 := p509.keep fun b r hb q => (Chg.set e512).same b r q (n504 b hb)
                have x517 := Ext.setNew x510 e512 o506
                obtain ⟨_, hh518, sn519, rfl, x520⟩ := alike_ok h511 p515 p516 i34
                have p521 := p515.keep fun b r _ q => x520 b r q
                have p522 := p516.keep fun b r _ q => x520 b r q
                have x523 := x517.trans x520
                refine wc_ev [ltT 6 3 3 c40, evV 8 2 (vP b46 o47) (show indexAddrA Tryz.prog 22 (vL sa xs.length cp) (vI k) = some (vP b46 o47) from a50 und22 size34 e43), evV 8 3 (vA #[(vI v42.k), (vS v42.key), (vI v42.c.v), (vI v42.c.up), (vI v42.c.dn), (vI v42.c.lo), (vI v42.c.hi), (vI v42.ph), (vI v42.d), (vS v42.r0), (vS v42.r1)]) (show loadT Tryz.prog h29 34 (vP b46 o47) = some (vA #[(vI v42.k), (vS v42.key), (vI v42.c.v), (vI v42.c.up), (vI v42.c.dn), (vI v42.c.lo), (vI v42.c.hi), (vI v42.ph), (vI v42.d), (vS v42.r0), (vS v42.r1)]) from (k48.keep fun b r _ q => x30 b r q).agg (j := 0) agg34 size34 (show 0 + 11 ≤ 11 by decide) (by kernel_rfl)), evA 8 4 eb52 e54, evUw 8 5 size34 f55 e64, evC 9 1 0 agg3 f65, eqF 10 0 3 c69, eqF 13 0 3 c160, eqF 18 0 3 c252, eqF 21 0 3 c343, eqT 26 0 3 c437, evF 27 1 s439, evF 28 1 s450, evC 29 2 1 agg9 f455, evF 29 3 sn463, evA 29 7 eb470 e472, evUw 29 8 size30 f473 e484, evC 30 2 1 agg9 f486, evF 30 3 sn491, evA 30 7 eb498 e500, evUw 30 8 size30 f501 e512, evLw 31 0 agg30 size30 f514, evLw 31 1 agg30 size30 f513, evV 31 2 (vB false) (show binA Tryz.prog .neq 30 (vA #[(vI ((getC ms v42.key).v)), (vI ((getC ms v42.key).up)), (vI ((getC ms v42.key).dn)), (vI ((getC ms v42.key).lo)), (vI ((getC ms v42.key).hi))]) (vA #[(vI ((getC ms v42.key).v)), (vI ((getC ms v42.key).up)), (vI ((getC ms v42.key).dn)), (vI ((getC ms v42.key).lo)), (vI ((getC ms v42.key).hi))]) = some (vB false) from cmp30_neq (decide_eq_false (not_not_intro ⟨rfl, rfl, rfl, rfl, rfl⟩))), neF 31 6 35 (Eq.refl ((getE ms v42.key) : Int)), evF 31 11 sn519, evV 7 1 (vI ((k) + 1)) (show binA Tryz.prog .add 3 (vI k) (vI 1) = some (vI ((k) + 1)) from add_i64 (by omega) (by omega))] .normal hh518 [(25, (vI k)), (26, (vL sa xs.length cp)), (27, (vI ((xs.length : Nat)))), (28, (vB true)), (31, (vL sa xs.length cp)), (32, (vI k)), (33, (vP b46 o47)), (34, (vA #[(vI v42.k), (vS v42.key), (vI v42.c.v), (vI v42.c.up), (vI v42.c.dn), (vI v42.c.lo), (vI v42.c.hi), (vI v42.ph), (vI v42.d), (vS v42.r0), (vS v42.r1)])), (6, (vP b51 0)), (35, (vP b51 0)), (36, (vI v42.k)), (38, (vB false)), (37, (vB false)), (53, (vB false)), (52, (vB false)), (85, (vB false)), (84, (vB false)), (96, (vB false)), (95, (vB false)), (121, (vB true)), (120, (vB true)), (122, (vP t1 0)), (123, (vP b440 0)), (3, (vP b440 0)), (124, (vP t2 0)), (125, (vP b451 0)), (4, (vP b451 0)), (127, (vP b440 0)), (128, (vP b51 1)), (129, (vS v42.key)), (130, (vT #[(vA #[(vI ((getC ms v42.key).v)), (vI ((getC ms v42.key).up)), (vI ((getC ms v42.key).dn)), (vI ((getC ms v42.key).lo)), (vI ((getC ms v42.key).hi))]), (vI (getE ms v42.key))])), (126, (vT #[(vA #[(vI ((getC ms v42.key).v)), (vI ((getC ms v42.key).up)), (vI ((getC ms v42.key).dn)), (vI ((getC ms v42.key).lo)), (vI ((getC ms v42.key).hi))]), (vI (getE ms v42.key))])), (131, (vA #[(vI ((getC ms v42.key).v)), (vI ((getC ms v42.key).up)), (vI ((getC ms v42.key).dn)), (vI ((getC ms v42.key).lo)), (vI ((getC ms v42.key).hi))])), (132, (vI (getE ms v42.key))), (15, (vP b469 0)), (16, (vI (getE ms v42.key))), (134, (vP b451 0)), (135, (vP b51 1)), (136, (vS v42.key)), (137, (vT #[(vA #[(vI ((getC ms v42.key).v)), (vI ((getC ms v42.key).up)), (vI ((getC ms v42.key).dn)), (vI ((getC ms v42.key).lo)), (vI ((getC ms v42.key).hi))]), (vI (getE ms v42.key))])), (133, (vT #[(vA #[(vI ((getC ms v42.key).v)), (vI ((getC ms v42.key).up)), (vI ((getC ms v42.key).dn)), (vI ((getC ms v42.key).lo)), (vI ((getC ms v42.key).hi))]), (vI (getE ms v42.key))])), (138, (vA #[(vI ((getC ms v42.key).v)), (vI ((getC ms v42.key).up)), (vI ((getC ms v42.key).dn)), (vI ((getC ms v42.key).lo)), (vI ((getC ms v42.key).hi))])), (139, (vI (getE ms v42.key))), (17, (vP b497 0)), (18, (vI (getE ms v42.key))), (140, (vA #[(vI ((getC ms v42.key).v)), (vI ((getC ms v42.key).up)), (vI ((getC ms v42.key).dn)), (vI ((getC ms v42.key).lo)), (vI ((getC ms v42.key).hi))])), (141, (vA #[(vI ((getC ms v42.key).v)), (vI ((getC ms v42.key).up)), (vI ((getC ms v42.key).dn)), (vI ((getC ms v42.key).lo)), (vI ((getC ms v42.key).hi))])), (142, (vB false)), (143, (vB false)), (144, (vI (getE ms v42.key))), (145, (vI (getE ms v42.key))), (146, (vB false)), (147, (vB false)), (148, (vB false)), (149, (vP b440 0)), (150, (vP b451 0)), (151, (vB true)), (152, (vB false)), (153, (vB false)), (29, (vI k)), (30, (vI ((k) + 1))), (5, (vI ((k) + 1)))] ?_
                exact ⟨xs.length - (k + 1).toNat, by omega, ⟨k + 1, ms, b440, b451, O5057, O5075, (fun i => ([vU, vU, (g0 2), vU, vU, vU, (vP b51 0), (g0 7), (g0 8), (g0 9), (g0 10), (g0 11), (g0 12), (g0 13), (g0 14), (vP b469 0), (vI (getE ms v42.key)), (vP b497 0), (vI (getE ms v42.key)), vU, vU, vU, vU, vU, vU, (vI k), (vL sa xs.length cp), (vI ((xs.length : Nat))), (vB true), (vI k), (vI ((k) + 1)), (vL sa xs.length cp), (vI k), (vP b46 o47), (vA #[(vI v42.k), (vS v42.key), (vI v42.c.v), (vI v42.c.up), (vI v42.c.dn), (vI v42.c.lo), (vI v42.c.hi), (vI v42.ph), (vI v42.d), (vS v42.r0), (vS v42.r1)]), (vP b51 0), (vI v42.k), (vB false), (vB false), (g0 39), (g0 40), (g0 41), (g0 42), (g0 43), (g0 44), (g0 45), (g0 46), (g0 47), (g0 48), (g0 49), (g0 50), (g0 51), (vB false), (vB false), (g0 54), (g0 55), (g0 56), (g0 57), (g0 58), (g0 59), (g0 60), (g0 61), (g0 62), (g0 63), (g0 64), (g0 65), (g0 66), (g0 67), (g0 68), (g0 69), (g0 70), (g0 71), (g0 72), (g0 73), (g0 74), (g0 75), (g0 76), (g0 77), (g0 78), (g0 79), (g0 80), (g0 81), (g0 82), (g0 83), (vB false), (vB false), (g0 86), (g0 87), (g0 88), (g0 89), (g0 90), (g0 91), (g0 92), (g0 93), (g0 94), (vB false), (vB false), (g0 97), (g0 98), (g0 99), (g0 100), (g0 101), (g0 102), (g0 103), (g0 104), (g0 105), (g0 106), (g0 107), (g0 108), (g0 109), (g0 110), (g0 111), (g0 112), (g0 113), (g0 114), (g0 115), (g0 116), (g0 117), (g0 118), (g0 119), (vB true), (vB true), (vP t1 0), (vP b440 0), (vP t2 0), (vP b451 0), (vT #[(vA #[(vI ((getC ms v42.key).v)), (vI ((getC ms v42.key).up)), (vI ((getC ms v42.key).dn)), (vI ((getC ms v42.key).lo)), (vI ((getC ms v42.key).hi))]), (vI (getE ms v42.key))]), (vP b440 0), (vP b51 1), (vS v42.key), (vT #[(vA #[(vI ((getC ms v42.key).v)), (vI ((getC ms v42.key).up)), (vI ((getC ms v42.key).dn)), (vI ((getC ms v42.key).lo)), (vI ((getC ms v42.key).hi))]), (vI (getE ms v42.key))]), (vA #[(vI ((getC ms v42.key).v)), (vI ((getC ms v42.key).up)), (vI ((getC ms v42.key).dn)), (vI ((getC ms v42.key).lo)), (vI ((getC ms v42.key).hi))]), (vI (getE ms v42.key)), (vT #[(vA #[(vI ((getC ms v42.key).v)), (vI ((getC ms v42.key).up)), (vI ((getC ms v42.key).dn)), (vI ((getC ms v42.key).lo)), (vI ((getC ms v42.key).hi))]), (vI (getE ms v42.key))]), (vP b451 0), (vP b51 1), (vS v42.key), (vT #[(vA #[(vI ((getC ms v42.key).v)), (vI ((getC ms v42.key).up)), (vI ((getC ms v42.key).dn)), (vI ((getC ms v42.key).lo)), (vI ((getC ms v42.key).hi))]), (vI (getE ms v42.key))]), (vA #[(vI ((getC ms v42.key).v)), (vI ((getC ms v42.key).up)), (vI ((getC ms v42.key).dn)), (vI ((getC ms v42.key).lo)), (vI ((getC ms v42.key).hi))]), (vI (getE ms v42.key)), (vA #[(vI ((getC ms v42.key).v)), (vI ((getC ms v42.key).up)), (vI ((getC ms v42.key).dn)), (vI ((getC ms v42.key).lo)), (vI ((getC ms v42.key).hi))]), (vA #[(vI ((getC ms v42.key).v)), (vI ((getC ms v42.key).up)), (vI ((getC ms v42.key).dn)), (vI ((getC ms v42.key).lo)), (vI ((getC ms v42.key).hi))]), (vB false), (vB false), (vI (getE ms v42.key)), (vI (getE ms v42.key)), (vB false), (vB false), (vB false), (vP b440 0), (vP b451 0), (vB true), (vB false), (vB false)] : List Value).getD i undef), by as_aux_lemma => kernel_rfl, x523, rfl, by omega, i34, o448, o460, (fun zz w1 w2 => n459 zz w2 w1), p521, p522⟩⟩
              · have q524 := get_facts ms v42.key
                obtain ⟨_, hh525, sn526, rfl, x527⟩ := get_ok h63 p66 i34 v42.key
                have f528 := x527 _ _ f65
                have p529 := p66.keep fun b r _ q => x527 b r q
                have p530 := p67.keep fun b r _ q => x527 b r q
                have x531 := x68.trans x527
                obtain ⟨b532, eb533⟩ : ∃ zq, zq = hh525.size := ⟨_, rfl⟩
                obtain ⟨h534, e535⟩ : ∃ zq, zq = hh525.push (.cells #[(vI 0), (vI 0), (vI 0), (vI 0), (vI 0)] 30 (0, 0)) := ⟨_, rfl⟩
                have f536 := push_new e535
                rw [← eb533] at f536
                have n537 : b532 ≠ b51 := by have := row_lt f528; omega
                have n538 : ∀ zz, O1 zz → ¬ zz = b532 := fun zz hz ez => by have := p529.blk_lt hz; omega
                have n539 : ∀ zz, O2 zz → ¬ zz = b532 := fun zz hz ez => by have := p530.blk_lt hz; omega
                have x540 : Ext hh525 h534 := by rw [e535]; exact Ext.push _ _
                have o541 : h.size ≤ b532 := by have := x531.size; omega
                have f542 := x540 _ _ f528
                have p543 := p529.keep fun b r _ q => x540 b r q
                have p544 := p530.keep fun b r _ q => x540 b r q
                have x545 := x531.trans x540
                obtain ⟨h546, e547⟩ : ∃ zq, zq = h534.setIfInBounds b532 (.cells #[(vI ((getC ms v42.key).v)), (vI ((getC ms v42.key).up)), (vI ((getC ms v42.key).dn)), (vI ((getC ms v42.key).lo)), (vI ((getC ms v42.key).hi))] 30 (0, 0)) := ⟨_, rfl⟩
                have f548 := set_same e547 f536
                have f549 := set_other e547 f542 n537
                have p550 := p543.keep fun b r hb q => (Chg.set e547).same b r q (n538 b hb)
                have p551 := p544.keep fun b r hb q => (Chg.set e547).same b r q (n539 b hb)
                have x552 := Ext.setNew x545 e547 o541
                obtain ⟨_, hh553, sn554, rfl, x555⟩ := sget_ok h546 p551 i34 v42.key
                have f556 := x555 _ _ f548
                have p557 := p550.keep fun b r _ q => x555 b r q
                have p558 := p551.keep fun b r _ q => x555 b r q
                have x559 := x552.trans x555
                obtain ⟨b560, eb561⟩ : ∃ zq, zq = hh553.size := ⟨_, rfl⟩
                obtain ⟨h562, e563⟩ : ∃ zq, zq = hh553.push (.cells #[(vI 0), (vI 0), (vI 0), (vI 0), (vI 0)] 30 (0, 0)) := ⟨_, rfl⟩
                have f564 := push_new e563
                rw [← eb561] at f564
                have n565 : b560 ≠ b532 := by have := row_lt f556; omega
                have n566 : ∀ zz, O1 zz → ¬ zz = b560 := fun zz hz ez => by have := p557.blk_lt hz; omega
                have n567 : ∀ zz, O2 zz → ¬ zz = b560 := fun zz hz ez => by have := p558.blk_lt hz; omega
                have x568 : Ext hh553 h562 := by rw [e563]; exact Ext.push _ _
                have o569 : h.size ≤ b560 := by have := x559.size; omega
                have f570 := x568 _ _ f556
                have p571 := p557.keep fun b r _ q => x568 b r q
                have p572 := p558.keep fun b r _ q => x568 b r q
                have x573 := x559.trans x568
                obtain ⟨h574, e575⟩ : ∃ zq, zq = h562.setIfInBounds b560 (.cells #[(vI ((getC ms v42.key).v)), (vI ((getC ms v42.key).up)), (vI ((getC ms v42.key).dn)), (vI ((getC ms v42.key).lo)), (vI ((getC ms v42.key).hi))] 30 (0, 0)) := ⟨_, rfl⟩
                have f576 := set_same e575 f564
                have f577 := set_other e575 f570 n565
                have p578 := p571.keep fun b r hb q => (Chg.set e575).same b r q (n566 b hb)
                have p579 := p572.keep fun b r hb q => (Chg.set e575).same b r q (n567 b hb)
                have x580 := Ext.setNew x573 e575 o569
                obtain ⟨_, hh581, sn582, rfl, x583⟩ := alike_ok h574 p578 p579 i34
                have p584 := p578.keep fun b r _ q => x583 b r q
                have p585 := p579.keep fun b r _ q => x583 b r q
                have x586 := x580.trans x583
                refine wc_ev [ltT 6 3 3 c40, evV 8 2 (vP b46 o47) (show indexAddrA Tryz.prog 22 (vL sa xs.length cp) (vI k) = some (vP b46 o47) from a50 und22 size34 e43), evV 8 3 (vA #[(vI v42.k), (vS v42.key), (vI v42.c.v), (vI v42.c.up), (vI v42.c.dn), (vI v42.c.lo), (vI v42.c.hi), (vI v42.ph), (vI v42.d), (vS v42.r0), (vS v42.r1)]) (show loadT Tryz.prog h29 34 (vP b46 o47) = some (vA #[(vI v42.k), (vS v42.key), (vI v42.c.v), (vI v42.c.up), (vI v42.c.dn), (vI v42.c.lo), (vI v42.c.hi), (vI v42.ph), (vI v42.d), (vS v42.r0), (vS v42.r1)]) from (k48.keep fun b r _ q => x30 b r q).agg (j := 0) agg34 size34 (show 0 + 11 ≤ 11 by decide) (by kernel_rfl)), evA 8 4 eb52 e54, evUw 8 5 size34 f55 e64, evC 9 1 0 agg3 f65, eqF 10 0 3 c69, eqF 13 0 3 c160, eqF 18 0 3 c252, eqF 21 0 3 c343, eqF 26 0 3 c437, evC 29 2 1 agg9 f65, evF 29 3 sn526, evA 29 7 eb533 e535, evUw 29 8 size30 f536 e547, evC 30 2 1 agg9 f549, evF 30 3 sn554, evA 30 7 eb561 e563, evUw 30 8 size30 f564 e575, evLw 31 0 agg30 size30 f577, evLw 31 1 agg30 size30 f576, evV 31 2 (vB false) (show binA Tryz.prog .neq 30 (vA #[(vI ((getC ms v42.key).v)), (vI ((getC ms v42.key).up)), (vI ((getC ms v42.key).dn)), (vI ((getC ms v42.key).lo)), (vI ((getC ms v42.key).hi))]) (vA #[(vI ((getC ms v42.key).v)), (vI ((getC ms v42.key).up)), (vI ((getC ms v42.key).dn)), (vI ((getC ms v42.key).lo)), (vI ((getC ms v42.key).hi))]) = some (vB false) from cmp30_neq (decide_eq_false (not_not_intro ⟨rfl, rfl, rfl, rfl, rfl⟩))), neF 31 6 35 (Eq.refl ((getE ms v42.key) : Int)), evF 31 11 sn582, evV 7 1 (vI ((k) + 1)) (show binA Tryz.prog .add 3 (vI k) (vI 1) = some (vI ((k) + 1)) from add_i64 (by omega) (by omega))] .normal hh581 [(25, (vI k)), (26, (vL sa xs.length cp)), (27, (vI ((xs.length : Nat)))), (28, (vB true)), (31, (vL sa xs.length cp)), (32, (vI k)), (33, (vP b46 o47)), (34, (vA #[(vI v42.k), (vS v42.key), (vI v42.c.v), (vI v42.c.up), (vI v42.c.dn), (vI v42.c.lo), (vI v42.c.hi), (vI v42.ph), (vI v42.d), (vS v42.r0), (vS v42.r1)])), (6, (vP b51 0)), (35, (vP b51 0)), (36, (vI v42.k)), (38, (vB false)), (37, (vB false)), (53, (vB false)), (52, (vB false)), (85, (vB false)), (84, (vB false)), (96, (vB false)), (95, (vB false)), (121, (vB false)), (120, (vB false)), (127, (vP t1 0)), (128, (vP b51 1)), (129, (vS v42.key)), (130, (vT #[(vA #[(vI ((getC ms v42.key).v)), (vI ((getC ms v42.key).up)), (vI ((getC ms v42.key).dn)), (vI ((getC ms v42.key).lo)), (vI ((getC ms v42.key).hi))]), (vI (getE ms v42.key))])), (126, (vT #[(vA #[(vI ((getC ms v42.key).v)), (vI ((getC ms v42.key).up)), (vI ((getC ms v42.key).dn)), (vI ((getC ms v42.key).lo)), (vI ((getC ms v42.key).hi))]), (vI (getE ms v42.key))])), (131, (vA #[(vI ((getC ms v42.key).v)), (vI ((getC ms v42.key).up)), (vI ((getC ms v42.key).dn)), (vI ((getC ms v42.key).lo)), (vI ((getC ms v42.key).hi))])), (132, (vI (getE ms v42.key))), (15, (vP b532 0)), (16, (vI (getE ms v42.key))), (134, (vP t2 0)), (135, (vP b51 1)), (136, (vS v42.key)), (137, (vT #[(vA #[(vI ((getC ms v42.key).v)), (vI ((getC ms v42.key).up)), (vI ((getC ms v42.key).dn)), (vI ((getC ms v42.key).lo)), (vI ((getC ms v42.key).hi))]), (vI (getE ms v42.key))])), (133, (vT #[(vA #[(vI ((getC ms v42.key).v)), (vI ((getC ms v42.key).up)), (vI ((getC ms v42.key).dn)), (vI ((getC ms v42.key).lo)), (vI ((getC ms v42.key).hi))]), (vI (getE ms v42.key))])), (138, (vA #[(vI ((getC ms v42.key).v)), (vI ((getC ms v42.key).up)), (vI ((getC ms v42.key).dn)), (vI ((getC ms v42.key).lo)), (vI ((getC ms v42.key).hi))])), (139, (vI (getE ms v42.key))), (17, (vP b560 0)), (18, (vI (getE ms v42.key))), (140, (vA #[(vI ((getC ms v42.key).v)), (vI ((getC ms v42.key).up)), (vI ((getC ms v42.key).dn)), (vI ((getC ms v42.key).lo)), (vI ((getC ms v42.key).hi))])), (141, (vA #[(vI ((getC ms v42.key).v)), (vI ((getC ms v42.key).up)), (vI ((getC ms v42.key).dn)), (vI ((getC ms v42.key).lo)), (vI ((getC ms v42.key).hi))])), (142, (vB false)), (143, (vB false)), (144, (vI (getE ms v42.key))), (145, (vI (getE ms v42.key))), (146, (vB false)), (147, (vB false)), (148, (vB false)), (149, (vP t1 0)), (150, (vP t2 0)), (151, (vB true)), (152, (vB false)), (153, (vB false)), (29, (vI k)), (30, (vI ((k) + 1))), (5, (vI ((k) + 1)))] ?_
                exact ⟨xs.length - (k + 1).toNat, by omega, ⟨k + 1, ms, t1, t2, O1, O2, (fun i => ([vU, vU, (g0 2), vU, vU, vU, (vP b51 0), (g0 7), (g0 8), (g0 9), (g0 10), (g0 11), (g0 12), (g0 13), (g0 14), (vP b532 0), (vI (getE ms v42.key)), (vP b560 0), (vI (getE ms v42.key)), vU, vU, vU, vU, vU, vU, (vI k), (vL sa xs.length cp), (vI ((xs.length : Nat))), (vB true), (vI k), (vI ((k) + 1)), (vL sa xs.length cp), (vI k), (vP b46 o47), (vA #[(vI v42.k), (vS v42.key), (vI v42.c.v), (vI v42.c.up), (vI v42.c.dn), (vI v42.c.lo), (vI v42.c.hi), (vI v42.ph), (vI v42.d), (vS v42.r0), (vS v42.r1)]), (vP b51 0), (vI v42.k), (vB false), (vB false), (g0 39), (g0 40), (g0 41), (g0 42), (g0 43), (g0 44), (g0 45), (g0 46), (g0 47), (g0 48), (g0 49), (g0 50), (g0 51), (vB false), (vB false), (g0 54), (g0 55), (g0 56), (g0 57), (g0 58), (g0 59), (g0 60), (g0 61), (g0 62), (g0 63), (g0 64), (g0 65), (g0 66), (g0 67), (g0 68), (g0 69), (g0 70), (g0 71), (g0 72), (g0 73), (g0 74), (g0 75), (g0 76), (g0 77), (g0 78), (g0 79), (g0 80), (g0 81), (g0 82), (g0 83), (vB false), (vB false), (g0 86), (g0 87), (g0 88), (g0 89), (g0 90), (g0 91), (g0 92), (g0 93), (g0 94), (vB false), (vB false), (g0 97), (g0 98), (g0 99), (g0 100), (g0 101), (g0 102), (g0 103), (g0 104), (g0 105), (g0 106), (g0 107), (g0 108), (g0 109), (g0 110), (g0 111), (g0 112), (g0 113), (g0 114), (g0 115), (g0 116), (g0 117), (g0 118), (g0 119), (vB false), (vB false), (g0 122), (g0 123), (g0 124), (g0 125), (vT #[(vA #[(vI ((getC ms v42.key).v)), (vI ((getC ms v42.key).up)), (vI ((getC ms v42.key).dn)), (vI ((getC ms v42.key).lo)), (vI ((getC ms v42.key).hi))]), (vI (getE ms v42.key))]), (vP t1 0), (vP b51 1), (vS v42.key), (vT #[(vA #[(vI ((getC ms v42.key).v)), (vI ((getC ms v42.key).up)), (vI ((getC ms v42.key).dn)), (vI ((getC ms v42.key).lo)), (vI ((getC ms v42.key).hi))]), (vI (getE ms v42.key))]), (vA #[(vI ((getC ms v42.key).v)), (vI ((getC ms v42.key).up)), (vI ((getC ms v42.key).dn)), (vI ((getC ms v42.key).lo)), (vI ((getC ms v42.key).hi))]), (vI (getE ms v42.key)), (vT #[(vA #[(vI ((getC ms v42.key).v)), (vI ((getC ms v42.key).up)), (vI ((getC ms v42.key).dn)), (vI ((getC ms v42.key).lo)), (vI ((getC ms v42.key).hi))]), (vI (getE ms v42.key))]), (vP t2 0), (vP b51 1), (vS v42.key), (vT #[(vA #[(vI ((getC ms v42.key).v)), (vI ((getC ms v42.key).up)), (vI ((getC ms v42.key).dn)), (vI ((getC ms v42.key).lo)), (vI ((getC ms v42.key).hi))]), (vI (getE ms v42.key))]), (vA #[(vI ((getC ms v42.key).v)), (vI ((getC ms v42.key).up)), (vI ((getC ms v42.key).dn)), (vI ((getC ms v42.key).lo)), (vI ((getC ms v42.key).hi))]), (vI (getE ms v42.key)), (vA #[(vI ((getC ms v42.key).v)), (vI ((getC ms v42.key).up)), (vI ((getC ms v42.key).dn)), (vI ((getC ms v42.key).lo)), (vI ((getC ms v42.key).hi))]), (vA #[(vI ((getC ms v42.key).v)), (vI ((getC ms v42.key).up)), (vI ((getC ms v42.key).dn)), (vI ((getC ms v42.key).lo)), (vI ((getC ms v42.key).hi))]), (vB false), (vB false), (vI (getE ms v42.key)), (vI (getE ms v42.key)), (vB false), (vB false), (vB false), (vP t1 0), (vP t2 0), (vB true), (vB false), (vB false)] : List Value).getD i undef), by as_aux_lemma => kernel_rfl, x586, rfl, by omega, i34, i35, i36, i37, p584, p585⟩⟩
    · refine wc_ev [ltF 6 3 3 c40] (.exit 0) h29 [(25, (vI k)), (26, (vL sa xs.length cp)), (27, (vI ((xs.length : Nat)))), (28, (vB false))] ?_
      obtain ⟨_, hh587, sn588, rfl, x589⟩ := works_ok h29
      have x590 := x30.trans x589
      refine wc_ev [evF 33 0 sn588] .ret hh587 [(154, (vB true)), (2, (vB true))] ?_
      exact end_ev [] (vB true) (hK _ _ (⟨rfl, x590⟩))
  · obtain ⟨_, hh591, sn592, rfl, x593⟩ := works_ok h2
    have x594 := x7.trans x593
    refine wc_ev [evFb 1 1 c8 s3, evF 2 0 sn592] .ret hh591 [(19, (vL sa xs.length cp)), (20, (vB false)), (21, (vB true)), (22, (vB true)), (2, (vB true))] ?_
    exact end_ev [] (vB true) (hK _ _ (⟨rfl, x594⟩))
theorem law_plays_x (h : Heap) (xs : List StepA) (sa : Option Addr) (cp : Nat) (hl : SliceAt h scell 11 xs (.slice sa xs.length cp)) (hlen : xs.length ≤ 9223372036854775807) (_ : ∀ x ∈ xs, True) : WCall Tryz.prog 3 #[(Value.slice sa (xs.length) (cp))] h (fun v h1 => v = .bool true ∧ Ext h h1) :=
  law_plays h xs sa cp hl hlen
end C08
