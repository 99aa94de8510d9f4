/- The run of SagaResults. -/
import Derived.Test.YtonjnghiehdmmaaDoorMl
import Derived.Test.YtonjnghiehdmmaaDoorMi
import Derived.KernelRfl
open Go Go.AM Go.Proofs
namespace C28
set_option maxRecDepth 10000 in
set_option maxHeartbeats 4000000 in
theorem law_results (h : Heap) (s : SagaM) (sa : Option Addr) (cp : Nat) (hl : LAt h stepc 2 s.d.xs (.slice sa s.d.xs.length cp)) (hlen : s.d.xs.length ≤ 9223372036854775807) (hnm : s.d.name.size ≤ 9223372036854775807) (hks : ∀ x ∈ s.d.xs, x.key.size ≤ 9223372036854775807) (e1 e2 e3 : Int) (nx : Bool) (res now : Int) (hg0 : h[0]? = some (.cells #[Value.nilFunc, (Value.func (.func 126) #[] #[]), (Value.func (.func 127) #[] #[]), (Value.func (.func 128) #[] #[])] 86 (0, 0))) (hg1 : h[1]? = some (.cells #[(vI 0), (vI 1), (vI 3), (vI 2)] 96 (0, 0))) : WCall Tryd.prog 3 #[(Value.agg #[(vS s.d.name), (vI (s.d.rt)), (vI (s.d.dl)), (Value.slice sa (s.d.xs.length) (cp)), (vI (s.st)), (vI (s.ix)), (vB s.cn), (vI (s.tr)), (vI (s.bg)), (vI (s.er))]), (Value.agg #[(vI (e1)), (vI (e2)), (vI (e3))]), (vB nx), (vI (res)), (vI (now))] h (fun v h1 => v = .bool true ∧ Ext h h1) := by
  suffices H : ∀ K : Value → Heap → Prop, (∀ v h1, (fun v h1 => v = .bool true ∧ Ext h h1) v h1 → K v h1) → WCall Tryd.prog 3 #[(Value.agg #[(vS s.d.name), (vI (s.d.rt)), (vI (s.d.dl)), (Value.slice sa (s.d.xs.length) (cp)), (vI (s.st)), (vI (s.ix)), (vB s.cn), (vI (s.tr)), (vI (s.bg)), (vI (s.er))]), (Value.agg #[(vI (e1)), (vI (e2)), (vI (e3))]), (vB nx), (vI (res)), (vI (now))] h K from H _ fun _ _ q => q
  intro K hK
  refine wcall_at { tmps := #[(vA #[(vS s.d.name), (vI s.d.rt), (vI s.d.dl), (vL sa s.d.xs.length cp), (vI s.st), (vI s.ix), (vB s.cn), (vI s.tr), (vI s.bg), (vI s.er)]), (vA #[(vI e1), (vI e2), (vI e3)]), (vB nx), (vI res), (vI now), vZ, vZ, vZ, vZ, vZ, vZ, vZ, vZ, vZ, vZ, vZ, vZ, vZ, vZ, vZ, vZ, vZ, vZ, vZ, vZ, vZ, vZ, vZ, vZ, vZ, vZ, vZ, vZ, vZ, vZ, vZ, vZ, vZ, vZ, vZ, vZ, vZ, vZ, vZ, vZ, vZ, vZ, vZ, vZ, vZ, vZ, vZ, vZ, vZ, vZ, vZ, vZ, vZ, vZ], defers := [] } (by kernel_rfl) ?_
  obtain ⟨b1, eb2⟩ : ∃ zq, zq = h.size := ⟨_, rfl⟩
  obtain ⟨h3, e4⟩ : ∃ zq, zq = h.push (.cells #[(vS s.d.name), (vI (s.d.rt)), (vI (s.d.dl)), (Value.slice sa (s.d.xs.length) (cp)), (vI (s.st)), (vI (s.ix)), (vB s.cn), (vI (s.tr)), (vI (s.bg)), (vI (s.er))] 27 (0, 0)) := ⟨_, rfl⟩
  have f5 := push_new e4
  rw [← eb2] at f5
  have x6 : Ext h h3 := by rw [e4]; exact Ext.push _ _
  have o7 : h.size ≤ b1 := by have := (Ext.refl h).size; omega
  have x8 := (Ext.refl h).trans x6
  obtain ⟨b9, eb10⟩ : ∃ zq, zq = h3.size := ⟨_, rfl⟩
  obtain ⟨h11, e12⟩ : ∃ zq, zq = h3.push (.cells #[(vI (e1)), (vI (e2)), (vI (e3))] 29 (0, 0)) := ⟨_, rfl⟩
  have f13 := push_new e12
  rw [← eb10] at f13
  have n14 : b9 ≠ b1 := by have := row_lt f5; omega
  have x15 : Ext h3 h11 := by rw [e12]; exact Ext.push _ _
  have o16 : h.size ≤ b9 := by have := x8.size; omega
  have f17 := x15 _ _ f5
  have x18 := x8.trans x15
  obtain ⟨_, h19, s20, q21, rfl, u22, x23⟩ := short_ok h11 s.d _ _ (hl.keep fun b r _ q => x18 b r q) (by omega)
  have f24 := x23 _ _ f17
  have f25 := x23 _ _ f13
  have x26 := x18.trans x23
  rcases Bool.eq_false_or_eq_true (q21) with c27 | c27
  · have := u22 c27
    rcases Bool.eq_false_or_eq_true (nx) with c28 | c28
    · obtain ⟨_, hh29, sn30, rfl, x31⟩ := refV_ok h19 s _ _ (hl.keep fun b r _ q => x26 b r q) (by omega) 
      have f33 := x31 _ _ f24
      have f34 := x31 _ _ f25
      have x35 := x26.trans x31
      obtain ⟨_, h36, s37, rfl, x38⟩ := rnextV_can hh29 s _ _ (hl.keep fun b r _ q => x35 b r q) (by omega) hnm hks
      have f39 := x38 _ _ f33
      have f40 := x38 _ _ f34
      have x41 := x35.trans x38
      by_cases c42 : ((chkS s) : Int) = 0
      · obtain ⟨z7425d, z7425b, z7425o⟩ := chkS_zero c42
        have := defB_of z7425d
        have := budB_of z7425b
        have z7425i := okI_of z7425o
        have := z7425i.1
        by_cases c43 : ((s.st) : Int) < 4
        · obtain ⟨h44, e45⟩ : ∃ zq, zq = h36.setIfInBounds b9 (.cells #[(vI 0), (vI (s.ix)), (vI (phS (s.st)))] 29 (0, 0)) := ⟨_, rfl⟩
          have f46 := set_same e45 f40
          have f47 := set_other e45 f39 n14
          have x48 := Ext.setNew x41 e45 o16
          obtain ⟨b49, eb50⟩ : ∃ zq, zq = h44.size := ⟨_, rfl⟩
          obtain ⟨h51, e52⟩ : ∃ zq, zq = h44.push (.cells #[(vS .empty), (vI 0), (vI 0), (Value.slice none 0 0), (vI 0), (vI 0), (vB false), (vI 0), (vI 0), (vI 0)] 41 (0, 0)) := ⟨_, rfl⟩
          have f53 := push_new e52
          rw [← eb50] at f53
          have n54 : b49 ≠ b1 := by have := row_lt f47; omega
          have n55 : b49 ≠ b9 := by have := row_lt f46; omega
          have x56 : Ext h44 h51 := by rw [e52]; exact Ext.push _ _
          have o57 : h.size ≤ b49 := by have := x48.size; omega
          have f58 := x56 _ _ f47
          have f59 := x56 _ _ f46
          have x60 := x48.trans x56
          obtain ⟨_, hh61, sn62, rfl, x63⟩ := givenV_ok h51 s _ _ (hl.keep fun b r _ q => x60 b r q) (by omega) 
          have f65 := x63 _ _ f58
          have f66 := x63 _ _ f59
          have f67 := x63 _ _ f53
          have x68 := x60.trans x63
          obtain ⟨v69, h70, s71, p72, p73, x74⟩ := result_ok hh61 s _ _ (hl.keep fun b r _ q => x68 b r q) (by omega) 0 (s.ix) (phS (s.st)) (res) (now) (x68 _ _ hg0) (x68 _ _ hg1)
          have t75 := resE_cases (e1 := 0) (e2 := (s.ix)) (e3 := (phS (s.st))) (res := (res)) (now := (now)) c42
          have f76 := x74 _ _ f65
          have f77 := x74 _ _ f66
          have f78 := x74 _ _ f67
          have x79 := x68.trans x74
          by_cases c80 : ((resE s 0 (s.ix) (phS (s.st)) (res) (now)) : Int) = 0
          · obtain ⟨w81, c82, p83, o84, n85⟩ := p73 c80
            obtain ⟨s86, e87⟩ : ∃ q, q = nxtS s (res) (now) := ⟨_, rfl⟩
            have e88 : s86.d = s.d := by rw [e87]; exact nxtS_d _ _ _
            have e89 : s86.d.xs.length = (s.d).xs.length := by rw [e88]
            rw [← e87, ← e88] at p83
            rw [← e88] at o84 n85
            have c90 : chkS s86 = 0 := by rw [e87]; exact nxt_ok (resE_zero c80).1 (resE_zero c80).2.1 (resE_zero c80).2.2.2.1
            have z91 : h.size ≤ hh61.size := x68.size
            have n92 : ∀ zz, blk (Value.slice w81 (s86.d.xs.length) (c82)) zz → ¬ zz = b49 := fun zz hz ez => by have := n85 zz hz; have := row_lt f67; omega
            have o93 : ∀ zz, blk (Value.slice w81 (s86.d.xs.length) (c82)) zz → h.size ≤ zz := fun zz hz => by have := n85 zz hz; omega
            obtain ⟨h94, e95⟩ : ∃ zq, zq = h70.setIfInBounds b49 (.cells #[(vS s86.d.name), (vI (s86.d.rt)), (vI (s86.d.dl)), (Value.slice w81 (s86.d.xs.length) (c82)), (vI (s86.st)), (vI (s86.ix)), (vB s86.cn), (vI (s86.tr)), (vI (s86.bg)), (vI (s86.er))] 41 (0, 0)) := ⟨_, rfl⟩
            have f96 := set_same e95 f78
            have f97 := set_other e95 f76 n54
            have f98 := set_other e95 f77 n55
            have p99 := o84.keep fun b r hb q => (Chg.set e95).same b r q (n92 b hb)
            have x100 := Ext.setNew x79 e95 o57
            obtain ⟨b101, eb102⟩ : ∃ zq, zq = h94.size := ⟨_, rfl⟩
            obtain ⟨h103, e104⟩ : ∃ zq, zq = h94.push (.cells #[(vS .empty), (vI 0), (vI 0), (Value.slice none 0 0), (vI 0), (vI 0), (vB false), (vI 0), (vI 0), (vI 0)] 37 (0, 0)) := ⟨_, rfl⟩
            have f105 := push_new e104
            rw [← eb102] at f105
            have n106 : b101 ≠ b49 := by have := row_lt f96; omega
            have n107 : ∀ zz, (blk (Value.slice w81 (s86.d.xs.length) (c82))) zz → ¬ zz = b101 := fun zz hz ez => by have := p99.blk_lt hz; omega
            have x108 : Ext h94 h103 := by rw [e104]; exact Ext.push _ _
            have o109 : h.size ≤ b101 := by have := x100.size; omega
            have f110 := x108 _ _ f98
            have f111 := x108 _ _ f96
            have p112 := p99.keep fun b r _ q => x108 b r q
            have x113 := x100.trans x108
            obtain ⟨_, hh114, sn115, rfl, x116⟩ := refV_ok h103 s _ _ (hl.keep fun b r _ q => x113 b r q) (by omega) 
            have f117 := x116 _ _ f110
            have f118 := x116 _ _ f111
            have f119 := x116 _ _ f105
            have p120 := p112.keep fun b r _ q => x116 b r q
            have x121 := x113.trans x116
            obtain ⟨v122, h123, s124, p125, p126, x127⟩ := rresult_ok hh114 s _ _ (hl.keep fun b r _ q => x121 b r q) (by omega) hnm hks 0 (s.ix) (phS (s.st)) (res) (now)
            have t128 := resE_cases (e1 := 0) (e2 := (s.ix)) (e3 := (phS (s.st))) (res := (res)) (now := (now)) c42
            have f129 := x127 _ _ f118
            have f130 := x127 _ _ f119
            have p131 := p120.keep fun b r _ q => x127 b r q
            have x132 := x121.trans x127
            obtain ⟨w133, c134, p135, o136, n137⟩ := p126 c80
            rw [← e87, ← e88] at p135
            rw [← e88] at o136 n137
            have z138 : h.size ≤ hh114.size := x121.size
            have n139 : ∀ zz, blk (Value.slice w133 (s86.d.xs.length) (c134)) zz → ¬ zz = b101 := fun zz hz ez => by have := n137 zz hz; have := row_lt f119; omega
            have o140 : ∀ zz, blk (Value.slice w133 (s86.d.xs.length) (c134)) zz → h.size ≤ zz := fun zz hz => by have := n137 zz hz; omega
            obtain ⟨h141, e142⟩ : ∃ zq, zq = h123.setIfInBounds b101 (.cells #[(vS s86.d.name), (vI (s86.d.rt)), (vI (s86.d.dl)), (Value.slice w133 (s86.d.xs.length) (c134)), (vI (s86.st)), (vI (s86.ix)), (vB s86.cn), (vI (s86.tr)), (vI (s86.bg)), (vI (s86.er))] 37 (0, 0)) := ⟨_, rfl⟩
            have f143 := set_same e142 f130
            have f144 := set_other e142 f129 n106
            have p145 := p131.keep fun b r hb q => (Chg.set e142).same b r q (n107 b hb)
            have p146 := o136.keep fun b r hb q => (Chg.set e142).same b r q (n139 b hb)
            have x147 := Ext.setNew x132 e142 o109
            obtain ⟨_, hh148, sn149, rfl, x150⟩ := backV_ok h141 s86 _ _ (OwnAt.lat p145 stepc_size (tsz_of size65)) (by omega) 
            have f151 := x150 _ _ f143
            have p152 := p145.keep fun b r _ q => x150 b r q
            have p153 := p146.keep fun b r _ q => x150 b r q
            have x154 := x147.trans x150
            obtain ⟨_, hh155, sn156, rfl, x157⟩ := refV_ok hh148 s86 _ _ (OwnAt.lat p152 stepc_size (tsz_of size65)) (by omega) 
            have f158 := x157 _ _ f151
            have p159 := p152.keep fun b r _ q => x157 b r q
            have p160 := p153.keep fun b r _ q => x157 b r q
            have x161 := x154.trans x157
            obtain ⟨_, hh162, sn163, rfl, x164⟩ := same_ok hh155 s86 _ _ (OwnAt.lat p159 stepc_size (tsz_of size65)) (by omega) _ _ (OwnAt.lat p160 stepc_size (tsz_of size65))
            have x165 := x161.trans x164
            obtain ⟨_, hh166, sn167, rfl, x168⟩ := works_ok hh162 (x165 _ _ hg0) (x165 _ _ hg1)
            have x169 := x165.trans x168
            refine wc_ev [evA 0 0 eb2 e4, evA 0 1 eb10 e12, evL 1 1 0 agg24 size24 f17, evFb 1 2 c27 s20, evM 3 0 c28, evLw 4 0 agg27 size27 f24, evF 4 1 sn30, evF 4 2 (by rw [nextV_open c42 c43] at s37; exact s37), evUw 4 7 size29 f40 e45, evLw 5 0 agg27 size27 f47, evLw 5 2 agg29 size29 f46, evA 5 9 eb50 e52, evF 5 1 sn62, evLw 99 0 agg29 size29 f66, evFe 5 5 p83 s71, evUw 5 10 size41 f78 e95, evLw 6 0 agg27 size27 f97, evLw 6 2 agg29 size29 f98, evA 6 9 eb102 e104, evF 6 1 sn115, evLw 99 0 agg29 size29 f117, evFe 6 5 p135 s124, evUw 6 10 size37 f130 e142, evLw 7 0 agg41 size41 f144, evLw 7 3 agg37 size37 f143, evF 7 1 sn149, evLw 99 0 agg37 size37 f151, evF 7 2 sn156, evLw 99 0 agg37 size37 f158, evF 7 4 sn163, evF 7 11 sn167] .ret hh166 [(5, (vP b1 0)), (6, (vP b9 0)), (10, (vB false)), (15, (vP b1 0)), (16, (vA #[(vS s.d.name), (vI s.d.rt), (vI s.d.dl), (vL sa s.d.xs.length cp)])), (17, (vB true)), (18, (vB false)), (20, (vB true)), (22, (vA #[(vS s.d.name), (vI s.d.rt), (vI s.d.dl), (vL sa s.d.xs.length cp), (vI s.st), (vI s.ix), (vB s.cn), (vI s.tr), (vI s.bg), (vI s.er)])), (23, (vA #[(vS s.d.name), (vI s.d.rt), (vI s.d.dl), (vL sa s.d.xs.length cp), (vI s.st), (vI s.ix), (vB s.cn), (vI s.tr), (vI s.bg), (vI s.er)])), (24, (vT #[(vA #[(vI 0), (vI s.ix), (vI (phS (s.st)))]), (vB true), (vI 0)])), (21, (vT #[(vA #[(vI 0), (vI s.ix), (vI (phS (s.st)))]), (vB true), (vI 0)])), (25, (vA #[(vI 0), (vI s.ix), (vI (phS (s.st)))])), (26, (vB true)), (27, (vI 0)), (29, (vA #[(vS s.d.name), (vI s.d.rt), (vI s.d.dl), (vL sa s.d.xs.length cp), (vI s.st), (vI s.ix), (vB s.cn), (vI s.tr), (vI s.bg), (vI s.er)])), (31, (vA #[(vI 0), (vI s.ix), (vI (phS (s.st)))])), (32, (vI res)), (33, (vI now)), (11, (vP b49 0)), (30, (vA #[(vS s.d.name), (vI s.d.rt), (vI s.d.dl), (vL sa s.d.xs.length cp), (vI s.st), (vI s.ix), (vB s.cn), (vI s.tr), (vI s.bg), (vI s.er)])), (34, (vT #[(vA #[(vS s86.d.name), (vI s86.d.rt), (vI s86.d.dl), (vL w81 s86.d.xs.length c82), (vI s86.st), (vI s86.ix), (vB s86.cn), (vI s86.tr), (vI s86.bg), (vI s86.er)]), (vI 0)])), (28, (vT #[(vA #[(vS s86.d.name), (vI s86.d.rt), (vI s86.d.dl), (vL w81 s86.d.xs.length c82), (vI s86.st), (vI s86.ix), (vB s86.cn), (vI s86.tr), (vI s86.bg), (vI s86.er)]), (vI 0)])), (35, (vA #[(vS s86.d.name), (vI s86.d.rt), (vI s86.d.dl), (vL w81 s86.d.xs.length c82), (vI s86.st), (vI s86.ix), (vB s86.cn), (vI s86.tr), (vI s86.bg), (vI s86.er)])), (36, (vI 0)), (12, (vI 0)), (38, (vA #[(vS s.d.name), (vI s.d.rt), (vI s.d.dl), (vL sa s.d.xs.length cp), (vI s.st), (vI s.ix), (vB s.cn), (vI s.tr), (vI s.bg), (vI s.er)])), (40, (vA #[(vI 0), (vI s.ix), (vI (phS (s.st)))])), (41, (vI res)), (42, (vI now)), (13, (vP b101 0)), (39, (vA #[(vS s.d.name), (vI s.d.rt), (vI s.d.dl), (vL sa s.d.xs.length cp), (vI s.st), (vI s.ix), (vB s.cn), (vI s.tr), (vI s.bg), (vI s.er)])), (43, (vT #[(vA #[(vS s86.d.name), (vI s86.d.rt), (vI s86.d.dl), (vL w133 s86.d.xs.length c134), (vI s86.st), (vI s86.ix), (vB s86.cn), (vI s86.tr), (vI s86.bg), (vI s86.er)]), (vI 0)])), (37, (vT #[(vA #[(vS s86.d.name), (vI s86.d.rt), (vI s86.d.dl), (vL w133 s86.d.xs.length c134), (vI s86.st), (vI s86.ix), (vB s86.cn), (vI s86.tr), (vI s86.bg), (vI s86.er)]), (vI 0)])), (44, (vA #[(vS s86.d.name), (vI s86.d.rt), (vI s86.d.dl), (vL w133 s86.d.xs.length c134), (vI s86.st), (vI s86.ix), (vB s86.cn), (vI s86.tr), (vI s86.bg), (vI s86.er)])), (45, (vI 0)), (14, (vI 0)), (46, (vA #[(vS s86.d.name), (vI s86.d.rt), (vI s86.d.dl), (vL w81 s86.d.xs.length c82), (vI s86.st), (vI s86.ix), (vB s86.cn), (vI s86.tr), (vI s86.bg), (vI s86.er)])), (49, (vA #[(vS s86.d.name), (vI s86.d.rt), (vI s86.d.dl), (vL w133 s86.d.xs.length c134), (vI s86.st), (vI s86.ix), (vB s86.cn), (vI s86.tr), (vI s86.bg), (vI s86.er)])), (47, (vA #[(vS s86.d.name), (vI s86.d.rt), (vI s86.d.dl), (vL w81 s86.d.xs.length c82), (vI s86.st), (vI s86.ix), (vB s86.cn), (vI s86.tr), (vI s86.bg), (vI s86.er)])), (48, (vA #[(vS s86.d.name), (vI s86.d.rt), (vI s86.d.dl), (vL w81 s86.d.xs.length c82), (vI s86.st), (vI s86.ix), (vB s86.cn), (vI s86.tr), (vI s86.bg), (vI s86.er)])), (50, (vB true)), (51, (vB true)), (52, (vI 0)), (53, (vI 0)), (54, (vB true)), (55, (vB true)), (56, (vB true)), (57, (vB true)), (58, (vB true)), (10, (vB true))] ?_
            exact end_ev [] (vB true) (hK _ _ (⟨rfl, x169⟩))
          · obtain ⟨h170, e171⟩ : ∃ zq, zq = h70.setIfInBounds b49 (.cells #[(vS .empty), (vI 0), (vI 0), (Value.slice none 0 0), (vI 0), (vI 0), (vB false), (vI 0), (vI 0), (vI 0)] 41 (0, 0)) := ⟨_, rfl⟩
            have f172 := set_same e171 f78
            have f173 := set_other e171 f76 n54
            have f174 := set_other e171 f77 n55
            have x175 := Ext.setNew x79 e171 o57
            obtain ⟨b176, eb177⟩ : ∃ zq, zq = h170.size := ⟨_, rfl⟩
            obtain ⟨h178, e179⟩ : ∃ zq, zq = h170.push (.cells #[(vS .empty), (vI 0), (vI 0), (Value.slice none 0 0), (vI 0), (vI 0), (vB false), (vI 0), (vI 0), (vI 0)] 37 (0, 0)) := ⟨_, rfl⟩
            have f180 := push_new e179
            rw [← eb177] at f180
            have n181 : b176 ≠ b49 := by have := row_lt f172; omega
            have x182 : Ext h170 h178 := by rw [e179]; exact Ext.push _ _
            have o183 : h.size ≤ b176 := by have := x175.size; omega
            have f184 := x182 _ _ f174
            have f185 := x182 _ _ f172
            have x186 := x175.trans x182
            obtain ⟨_, hh187, sn188, rfl, x189⟩ := refV_ok h178 s _ _ (hl.keep fun b r _ q => x186 b r q) (by omega) 
            have f190 := x189 _ _ f184
            have f191 := x189 _ _ f185
            have f192 := x189 _ _ f180
            have x193 := x186.trans x189
            obtain ⟨v194, h195, s196, p197, p198, x199⟩ := rresult_ok hh187 s _ _ (hl.keep fun b r _ q => x193 b r q) (by omega) hnm hks 0 (s.ix) (phS (s.st)) (res) (now)
            have t200 := resE_cases (e1 := 0) (e2 := (s.ix)) (e3 := (phS (s.st))) (res := (res)) (now := (now)) c42
            have f201 := x199 _ _ f191
            have f202 := x199 _ _ f192
            have x203 := x193.trans x199
            obtain ⟨h204, e205⟩ : ∃ zq, zq = h195.setIfInBounds b176 (.cells #[(vS .empty), (vI 0), (vI 0), (Value.slice none 0 0), (vI 0), (vI 0), (vB false), (vI 0), (vI 0), (vI 0)] 37 (0, 0)) := ⟨_, rfl⟩
            have f206 := set_same e205 f202
            have f207 := set_other e205 f201 n181
            have x208 := Ext.setNew x203 e205 o183
            obtain ⟨_, hh209, sn210, rfl, x211⟩ := backV_ok h204 (SagaM.mk (DefM.mk .empty 0 0 ([] : List StepM)) 0 0 false 0 0 0) _ _ lat_none (by decide) 
            have f212 := x211 _ _ f206
            have x213 := x208.trans x211
            obtain ⟨_, hh214, sn215, rfl, x216⟩ := refV_ok hh209 (SagaM.mk (DefM.mk .empty 0 0 ([] : List StepM)) 0 0 false 0 0 0) _ _ lat_none (by decide) 
            have f217 := x216 _ _ f212
            have x218 := x213.trans x216
            obtain ⟨_, hh219, sn220, rfl, x221⟩ := same_ok hh214 (SagaM.mk (DefM.mk .empty 0 0 ([] : List StepM)) 0 0 false 0 0 0) _ _ lat_none (by decide) _ _ lat_none
            have x222 := x218.trans x221
            obtain ⟨_, hh223, sn224, rfl, x225⟩ := works_ok hh219 (x222 _ _ hg0) (x222 _ _ hg1)
            have x226 := x222.trans x225
            refine wc_ev [evA 0 0 eb2 e4, evA 0 1 eb10 e12, evL 1 1 0 agg24 size24 f17, evFb 1 2 c27 s20, evM 3 0 c28, evLw 4 0 agg27 size27 f24, evF 4 1 sn30, evF 4 2 (by rw [nextV_open c42 c43] at s37; exact s37), evUw 4 7 size29 f40 e45, evLw 5 0 agg27 size27 f47, evLw 5 2 agg29 size29 f46, evA 5 9 eb50 e52, evF 5 1 sn62, evLw 99 0 agg29 size29 f66, evFe 5 5 (p72 c80) s71, evUw 5 10 size41 f78 e171, evLw 6 0 agg27 size27 f173, evLw 6 2 agg29 size29 f174, evA 6 9 eb177 e179, evF 6 1 sn188, evLw 99 0 agg29 size29 f190, evFe 6 5 (p197 c80) s196, evUw 6 10 size37 f202 e205, evLw 7 0 agg41 size41 f207, evLw 7 3 agg37 size37 f206, evF 7 1 sn210, evLw 99 0 agg37 size37 f212, evF 7 2 sn215, evLw 99 0 agg37 size37 f217, evF 7 4 sn220, eqT 7 8 25 (Eq.refl ((resE s 0 (s.ix) (phS (s.st)) (res) (now)) : Int)), evF 7 11 sn224] .ret hh223 [(5, (vP b1 0)), (6, (vP b9 0)), (10, (vB false)), (15, (vP b1 0)), (16, (vA #[(vS s.d.name), (vI s.d.rt), (vI s.d.dl), (vL sa s.d.xs.length cp)])), (17, (vB true)), (18, (vB false)), (20, (vB true)), (22, (vA #[(vS s.d.name), (vI s.d.rt), (vI s.d.dl), (vL sa s.d.xs.length cp), (vI s.st), (vI s.ix), (vB s.cn), (vI s.tr), (vI s.bg), (vI s.er)])), (23, (vA #[(vS s.d.name), (vI s.d.rt), (vI s.d.dl), (vL sa s.d.xs.length cp), (vI s.st), (vI s.ix), (vB s.cn), (vI s.tr), (vI s.bg), (vI s.er)])), (24, (vT #[(vA #[(vI 0), (vI s.ix), (vI (phS (s.st)))]), (vB true), (vI 0)])), (21, (vT #[(vA #[(vI 0), (vI s.ix), (vI (phS (s.st)))]), (vB true), (vI 0)])), (25, (vA #[(vI 0), (vI s.ix), (vI (phS (s.st)))])), (26, (vB true)), (27, (vI 0)), (29, (vA #[(vS s.d.name), (vI s.d.rt), (vI s.d.dl), (vL sa s.d.xs.length cp), (vI s.st), (vI s.ix), (vB s.cn), (vI s.tr), (vI s.bg), (vI s.er)])), (31, (vA #[(vI 0), (vI s.ix), (vI (phS (s.st)))])), (32, (vI res)), (33, (vI now)), (11, (vP b49 0)), (30, (vA #[(vS s.d.name), (vI s.d.rt), (vI s.d.dl), (vL sa s.d.xs.length cp), (vI s.st), (vI s.ix), (vB s.cn), (vI s.tr), (vI s.bg), (vI s.er)])), (34, (vT #[(vA #[(vS .empty), (vI 0), (vI 0), (vL none 0 0), (vI 0), (vI 0), (vB false), (vI 0), (vI 0), (vI 0)]), (vI (resE s 0 (s.ix) (phS (s.st)) (res) (now)))])), (28, (vT #[(vA #[(vS .empty), (vI 0), (vI 0), (vL none 0 0), (vI 0), (vI 0), (vB false), (vI 0), (vI 0), (vI 0)]), (vI (resE s 0 (s.ix) (phS (s.st)) (res) (now)))])), (35, (vA #[(vS .empty), (vI 0), (vI 0), (vL none 0 0), (vI 0), (vI 0), (vB false), (vI 0), (vI 0), (vI 0)])), (36, (vI (resE s 0 (s.ix) (phS (s.st)) (res) (now)))), (12, (vI (resE s 0 (s.ix) (phS (s.st)) (res) (now)))), (38, (vA #[(vS s.d.name), (vI s.d.rt), (vI s.d.dl), (vL sa s.d.xs.length cp), (vI s.st), (vI s.ix), (vB s.cn), (vI s.tr), (vI s.bg), (vI s.er)])), (40, (vA #[(vI 0), (vI s.ix), (vI (phS (s.st)))])), (41, (vI res)), (42, (vI now)), (13, (vP b176 0)), (39, (vA #[(vS s.d.name), (vI s.d.rt), (vI s.d.dl), (vL sa s.d.xs.length cp), (vI s.st), (vI s.ix), (vB s.cn), (vI s.tr), (vI s.bg), (vI s.er)])), (43, (vT #[(vA #[(vS .empty), (vI 0), (vI 0), (vL none 0 0), (vI 0), (vI 0), (vB false), (vI 0), (vI 0), (vI 0)]), (vI (resE s 0 (s.ix) (phS (s.st)) (res) (now)))])), (37, (vT #[(vA #[(vS .empty), (vI 0), (vI 0), (vL none 0 0), (vI 0), (vI 0), (vB false), (vI 0), (vI 0), (vI 0)]), (vI (resE s 0 (s.ix) (phS (s.st)) (res) (now)))])), (44, (vA #[(vS .empty), (vI 0), (vI 0), (vL none 0 0), (vI 0), (vI 0), (vB false), (vI 0), (vI 0), (vI 0)])), (45, (vI (resE s 0 (s.ix) (phS (s.st)) (res) (now)))), (14, (vI (resE s 0 (s.ix) (phS (s.st)) (res) (now)))), (46, (vA #[(vS .empty), (vI 0), (vI 0), (vL none 0 0), (vI 0), (vI 0), (vB false), (vI 0), (vI 0), (vI 0)])), (49, (vA #[(vS .empty), (vI 0), (vI 0), (vL none 0 0), (vI 0), (vI 0), (vB false), (vI 0), (vI 0), (vI 0)])), (47, (vA #[(vS .empty), (vI 0), (vI 0), (vL none 0 0), (vI 0), (vI 0), (vB false), (vI 0), (vI 0), (vI 0)])), (48, (vA #[(vS .empty), (vI 0), (vI 0), (vL none 0 0), (vI 0), (vI 0), (vB false), (vI 0), (vI 0), (vI 0)])), (50, (vB true)), (51, (vB true)), (52, (vI (resE s 0 (s.ix) (phS (s.st)) (res) (now)))), (53, (vI (resE s 0 (s.ix) (phS (s.st)) (res) (now)))), (54, (vB true)), (55, (vB true)), (56, (vB true)), (57, (vB true)), (58, (vB true)), (10, (vB true))] ?_
            exact end_ev [] (vB true) (hK _ _ (⟨rfl, x226⟩))
        · obtain ⟨h227, e228⟩ : ∃ zq, zq = h36.setIfInBounds b9 (.cells #[(vI 0), (vI 0), (vI 0)] 29 (0, 0)) := ⟨_, rfl⟩
          have f229 := set_same e228 f40
          have f230 := set_other e228 f39 n14
          have x231 := Ext.setNew x41 e228 o16
          obtain ⟨b232, eb233⟩ : ∃ zq, zq = h227.size := ⟨_, rfl⟩
          obtain ⟨h234, e235⟩ : ∃ zq, zq = h227.push (.cells #[(vS .empty), (vI 0), (vI 0), (Value.slice none 0 0), (vI 0), (vI 0), (vB false), (vI 0), (vI 0), (vI 0)] 41 (0, 0)) := ⟨_, rfl⟩
          have f236 := push_new e235
          rw [← eb233] at f236
          have n237 : b232 ≠ b1 := by have := row_lt f230; omega
          have n238 : b232 ≠ b9 := by have := row_lt f229; omega
          have x239 : Ext h227 h234 := by rw [e235]; exact Ext.push _ _
          have o240 : h.size ≤ b232 := by have := x231.size; omega
          have f241 := x239 _ _ f230
          have f242 := x239 _ _ f229
          have x243 := x231.trans x239
          obtain ⟨_, hh244, sn245, rfl, x246⟩ := givenV_ok h234 s _ _ (hl.keep fun b r _ q => x243 b r q) (by omega) 
          have f247 := x246 _ _ f241
          have f248 := x246 _ _ f242
          have f249 := x246 _ _ f236
          have x250 := x243.trans x246
          obtain ⟨v251, h252, s253, p254, p255, x256⟩ := result_ok hh244 s _ _ (hl.keep fun b r _ q => x250 b r q) (by omega) 0 0 0 (res) (now) (x250 _ _ hg0) (x250 _ _ hg1)
          have t257 := resE_cases (e1 := 0) (e2 := 0) (e3 := 0) (res := (res)) (now := (now)) c42
          have f258 := x256 _ _ f247
          have f259 := x256 _ _ f248
          have f260 := x256 _ _ f249
          have x261 := x250.trans x256
          by_cases c262 : ((resE s 0 0 0 (res) (now)) : Int) = 0
          · obtain ⟨w263, c264, p265, o266, n267⟩ := p255 c262
            obtain ⟨s268, e269⟩ : ∃ q, q = nxtS s (res) (now) := ⟨_, rfl⟩
            have e270 : s268.d = s.d := by rw [e269]; exact nxtS_d _ _ _
            have e271 : s268.d.xs.length = (s.d).xs.length := by rw [e270]
            rw [← e269, ← e270] at p265
            rw [← e270] at o266 n267
            have c272 : chkS s268 = 0 := by rw [e269]; exact nxt_ok (resE_zero c262).1 (resE_zero c262).2.1 (resE_zero c262).2.2.2.1
            have z273 : h.size ≤ hh244.size := x250.size
            have n274 : ∀ zz, blk (Value.slice w263 (s268.d.xs.length) (c264)) zz → ¬ zz = b232 := fun zz hz ez => by have := n267 zz hz; have := row_lt f249; omega
            have o275 : ∀ zz, blk (Value.slice w263 (s268.d.xs.length) (c264)) zz → h.size ≤ zz := fun zz hz => by have := n267 zz hz; omega
            obtain ⟨h276, e277⟩ : ∃ zq, zq = h252.setIfInBounds b232 (.cells #[(vS s268.d.name), (vI (s268.d.rt)), (vI (s268.d.dl)), (Value.slice w263 (s268.d.xs.length) (c264)), (vI (s268.st)), (vI (s268.ix)), (vB s268.cn), (vI (s268.tr)), (vI (s268.bg)), (vI (s268.er))] 41 (0, 0)) := ⟨_, rfl⟩
            have f278 := set_same e277 f260
            have f279 := set_other e277 f258 n237
            have f280 := set_other e277 f259 n238
            have p281 := o266.keep fun b r hb q => (Chg.set e277).same b r q (n274 b hb)
            have x282 := Ext.setNew x261 e277 o240
            obtain ⟨b283, eb284⟩ : ∃ zq, zq = h276.size := ⟨_, rfl⟩
            obtain ⟨h285, e286⟩ : ∃ zq, zq = h276.push (.cells #[(vS .empty), (vI 0), (vI 0), (Value.slice none 0 0), (vI 0), (vI 0), (vB false), (vI 0), (vI 0), (vI 0)] 37 (0, 0)) := ⟨_, rfl⟩
            have f287 := push_new e286
            rw [← eb284] at f287
            have n288 : b283 ≠ b232 := by have := row_lt f278; omega
            have n289 : ∀ zz, (blk (Value.slice w263 (s268.d.xs.length) (c264))) zz → ¬ zz = b283 := fun zz hz ez => by have := p281.blk_lt hz; omega
            have x290 : Ext h276 h285 := by rw [e286]; exact Ext.push _ _
            have o291 : h.size ≤ b283 := by have := x282.size; omega
            have f292 := x290 _ _ f280
            have f293 := x290 _ _ f278
            have p294 := p281.keep fun b r _ q => x290 b r q
            have x295 := x282.trans x290
            obtain ⟨_, hh296, sn297, rfl, x298⟩ := refV_ok h285 s _ _ (hl.keep fun b r _ q => x295 b r q) (by omega) 
            have f299 := x298 _ _ f292
            have f300 := x298 _ _ f293
            have f301 := x298 _ _ f287
            have p302 := p294.keep fun b r _ q => x298 b r q
            have x303 := x295.trans x298
            obtain ⟨v304, h305, s306, p307, p308, x309⟩ := rresult_ok hh296 s _ _ (hl.keep fun b r _ q => x303 b r q) (by omega) hnm hks 0 0 0 (res) (now)
            have t310 := resE_cases (e1 := 0) (e2 := 0) (e3 := 0) (res := (res)) (now := (now)) c42
            have f311 := x309 _ _ f300
            have f312 := x309 _ _ f301
            have p313 := p302.keep fun b r _ q => x309 b r q
            have x314 := x303.trans x309
            obtain ⟨w315, c316, p317, o318, n319⟩ := p308 c262
            rw [← e269, ← e270] at p317
            rw [← e270] at o318 n319
            have z320 : h.size ≤ hh296.size := x303.size
            have n321 : ∀ zz, blk (Value.slice w315 (s268.d.xs.length) (c316)) zz → ¬ zz = b283 := fun zz hz ez => by have := n319 zz hz; have := row_lt f301; omega
            have o322 : ∀ zz, blk (Value.slice w315 (s268.d.xs.length) (c316)) zz → h.size ≤ zz := fun zz hz => by have := n319 zz hz; omega
            obtain ⟨h323, e324⟩ : ∃ zq, zq = h305.setIfInBounds b283 (.cells #[(vS s268.d.name), (vI (s268.d.rt)), (vI (s268.d.dl)), (Value.slice w315 (s268.d.xs.length) (c316)), (vI (s268.st)), (vI (s268.ix)), (vB s268.cn), (vI (s268.tr)), (vI (s268.bg)), (vI (s268.er))] 37 (0, 0)) := ⟨_, rfl⟩
            have f325 := set_same e324 f312
            have f326 := set_other e324 f311 n288
            have p327 := p313.keep fun b r hb q => (Chg.set e324).same b r q (n289 b hb)
            have p328 := o318.keep fun b r hb q => (Chg.set e324).same b r q (n321 b hb)
            have x329 := Ext.setNew x314 e324 o291
            obtain ⟨_, hh330, sn331, rfl, x332⟩ := backV_ok h323 s268 _ _ (OwnAt.lat p327 stepc_size (tsz_of size65)) (by omega) 
            have f333 := x332 _ _ f325
            have p334 := p327.keep fun b r _ q => x332 b r q
            have p335 := p328.keep fun b r _ q => x332 b r q
            have x336 := x329.trans x332
            obtain ⟨_, hh337, sn338, rfl, x339⟩ := refV_ok hh330 s268 _ _ (OwnAt.lat p334 stepc_size (tsz_of size65)) (by omega) 
            have f340 := x339 _ _ f333
            have p341 := p334.keep fun b r _ q => x339 b r q
            have p342 := p335.keep fun b r _ q => x339 b r q
            have x343 := x336.trans x339
            obtain ⟨_, hh344, sn345, rfl, x346⟩ := same_ok hh337 s268 _ _ (OwnAt.lat p341 stepc_size (tsz_of size65)) (by omega) _ _ (OwnAt.lat p342 stepc_size (tsz_of size65))
            have x347 := x343.trans x346
            obtain ⟨_, hh348, sn349, rfl, x350⟩ := works_ok hh344 (x347 _ _ hg0) (x347 _ _ hg1)
            have x351 := x347.trans x350
            refine wc_ev [evA 0 0 eb2 e4, evA 0 1 eb10 e12, evL 1 1 0 agg24 size24 f17, evFb 1 2 c27 s20, evM 3 0 c28, evLw 4 0 agg27 size27 f24, evF 4 1 sn30, evF 4 2 (by rw [nextV_done c42 c43] at s37; exact s37), evUw 4 7 size29 f40 e228, evLw 5 0 agg27 size27 f230, evLw 5 2 agg29 size29 f229, evA 5 9 eb233 e235, evF 5 1 sn245, evLw 99 0 agg29 size29 f248, evFe 5 5 p265 s253, evUw 5 10 size41 f260 e277, evLw 6 0 agg27 size27 f279, evLw 6 2 agg29 size29 f280, evA 6 9 eb284 e286, evF 6 1 sn297, evLw 99 0 agg29 size29 f299, evFe 6 5 p317 s306, evUw 6 10 size37 f312 e324, evLw 7 0 agg41 size41 f326, evLw 7 3 agg37 size37 f325, evF 7 1 sn331, evLw 99 0 agg37 size37 f333, evF 7 2 sn338, evLw 99 0 agg37 size37 f340, evF 7 4 sn345, evF 7 11 sn349] .ret hh348 [(5, (vP b1 0)), (6, (vP b9 0)), (10, (vB false)), (15, (vP b1 0)), (16, (vA #[(vS s.d.name), (vI s.d.rt), (vI s.d.dl), (vL sa s.d.xs.length cp)])), (17, (vB true)), (18, (vB false)), (20, (vB true)), (22, (vA #[(vS s.d.name), (vI s.d.rt), (vI s.d.dl), (vL sa s.d.xs.length cp), (vI s.st), (vI s.ix), (vB s.cn), (vI s.tr), (vI s.bg), (vI s.er)])), (23, (vA #[(vS s.d.name), (vI s.d.rt), (vI s.d.dl), (vL sa s.d.xs.length cp), (vI s.st), (vI s.ix), (vB s.cn), (vI s.tr), (vI s.bg), (vI s.er)])), (24, (vT #[(vA #[(vI 0), (vI 0), (vI 0)]), (vB false), (vI 0)])), (21, (vT #[(vA #[(vI 0), (vI 0), (vI 0)]), (vB false), (vI 0)])), (25, (vA #[(vI 0), (vI 0), (vI 0)])), (26, (vB false)), (27, (vI 0)), (29, (vA #[(vS s.d.name), (vI s.d.rt), (vI s.d.dl), (vL sa s.d.xs.length cp), (vI s.st), (vI s.ix), (vB s.cn), (vI s.tr), (vI s.bg), (vI s.er)])), (31, (vA #[(vI 0), (vI 0), (vI 0)])), (32, (vI res)), (33, (vI now)), (11, (vP b232 0)), (30, (vA #[(vS s.d.name), (vI s.d.rt), (vI s.d.dl), (vL sa s.d.xs.length cp), (vI s.st), (vI s.ix), (vB s.cn), (vI s.tr), (vI s.bg), (vI s.er)])), (34, (vT #[(vA #[(vS s268.d.name), (vI s268.d.rt), (vI s268.d.dl), (vL w263 s268.d.xs.length c264), (vI s268.st), (vI s268.ix), (vB s268.cn), (vI s268.tr), (vI s268.bg), (vI s268.er)]), (vI 0)])), (28, (vT #[(vA #[(vS s268.d.name), (vI s268.d.rt), (vI s268.d.dl), (vL w263 s268.d.xs.length c264), (vI s268.st), (vI s268.ix), (vB s268.cn), (vI s268.tr), (vI s268.bg), (vI s268.er)]), (vI 0)])), (35, (vA #[(vS s268.d.name), (vI s268.d.rt), (vI s268.d.dl), (vL w263 s268.d.xs.length c264), (vI s268.st), (vI s268.ix), (vB s268.cn), (vI s268.tr), (vI s268.bg), (vI s268.er)])), (36, (vI 0)), (12, (vI 0)), (38, (vA #[(vS s.d.name), (vI s.d.rt), (vI s.d.dl), (vL sa s.d.xs.length cp), (vI s.st), (vI s.ix), (vB s.cn), (vI s.tr), (vI s.bg), (vI s.er)])), (40, (vA #[(vI 0), (vI 0), (vI 0)])), (41, (vI res)), (42, (vI now)), (13, (vP b283 0)), (39, (vA #[(vS s.d.name), (vI s.d.rt), (vI s.d.dl), (vL sa s.d.xs.length cp), (vI s.st), (vI s.ix), (vB s.cn), (vI s.tr), (vI s.bg), (vI s.er)])), (43, (vT #[(vA #[(vS s268.d.name), (vI s268.d.rt), (vI s268.d.dl), (vL w315 s268.d.xs.length c316), (vI s268.st), (vI s268.ix), (vB s268.cn), (vI s268.tr), (vI s268.bg), (vI s268.er)]), (vI 0)])), (37, (vT #[(vA #[(vS s268.d.name), (vI s268.d.rt), (vI s268.d.dl), (vL w315 s268.d.xs.length c316), (vI s268.st), (vI s268.ix), (vB s268.cn), (vI s268.tr), (vI s268.bg), (vI s268.er)]), (vI 0)])), (44, (vA #[(vS s268.d.name), (vI s268.d.rt), (vI s268.d.dl), (vL w315 s268.d.xs.length c316), (vI s268.st), (vI s268.ix), (vB s268.cn), (vI s268.tr), (vI s268.bg), (vI s268.er)])), (45, (vI 0)), (14, (vI 0)), (46, (vA #[(vS s268.d.name), (vI s268.d.rt), (vI s268.d.dl), (vL w263 s268.d.xs.length c264), (vI s268.st), (vI s268.ix), (vB s268.cn), (vI s268.tr), (vI s268.bg), (vI s268.er)])), (49, (vA #[(vS s268.d.name), (vI s268.d.rt), (vI s268.d.dl), (vL w315 s268.d.xs.length c316), (vI s268.st), (vI s268.ix), (vB s268.cn), (vI s268.tr), (vI s268.bg), (vI s268.er)])), (47, (vA #[(vS s268.d.name), (vI s268.d.rt), (vI s268.d.dl), (vL w263 s268.d.xs.length c264), (vI s268.st), (vI s268.ix), (vB s268.cn), (vI s268.tr), (vI s268.bg), (vI s268.er)])), (48, (vA #[(vS s268.d.name), (vI s268.d.rt), (vI s268.d.dl), (vL w263 s268.d.xs.length c264), (vI s268.st), (vI s268.ix), (vB s268.cn), (vI s268.tr), (vI s268.bg), (vI s268.er)])), (50, (vB true)), (51, (vB true)), (52, (vI 0)), (53, (vI 0)), (54, (vB true)), (55, (vB true)), (56, (vB true)), (57, (vB true)), (58, (vB true)), (10, (vB true))] ?_
            exact end_ev [] (vB true) (hK _ _ (⟨rfl, x351⟩))
          · obtain ⟨h352, e353⟩ : ∃ zq, zq = h252.setIfInBounds b232 (.cells #[(vS .empty), (vI 0), (vI 0), (Value.slice none 0 0), (vI 0), (vI 0), (vB false), (vI 0), (vI 0), (vI 0)] 41 (0, 0)) := ⟨_, rfl⟩
            have f354 := set_same e353 f260
            have f355 := set_other e353 f258 n237
            have f356 := set_other e353 f259 n238
            have x357 := Ext.setNew x261 e353 o240
            obtain ⟨b358, eb359⟩ : ∃ zq, zq = h352.size := ⟨_, rfl⟩
            obtain ⟨h360, e361⟩ : ∃ zq, zq = h352.push (.cells #[(vS .empty), (vI 0), (vI 0), (Value.slice none 0 0), (vI 0), (vI 0), (vB false), (vI 0), (vI 0), (vI 0)] 37 (0, 0)) := ⟨_, rfl⟩
            have f362 := push_new e361
            rw [← eb359] at f362
            have n363 : b358 ≠ b232 := by have := row_lt f354; omega
            have x364 : Ext h352 h360 := by rw [e361]; exact Ext.push _ _
            have o365 : h.size ≤ b358 := by have := x357.size; omega
            have f366 := x364 _ _ f356
            have f367 := x364 _ _ f354
            have x368 := x357.trans x364
            obtain ⟨_, hh369, sn370, rfl, x371⟩ := refV_ok h360 s _ _ (hl.keep fun b r _ q => x368 b r q) (by omega) 
            have f372 := x371 _ _ f366
            have f373 := x371 _ _ f367
            have f374 := x371 _ _ f362
            have x375 := x368.trans x371
            obtain ⟨v376, h377, s378, p379, p380, x381⟩ := rresult_ok hh369 s _ _ (hl.keep fun b r _ q => x375 b r q) (by omega) hnm hks 0 0 0 (res) (now)
            have t382 := resE_cases (e1 := 0) (e2 := 0) (e3 := 0) (res := (res)) (now := (now)) c42
            have f383 := x381 _ _ f373
            have f384 := x381 _ _ f374
            have x385 := x375.trans x381
            obtain ⟨h386, e387⟩ : ∃ zq, zq = h377.setIfInBounds b358 (.cells #[(vS .empty), (vI 0), (vI 0), (Value.slice none 0 0), (vI 0), (vI 0), (vB false), (vI 0), (vI 0), (vI 0)] 37 (0, 0)) := ⟨_, rfl⟩
            have f388 := set_same e387 f384
            have f389 := set_other e387 f383 n363
            have x390 := Ext.setNew x385 e387 o365
            obtain ⟨_, hh391, sn392, rfl, x393⟩ := backV_ok h386 (SagaM.mk (DefM.mk .empty 0 0 ([] : List StepM)) 0 0 false 0 0 0) _ _ lat_none (by decide) 
            have f394 := x393 _ _ f388
            have x395 := x390.trans x393
            obtain ⟨_, hh396, sn397, rfl, x398⟩ := refV_ok hh391 (SagaM.mk (DefM.mk .empty 0 0 ([] : List StepM)) 0 0 false 0 0 0) _ _ lat_none (by decide) 
            have f399 := x398 _ _ f394
            have x400 := x395.trans x398
            obtain ⟨_, hh401, sn402, rfl, x403⟩ := same_ok hh396 (SagaM.mk (DefM.mk .empty 0 0 ([] : List StepM)) 0 0 false 0 0 0) _ _ lat_none (by decide) _ _ lat_none
            have x404 := x400.trans x403
            obtain ⟨_, hh405, sn406, rfl, x407⟩ := works_ok hh401 (x404 _ _ hg0) (x404 _ _ hg1)
            have x408 := x404.trans x407
            refine wc_ev [evA 0 0 eb2 e4, evA 0 1 eb10 e12, evL 1 1 0 agg24 size24 f17, evFb 1 2 c27 s20, evM 3 0 c28, evLw 4 0 agg27 size27 f24, evF 4 1 sn30, evF 4 2 (by rw [nextV_done c42 c43] at s37; exact s37), evUw 4 7 size29 f40 e228, evLw 5 0 agg27 size27 f230, evLw 5 2 agg29 size29 f229, evA 5 9 eb233 e235, evF 5 1 sn245, evLw 99 0 agg29 size29 f248, evFe 5 5 (p254 c262) s253, evUw 5 10 size41 f260 e353, evLw 6 0 agg27 size27 f355, evLw 6 2 agg29 size29 f356, evA 6 9 eb359 e361, evF 6 1 sn370, evLw 99 0 agg29 size29 f372, evFe 6 5 (p379 c262) s378, evUw 6 10 size37 f384 e387, evLw 7 0 agg41 size41 f389, evLw 7 3 agg37 size37 f388, evF 7 1 sn392, evLw 99 0 agg37 size37 f394, evF 7 2 sn397, evLw 99 0 agg37 size37 f399, evF 7 4 sn402, eqT 7 8 25 (Eq.refl ((resE s 0 0 0 (res) (now)) : Int)), evF 7 11 sn406] .ret hh405 [(5, (vP b1 0)), (6, (vP b9 0)), (10, (vB false)), (15, (vP b1 0)), (16, (vA #[(vS s.d.name), (vI s.d.rt), (vI s.d.dl), (vL sa s.d.xs.length cp)])), (17, (vB true)), (18, (vB false)), (20, (vB true)), (22, (vA #[(vS s.d.name), (vI s.d.rt), (vI s.d.dl), (vL sa s.d.xs.length cp), (vI s.st), (vI s.ix), (vB s.cn), (vI s.tr), (vI s.bg), (vI s.er)])), (23, (vA #[(vS s.d.name), (vI s.d.rt), (vI s.d.dl), (vL sa s.d.xs.length cp), (vI s.st), (vI s.ix), (vB s.cn), (vI s.tr), (vI s.bg), (vI s.er)])), (24, (vT #[(vA #[(vI 0), (vI 0), (vI 0)]), (vB false), (vI 0)])), (21, (vT #[(vA #[(vI 0), (vI 0), (vI 0)]), (vB false), (vI 0)])), (25, (vA #[(vI 0), (vI 0), (vI 0)])), (26, (vB false)), (27, (vI 0)), (29, (vA #[(vS s.d.name), (vI s.d.rt), (vI s.d.dl), (vL sa s.d.xs.length cp), (vI s.st), (vI s.ix), (vB s.cn), (vI s.tr), (vI s.bg), (vI s.er)])), (31, (vA #[(vI 0), (vI 0), (vI 0)])), (32, (vI res)), (33, (vI now)), (11, (vP b232 0)), (30, (vA #[(vS s.d.name), (vI s.d.rt), (vI s.d.dl), (vL sa s.d.xs.length cp), (vI s.st), (vI s.ix), (vB s.cn), (vI s.tr), (vI s.bg), (vI s.er)])), (34, (vT #[(vA #[(vS .empty), (vI 0), (vI 0), (vL none 0 0), (vI 0), (vI 0), (vB false), (vI 0), (vI 0), (vI 0)]), (vI (resE s 0 0 0 (res) (now)))])), (28, (vT #[(vA #[(vS .empty), (vI 0), (vI 0), (vL none 0 0), (vI 0), (vI 0), (vB false), (vI 0), (vI 0), (vI 0)]), (vI (resE s 0 0 0 (res) (now)))])), (35, (vA #[(vS .empty), (vI 0), (vI 0), (vL none 0 0), (vI 0), (vI 0), (vB false), (vI 0), (vI 0), (vI 0)])), (36, (vI (resE s 0 0 0 (res) (now)))), (12, (vI (resE s 0 0 0 (res) (now)))), (38, (vA #[(vS s.d.name), (vI s.d.rt), (vI s.d.dl), (vL sa s.d.xs.length cp), (vI s.st), (vI s.ix), (vB s.cn), (vI s.tr), (vI s.bg), (vI s.er)])), (40, (vA #[(vI 0), (vI 0), (vI 0)])), (41, (vI res)), (42, (vI now)), (13, (vP b358 0)), (39, (vA #[(vS s.d.name), (vI s.d.rt), (vI s.d.dl), (vL sa s.d.xs.length cp), (vI s.st), (vI s.ix), (vB s.cn), (vI s.tr), (vI s.bg), (vI s.er)])), (43, (vT #[(vA #[(vS .empty), (vI 0), (vI 0), (vL none 0 0), (vI 0), (vI 0), (vB false), (vI 0), (vI 0), (vI 0)]), (vI (resE s 0 0 0 (res) (now)))])), (37, (vT #[(vA #[(vS .empty), (vI 0), (vI 0), (vL none 0 0), (vI 0), (vI 0), (vB false), (vI 0), (vI 0), (vI 0)]), (vI (resE s 0 0 0 (res) (now)))])), (44, (vA #[(vS .empty), (vI 0), (vI 0), (vL none 0 0), (vI 0), (vI 0), (vB false), (vI 0), (vI 0), (vI 0)])), (45, (vI (resE s 0 0 0 (res) (now)))), (14, (vI (resE s 0 0 0 (res) (now)))), (46, (vA #[(vS .empty), (vI 0), (vI 0), (vL none 0 0), (vI 0), (vI 0), (vB false), (vI 0), (vI 0), (vI 0)])), (49, (vA #[(vS .empty), (vI 0), (vI 0), (vL none 0 0), (vI 0), (vI 0), (vB false), (vI 0), (vI 0), (vI 0)])), (47, (vA #[(vS .empty), (vI 0), (vI 0), (vL none 0 0), (vI 0), (vI 0), (vB false), (vI 0), (vI 0), (vI 0)])), (48, (vA #[(vS .empty), (vI 0), (vI 0), (vL none 0 0), (vI 0), (vI 0), (vB false), (vI 0), (vI 0), (vI 0)])), (50, (vB true)), (51, (vB true)), (52, (vI (resE s 0 0 0 (res) (now)))), (53, (vI (resE s 0 0 0 (res) (now)))), (54, (vB true)), (55, (vB true)), (56, (vB true)), (57, (vB true)), (58, (vB true)), (10, (vB true))] ?_
            exact end_ev [] (vB true) (hK _ _ (⟨rfl, x408⟩))
      · obtain ⟨h409, e410⟩ : ∃ zq, zq = h36.setIfInBounds b9 (.cells #[(vI 0), (vI 0), (vI 0)] 29 (0, 0)) := ⟨_, rfl⟩
        have f411 := set_same e410 f40
        have f412 := set_other e410 f39 n14
        have x413 := Ext.setNew x41 e410 o16
        obtain ⟨b414, eb415⟩ : ∃ zq, zq = h409.size := ⟨_, rfl⟩
        obtain ⟨h416, e417⟩ : ∃ zq, zq = h409.push (.cells #[(vS .empty), (vI 0), (vI 0), (Value.slice none 0 0), (vI 0), (vI 0), (vB false), (vI 0), (vI 0), (vI 0)] 41 (0, 0)) := ⟨_, rfl⟩
        have f418 := push_new e417
        rw [← eb415] at f418
        have n419 : b414 ≠ b1 := by have := row_lt f412; omega
        have n420 : b414 ≠ b9 := by have := row_lt f411; omega
        have x421 : Ext h409 h416 := by rw [e417]; exact Ext.push _ _
        have o422 : h.size ≤ b414 := by have := x413.size; omega
        have f423 := x421 _ _ f412
        have f424 := x421 _ _ f411
        have x425 := x413.trans x421
        obtain ⟨_, hh426, sn427, rfl, x428⟩ := givenV_ok h416 s _ _ (hl.keep fun b r _ q => x425 b r q) (by omega) 
        have f429 := x428 _ _ f423
        have f430 := x428 _ _ f424
        have f431 := x428 _ _ f418
        have x432 := x425.trans x428
        obtain ⟨v433, h434, s435, p436, p437, x438⟩ := result_ok hh426 s _ _ (hl.keep fun b r _ q => x432 b r q) (by omega) 0 0 0 (res) (now) (x432 _ _ hg0) (x432 _ _ hg1)
        have f439 := x438 _ _ f429
        have f440 := x438 _ _ f430
        have f441 := x438 _ _ f431
        have x442 := x432.trans x438
        by_cases c443 : ((resE s 0 0 0 (res) (now)) : Int) = 0
        · obtain ⟨w444, c445, p446, o447, n448⟩ := p437 c443
          obtain ⟨s449, e450⟩ : ∃ q, q = nxtS s (res) (now) := ⟨_, rfl⟩
          have e451 : s449.d = s.d := by rw [e450]; exact nxtS_d _ _ _
          have e452 : s449.d.xs.length = (s.d).xs.length := by rw [e451]
          rw [← e450, ← e451] at p446
          rw [← e451] at o447 n448
          have c453 : chkS s449 = 0 := by rw [e450]; exact nxt_ok (resE_zero c443).1 (resE_zero c443).2.1 (resE_zero c443).2.2.2.1
          have z454 : h.size ≤ hh426.size := x432.size
          have n455 : ∀ zz, blk (Value.slice w444 (s449.d.xs.length) (c445)) zz → ¬ zz = b414 := fun zz hz ez => by have := n448 zz hz; have := row_lt f431; omega
          have o456 : ∀ zz, blk (Value.slice w444 (s449.d.xs.length) (c445)) zz → h.size ≤ zz := fun zz hz => by have := n448 zz hz; omega
          obtain ⟨h457, e458⟩ : ∃ zq, zq = h434.setIfInBounds b414 (.cells #[(vS s449.d.name), (vI (s449.d.rt)), (vI (s449.d.dl)), (Value.slice w444 (s449.d.xs.length) (c445)), (vI (s449.st)), (vI (s449.ix)), (vB s449.cn), (vI (s449.tr)), (vI (s449.bg)), (vI (s449.er))] 41 (0, 0)) := ⟨_, rfl⟩
          have f459 := set_same e458 f441
          have f460 := set_other e458 f439 n419
          have f461 := set_other e458 f440 n420
          have p462 := o447.keep fun b r hb q => (Chg.set e458).same b r q (n455 b hb)
          have x463 := Ext.setNew x442 e458 o422
          obtain ⟨b464, eb465⟩ : ∃ zq, zq = h457.size := ⟨_, rfl⟩
          obtain ⟨h466, e467⟩ : ∃ zq, zq = h457.push (.cells #[(vS .empty), (vI 0), (vI 0), (Value.slice none 0 0), (vI 0), (vI 0), (vB false), (vI 0), (vI 0), (vI 0)] 37 (0, 0)) := ⟨_, rfl⟩
          have f468 := push_new e467
          rw [← eb465] at f468
          have n469 : b464 ≠ b414 := by have := row_lt f459; omega
          have n470 : ∀ zz, (blk (Value.slice w444 (s449.d.xs.length) (c445))) zz → ¬ zz = b464 := fun zz hz ez => by have := p462.blk_lt hz; omega
          have x471 : Ext h457 h466 := by rw [e467]; exact Ext.push _ _
          have o472 : h.size ≤ b464 := by have := x463.size; omega
          have f473 := x471 _ _ f461
          have f474 := x471 _ _ f459
          have p475 := p462.keep fun b r _ q => x471 b r q
          have x476 := x463.trans x471
          obtain ⟨_, hh477, sn478, rfl, x479⟩ := refV_ok h466 s _ _ (hl.keep fun b r _ q => x476 b r q) (by omega) 
          have f480 := x479 _ _ f473
          have f481 := x479 _ _ f474
          have f482 := x479 _ _ f468
          have p483 := p475.keep fun b r _ q => x479 b r q
          have x484 := x476.trans x479
          obtain ⟨v485, h486, s487, p488, p489, x490⟩ := rresult_ok hh477 s _ _ (hl.keep fun b r _ q => x484 b r q) (by omega) hnm hks 0 0 0 (res) (now)
          have f491 := x490 _ _ f481
          have f492 := x490 _ _ f482
          have p493 := p483.keep fun b r _ q => x490 b r q
          have x494 := x484.trans x490
          obtain ⟨w495, c496, p497, o498, n499⟩ := p489 c443
          rw [← e450, ← e451] at p497
          rw [← e451] at o498 n499
          have z500 : h.size ≤ hh477.size := x484.size
          have n501 : ∀ zz, blk (Value.slice w495 (s449.d.xs.length) (c496)) zz → ¬ zz = b464 := fun zz hz ez => by have := n499 zz hz; have := row_lt f482; omega
          have o502 : ∀ zz, blk (Value.slice w495 (s449.d.xs.length) (c496)) zz → h.size ≤ zz := fun zz hz => by have := n499 zz hz; omega
          obtain ⟨h503, e504⟩ : ∃ zq, zq = h486.setIfInBounds b464 (.cells #[(vS s449.d.name), (vI (s449.d.rt)), (vI (s449.d.dl)), (Value.slice w495 (s449.d.xs.length) (c496)), (vI (s449.st)), (vI (s449.ix)), (vB s449.cn), (vI (s449.tr)), (vI (s449.bg)), (vI (s449.er))] 37 (0, 0)) := ⟨_, rfl⟩
          have f505 := set_same e504 f492
          have f506 := set_other e504 f491 n469
          have p507 := p493.keep fun b r hb q => (Chg.set e504).same b r q (n470 b hb)
          have p508 := o498.keep fun b r hb q => (Chg.set e504).same b r q (n501 b hb)
          have x509 := Ext.setNew x494 e504 o472
          obtain ⟨_, hh510, sn511, rfl, x512⟩ := backV_ok h503 s449 _ _ (OwnAt.lat p507 stepc_size (tsz_of size65)) (by omega) 
          have f513 := x512 _ _ f505
          have p514 := p507.keep fun b r _ q => x512 b r q
          have p515 := p508.keep fun b r _ q => x512 b r q
          have x516 := x509.trans x512
          obtain ⟨_, hh517, sn518, rfl, x519⟩ := refV_ok hh510 s449 _ _ (OwnAt.lat p514 stepc_size (tsz_of size65)) (by omega) 
          have f520 := x519 _ _ f513
          have p521 := p514.keep fun b r _ q => x519 b r q
          have p522 := p515.keep fun b r _ q => x519 b r q
          have x523 := x516.trans x519
          obtain ⟨_, hh524, sn525, rfl, x526⟩ := same_ok hh517 s449 _ _ (OwnAt.lat p521 stepc_size (tsz_of size65)) (by omega) _ _ (OwnAt.lat p522 stepc_size (tsz_of size65))
          have x527 := x523.trans x526
          obtain ⟨_, hh528, sn529, rfl, x530⟩ := works_ok hh524 (x527 _ _ hg0) (x527 _ _ hg1)
          have x531 := x527.trans x530
          refine wc_ev [evA 0 0 eb2 e4, evA 0 1 eb10 e12, evL 1 1 0 agg24 size24 f17, evFb 1 2 c27 s20, evM 3 0 c28, evLw 4 0 agg27 size27 f24, evF 4 1 sn30, evF 4 2 (by rw [nextV_bad c42] at s37; exact s37), evUw 4 7 size29 f40 e410, evLw 5 0 agg27 size27 f412, evLw 5 2 agg29 size29 f411, evA 5 9 eb415 e417, evF 5 1 sn427, evLw 99 0 agg29 size29 f430, evFe 5 5 p446 s435, evUw 5 10 size41 f441 e458, evLw 6 0 agg27 size27 f460, evLw 6 2 agg29 size29 f461, evA 6 9 eb465 e467, evF 6 1 sn478, evLw 99 0 agg29 size29 f480, evFe 6 5 p497 s487, evUw 6 10 size37 f492 e504, evLw 7 0 agg41 size41 f506, evLw 7 3 agg37 size37 f505, evF 7 1 sn511, evLw 99 0 agg37 size37 f513, evF 7 2 sn518, evLw 99 0 agg37 size37 f520, evF 7 4 sn525, evF 7 11 sn529] .ret hh528 [(5, (vP b1 0)), (6, (vP b9 0)), (10, (vB false)), (15, (vP b1 0)), (16, (vA #[(vS s.d.name), (vI s.d.rt), (vI s.d.dl), (vL sa s.d.xs.length cp)])), (17, (vB true)), (18, (vB false)), (20, (vB true)), (22, (vA #[(vS s.d.name), (vI s.d.rt), (vI s.d.dl), (vL sa s.d.xs.length cp), (vI s.st), (vI s.ix), (vB s.cn), (vI s.tr), (vI s.bg), (vI s.er)])), (23, (vA #[(vS s.d.name), (vI s.d.rt), (vI s.d.dl), (vL sa s.d.xs.length cp), (vI s.st), (vI s.ix), (vB s.cn), (vI s.tr), (vI s.bg), (vI s.er)])), (24, (vT #[(vA #[(vI 0), (vI 0), (vI 0)]), (vB false), (vI (chkS s))])), (21, (vT #[(vA #[(vI 0), (vI 0), (vI 0)]), (vB false), (vI (chkS s))])), (25, (vA #[(vI 0), (vI 0), (vI 0)])), (26, (vB false)), (27, (vI (chkS s))), (29, (vA #[(vS s.d.name), (vI s.d.rt), (vI s.d.dl), (vL sa s.d.xs.length cp), (vI s.st), (vI s.ix), (vB s.cn), (vI s.tr), (vI s.bg), (vI s.er)])), (31, (vA #[(vI 0), (vI 0), (vI 0)])), (32, (vI res)), (33, (vI now)), (11, (vP b414 0)), (30, (vA #[(vS s.d.name), (vI s.d.rt), (vI s.d.dl), (vL sa s.d.xs.length cp), (vI s.st), (vI s.ix), (vB s.cn), (vI s.tr), (vI s.bg), (vI s.er)])), (34, (vT #[(vA #[(vS s449.d.name), (vI s449.d.rt), (vI s449.d.dl), (vL w444 s449.d.xs.length c445), (vI s449.st), (vI s449.ix), (vB s449.cn), (vI s449.tr), (vI s449.bg), (vI s449.er)]), (vI 0)])), (28, (vT #[(vA #[(vS s449.d.name), (vI s449.d.rt), (vI s449.d.dl), (vL w444 s449.d.xs.length c445), (vI s449.st), (vI s449.ix), (vB s449.cn), (vI s449.tr), (vI s449.bg), (vI s449.er)]), (vI 0)])), (35, (vA #[(vS s449.d.name), (vI s449.d.rt), (vI s449.d.dl), (vL w444 s449.d.xs.length c445), (vI s449.st), (vI s449.ix), (vB s449.cn), (vI s449.tr), (vI s449.bg), (vI s449.er)])), (36, (vI 0)), (12, (vI 0)), (38, (vA #[(vS s.d.name), (vI s.d.rt), (vI s.d.dl), (vL sa s.d.xs.length cp), (vI s.st), (vI s.ix), (vB s.cn), (vI s.tr), (vI s.bg), (vI s.er)])), (40, (vA #[(vI 0), (vI 0), (vI 0)])), (41, (vI res)), (42, (vI now)), (13, (vP b464 0)), (39, (vA #[(vS s.d.name), (vI s.d.rt), (vI s.d.dl), (vL sa s.d.xs.length cp), (vI s.st), (vI s.ix), (vB s.cn), (vI s.tr), (vI s.bg), (vI s.er)])), (43, (vT #[(vA #[(vS s449.d.name), (vI s449.d.rt), (vI s449.d.dl), (vL w495 s449.d.xs.length c496), (vI s449.st), (vI s449.ix), (vB s449.cn), (vI s449.tr), (vI s449.bg), (vI s449.er)]), (vI 0)])), (37, (vT #[(vA #[(vS s449.d.name), (vI s449.d.rt), (vI s449.d.dl), (vL w495 s449.d.xs.length c496), (vI s449.st), (vI s449.ix), (vB s449.cn), (vI s449.tr), (vI s449.bg), (vI s449.er)]), (vI 0)])), (44, (vA #[(vS s449.d.name), (vI s449.d.rt), (vI s449.d.dl), (vL w495 s449.d.xs.length c496), (vI s449.st), (vI s449.ix), (vB s449.cn), (vI s449.tr), (vI s449.bg), (vI s449.er)])), (45, (vI 0)), (14, (vI 0)), (46, (vA #[(vS s449.d.name), (vI s449.d.rt), (vI s449.d.dl), (vL w444 s449.d.xs.length c445), (vI s449.st), (vI s449.ix), (vB s449.cn), (vI s449.tr), (vI s449.bg), (vI s449.er)])), (49, (vA #[(vS s449.d.name), (vI s449.d.rt), (vI s449.d.dl), (vL w495 s449.d.xs.length c496), (vI s449.st), (vI s449.ix), (vB s449.cn), (vI s449.tr), (vI s449.bg), (vI s449.er)])), (47, (vA #[(vS s449.d.name), (vI s449.d.rt), (vI s449.d.dl), (vL w444 s449.d.xs.length c445), (vI s449.st), (vI s449.ix), (vB s449.cn), (vI s449.tr), (vI s449.bg), (vI s449.er)])), (48, (vA #[(vS s449.d.name), (vI s449.d.rt), (vI s449.d.dl), (vL w444 s449.d.xs.length c445), (vI s449.st), (vI s449.ix), (vB s449.cn), (vI s449.tr), (vI s449.bg), (vI s449.er)])), (50, (vB true)), (51, (vB true)), (52, (vI 0)), (53, (vI 0)), (54, (vB true)), (55, (vB true)), (56, (vB true)), (57, (vB true)), (58, (vB true)), (10, (vB true))] ?_
          exact end_ev [] (vB true) (hK _ _ (⟨rfl, x531⟩))
        · obtain ⟨h532, e533⟩ : ∃ zq, zq = h434.setIfInBounds b414 (.cells #[(vS .empty), (vI 0), (vI 0), (Value.slice none 0 0), (vI 0), (vI 0), (vB false), (vI 0), (vI 0), (vI 0)] 41 (0, 0)) := ⟨_, rfl⟩
          have f534 := set_same e533 f441
          have f535 := set_other e533 f439 n419
          have f536 := set_other e533 f440 n420
          have x537 := Ext.setNew x442 e533 o422
          obtain ⟨b538, eb539⟩ : ∃ zq, zq = h532.size := ⟨_, rfl⟩
          obtain ⟨h540, e541⟩ : ∃ zq, zq = h532.push (.cells #[(vS .empty), (vI 0), (vI 0), (Value.slice none 0 0), (vI 0), (vI 0), (vB false), (vI 0), (vI 0), (vI 0)] 37 (0, 0)) := ⟨_, rfl⟩
          have f542 := push_new e541
          rw [← eb539] at f542
          have n543 : b538 ≠ b414 := by have := row_lt f534; omega
          have x544 : Ext h532 h540 := by rw [e541]; exact Ext.push _ _
          have o545 : h.size ≤ b538 := by have := x537.size; omega
          have f546 := x544 _ _ f536
          have f547 := x544 _ _ f534
          have x548 := x537.trans x544
          obtain ⟨_, hh549, sn550, rfl, x551⟩ := refV_ok h540 s _ _ (hl.keep fun b r _ q => x548 b r q) (by omega) 
          have f552 := x551 _ _ f546
          have f553 := x551 _ _ f547
          have f554 := x551 _ _ f542
          have x555 := x548.trans x551
          obtain ⟨v556, h557, s558, p559, p560, x561⟩ := rresult_ok hh549 s _ _ (hl.keep fun b r _ q => x555 b r q) (by omega) hnm hks 0 0 0 (res) (now)
          have f562 := x561 _ _ f553
          have f563 := x561 _ _ f554
          have x564 := x555.trans x561
          obtain ⟨h565, e566⟩ : ∃ zq, zq = h557.setIfInBounds b538 (.cells #[(vS .empty), (vI 0), (vI 0), (Value.slice none 0 0), (vI 0), (vI 0), (vB false), (vI 0), (vI 0), (vI 0)] 37 (0, 0)) := ⟨_, rfl⟩
          have f567 := set_same e566 f563
          have f568 := set_other e566 f562 n543
          have x569 := Ext.setNew x564 e566 o545
          obtain ⟨_, hh570, sn571, rfl, x572⟩ := backV_ok h565 (SagaM.mk (DefM.mk .empty 0 0 ([] : List StepM)) 0 0 false 0 0 0) _ _ lat_none (by decide) 
          have f573 := x572 _ _ f567
          have x574 := x569.trans x572
          obtain ⟨_, hh575, sn576, rfl, x577⟩ := refV_ok hh570 (SagaM.mk (DefM.mk .empty 0 0 ([] : List StepM)) 0 0 false 0 0 0) _ _ lat_none (by decide) 
          have f578 := x577 _ _ f573
          have x579 := x574.trans x577
          obtain ⟨_, hh580, sn581, rfl, x582⟩ := same_ok hh575 (SagaM.mk (DefM.mk .empty 0 0 ([] : List StepM)) 0 0 false 0 0 0) _ _ lat_none (by decide) _ _ lat_none
          have x583 := x579.trans x582
          obtain ⟨_, hh584, sn585, rfl, x586⟩ := works_ok hh580 (x583 _ _ hg0) (x583 _ _ hg1)
          have x587 := x583.trans x586
          refine wc_ev [evA 0 0 eb2 e4, evA 0 1 eb10 e12, evL 1 1 0 agg24 size24 f17, evFb 1 2 c27 s20, evM 3 0 c28, evLw 4 0 agg27 size27 f24, evF 4 1 sn30, evF 4 2 (by rw [nextV_bad c42] at s37; exact s37), evUw 4 7 size29 f40 e410, evLw 5 0 agg27 size27 f412, evLw 5 2 agg29 size29 f411, evA 5 9 eb415 e417, evF 5 1 sn427, evLw 99 0 agg29 size29 f430, evFe 5 5 (p436 c443) s435, evUw 5 10 size41 f441 e533, evLw 6 0 agg27 size27 f535, evLw 6 2 agg29 size29 f536, evA 6 9 eb539 e541, evF 6 1 sn550, evLw 99 0 agg29 size29 f552, evFe 6 5 (p559 c443) s558, evUw 6 10 size37 f563 e566, evLw 7 0 agg41 size41 f568, evLw 7 3 agg37 size37 f567, evF 7 1 sn571, evLw 99 0 agg37 size37 f573, evF 7 2 sn576, evLw 99 0 agg37 size37 f578, evF 7 4 sn581, eqT 7 8 25 (Eq.refl ((resE s 0 0 0 (res) (now)) : Int)), evF 7 11 sn585] .ret hh584 [(5, (vP b1 0)), (6, (vP b9 0)), (10, (vB false)), (15, (vP b1 0)), (16, (vA #[(vS s.d.name), (vI s.d.rt), (vI s.d.dl), (vL sa s.d.xs.length cp)])), (17, (vB true)), (18, (vB false)), (20, (vB true)), (22, (vA #[(vS s.d.name), (vI s.d.rt), (vI s.d.dl), (vL sa s.d.xs.length cp), (vI s.st), (vI s.ix), (vB s.cn), (vI s.tr), (vI s.bg), (vI s.er)])), (23, (vA #[(vS s.d.name), (vI s.d.rt), (vI s.d.dl), (vL sa s.d.xs.length cp), (vI s.st), (vI s.ix), (vB s.cn), (vI s.tr), (vI s.bg), (vI s.er)])), (24, (vT #[(vA #[(vI 0), (vI 0), (vI 0)]), (vB false), (vI (chkS s))])), (21, (vT #[(vA #[(vI 0), (vI 0), (vI 0)]), (vB false), (vI (chkS s))])), (25, (vA #[(vI 0), (vI 0), (vI 0)])), (26, (vB false)), (27, (vI (chkS s))), (29, (vA #[(vS s.d.name), (vI s.d.rt), (vI s.d.dl), (vL sa s.d.xs.length cp), (vI s.st), (vI s.ix), (vB s.cn), (vI s.tr), (vI s.bg), (vI s.er)])), (31, (vA #[(vI 0), (vI 0), (vI 0)])), (32, (vI res)), (33, (vI now)), (11, (vP b414 0)), (30, (vA #[(vS s.d.name), (vI s.d.rt), (vI s.d.dl), (vL sa s.d.xs.length cp), (vI s.st), (vI s.ix), (vB s.cn), (vI s.tr), (vI s.bg), (vI s.er)])), (34, (vT #[(vA #[(vS .empty), (vI 0), (vI 0), (vL none 0 0), (vI 0), (vI 0), (vB false), (vI 0), (vI 0), (vI 0)]), (vI (resE s 0 0 0 (res) (now)))])), (28, (vT #[(vA #[(vS .empty), (vI 0), (vI 0), (vL none 0 0), (vI 0), (vI 0), (vB false), (vI 0), (vI 0), (vI 0)]), (vI (resE s 0 0 0 (res) (now)))])), (35, (vA #[(vS .empty), (vI 0), (vI 0), (vL none 0 0), (vI 0), (vI 0), (vB false), (vI 0), (vI 0), (vI 0)])), (36, (vI (resE s 0 0 0 (res) (now)))), (12, (vI (resE s 0 0 0 (res) (now)))), (38, (vA #[(vS s.d.name), (vI s.d.rt), (vI s.d.dl), (vL sa s.d.xs.length cp), (vI s.st), (vI s.ix), (vB s.cn), (vI s.tr), (vI s.bg), (vI s.er)])), (40, (vA #[(vI 0), (vI 0), (vI 0)])), (41, (vI res)), (42, (vI now)), (13, (vP b538 0)), (39, (vA #[(vS s.d.name), (vI s.d.rt), (vI s.d.dl), (vL sa s.d.xs.length cp), (vI s.st), (vI s.ix), (vB s.cn), (vI s.tr), (vI s.bg), (vI s.er)])), (43, (vT #[(vA #[(vS .empty), (vI 0), (vI 0), (vL none 0 0), (vI 0), (vI 0), (vB false), (vI 0), (vI 0), (vI 0)]), (vI (resE s 0 0 0 (res) (now)))])), (37, (vT #[(vA #[(vS .empty), (vI 0), (vI 0), (vL none 0 0), (vI 0), (vI 0), (vB false), (vI 0), (vI 0), (vI 0)]), (vI (resE s 0 0 0 (res) (now)))])), (44, (vA #[(vS .empty), (vI 0), (vI 0), (vL none 0 0), (vI 0), (vI 0), (vB false), (vI 0), (vI 0), (vI 0)])), (45, (vI (resE s 0 0 0 (res) (now)))), (14, (vI (resE s 0 0 0 (res) (now)))), (46, (vA #[(vS .empty), (vI 0), (vI 0), (vL none 0 0), (vI 0), (vI 0), (vB false), (vI 0), (vI 0), (vI 0)])), (49, (vA #[(vS .empty), (vI 0), (vI 0), (vL none 0 0), (vI 0), (vI 0), (vB false), (vI 0), (vI 0), (vI 0)])), (47, (vA #[(vS .empty), (vI 0), (vI 0), (vL none 0 0), (vI 0), (vI 0), (vB false), (vI 0), (vI 0), (vI 0)])), (48, (vA #[(vS .empty), (vI 0), (vI 0), (vL none 0 0), (vI 0), (vI 0), (vB false), (vI 0), (vI 0), (vI 0)])), (50, (vB true)), (51, (vB true)), (52, (vI (resE s 0 0 0 (res) (now)))), (53, (vI (resE s 0 0 0 (res) (now)))), (54, (vB true)), (55, (vB true)), (56, (vB true)), (57, (vB true)), (58, (vB true)), (10, (vB true))] ?_
          exact end_ev [] (vB true) (hK _ _ (⟨rfl, x587⟩))
    · obtain ⟨b588, eb589⟩ : ∃ zq, zq = h19.size := ⟨_, rfl⟩
      obtain ⟨h590, e591⟩ : ∃ zq, zq = h19.push (.cells #[(vS .empty), (vI 0), (vI 0), (Value.slice none 0 0), (vI 0), (vI 0), (vB false), (vI 0), (vI 0), (vI 0)] 41 (0, 0)) := ⟨_, rfl⟩
      have f592 := push_new e591
      rw [← eb589] at f592
      have n593 : b588 ≠ b1 := by have := row_lt f24; omega
      have n594 : b588 ≠ b9 := by have := row_lt f25; omega
      have x595 : Ext h19 h590 := by rw [e591]; exact Ext.push _ _
      have o596 : h.size ≤ b588 := by have := x26.size; omega
      have f597 := x595 _ _ f24
      have f598 := x595 _ _ f25
      have x599 := x26.trans x595
      obtain ⟨_, hh600, sn601, rfl, x602⟩ := givenV_ok h590 s _ _ (hl.keep fun b r _ q => x599 b r q) (by omega) 
      have f603 := x602 _ _ f597
      have f604 := x602 _ _ f598
      have f605 := x602 _ _ f592
      have x606 := x599.trans x602
      obtain ⟨v607, h608, s609, p610, p611, x612⟩ := result_ok hh600 s _ _ (hl.keep fun b r _ q => x606 b r q) (by omega) (e1) (e2) (e3) (res) (now) (x606 _ _ hg0) (x606 _ _ hg1)
      have f613 := x612 _ _ f603
      have f614 := x612 _ _ f604
      have f615 := x612 _ _ f605
      have x616 := x606.trans x612
      by_cases c617 : ((resE s (e1) (e2) (e3) (res) (now)) : Int) = 0
      · obtain ⟨w618, c619, p620, o621, n622⟩ := p611 c617
        obtain ⟨s623, e624⟩ : ∃ q, q = nxtS s (res) (now) := ⟨_, rfl⟩
        have e625 : s623.d = s.d := by rw [e624]; exact nxtS_d _ _ _
        have e626 : s623.d.xs.length = (s.d).xs.length := by rw [e625]
        rw [← e624, ← e625] at p620
        rw [← e625] at o621 n622
        have c627 : chkS s623 = 0 := by rw [e624]; exact nxt_ok (resE_zero c617).1 (resE_zero c617).2.1 (resE_zero c617).2.2.2.1
        have z628 : h.size ≤ hh600.size := x606.size
        have n629 : ∀ zz, blk (Value.slice w618 (s623.d.xs.length) (c619)) zz → ¬ zz = b588 := fun zz hz ez => by have := n622 zz hz; have := row_lt f605; omega
        have o630 : ∀ zz, blk (Value.slice w618 (s623.d.xs.length) (c619)) zz → h.size ≤ zz := fun zz hz => by have := n622 zz hz; omega
        obtain ⟨h631, e632⟩ : ∃ zq, zq = h608.setIfInBounds b588 (.cells #[(vS s623.d.name), (vI (s623.d.rt)), (vI (s623.d.dl)), (Value.slice w618 (s623.d.xs.length) (c619)), (vI (s623.st)), (vI (s623.ix)), (vB s623.cn), (vI (s623.tr)), (vI (s623.bg)), (vI (s623.er))] 41 (0, 0)) := ⟨_, rfl⟩
        have f633 := set_same e632 f615
        have f634 := set_other e632 f613 n593
        have f635 := set_other e632 f614 n594
        have p636 := o621.keep fun b r hb q => (Chg.set e632).same b r q (n629 b hb)
        have x637 := Ext.setNew x616 e632 o596
        obtain ⟨b638, eb639⟩ : ∃ zq, zq = h631.size := ⟨_, rfl⟩
        obtain ⟨h640, e641⟩ : ∃ zq, zq = h631.push (.cells #[(vS .empty), (vI 0), (vI 0), (Value.slice none 0 0), (vI 0), (vI 0), (vB false), (vI 0), (vI 0), (vI 0)] 37 (0, 0)) := ⟨_, rfl⟩
        have f642 := push_new e641
        rw [← eb639] at f642
        have n643 : b638 ≠ b588 := by have := row_lt f633; omega
        have n644 : ∀ zz, (blk (Value.slice w618 (s623.d.xs.length) (c619))) zz → ¬ zz = b638 := fun zz hz ez => by have := p636.blk_lt hz; omega
        have x645 : Ext h631 h640 := by rw [e641]; exact Ext.push _ _
        have o646 : h.size ≤ b638 := by have := x637.size; omega
        have f647 := x645 _ _ f635
        have f648 := x645 _ _ f633
        have p649 := p636.keep fun b r _ q => x645 b r q
        have x650 := x637.trans x645
        obtain ⟨_, hh651, sn652, rfl, x653⟩ := refV_ok h640 s _ _ (hl.keep fun b r _ q => x650 b r q) (by omega) 
        have f654 := x653 _ _ f647
        have f655 := x653 _ _ f648
        have f656 := x653 _ _ f642
        have p657 := p649.keep fun b r _ q => x653 b r q
        have x658 := x650.trans x653
        obtain ⟨v659, h660, s661, p662, p663, x664⟩ := rresult_ok hh651 s _ _ (hl.keep fun b r _ q => x658 b r q) (by omega) hnm hks (e1) (e2) (e3) (res) (now)
        have f665 := x664 _ _ f655
        have f666 := x664 _ _ f656
        have p667 := p657.keep fun b r _ q => x664 b r q
        have x668 := x658.trans x664
        obtain ⟨w669, c670, p671, o672, n673⟩ := p663 c617
        rw [← e624, ← e625] at p671
        rw [← e625] at o672 n673
        have z674 : h.size ≤ hh651.size := x658.size
        have n675 : ∀ zz, blk (Value.slice w669 (s623.d.xs.length) (c670)) zz → ¬ zz = b638 := fun zz hz ez => by have := n673 zz hz; have := row_lt f656; omega
        have o676 : ∀ zz, blk (Value.slice w669 (s623.d.xs.length) (c670)) zz → h.size ≤ zz := fun zz hz => by have := n673 zz hz; omega
        obtain ⟨h677, e678⟩ : ∃ zq, zq = h660.setIfInBounds b638 (.cells #[(vS s623.d.name), (vI (s623.d.rt)), (vI (s623.d.dl)), (Value.slice w669 (s623.d.xs.length) (c670)), (vI (s623.st)), (vI (s623.ix)), (vB s623.cn), (vI (s623.tr)), (vI (s623.bg)), (vI (s623.er))] 37 (0, 0)) := ⟨_, rfl⟩
        have f679 := set_same e678 f666
        have f680 := set_other e678 f665 n643
        have p681 := p667.keep fun b r hb q => (Chg.set e678).same b r q (n644 b hb)
        have p682 := o672.keep fun b r hb q => (Chg.set e678).same b r q (n675 b hb)
        have x683 := Ext.setNew x668 e678 o646
        obtain ⟨_, hh684, sn685, rfl, x686⟩ := backV_ok h677 s623 _ _ (OwnAt.lat p681 stepc_size (tsz_of size65)) (by omega) 
        have f687 := x686 _ _ f679
        have p688 := p681.keep fun b r _ q => x686 b r q
        have p689 := p682.keep fun b r _ q => x686 b r q
        have x690 := x683.trans x686
        obtain ⟨_, hh691, sn692, rfl, x693⟩ := refV_ok hh684 s623 _ _ (OwnAt.lat p688 stepc_size (tsz_of size65)) (by omega) 
        have f694 := x693 _ _ f687
        have p695 := p688.keep fun b r _ q => x693 b r q
        have p696 := p689.keep fun b r _ q => x693 b r q
        have x697 := x690.trans x693
        obtain ⟨_, hh698, sn699, rfl, x700⟩ := same_ok hh691 s623 _ _ (OwnAt.lat p695 stepc_size (tsz_of size65)) (by omega) _ _ (OwnAt.lat p696 stepc_size (tsz_of size65))
        have x701 := x697.trans x700
        obtain ⟨_, hh702, sn703, rfl, x704⟩ := works_ok hh698 (x701 _ _ hg0) (x701 _ _ hg1)
        have x705 := x701.trans x704
        refine wc_ev [evA 0 0 eb2 e4, evA 0 1 eb10 e12, evL 1 1 0 agg24 size24 f17, evFb 1 2 c27 s20, evM 3 0 c28, evLw 5 0 agg27 size27 f24, evLw 5 2 agg29 size29 f25, evA 5 9 eb589 e591, evF 5 1 sn601, evLw 99 0 agg29 size29 f604, evFe 5 5 p620 s609, evUw 5 10 size41 f615 e632, evLw 6 0 agg27 size27 f634, evLw 6 2 agg29 size29 f635, evA 6 9 eb639 e641, evF 6 1 sn652, evLw 99 0 agg29 size29 f654, evFe 6 5 p671 s661, evUw 6 10 size37 f666 e678, evLw 7 0 agg41 size41 f680, evLw 7 3 agg37 size37 f679, evF 7 1 sn685, evLw 99 0 agg37 size37 f687, evF 7 2 sn692, evLw 99 0 agg37 size37 f694, evF 7 4 sn699, evF 7 11 sn703] .ret hh702 [(5, (vP b1 0)), (6, (vP b9 0)), (10, (vB false)), (15, (vP b1 0)), (16, (vA #[(vS s.d.name), (vI s.d.rt), (vI s.d.dl), (vL sa s.d.xs.length cp)])), (17, (vB true)), (18, (vB false)), (20, (vB false)), (29, (vA #[(vS s.d.name), (vI s.d.rt), (vI s.d.dl), (vL sa s.d.xs.length cp), (vI s.st), (vI s.ix), (vB s.cn), (vI s.tr), (vI s.bg), (vI s.er)])), (31, (vA #[(vI e1), (vI e2), (vI e3)])), (32, (vI res)), (33, (vI now)), (11, (vP b588 0)), (30, (vA #[(vS s.d.name), (vI s.d.rt), (vI s.d.dl), (vL sa s.d.xs.length cp), (vI s.st), (vI s.ix), (vB s.cn), (vI s.tr), (vI s.bg), (vI s.er)])), (34, (vT #[(vA #[(vS s623.d.name), (vI s623.d.rt), (vI s623.d.dl), (vL w618 s623.d.xs.length c619), (vI s623.st), (vI s623.ix), (vB s623.cn), (vI s623.tr), (vI s623.bg), (vI s623.er)]), (vI 0)])), (28, (vT #[(vA #[(vS s623.d.name), (vI s623.d.rt), (vI s623.d.dl), (vL w618 s623.d.xs.length c619), (vI s623.st), (vI s623.ix), (vB s623.cn), (vI s623.tr), (vI s623.bg), (vI s623.er)]), (vI 0)])), (35, (vA #[(vS s623.d.name), (vI s623.d.rt), (vI s623.d.dl), (vL w618 s623.d.xs.length c619), (vI s623.st), (vI s623.ix), (vB s623.cn), (vI s623.tr), (vI s623.bg), (vI s623.er)])), (36, (vI 0)), (12, (vI 0)), (38, (vA #[(vS s.d.name), (vI s.d.rt), (vI s.d.dl), (vL sa s.d.xs.length cp), (vI s.st), (vI s.ix), (vB s.cn), (vI s.tr), (vI s.bg), (vI s.er)])), (40, (vA #[(vI e1), (vI e2), (vI e3)])), (41, (vI res)), (42, (vI now)), (13, (vP b638 0)), (39, (vA #[(vS s.d.name), (vI s.d.rt), (vI s.d.dl), (vL sa s.d.xs.length cp), (vI s.st), (vI s.ix), (vB s.cn), (vI s.tr), (vI s.bg), (vI s.er)])), (43, (vT #[(vA #[(vS s623.d.name), (vI s623.d.rt), (vI s623.d.dl), (vL w669 s623.d.xs.length c670), (vI s623.st), (vI s623.ix), (vB s623.cn), (vI s623.tr), (vI s623.bg), (vI s623.er)]), (vI 0)])), (37, (vT #[(vA #[(vS s623.d.name), (vI s623.d.rt), (vI s623.d.dl), (vL w669 s623.d.xs.length c670), (vI s623.st), (vI s623.ix), (vB s623.cn), (vI s623.tr), (vI s623.bg), (vI s623.er)]), (vI 0)])), (44, (vA #[(vS s623.d.name), (vI s623.d.rt), (vI s623.d.dl), (vL w669 s623.d.xs.length c670), (vI s623.st), (vI s623.ix), (vB s623.cn), (vI s623.tr), (vI s623.bg), (vI s623.er)])), (45, (vI 0)), (14, (vI 0)), (46, (vA #[(vS s623.d.name), (vI s623.d.rt), (vI s623.d.dl), (vL w618 s623.d.xs.length c619), (vI s623.st), (vI s623.ix), (vB s623.cn), (vI s623.tr), (vI s623.bg), (vI s623.er)])), (49, (vA #[(vS s623.d.name), (vI s623.d.rt), (vI s623.d.dl), (vL w669 s623.d.xs.length c670), (vI s623.st), (vI s623.ix), (vB s623.cn), (vI s623.tr), (vI s623.bg), (vI s623.er)])), (47, (vA #[(vS s623.d.name), (vI s623.d.rt), (vI s623.d.dl), (vL w618 s623.d.xs.length c619), (vI s623.st), (vI s623.ix), (vB s623.cn), (vI s623.tr), (vI s623.bg), (vI s623.er)])), (48, (vA #[(vS s623.d.name), (vI s623.d.rt), (vI s623.d.dl), (vL w618 s623.d.xs.length c619), (vI s623.st), (vI s623.ix), (vB s623.cn), (vI s623.tr), (vI s623.bg), (vI s623.er)])), (50, (vB true)), (51, (vB true)), (52, (vI 0)), (53, (vI 0)), (54, (vB true)), (55, (vB true)), (56, (vB true)), (57, (vB true)), (58, (vB true)), (10, (vB true))] ?_
        exact end_ev [] (vB true) (hK _ _ (⟨rfl, x705⟩))
      · obtain ⟨h706, e707⟩ : ∃ zq, zq = h608.setIfInBounds b588 (.cells #[(vS .empty), (vI 0), (vI 0), (Value.slice none 0 0), (vI 0), (vI 0), (vB false), (vI 0), (vI 0), (vI 0)] 41 (0, 0)) := ⟨_, rfl⟩
        have f708 := set_same e707 f615
        have f709 := set_other e707 f613 n593
        have f710 := set_other e707 f614 n594
        have x711 := Ext.setNew x616 e707 o596
        obtain ⟨b712, eb713⟩ : ∃ zq, zq = h706.size := ⟨_, rfl⟩
        obtain ⟨h714, e715⟩ : ∃ zq, zq = h706.push (.cells #[(vS .empty), (vI 0), (vI 0), (Value.slice none 0 0), (vI 0), (vI 0), (vB false), (vI 0), (vI 0), (vI 0)] 37 (0, 0)) := ⟨_, rfl⟩
        have f716 := push_new e715
        rw [← eb713] at f716
        have n717 : b712 ≠ b588 := by have := row_lt f708; omega
        have x718 : Ext h706 h714 := by rw [e715]; exact Ext.push _ _
        have o719 : h.size ≤ b712 := by have := x711.size; omega
        have f720 := x718 _ _ f710
        have f721 := x718 _ _ f708
        have x722 := x711.trans x718
        obtain ⟨_, hh723, sn724, rfl, x725⟩ := refV_ok h714 s _ _ (hl.keep fun b r _ q => x722 b r q) (by omega) 
        have f726 := x725 _ _ f720
        have f727 := x725 _ _ f721
        have f728 := x725 _ _ f716
        have x729 := x722.trans x725
        obtain ⟨v730, h731, s732, p733, p734, x735⟩ := rresult_ok hh723 s _ _ (hl.keep fun b r _ q => x729 b r q) (by omega) hnm hks (e1) (e2) (e3) (res) (now)
        have f736 := x735 _ _ f727
        have f737 := x735 _ _ f728
        have x738 := x729.trans x735
        obtain ⟨h739, e740⟩ : ∃ zq, zq = h731.setIfInBounds b712 (.cells #[(vS .empty), (vI 0), (vI 0), (Value.slice none 0 0), (vI 0), (vI 0), (vB false), (vI 0), (vI 0), (vI 0)] 37 (0, 0)) := ⟨_, rfl⟩
        have f741 := set_same e740 f737
        have f742 := set_other e740 f736 n717
        have x743 := Ext.setNew x738 e740 o719
        obtain ⟨_, hh744, sn745, rfl, x746⟩ := backV_ok h739 (SagaM.mk (DefM.mk .empty 0 0 ([] : List StepM)) 0 0 false 0 0 0) _ _ lat_none (by decide) 
        have f747 := x746 _ _ f741
        have x748 := x743.trans x746
        obtain ⟨_, hh749, sn750, rfl, x751⟩ := refV_ok hh744 (SagaM.mk (DefM.mk .empty 0 0 ([] : List StepM)) 0 0 false 0 0 0) _ _ lat_none (by decide) 
        have f752 := x751 _ _ f747
        have x753 := x748.trans x751
        obtain ⟨_, hh754, sn755, rfl, x756⟩ := same_ok hh749 (SagaM.mk (DefM.mk .empty 0 0 ([] : List StepM)) 0 0 false 0 0 0) _ _ lat_none (by decide) _ _ lat_none
        have x757 := x753.trans x756
        obtain ⟨_, hh758, sn759, rfl, x760⟩ := works_ok hh754 (x757 _ _ hg0) (x757 _ _ hg1)
        have x761 := x757.trans x760
        refine wc_ev [evA 0 0 eb2 e4, evA 0 1 eb10 e12, evL 1 1 0 agg24 size24 f17, evFb 1 2 c27 s20, evM 3 0 c28, evLw 5 0 agg27 size27 f24, evLw 5 2 agg29 size29 f25, evA 5 9 eb589 e591, evF 5 1 sn601, evLw 99 0 agg29 size29 f604, evFe 5 5 (p610 c617) s609, evUw 5 10 size41 f615 e707, evLw 6 0 agg27 size27 f709, evLw 6 2 agg29 size29 f710, evA 6 9 eb713 e715, evF 6 1 sn724, evLw 99 0 agg29 size29 f726, evFe 6 5 (p733 c617) s732, evUw 6 10 size37 f737 e740, evLw 7 0 agg41 size41 f742, evLw 7 3 agg37 size37 f741, evF 7 1 sn745, evLw 99 0 agg37 size37 f747, evF 7 2 sn750, evLw 99 0 agg37 size37 f752, evF 7 4 sn755, eqT 7 8 25 (Eq.refl ((resE s (e1) (e2) (e3) (res) (now)) : Int)), evF 7 11 sn759] .ret hh758 [(5, (vP b1 0)), (6, (vP b9 0)), (10, (vB false)), (15, (vP b1 0)), (16, (vA #[(vS s.d.name), (vI s.d.rt), (vI s.d.dl), (vL sa s.d.xs.length cp)])), (17, (vB true)), (18, (vB false)), (20, (vB false)), (29, (vA #[(vS s.d.name), (vI s.d.rt), (vI s.d.dl), (vL sa s.d.xs.length cp), (vI s.st), (vI s.ix), (vB s.cn), (vI s.tr), (vI s.bg), (vI s.er)])), (31, (vA #[(vI e1), (vI e2), (vI e3)])), (32, (vI res)), (33, (vI now)), (11, (vP b588 0)), (30, (vA #[(vS s.d.name), (vI s.d.rt), (vI s.d.dl), (vL sa s.d.xs.length cp), (vI s.st), (vI s.ix), (vB s.cn), (vI s.tr), (vI s.bg), (vI s.er)])), (34, (vT #[(vA #[(vS .empty), (vI 0), (vI 0), (vL none 0 0), (vI 0), (vI 0), (vB false), (vI 0), (vI 0), (vI 0)]), (vI (resE s (e1) (e2) (e3) (res) (now)))])), (28, (vT #[(vA #[(vS .empty), (vI 0), (vI 0), (vL none 0 0), (vI 0), (vI 0), (vB false), (vI 0), (vI 0), (vI 0)]), (vI (resE s (e1) (e2) (e3) (res) (now)))])), (35, (vA #[(vS .empty), (vI 0), (vI 0), (vL none 0 0), (vI 0), (vI 0), (vB false), (vI 0), (vI 0), (vI 0)])), (36, (vI (resE s (e1) (e2) (e3) (res) (now)))), (12, (vI (resE s (e1) (e2) (e3) (res) (now)))), (38, (vA #[(vS s.d.name), (vI s.d.rt), (vI s.d.dl), (vL sa s.d.xs.length cp), (vI s.st), (vI s.ix), (vB s.cn), (vI s.tr), (vI s.bg), (vI s.er)])), (40, (vA #[(vI e1), (vI e2), (vI e3)])), (41, (vI res)), (42, (vI now)), (13, (vP b712 0)), (39, (vA #[(vS s.d.name), (vI s.d.rt), (vI s.d.dl), (vL sa s.d.xs.length cp), (vI s.st), (vI s.ix), (vB s.cn), (vI s.tr), (vI s.bg), (vI s.er)])), (43, (vT #[(vA #[(vS .empty), (vI 0), (vI 0), (vL none 0 0), (vI 0), (vI 0), (vB false), (vI 0), (vI 0), (vI 0)]), (vI (resE s (e1) (e2) (e3) (res) (now)))])), (37, (vT #[(vA #[(vS .empty), (vI 0), (vI 0), (vL none 0 0), (vI 0), (vI 0), (vB false), (vI 0), (vI 0), (vI 0)]), (vI (resE s (e1) (e2) (e3) (res) (now)))])), (44, (vA #[(vS .empty), (vI 0), (vI 0), (vL none 0 0), (vI 0), (vI 0), (vB false), (vI 0), (vI 0), (vI 0)])), (45, (vI (resE s (e1) (e2) (e3) (res) (now)))), (14, (vI (resE s (e1) (e2) (e3) (res) (now)))), (46, (vA #[(vS .empty), (vI 0), (vI 0), (vL none 0 0), (vI 0), (vI 0), (vB false), (vI 0), (vI 0), (vI 0)])), (49, (vA #[(vS .empty), (vI 0), (vI 0), (vL none 0 0), (vI 0), (vI 0), (vB false), (vI 0), (vI 0), (vI 0)])), (47, (vA #[(vS .empty), (vI 0), (vI 0), (vL none 0 0), (vI 0), (vI 0), (vB false), (vI 0), (vI 0), (vI 0)])), (48, (vA #[(vS .empty), (vI 0), (vI 0), (vL none 0 0), (vI 0), (vI 0), (vB false), (vI 0), (vI 0), (vI 0)])), (50, (vB true)), (51, (vB true)), (52, (vI (resE s (e1) (e2) (e3) (res) (now)))), (53, (vI (resE s (e1) (e2) (e3) (res) (now)))), (54, (vB true)), (55, (vB true)), (56, (vB true)), (57, (vB true)), (58, (vB true)), (10, (vB true))] ?_
        exact end_ev [] (vB true) (hK _ _ (⟨rfl, x761⟩))
  · obtain ⟨_, hh762, sn763, rfl, x764⟩ := works_ok h19 (x26 _ _ hg0) (x26 _ _ hg1)
    have x765 := x26.trans x764
    refine wc_ev [evA 0 0 eb2 e4, evA 0 1 eb10 e12, evL 1 1 0 agg24 size24 f17, evFb 1 2 c27 s20, evF 2 0 sn763] .ret hh762 [(5, (vP b1 0)), (6, (vP b9 0)), (10, (vB false)), (15, (vP b1 0)), (16, (vA #[(vS s.d.name), (vI s.d.rt), (vI s.d.dl), (vL sa s.d.xs.length cp)])), (17, (vB false)), (18, (vB true)), (19, (vB true)), (10, (vB true))] ?_
    exact end_ev [] (vB true) (hK _ _ (⟨rfl, x765⟩))
theorem law_results_x (h : Heap) (nm : ByteArray) (hnm : nm.size ≤ 9223372036854775807) (rt : Int) (_irt : -9223372036854775808 ≤ rt ∧ rt ≤ 9223372036854775807) (dl : Int) (_idl : -9223372036854775808 ≤ dl ∧ dl ≤ 9223372036854775807) (xs : List StepM) (sa : Option Addr) (cp : Nat) (k : LAt h stepc 2 xs (.slice sa xs.length cp)) (l : xs.length ≤ 9223372036854775807) (q : ∀ x ∈ xs, x.key.size ≤ 9223372036854775807) (st : Int) (_ist : -9223372036854775808 ≤ st ∧ st ≤ 9223372036854775807) (ix : Int) (_iix : -9223372036854775808 ≤ ix ∧ ix ≤ 9223372036854775807) (cn : Bool) (tr : Int) (_itr : -9223372036854775808 ≤ tr ∧ tr ≤ 9223372036854775807) (bg : Int) (_ibg : -9223372036854775808 ≤ bg ∧ bg ≤ 9223372036854775807) (er : Int) (_ier : -9223372036854775808 ≤ er ∧ er ≤ 9223372036854775807) (e1 : Int) (_ie1 : -9223372036854775808 ≤ e1 ∧ e1 ≤ 9223372036854775807) (e2 : Int) (_ie2 : -9223372036854775808 ≤ e2 ∧ e2 ≤ 9223372036854775807) (e3 : Int) (_ie3 : -9223372036854775808 ≤ e3 ∧ e3 ≤ 9223372036854775807) (nx : Bool) (res : Int) (_ires : -9223372036854775808 ≤ res ∧ res ≤ 9223372036854775807) (now : Int) (_inow : -9223372036854775808 ≤ now ∧ now ≤ 9223372036854775807) (hg0 : h[0]? = some (.cells #[Value.nilFunc, (Value.func (.func 126) #[] #[]), (Value.func (.func 127) #[] #[]), (Value.func (.func 128) #[] #[])] 86 (0, 0))) (hg1 : h[1]? = some (.cells #[(vI 0), (vI 1), (vI 3), (vI 2)] 96 (0, 0))) : WCall Tryd.prog 3 #[.agg #[.string nm, .int .i64 rt, .int .i64 dl, .slice sa xs.length cp, .int .i64 st, .int .i64 ix, .bool cn, .int .i64 tr, .int .i64 bg, .int .i64 er], .agg #[.int .i64 e1, .int .i64 e2, .int .i64 e3], .bool nx, .int .i64 res, .int .i64 now] h (fun v h1 => v = .bool true ∧ Ext h h1) := law_results h ⟨⟨nm, rt, dl, xs⟩, st, ix, cn, tr, bg, er⟩ sa cp k l hnm q e1 e2 e3 nx res now hg0 hg1
end C28
