/- The run of SagaShows. -/
import Derived.Test.YtonjnghiehdmmaaDoorMl
import Derived.Test.YtonjnghiehdmmaaDoorMi
import Derived.KernelRfl
open Go Go.AM Go.Proofs
namespace C28
set_option maxRecDepth 10000 in
set_option maxHeartbeats 4000000 in
theorem law_shows (h : Heap) (s : SagaM) (sa : Option Addr) (cp : Nat) (hl : LAt h stepc 2 s.d.xs (.slice sa s.d.xs.length cp)) (hlen : s.d.xs.length ≤ 9223372036854775807) (hnm : s.d.name.size ≤ 9223372036854775807) (hks : ∀ x ∈ s.d.xs, x.key.size ≤ 9223372036854775807) (hg0 : h[0]? = some (.cells #[Value.nilFunc, (Value.func (.func 126) #[] #[]), (Value.func (.func 127) #[] #[]), (Value.func (.func 128) #[] #[])] 86 (0, 0))) (hg1 : h[1]? = some (.cells #[(vI 0), (vI 1), (vI 3), (vI 2)] 96 (0, 0))) : WCall Tryd.prog 10 #[(Value.agg #[(vS s.d.name), (vI (s.d.rt)), (vI (s.d.dl)), (Value.slice sa (s.d.xs.length) (cp)), (vI (s.st)), (vI (s.ix)), (vB s.cn), (vI (s.tr)), (vI (s.bg)), (vI (s.er))])] h (fun v h1 => v = .bool true ∧ Ext h h1) := by
  suffices H : ∀ K : Value → Heap → Prop, (∀ v h1, (fun v h1 => v = .bool true ∧ Ext h h1) v h1 → K v h1) → WCall Tryd.prog 10 #[(Value.agg #[(vS s.d.name), (vI (s.d.rt)), (vI (s.d.dl)), (Value.slice sa (s.d.xs.length) (cp)), (vI (s.st)), (vI (s.ix)), (vB s.cn), (vI (s.tr)), (vI (s.bg)), (vI (s.er))])] h K from H _ fun _ _ q => q
  intro K hK
  refine wcall_at { tmps := #[(vA #[(vS s.d.name), (vI s.d.rt), (vI s.d.dl), (vL sa s.d.xs.length cp), (vI s.st), (vI s.ix), (vB s.cn), (vI s.tr), (vI s.bg), (vI s.er)]), vZ, vZ, vZ, vZ, vZ, vZ, vZ, vZ, vZ, vZ, vZ, vZ, vZ, vZ, vZ, vZ, vZ, vZ, vZ, vZ, vZ, vZ, vZ, vZ, vZ, vZ, vZ, vZ, vZ, vZ, vZ, vZ, vZ, vZ, vZ, vZ, vZ, vZ, vZ, vZ, vZ, vZ, vZ, vZ, vZ, vZ, vZ, vZ, vZ, vZ, vZ, vZ, vZ, vZ, vZ, vZ, vZ, vZ, vZ, vZ, vZ, vZ, vZ, vZ, vZ, vZ, vZ, vZ, vZ, vZ, vZ, vZ, vZ, vZ, vZ, vZ, vZ, vZ, vZ, vZ, vZ, vZ, vZ, vZ, vZ, vZ, vZ, vZ, vZ, vZ, vZ, vZ, vZ, vZ, vZ, vZ, vZ, vZ, vZ, vZ, vZ, vZ, vZ, vZ, vZ, vZ, vZ, vZ, vZ, vZ, vZ, vZ, vZ, vZ, vZ, vZ, vZ, vZ, vZ, vZ, vZ, vZ, vZ, vZ, vZ, vZ, vZ, vZ, vZ, vZ], defers := [] } (by kernel_rfl) ?_
  obtain ⟨b1, eb2⟩ : ∃ zq, zq = h.size := ⟨_, rfl⟩
  obtain ⟨h3, e4⟩ : ∃ zq, zq = h.push (.cells #[(vS s.d.name), (vI (s.d.rt)), (vI (s.d.dl)), (Value.slice sa (s.d.xs.length) (cp)), (vI (s.st)), (vI (s.ix)), (vB s.cn), (vI (s.tr)), (vI (s.bg)), (vI (s.er))] 27 (0, 0)) := ⟨_, rfl⟩
  have f5 := push_new e4
  rw [← eb2] at f5
  have x6 : Ext h h3 := by rw [e4]; exact Ext.push _ _
  have o7 : h.size ≤ b1 := by have := (Ext.refl h).size; omega
  have x8 := (Ext.refl h).trans x6
  obtain ⟨_, h9, s10, q11, rfl, u12, x13⟩ := short_ok h3 s.d _ _ (hl.keep fun b r _ q => x8 b r q) (by omega)
  have f14 := x13 _ _ f5
  have x15 := x8.trans x13
  rcases Bool.eq_false_or_eq_true (q11) with c16 | c16
  · have := u12 c16
    obtain ⟨_, hh17, sn18, rfl, x19⟩ := givenV_ok h9 s _ _ (hl.keep fun b r _ q => x15 b r q) (by omega) 
    have f20 := x19 _ _ f14
    have x21 := x15.trans x19
    obtain ⟨_, h22, s23, rfl, x24⟩ := nextV_ok hh17 s _ _ (hl.keep fun b r _ q => x21 b r q) (by omega) (x21 _ _ hg0) (x21 _ _ hg1)
    have f25 := x24 _ _ f20
    have x26 := x21.trans x24
    by_cases c27 : ((chkS s) : Int) = 0
    · obtain ⟨z6845d, z6845b, z6845o⟩ := chkS_zero c27
      have := defB_of z6845d
      have := budB_of z6845b
      have z6845i := okI_of z6845o
      have := z6845i.1
      by_cases c28 : ((s.st) : Int) < 4
      · obtain ⟨b29, eb30⟩ : ∃ zq, zq = h22.size := ⟨_, rfl⟩
        obtain ⟨h31, e32⟩ : ∃ zq, zq = h22.push (.cells #[(vI 0), (vI 0), (vI 0)] 29 (0, 0)) := ⟨_, rfl⟩
        have f33 := push_new e32
        rw [← eb30] at f33
        have n34 : b29 ≠ b1 := by have := row_lt f25; omega
        have x35 : Ext h22 h31 := by rw [e32]; exact Ext.push _ _
        have o36 : h.size ≤ b29 := by have := x26.size; omega
        have f37 := x35 _ _ f25
        have x38 := x26.trans x35
        obtain ⟨h39, e40⟩ : ∃ zq, zq = h31.setIfInBounds b29 (.cells #[(vI 0), (vI (s.ix)), (vI (phS (s.st)))] 29 (0, 0)) := ⟨_, rfl⟩
        have f41 := set_same e40 f33
        have f42 := set_other e40 f37 n34
        have x43 := Ext.setNew x38 e40 o36
        obtain ⟨_, hh44, sn45, rfl, x46⟩ := refV_ok h39 s _ _ (hl.keep fun b r _ q => x43 b r q) (by omega) 
        have f47 := x46 _ _ f42
        have f48 := x46 _ _ f41
        have x49 := x43.trans x46
        obtain ⟨_, h50, s51, rfl, x52⟩ := rnextV_can hh44 s _ _ (hl.keep fun b r _ q => x49 b r q) (by omega) hnm hks
        have f53 := x52 _ _ f47
        have f54 := x52 _ _ f48
        have x55 := x49.trans x52
        obtain ⟨z6878d, z6878b, z6878o⟩ := chkS_zero c27
        have := defB_of z6878d
        have := budB_of z6878b
        have z6878i := okI_of z6878o
        have := z6878i.1
        obtain ⟨b56, eb57⟩ : ∃ zq, zq = h50.size := ⟨_, rfl⟩
        obtain ⟨h58, e59⟩ : ∃ zq, zq = h50.push (.cells #[(vI 0), (vI 0), (vI 0)] 29 (0, 0)) := ⟨_, rfl⟩
        have f60 := push_new e59
        rw [← eb57] at f60
        have n61 : b56 ≠ b1 := by have := row_lt f53; omega
        have n62 : b56 ≠ b29 := by have := row_lt f54; omega
        have x63 : Ext h50 h58 := by rw [e59]; exact Ext.push _ _
        have o64 : h.size ≤ b56 := by have := x55.size; omega
        have f65 := x63 _ _ f53
        have f66 := x63 _ _ f54
        have x67 := x55.trans x63
        obtain ⟨h68, e69⟩ : ∃ zq, zq = h58.setIfInBounds b56 (.cells #[(vI 0), (vI (s.ix)), (vI (phS (s.st)))] 29 (0, 0)) := ⟨_, rfl⟩
        have f70 := set_same e69 f60
        have f71 := set_other e69 f65 n61
        have f72 := set_other e69 f66 n62
        have x73 := Ext.setNew x67 e69 o64
        obtain ⟨_, hh74, sn75, rfl, x76⟩ := givenV_ok h68 s _ _ (hl.keep fun b r _ q => x73 b r q) (by omega) 
        have f77 := x76 _ _ f71
        have f78 := x76 _ _ f72
        have f79 := x76 _ _ f70
        have x80 := x73.trans x76
        obtain ⟨_, h81, s82, rfl, x83⟩ := endV_ok hh74 s _ _ (hl.keep fun b r _ q => x80 b r q) (by omega)
        have f84 := x83 _ _ f77
        have f85 := x83 _ _ f78
        have f86 := x83 _ _ f79
        have x87 := x80.trans x83
        obtain ⟨z6915d, z6915b, z6915o⟩ := chkS_zero c27
        have := defB_of z6915d
        have := budB_of z6915b
        have z6915i := okI_of z6915o
        have := z6915i.1
        obtain ⟨_, hh88, sn89, rfl, x90⟩ := refV_ok h81 s _ _ (hl.keep fun b r _ q => x87 b r q) (by omega) 
        have f91 := x90 _ _ f84
        have f92 := x90 _ _ f85
        have f93 := x90 _ _ f86
        have x94 := x87.trans x90
        obtain ⟨_, h95, s96, rfl, x97⟩ := rendV_can hh88 s _ _ (hl.keep fun b r _ q => x94 b r q) (by omega) hnm hks
        have f98 := x97 _ _ f91
        have f99 := x97 _ _ f92
        have f100 := x97 _ _ f93
        have x101 := x94.trans x97
        obtain ⟨z6930d, z6930b, z6930o⟩ := chkS_zero c27
        have := defB_of z6930d
        have := budB_of z6930b
        have z6930i := okI_of z6930o
        have := z6930i.1
        obtain ⟨_, hh102, sn103, rfl, x104⟩ := givenV_ok h95 s _ _ (hl.keep fun b r _ q => x101 b r q) (by omega) 
        have f105 := x104 _ _ f98
        have f106 := x104 _ _ f99
        have f107 := x104 _ _ f100
        have x108 := x101.trans x104
        obtain ⟨_, hh109, sn110, rfl, x111⟩ := stpV_ok hh102 s _ _ (hl.keep fun b r _ q => x108 b r q) (by omega) (by omega)
        have f112 := x111 _ _ f105
        have f113 := x111 _ _ f106
        have f114 := x111 _ _ f107
        have x115 := x108.trans x111
        obtain ⟨_, hh116, sn117, rfl, x118⟩ := refV_ok hh109 s _ _ (hl.keep fun b r _ q => x115 b r q) (by omega) 
        have f119 := x118 _ _ f112
        have f120 := x118 _ _ f113
        have f121 := x118 _ _ f114
        have x122 := x115.trans x118
        obtain ⟨_, hh123, sn124, rfl, x125⟩ := rstpV_can hh116 s _ _ (hl.keep fun b r _ q => x122 b r q) (by omega) hnm hks (by omega)
        have f126 := x125 _ _ f119
        have f127 := x125 _ _ f120
        have f128 := x125 _ _ f121
        have x129 := x122.trans x125
        obtain ⟨_, hh130, sn131, rfl, x132⟩ := givenV_ok hh123 s _ _ (hl.keep fun b r _ q => x129 b r q) (by omega) 
        have f133 := x132 _ _ f126
        have f134 := x132 _ _ f127
        have f135 := x132 _ _ f128
        have x136 := x129.trans x132
        obtain ⟨_, hh137, sn138, rfl, x139⟩ := txtV_ok hh130 s _ _ (hl.keep fun b r _ q => x136 b r q) (by omega) 
        have f140 := x139 _ _ f133
        have f141 := x139 _ _ f134
        have f142 := x139 _ _ f135
        have x143 := x136.trans x139
        obtain ⟨_, hh144, sn145, rfl, x146⟩ := refV_ok hh137 s _ _ (hl.keep fun b r _ q => x143 b r q) (by omega) 
        have f147 := x146 _ _ f140
        have f148 := x146 _ _ f141
        have f149 := x146 _ _ f142
        have x150 := x143.trans x146
        obtain ⟨_, hh151, sn152, rfl, x153⟩ := rtxtV_can hh144 s _ _ (hl.keep fun b r _ q => x150 b r q) (by omega) hnm hks 
        have f154 := x153 _ _ f147
        have f155 := x153 _ _ f148
        have f156 := x153 _ _ f149
        have x157 := x150.trans x153
        obtain ⟨_, hh158, sn159, rfl, x160⟩ := givenV_ok hh151 s _ _ (hl.keep fun b r _ q => x157 b r q) (by omega) 
        have f161 := x160 _ _ f154
        have x162 := x157.trans x160
        obtain ⟨_, h163, s164, rfl, x165⟩ := scheck_ok hh158 s _ _ (hl.keep fun b r _ q => x162 b r q) (by omega)
        have f166 := x165 _ _ f161
        have x167 := x162.trans x165
        obtain ⟨z7001d, z7001b, z7001o⟩ := chkS_zero c27
        have := defB_of z7001d
        have := budB_of z7001b
        have z7001i := okI_of z7001o
        have := z7001i.1
        obtain ⟨_, hh168, sn169, rfl, x170⟩ := refV_ok h163 s _ _ (hl.keep fun b r _ q => x167 b r q) (by omega) 
        have x171 := x167.trans x170
        obtain ⟨_, h172, s173, rfl, x174⟩ := rscheck_ok hh168 s _ _ (hl.keep fun b r _ q => x171 b r q) (by omega) hnm hks
        have x175 := x171.trans x174
        obtain ⟨z7016d, z7016b, z7016o⟩ := chkS_zero c27
        have := defB_of z7016d
        have := budB_of z7016b
        have z7016i := okI_of z7016o
        have := z7016i.1
        obtain ⟨_, hh176, sn177, rfl, x178⟩ := works_ok h172 (x175 _ _ hg0) (x175 _ _ hg1)
        have x179 := x175.trans x178
        refine wc_ev [evA 0 0 eb2 e4, evL 1 1 0 agg24 size24 f5, evFb 1 2 c16 s10, evLw 3 0 agg27 size27 f14, evF 3 1 sn18, evF 3 2 (by rw [nextV_open c27 c28] at s23; exact s23), evA 3 7 eb30 e32, evUw 3 8 size29 f33 e40, evLw 4 0 agg27 size27 f42, evF 4 1 sn45, evF 4 2 (by rw [nextV_open c27 c28] at s51; exact s51), evA 4 7 eb57 e59, evUw 4 8 size29 f60 e69, evLw 5 0 agg27 size27 f71, evF 5 1 sn75, evF 5 2 (by rw [endV_open c27 c28] at s82; exact s82), evLw 6 0 agg27 size27 f84, evF 6 1 sn89, evF 6 2 (by rw [endV_open c27 c28] at s96; exact s96), evLw 7 0 agg27 size27 f98, evF 7 1 sn103, evF 7 2 sn110, evLw 8 0 agg27 size27 f112, evF 8 1 sn117, evF 8 2 sn124, evLw 9 0 agg27 size27 f126, evF 9 1 sn131, evF 9 2 sn138, evLw 10 0 agg27 size27 f140, evF 10 1 sn145, evF 10 2 sn152, evLw 11 0 agg29 size29 f155, evLw 11 1 agg29 size29 f156, evV 11 2 (vB true) (show binA Tryd.prog .eql 29 (vA #[(vI 0), (vI s.ix), (vI (phS (s.st)))]) (vA #[(vI 0), (vI s.ix), (vI (phS (s.st)))]) = some (vB true) from cmp29_eql (decide_eq_true ⟨rfl, rfl, rfl⟩)), eqT 11 26 3 (Eq.refl (((stpV s).1) : Int)), eqT 11 31 25 (Eq.refl (((stpV s).2) : Int)), seT 11 36 9 (Eq.refl ((txtV s).1 : ByteArray)), eqT 11 41 25 (Eq.refl (((txtV s).2) : Int)), evLw 11 44 agg27 size27 f154, evLw 11 47 agg27 size27 f154, evF 11 45 sn159, evLw 99 0 agg27 size27 f161, evFi 11 46 c27 s164, evLw 99 0 agg27 size27 f166, evF 11 48 sn169, evFi 11 49 c27 s173, evF 11 53 sn177] .ret hh176 [(1, (vP b1 0)), (2, (vB false)), (21, (vP b1 0)), (22, (vA #[(vS s.d.name), (vI s.d.rt), (vI s.d.dl), (vL sa s.d.xs.length cp)])), (23, (vB true)), (24, (vB false)), (27, (vA #[(vS s.d.name), (vI s.d.rt), (vI s.d.dl), (vL sa s.d.xs.length cp), (vI s.st), (vI s.ix), (vB s.cn), (vI s.tr), (vI s.bg), (vI s.er)])), (28, (vA #[(vS s.d.name), (vI s.d.rt), (vI s.d.dl), (vL sa s.d.xs.length cp), (vI s.st), (vI s.ix), (vB s.cn), (vI s.tr), (vI s.bg), (vI s.er)])), (29, (vT #[(vA #[(vI 0), (vI s.ix), (vI (phS (s.st)))]), (vB true), (vI 0)])), (26, (vT #[(vA #[(vI 0), (vI s.ix), (vI (phS (s.st)))]), (vB true), (vI 0)])), (30, (vA #[(vI 0), (vI s.ix), (vI (phS (s.st)))])), (31, (vB true)), (32, (vI 0)), (3, (vP b29 0)), (4, (vB true)), (5, (vI 0)), (34, (vA #[(vS s.d.name), (vI s.d.rt), (vI s.d.dl), (vL sa s.d.xs.length cp), (vI s.st), (vI s.ix), (vB s.cn), (vI s.tr), (vI s.bg), (vI s.er)])), (35, (vA #[(vS s.d.name), (vI s.d.rt), (vI s.d.dl), (vL sa s.d.xs.length cp), (vI s.st), (vI s.ix), (vB s.cn), (vI s.tr), (vI s.bg), (vI s.er)])), (36, (vT #[(vA #[(vI 0), (vI s.ix), (vI (phS (s.st)))]), (vB true), (vI 0)])), (33, (vT #[(vA #[(vI 0), (vI s.ix), (vI (phS (s.st)))]), (vB true), (vI 0)])), (37, (vA #[(vI 0), (vI s.ix), (vI (phS (s.st)))])), (38, (vB true)), (39, (vI 0)), (6, (vP b56 0)), (7, (vB true)), (8, (vI 0)), (41, (vA #[(vS s.d.name), (vI s.d.rt), (vI s.d.dl), (vL sa s.d.xs.length cp), (vI s.st), (vI s.ix), (vB s.cn), (vI s.tr), (vI s.bg), (vI s.er)])), (42, (vA #[(vS s.d.name), (vI s.d.rt), (vI s.d.dl), (vL sa s.d.xs.length cp), (vI s.st), (vI s.ix), (vB s.cn), (vI s.tr), (vI s.bg), (vI s.er)])), (43, (vT #[(vB false), (vI 0)])), (40, (vT #[(vB false), (vI 0)])), (44, (vB false)), (45, (vI 0)), (9, (vB false)), (10, (vI 0)), (47, (vA #[(vS s.d.name), (vI s.d.rt), (vI s.d.dl), (vL sa s.d.xs.length cp), (vI s.st), (vI s.ix), (vB s.cn), (vI s.tr), (vI s.bg), (vI s.er)])), (48, (vA #[(vS s.d.name), (vI s.d.rt), (vI s.d.dl), (vL sa s.d.xs.length cp), (vI s.st), (vI s.ix), (vB s.cn), (vI s.tr), (vI s.bg), (vI s.er)])), (49, (vT #[(vB false), (vI 0)])), (46, (vT #[(vB false), (vI 0)])), (50, (vB false)), (51, (vI 0)), (11, (vB false)), (12, (vI 0)), (53, (vA #[(vS s.d.name), (vI s.d.rt), (vI s.d.dl), (vL sa s.d.xs.length cp), (vI s.st), (vI s.ix), (vB s.cn), (vI s.tr), (vI s.bg), (vI s.er)])), (54, (vA #[(vS s.d.name), (vI s.d.rt), (vI s.d.dl), (vL sa s.d.xs.length cp), (vI s.st), (vI s.ix), (vB s.cn), (vI s.tr), (vI s.bg), (vI s.er)])), (55, (vT #[(vI ((stpV s).1)), (vI ((stpV s).2))])), (52, (vT #[(vI ((stpV s).1)), (vI ((stpV s).2))])), (56, (vI ((stpV s).1))), (57, (vI ((stpV s).2))), (13, (vI ((stpV s).1))), (14, (vI ((stpV s).2))), (59, (vA #[(vS s.d.name), (vI s.d.rt), (vI s.d.dl), (vL sa s.d.xs.length cp), (vI s.st), (vI s.ix), (vB s.cn), (vI s.tr), (vI s.bg), (vI s.er)])), (60, (vA #[(vS s.d.name), (vI s.d.rt), (vI s.d.dl), (vL sa s.d.xs.length cp), (vI s.st), (vI s.ix), (vB s.cn), (vI s.tr), (vI s.bg), (vI s.er)])), (61, (vT #[(vI ((stpV s).1)), (vI ((stpV s).2))])), (58, (vT #[(vI ((stpV s).1)), (vI ((stpV s).2))])), (62, (vI ((stpV s).1))), (63, (vI ((stpV s).2))), (15, (vI ((stpV s).1))), (16, (vI ((stpV s).2))), (65, (vA #[(vS s.d.name), (vI s.d.rt), (vI s.d.dl), (vL sa s.d.xs.length cp), (vI s.st), (vI s.ix), (vB s.cn), (vI s.tr), (vI s.bg), (vI s.er)])), (66, (vA #[(vS s.d.name), (vI s.d.rt), (vI s.d.dl), (vL sa s.d.xs.length cp), (vI s.st), (vI s.ix), (vB s.cn), (vI s.tr), (vI s.bg), (vI s.er)])), (67, (vT #[(vS (txtV s).1), (vI ((txtV s).2))])), (64, (vT #[(vS (txtV s).1), (vI ((txtV s).2))])), (68, (vS (txtV s).1)), (69, (vI ((txtV s).2))), (17, (vS (txtV s).1)), (18, (vI ((txtV s).2))), (71, (vA #[(vS s.d.name), (vI s.d.rt), (vI s.d.dl), (vL sa s.d.xs.length cp), (vI s.st), (vI s.ix), (vB s.cn), (vI s.tr), (vI s.bg), (vI s.er)])), (72, (vA #[(vS s.d.name), (vI s.d.rt), (vI s.d.dl), (vL sa s.d.xs.length cp), (vI s.st), (vI s.ix), (vB s.cn), (vI s.tr), (vI s.bg), (vI s.er)])), (73, (vT #[(vS (txtV s).1), (vI ((txtV s).2))])), (70, (vT #[(vS (txtV s).1), (vI ((txtV s).2))])), (74, (vS (txtV s).1)), (75, (vI ((txtV s).2))), (19, (vS (txtV s).1)), (20, (vI ((txtV s).2))), (76, (vA #[(vI 0), (vI s.ix), (vI (phS (s.st)))])), (77, (vA #[(vI 0), (vI s.ix), (vI (phS (s.st)))])), (78, (vB true)), (79, (vB true)), (80, (vB true)), (81, (vB true)), (82, (vB true)), (83, (vB true)), (84, (vB true)), (85, (vI 0)), (86, (vI 0)), (87, (vB true)), (88, (vB true)), (89, (vB true)), (90, (vB false)), (91, (vB false)), (92, (vB true)), (93, (vB true)), (94, (vB true)), (95, (vI 0)), (96, (vI 0)), (97, (vB true)), (98, (vB true)), (99, (vB true)), (100, (vI ((stpV s).1))), (101, (vI ((stpV s).1))), (102, (vB true)), (103, (vB true)), (104, (vB true)), (105, (vI ((stpV s).2))), (106, (vI ((stpV s).2))), (107, (vB true)), (108, (vB true)), (109, (vB true)), (110, (vS (txtV s).1)), (111, (vS (txtV s).1)), (112, (vB true)), (113, (vB true)), (114, (vB true)), (115, (vI ((txtV s).2))), (116, (vI ((txtV s).2))), (117, (vB true)), (118, (vB true)), (119, (vB true)), (120, (vA #[(vS s.d.name), (vI s.d.rt), (vI s.d.dl), (vL sa s.d.xs.length cp), (vI s.st), (vI s.ix), (vB s.cn), (vI s.tr), (vI s.bg), (vI s.er)])), (123, (vA #[(vS s.d.name), (vI s.d.rt), (vI s.d.dl), (vL sa s.d.xs.length cp), (vI s.st), (vI s.ix), (vB s.cn), (vI s.tr), (vI s.bg), (vI s.er)])), (121, (vA #[(vS s.d.name), (vI s.d.rt), (vI s.d.dl), (vL sa s.d.xs.length cp), (vI s.st), (vI s.ix), (vB s.cn), (vI s.tr), (vI s.bg), (vI s.er)])), (122, (vI 0)), (124, (vA #[(vS s.d.name), (vI s.d.rt), (vI s.d.dl), (vL sa s.d.xs.length cp), (vI s.st), (vI s.ix), (vB s.cn), (vI s.tr), (vI s.bg), (vI s.er)])), (125, (vI 0)), (126, (vB true)), (127, (vB true)), (128, (vB true)), (129, (vB true)), (130, (vB true)), (2, (vB true))] ?_
        exact end_ev [] (vB true) (hK _ _ (⟨rfl, x179⟩))
      · obtain ⟨b180, eb181⟩ : ∃ zq, zq = h22.size := ⟨_, rfl⟩
        obtain ⟨h182, e183⟩ : ∃ zq, zq = h22.push (.cells #[(vI 0), (vI 0), (vI 0)] 29 (0, 0)) := ⟨_, rfl⟩
        have f184 := push_new e183
        rw [← eb181] at f184
        have n185 : b180 ≠ b1 := by have := row_lt f25; omega
        have x186 : Ext h22 h182 := by rw [e183]; exact Ext.push _ _
        have o187 : h.size ≤ b180 := by have := x26.size; omega
        have f188 := x186 _ _ f25
        have x189 := x26.trans x186
        obtain ⟨h190, e191⟩ : ∃ zq, zq = h182.setIfInBounds b180 (.cells #[(vI 0), (vI 0), (vI 0)] 29 (0, 0)) := ⟨_, rfl⟩
        have f192 := set_same e191 f184
        have f193 := set_other e191 f188 n185
        have x194 := Ext.setNew x189 e191 o187
        obtain ⟨_, hh195, sn196, rfl, x197⟩ := refV_ok h190 s _ _ (hl.keep fun b r _ q => x194 b r q) (by omega) 
        have f198 := x197 _ _ f193
        have f199 := x197 _ _ f192
        have x200 := x194.trans x197
        obtain ⟨_, h201, s202, rfl, x203⟩ := rnextV_can hh195 s _ _ (hl.keep fun b r _ q => x200 b r q) (by omega) hnm hks
        have f204 := x203 _ _ f198
        have f205 := x203 _ _ f199
        have x206 := x200.trans x203
        obtain ⟨z7055d, z7055b, z7055o⟩ := chkS_zero c27
        have := defB_of z7055d
        have := budB_of z7055b
        have z7055i := okI_of z7055o
        have := z7055i.1
        obtain ⟨b207, eb208⟩ : ∃ zq, zq = h201.size := ⟨_, rfl⟩
        obtain ⟨h209, e210⟩ : ∃ zq, zq = h201.push (.cells #[(vI 0), (vI 0), (vI 0)] 29 (0, 0)) := ⟨_, rfl⟩
        have f211 := push_new e210
        rw [← eb208] at f211
        have n212 : b207 ≠ b1 := by have := row_lt f204; omega
        have n213 : b207 ≠ b180 := by have := row_lt f205; omega
        have x214 : Ext h201 h209 := by rw [e210]; exact Ext.push _ _
        have o215 : h.size ≤ b207 := by have := x206.size; omega
        have f216 := x214 _ _ f204
        have f217 := x214 _ _ f205
        have x218 := x206.trans x214
        obtain ⟨h219, e220⟩ : ∃ zq, zq = h209.setIfInBounds b207 (.cells #[(vI 0), (vI 0), (vI 0)] 29 (0, 0)) := ⟨_, rfl⟩
        have f221 := set_same e220 f211
        have f222 := set_other e220 f216 n212
        have f223 := set_other e220 f217 n213
        have x224 := Ext.setNew x218 e220 o215
        obtain ⟨_, hh225, sn226, rfl, x227⟩ := givenV_ok h219 s _ _ (hl.keep fun b r _ q => x224 b r q) (by omega) 
        have f228 := x227 _ _ f222
        have f229 := x227 _ _ f223
        have f230 := x227 _ _ f221
        have x231 := x224.trans x227
        obtain ⟨_, h232, s233, rfl, x234⟩ := endV_ok hh225 s _ _ (hl.keep fun b r _ q => x231 b r q) (by omega)
        have f235 := x234 _ _ f228
        have f236 := x234 _ _ f229
        have f237 := x234 _ _ f230
        have x238 := x231.trans x234
        obtain ⟨z7092d, z7092b, z7092o⟩ := chkS_zero c27
        have := defB_of z7092d
        have := budB_of z7092b
        have z7092i := okI_of z7092o
        have := z7092i.1
        obtain ⟨_, hh239, sn240, rfl, x241⟩ := refV_ok h232 s _ _ (hl.keep fun b r _ q => x238 b r q) (by omega) 
        have f242 := x241 _ _ f235
        have f243 := x241 _ _ f236
        have f244 := x241 _ _ f237
        have x245 := x238.trans x241
        obtain ⟨_, h246, s247, rfl, x248⟩ := rendV_can hh239 s _ _ (hl.keep fun b r _ q => x245 b r q) (by omega) hnm hks
        have f249 := x248 _ _ f242
        have f250 := x248 _ _ f243
        have f251 := x248 _ _ f244
        have x252 := x245.trans x248
        obtain ⟨z7107d, z7107b, z7107o⟩ := chkS_zero c27
        have := defB_of z7107d
        have := budB_of z7107b
        have z7107i := okI_of z7107o
        have := z7107i.1
        obtain ⟨_, hh253, sn254, rfl, x255⟩ := givenV_ok h246 s _ _ (hl.keep fun b r _ q => x252 b r q) (by omega) 
        have f256 := x255 _ _ f249
        have f257 := x255 _ _ f250
        have f258 := x255 _ _ f251
        have x259 := x252.trans x255
        obtain ⟨_, hh260, sn261, rfl, x262⟩ := stpV_ok hh253 s _ _ (hl.keep fun b r _ q => x259 b r q) (by omega) (by omega)
        have f263 := x262 _ _ f256
        have f264 := x262 _ _ f257
        have f265 := x262 _ _ f258
        have x266 := x259.trans x262
        obtain ⟨_, hh267, sn268, rfl, x269⟩ := refV_ok hh260 s _ _ (hl.keep fun b r _ q => x266 b r q) (by omega) 
        have f270 := x269 _ _ f263
        have f271 := x269 _ _ f264
        have f272 := x269 _ _ f265
        have x273 := x266.trans x269
        obtain ⟨_, hh274, sn275, rfl, x276⟩ := rstpV_can hh267 s _ _ (hl.keep fun b r _ q => x273 b r q) (by omega) hnm hks (by omega)
        have f277 := x276 _ _ f270
        have f278 := x276 _ _ f271
        have f279 := x276 _ _ f272
        have x280 := x273.trans x276
        obtain ⟨_, hh281, sn282, rfl, x283⟩ := givenV_ok hh274 s _ _ (hl.keep fun b r _ q => x280 b r q) (by omega) 
        have f284 := x283 _ _ f277
        have f285 := x283 _ _ f278
        have f286 := x283 _ _ f279
        have x287 := x280.trans x283
        obtain ⟨_, hh288, sn289, rfl, x290⟩ := txtV_ok hh281 s _ _ (hl.keep fun b r _ q => x287 b r q) (by omega) 
        have f291 := x290 _ _ f284
        have f292 := x290 _ _ f285
        have f293 := x290 _ _ f286
        have x294 := x287.trans x290
        obtain ⟨_, hh295, sn296, rfl, x297⟩ := refV_ok hh288 s _ _ (hl.keep fun b r _ q => x294 b r q) (by omega) 
        have f298 := x297 _ _ f291
        have f299 := x297 _ _ f292
        have f300 := x297 _ _ f293
        have x301 := x294.trans x297
        obtain ⟨_, hh302, sn303, rfl, x304⟩ := rtxtV_can hh295 s _ _ (hl.keep fun b r _ q => x301 b r q) (by omega) hnm hks 
        have f305 := x304 _ _ f298
        have f306 := x304 _ _ f299
        have f307 := x304 _ _ f300
        have x308 := x301.trans x304
        obtain ⟨_, hh309, sn310, rfl, x311⟩ := givenV_ok hh302 s _ _ (hl.keep fun b r _ q => x308 b r q) (by omega) 
        have f312 := x311 _ _ f305
        have x313 := x308.trans x311
        obtain ⟨_, h314, s315, rfl, x316⟩ := scheck_ok hh309 s _ _ (hl.keep fun b r _ q => x313 b r q) (by omega)
        have f317 := x316 _ _ f312
        have x318 := x313.trans x316
        obtain ⟨z7178d, z7178b, z7178o⟩ := chkS_zero c27
        have := defB_of z7178d
        have := budB_of z7178b
        have z7178i := okI_of z7178o
        have := z7178i.1
        obtain ⟨_, hh319, sn320, rfl, x321⟩ := refV_ok h314 s _ _ (hl.keep fun b r _ q => x318 b r q) (by omega) 
        have x322 := x318.trans x321
        obtain ⟨_, h323, s324, rfl, x325⟩ := rscheck_ok hh319 s _ _ (hl.keep fun b r _ q => x322 b r q) (by omega) hnm hks
        have x326 := x322.trans x325
        obtain ⟨z7193d, z7193b, z7193o⟩ := chkS_zero c27
        have := defB_of z7193d
        have := budB_of z7193b
        have z7193i := okI_of z7193o
        have := z7193i.1
        obtain ⟨_, hh327, sn328, rfl, x329⟩ := works_ok h323 (x326 _ _ hg0) (x326 _ _ hg1)
        have x330 := x326.trans x329
        refine wc_ev [evA 0 0 eb2 e4, evL 1 1 0 agg24 size24 f5, evFb 1 2 c16 s10, evLw 3 0 agg27 size27 f14, evF 3 1 sn18, evF 3 2 (by rw [nextV_done c27 c28] at s23; exact s23), evA 3 7 eb181 e183, evUw 3 8 size29 f184 e191, evLw 4 0 agg27 size27 f193, evF 4 1 sn196, evF 4 2 (by rw [nextV_done c27 c28] at s202; exact s202), evA 4 7 eb208 e210, evUw 4 8 size29 f211 e220, evLw 5 0 agg27 size27 f222, evF 5 1 sn226, evF 5 2 (by rw [endV_done c27 c28] at s233; exact s233), evLw 6 0 agg27 size27 f235, evF 6 1 sn240, evF 6 2 (by rw [endV_done c27 c28] at s247; exact s247), evLw 7 0 agg27 size27 f249, evF 7 1 sn254, evF 7 2 sn261, evLw 8 0 agg27 size27 f263, evF 8 1 sn268, evF 8 2 sn275, evLw 9 0 agg27 size27 f277, evF 9 1 sn282, evF 9 2 sn289, evLw 10 0 agg27 size27 f291, evF 10 1 sn296, evF 10 2 sn303, evLw 11 0 agg29 size29 f306, evLw 11 1 agg29 size29 f307, evV 11 2 (vB true) (show binA Tryd.prog .eql 29 (vA #[(vI 0), (vI 0), (vI 0)]) (vA #[(vI 0), (vI 0), (vI 0)]) = some (vB true) from cmp29_eql (decide_eq_true ⟨rfl, rfl, rfl⟩)), eqT 11 26 3 (Eq.refl (((stpV s).1) : Int)), eqT 11 31 25 (Eq.refl (((stpV s).2) : Int)), seT 11 36 9 (Eq.refl ((txtV s).1 : ByteArray)), eqT 11 41 25 (Eq.refl (((txtV s).2) : Int)), evLw 11 44 agg27 size27 f305, evLw 11 47 agg27 size27 f305, evF 11 45 sn310, evLw 99 0 agg27 size27 f312, evFi 11 46 c27 s315, evLw 99 0 agg27 size27 f317, evF 11 48 sn320, evFi 11 49 c27 s324, evF 11 53 sn328] .ret hh327 [(1, (vP b1 0)), (2, (vB false)), (21, (vP b1 0)), (22, (vA #[(vS s.d.name), (vI s.d.rt), (vI s.d.dl), (vL sa s.d.xs.length cp)])), (23, (vB true)), (24, (vB false)), (27, (vA #[(vS s.d.name), (vI s.d.rt), (vI s.d.dl), (vL sa s.d.xs.length cp), (vI s.st), (vI s.ix), (vB s.cn), (vI s.tr), (vI s.bg), (vI s.er)])), (28, (vA #[(vS s.d.name), (vI s.d.rt), (vI s.d.dl), (vL sa s.d.xs.length cp), (vI s.st), (vI s.ix), (vB s.cn), (vI s.tr), (vI s.bg), (vI s.er)])), (29, (vT #[(vA #[(vI 0), (vI 0), (vI 0)]), (vB false), (vI 0)])), (26, (vT #[(vA #[(vI 0), (vI 0), (vI 0)]), (vB false), (vI 0)])), (30, (vA #[(vI 0), (vI 0), (vI 0)])), (31, (vB false)), (32, (vI 0)), (3, (vP b180 0)), (4, (vB false)), (5, (vI 0)), (34, (vA #[(vS s.d.name), (vI s.d.rt), (vI s.d.dl), (vL sa s.d.xs.length cp), (vI s.st), (vI s.ix), (vB s.cn), (vI s.tr), (vI s.bg), (vI s.er)])), (35, (vA #[(vS s.d.name), (vI s.d.rt), (vI s.d.dl), (vL sa s.d.xs.length cp), (vI s.st), (vI s.ix), (vB s.cn), (vI s.tr), (vI s.bg), (vI s.er)])), (36, (vT #[(vA #[(vI 0), (vI 0), (vI 0)]), (vB false), (vI 0)])), (33, (vT #[(vA #[(vI 0), (vI 0), (vI 0)]), (vB false), (vI 0)])), (37, (vA #[(vI 0), (vI 0), (vI 0)])), (38, (vB false)), (39, (vI 0)), (6, (vP b207 0)), (7, (vB false)), (8, (vI 0)), (41, (vA #[(vS s.d.name), (vI s.d.rt), (vI s.d.dl), (vL sa s.d.xs.length cp), (vI s.st), (vI s.ix), (vB s.cn), (vI s.tr), (vI s.bg), (vI s.er)])), (42, (vA #[(vS s.d.name), (vI s.d.rt), (vI s.d.dl), (vL sa s.d.xs.length cp), (vI s.st), (vI s.ix), (vB s.cn), (vI s.tr), (vI s.bg), (vI s.er)])), (43, (vT #[(vB true), (vI 0)])), (40, (vT #[(vB true), (vI 0)])), (44, (vB true)), (45, (vI 0)), (9, (vB true)), (10, (vI 0)), (47, (vA #[(vS s.d.name), (vI s.d.rt), (vI s.d.dl), (vL sa s.d.xs.length cp), (vI s.st), (vI s.ix), (vB s.cn), (vI s.tr), (vI s.bg), (vI s.er)])), (48, (vA #[(vS s.d.name), (vI s.d.rt), (vI s.d.dl), (vL sa s.d.xs.length cp), (vI s.st), (vI s.ix), (vB s.cn), (vI s.tr), (vI s.bg), (vI s.er)])), (49, (vT #[(vB true), (vI 0)])), (46, (vT #[(vB true), (vI 0)])), (50, (vB true)), (51, (vI 0)), (11, (vB true)), (12, (vI 0)), (53, (vA #[(vS s.d.name), (vI s.d.rt), (vI s.d.dl), (vL sa s.d.xs.length cp), (vI s.st), (vI s.ix), (vB s.cn), (vI s.tr), (vI s.bg), (vI s.er)])), (54, (vA #[(vS s.d.name), (vI s.d.rt), (vI s.d.dl), (vL sa s.d.xs.length cp), (vI s.st), (vI s.ix), (vB s.cn), (vI s.tr), (vI s.bg), (vI s.er)])), (55, (vT #[(vI ((stpV s).1)), (vI ((stpV s).2))])), (52, (vT #[(vI ((stpV s).1)), (vI ((stpV s).2))])), (56, (vI ((stpV s).1))), (57, (vI ((stpV s).2))), (13, (vI ((stpV s).1))), (14, (vI ((stpV s).2))), (59, (vA #[(vS s.d.name), (vI s.d.rt), (vI s.d.dl), (vL sa s.d.xs.length cp), (vI s.st), (vI s.ix), (vB s.cn), (vI s.tr), (vI s.bg), (vI s.er)])), (60, (vA #[(vS s.d.name), (vI s.d.rt), (vI s.d.dl), (vL sa s.d.xs.length cp), (vI s.st), (vI s.ix), (vB s.cn), (vI s.tr), (vI s.bg), (vI s.er)])), (61, (vT #[(vI ((stpV s).1)), (vI ((stpV s).2))])), (58, (vT #[(vI ((stpV s).1)), (vI ((stpV s).2))])), (62, (vI ((stpV s).1))), (63, (vI ((stpV s).2))), (15, (vI ((stpV s).1))), (16, (vI ((stpV s).2))), (65, (vA #[(vS s.d.name), (vI s.d.rt), (vI s.d.dl), (vL sa s.d.xs.length cp), (vI s.st), (vI s.ix), (vB s.cn), (vI s.tr), (vI s.bg), (vI s.er)])), (66, (vA #[(vS s.d.name), (vI s.d.rt), (vI s.d.dl), (vL sa s.d.xs.length cp), (vI s.st), (vI s.ix), (vB s.cn), (vI s.tr), (vI s.bg), (vI s.er)])), (67, (vT #[(vS (txtV s).1), (vI ((txtV s).2))])), (64, (vT #[(vS (txtV s).1), (vI ((txtV s).2))])), (68, (vS (txtV s).1)), (69, (vI ((txtV s).2))), (17, (vS (txtV s).1)), (18, (vI ((txtV s).2))), (71, (vA #[(vS s.d.name), (vI s.d.rt), (vI s.d.dl), (vL sa s.d.xs.length cp), (vI s.st), (vI s.ix), (vB s.cn), (vI s.tr), (vI s.bg), (vI s.er)])), (72, (vA #[(vS s.d.name), (vI s.d.rt), (vI s.d.dl), (vL sa s.d.xs.length cp), (vI s.st), (vI s.ix), (vB s.cn), (vI s.tr), (vI s.bg), (vI s.er)])), (73, (vT #[(vS (txtV s).1), (vI ((txtV s).2))])), (70, (vT #[(vS (txtV s).1), (vI ((txtV s).2))])), (74, (vS (txtV s).1)), (75, (vI ((txtV s).2))), (19, (vS (txtV s).1)), (20, (vI ((txtV s).2))), (76, (vA #[(vI 0), (vI 0), (vI 0)])), (77, (vA #[(vI 0), (vI 0), (vI 0)])), (78, (vB true)), (79, (vB true)), (80, (vB false)), (81, (vB false)), (82, (vB true)), (83, (vB true)), (84, (vB true)), (85, (vI 0)), (86, (vI 0)), (87, (vB true)), (88, (vB true)), (89, (vB true)), (90, (vB true)), (91, (vB true)), (92, (vB true)), (93, (vB true)), (94, (vB true)), (95, (vI 0)), (96, (vI 0)), (97, (vB true)), (98, (vB true)), (99, (vB true)), (100, (vI ((stpV s).1))), (101, (vI ((stpV s).1))), (102, (vB true)), (103, (vB true)), (104, (vB true)), (105, (vI ((stpV s).2))), (106, (vI ((stpV s).2))), (107, (vB true)), (108, (vB true)), (109, (vB true)), (110, (vS (txtV s).1)), (111, (vS (txtV s).1)), (112, (vB true)), (113, (vB true)), (114, (vB true)), (115, (vI ((txtV s).2))), (116, (vI ((txtV s).2))), (117, (vB true)), (118, (vB true)), (119, (vB true)), (120, (vA #[(vS s.d.name), (vI s.d.rt), (vI s.d.dl), (vL sa s.d.xs.length cp), (vI s.st), (vI s.ix), (vB s.cn), (vI s.tr), (vI s.bg), (vI s.er)])), (123, (vA #[(vS s.d.name), (vI s.d.rt), (vI s.d.dl), (vL sa s.d.xs.length cp), (vI s.st), (vI s.ix), (vB s.cn), (vI s.tr), (vI s.bg), (vI s.er)])), (121, (vA #[(vS s.d.name), (vI s.d.rt), (vI s.d.dl), (vL sa s.d.xs.length cp), (vI s.st), (vI s.ix), (vB s.cn), (vI s.tr), (vI s.bg), (vI s.er)])), (122, (vI 0)), (124, (vA #[(vS s.d.name), (vI s.d.rt), (vI s.d.dl), (vL sa s.d.xs.length cp), (vI s.st), (vI s.ix), (vB s.cn), (vI s.tr), (vI s.bg), (vI s.er)])), (125, (vI 0)), (126, (vB true)), (127, (vB true)), (128, (vB true)), (129, (vB true)), (130, (vB true)), (2, (vB true))] ?_
        exact end_ev [] (vB true) (hK _ _ (⟨rfl, x330⟩))
    · obtain ⟨b331, eb332⟩ : ∃ zq, zq = h22.size := ⟨_, rfl⟩
      obtain ⟨h333, e334⟩ : ∃ zq, zq = h22.push (.cells #[(vI 0), (vI 0), (vI 0)] 29 (0, 0)) := ⟨_, rfl⟩
      have f335 := push_new e334
      rw [← eb332] at f335
      have n336 : b331 ≠ b1 := by have := row_lt f25; omega
      have x337 : Ext h22 h333 := by rw [e334]; exact Ext.push _ _
      have o338 : h.size ≤ b331 := by have := x26.size; omega
      have f339 := x337 _ _ f25
      have x340 := x26.trans x337
      obtain ⟨h341, e342⟩ : ∃ zq, zq = h333.setIfInBounds b331 (.cells #[(vI 0), (vI 0), (vI 0)] 29 (0, 0)) := ⟨_, rfl⟩
      have f343 := set_same e342 f335
      have f344 := set_other e342 f339 n336
      have x345 := Ext.setNew x340 e342 o338
      obtain ⟨_, hh346, sn347, rfl, x348⟩ := refV_ok h341 s _ _ (hl.keep fun b r _ q => x345 b r q) (by omega) 
      have f349 := x348 _ _ f344
      have f350 := x348 _ _ f343
      have x351 := x345.trans x348
      obtain ⟨_, h352, s353, rfl, x354⟩ := rnextV_can hh346 s _ _ (hl.keep fun b r _ q => x351 b r q) (by omega) hnm hks
      have f355 := x354 _ _ f349
      have f356 := x354 _ _ f350
      have x357 := x351.trans x354
      obtain ⟨b358, eb359⟩ : ∃ zq, zq = h352.size := ⟨_, rfl⟩
      obtain ⟨h360, e361⟩ : ∃ zq, zq = h352.push (.cells #[(vI 0), (vI 0), (vI 0)] 29 (0, 0)) := ⟨_, rfl⟩
      have f362 := push_new e361
      rw [← eb359] at f362
      have n363 : b358 ≠ b1 := by have := row_lt f355; omega
      have n364 : b358 ≠ b331 := by have := row_lt f356; omega
      have x365 : Ext h352 h360 := by rw [e361]; exact Ext.push _ _
      have o366 : h.size ≤ b358 := by have := x357.size; omega
      have f367 := x365 _ _ f355
      have f368 := x365 _ _ f356
      have x369 := x357.trans x365
      obtain ⟨h370, e371⟩ : ∃ zq, zq = h360.setIfInBounds b358 (.cells #[(vI 0), (vI 0), (vI 0)] 29 (0, 0)) := ⟨_, rfl⟩
      have f372 := set_same e371 f362
      have f373 := set_other e371 f367 n363
      have f374 := set_other e371 f368 n364
      have x375 := Ext.setNew x369 e371 o366
      obtain ⟨_, hh376, sn377, rfl, x378⟩ := givenV_ok h370 s _ _ (hl.keep fun b r _ q => x375 b r q) (by omega) 
      have f379 := x378 _ _ f373
      have f380 := x378 _ _ f374
      have f381 := x378 _ _ f372
      have x382 := x375.trans x378
      obtain ⟨_, h383, s384, rfl, x385⟩ := endV_ok hh376 s _ _ (hl.keep fun b r _ q => x382 b r q) (by omega)
      have f386 := x385 _ _ f379
      have f387 := x385 _ _ f380
      have f388 := x385 _ _ f381
      have x389 := x382.trans x385
      obtain ⟨_, hh390, sn391, rfl, x392⟩ := refV_ok h383 s _ _ (hl.keep fun b r _ q => x389 b r q) (by omega) 
      have f393 := x392 _ _ f386
      have f394 := x392 _ _ f387
      have f395 := x392 _ _ f388
      have x396 := x389.trans x392
      obtain ⟨_, h397, s398, rfl, x399⟩ := rendV_can hh390 s _ _ (hl.keep fun b r _ q => x396 b r q) (by omega) hnm hks
      have f400 := x399 _ _ f393
      have f401 := x399 _ _ f394
      have f402 := x399 _ _ f395
      have x403 := x396.trans x399
      obtain ⟨_, hh404, sn405, rfl, x406⟩ := givenV_ok h397 s _ _ (hl.keep fun b r _ q => x403 b r q) (by omega) 
      have f407 := x406 _ _ f400
      have f408 := x406 _ _ f401
      have f409 := x406 _ _ f402
      have x410 := x403.trans x406
      obtain ⟨_, hh411, sn412, rfl, x413⟩ := stpV_ok hh404 s _ _ (hl.keep fun b r _ q => x410 b r q) (by omega) (by omega)
      have f414 := x413 _ _ f407
      have f415 := x413 _ _ f408
      have f416 := x413 _ _ f409
      have x417 := x410.trans x413
      obtain ⟨_, hh418, sn419, rfl, x420⟩ := refV_ok hh411 s _ _ (hl.keep fun b r _ q => x417 b r q) (by omega) 
      have f421 := x420 _ _ f414
      have f422 := x420 _ _ f415
      have f423 := x420 _ _ f416
      have x424 := x417.trans x420
      obtain ⟨_, hh425, sn426, rfl, x427⟩ := rstpV_can hh418 s _ _ (hl.keep fun b r _ q => x424 b r q) (by omega) hnm hks (by omega)
      have f428 := x427 _ _ f421
      have f429 := x427 _ _ f422
      have f430 := x427 _ _ f423
      have x431 := x424.trans x427
      obtain ⟨_, hh432, sn433, rfl, x434⟩ := givenV_ok hh425 s _ _ (hl.keep fun b r _ q => x431 b r q) (by omega) 
      have f435 := x434 _ _ f428
      have f436 := x434 _ _ f429
      have f437 := x434 _ _ f430
      have x438 := x431.trans x434
      obtain ⟨_, hh439, sn440, rfl, x441⟩ := txtV_ok hh432 s _ _ (hl.keep fun b r _ q => x438 b r q) (by omega) 
      have f442 := x441 _ _ f435
      have f443 := x441 _ _ f436
      have f444 := x441 _ _ f437
      have x445 := x438.trans x441
      obtain ⟨_, hh446, sn447, rfl, x448⟩ := refV_ok hh439 s _ _ (hl.keep fun b r _ q => x445 b r q) (by omega) 
      have f449 := x448 _ _ f442
      have f450 := x448 _ _ f443
      have f451 := x448 _ _ f444
      have x452 := x445.trans x448
      obtain ⟨_, hh453, sn454, rfl, x455⟩ := rtxtV_can hh446 s _ _ (hl.keep fun b r _ q => x452 b r q) (by omega) hnm hks 
      have f456 := x455 _ _ f449
      have f457 := x455 _ _ f450
      have f458 := x455 _ _ f451
      have x459 := x452.trans x455
      obtain ⟨_, hh460, sn461, rfl, x462⟩ := givenV_ok hh453 s _ _ (hl.keep fun b r _ q => x459 b r q) (by omega) 
      have f463 := x462 _ _ f456
      have x464 := x459.trans x462
      obtain ⟨_, h465, s466, rfl, x467⟩ := scheck_ok hh460 s _ _ (hl.keep fun b r _ q => x464 b r q) (by omega)
      have f468 := x467 _ _ f463
      have x469 := x464.trans x467
      obtain ⟨_, hh470, sn471, rfl, x472⟩ := refV_ok h465 s _ _ (hl.keep fun b r _ q => x469 b r q) (by omega) 
      have x473 := x469.trans x472
      obtain ⟨_, h474, s475, rfl, x476⟩ := rscheck_ok hh470 s _ _ (hl.keep fun b r _ q => x473 b r q) (by omega) hnm hks
      have x477 := x473.trans x476
      obtain ⟨_, hh478, sn479, rfl, x480⟩ := works_ok h474 (x477 _ _ hg0) (x477 _ _ hg1)
      have x481 := x477.trans x480
      refine wc_ev [evA 0 0 eb2 e4, evL 1 1 0 agg24 size24 f5, evFb 1 2 c16 s10, evLw 3 0 agg27 size27 f14, evF 3 1 sn18, evF 3 2 (by rw [nextV_bad c27] at s23; exact s23), evA 3 7 eb332 e334, evUw 3 8 size29 f335 e342, evLw 4 0 agg27 size27 f344, evF 4 1 sn347, evF 4 2 (by rw [nextV_bad c27] at s353; exact s353), evA 4 7 eb359 e361, evUw 4 8 size29 f362 e371, evLw 5 0 agg27 size27 f373, evF 5 1 sn377, evF 5 2 (by rw [endV_bad c27] at s384; exact s384), evLw 6 0 agg27 size27 f386, evF 6 1 sn391, evF 6 2 (by rw [endV_bad c27] at s398; exact s398), evLw 7 0 agg27 size27 f400, evF 7 1 sn405, evF 7 2 sn412, evLw 8 0 agg27 size27 f414, evF 8 1 sn419, evF 8 2 sn426, evLw 9 0 agg27 size27 f428, evF 9 1 sn433, evF 9 2 sn440, evLw 10 0 agg27 size27 f442, evF 10 1 sn447, evF 10 2 sn454, evLw 11 0 agg29 size29 f457, evLw 11 1 agg29 size29 f458, evV 11 2 (vB true) (show binA Tryd.prog .eql 29 (vA #[(vI 0), (vI 0), (vI 0)]) (vA #[(vI 0), (vI 0), (vI 0)]) = some (vB true) from cmp29_eql (decide_eq_true ⟨rfl, rfl, rfl⟩)), eqT 11 11 25 (Eq.refl ((chkS s) : Int)), eqT 11 21 25 (Eq.refl ((chkS s) : Int)), eqT 11 26 3 (Eq.refl (((stpV s).1) : Int)), eqT 11 31 25 (Eq.refl (((stpV s).2) : Int)), seT 11 36 9 (Eq.refl ((txtV s).1 : ByteArray)), eqT 11 41 25 (Eq.refl (((txtV s).2) : Int)), evLw 11 44 agg27 size27 f456, evLw 11 47 agg27 size27 f456, evF 11 45 sn461, evLw 99 0 agg27 size27 f463, evF 11 46 s466, evLw 99 0 agg27 size27 f468, evF 11 48 sn471, evF 11 49 s475, eqT 11 50 25 (Eq.refl ((chkS s) : Int)), evF 11 53 sn479] .ret hh478 [(1, (vP b1 0)), (2, (vB false)), (21, (vP b1 0)), (22, (vA #[(vS s.d.name), (vI s.d.rt), (vI s.d.dl), (vL sa s.d.xs.length cp)])), (23, (vB true)), (24, (vB false)), (27, (vA #[(vS s.d.name), (vI s.d.rt), (vI s.d.dl), (vL sa s.d.xs.length cp), (vI s.st), (vI s.ix), (vB s.cn), (vI s.tr), (vI s.bg), (vI s.er)])), (28, (vA #[(vS s.d.name), (vI s.d.rt), (vI s.d.dl), (vL sa s.d.xs.length cp), (vI s.st), (vI s.ix), (vB s.cn), (vI s.tr), (vI s.bg), (vI s.er)])), (29, (vT #[(vA #[(vI 0), (vI 0), (vI 0)]), (vB false), (vI (chkS s))])), (26, (vT #[(vA #[(vI 0), (vI 0), (vI 0)]), (vB false), (vI (chkS s))])), (30, (vA #[(vI 0), (vI 0), (vI 0)])), (31, (vB false)), (32, (vI (chkS s))), (3, (vP b331 0)), (4, (vB false)), (5, (vI (chkS s))), (34, (vA #[(vS s.d.name), (vI s.d.rt), (vI s.d.dl), (vL sa s.d.xs.length cp), (vI s.st), (vI s.ix), (vB s.cn), (vI s.tr), (vI s.bg), (vI s.er)])), (35, (vA #[(vS s.d.name), (vI s.d.rt), (vI s.d.dl), (vL sa s.d.xs.length cp), (vI s.st), (vI s.ix), (vB s.cn), (vI s.tr), (vI s.bg), (vI s.er)])), (36, (vT #[(vA #[(vI 0), (vI 0), (vI 0)]), (vB false), (vI (chkS s))])), (33, (vT #[(vA #[(vI 0), (vI 0), (vI 0)]), (vB false), (vI (chkS s))])), (37, (vA #[(vI 0), (vI 0), (vI 0)])), (38, (vB false)), (39, (vI (chkS s))), (6, (vP b358 0)), (7, (vB false)), (8, (vI (chkS s))), (41, (vA #[(vS s.d.name), (vI s.d.rt), (vI s.d.dl), (vL sa s.d.xs.length cp), (vI s.st), (vI s.ix), (vB s.cn), (vI s.tr), (vI s.bg), (vI s.er)])), (42, (vA #[(vS s.d.name), (vI s.d.rt), (vI s.d.dl), (vL sa s.d.xs.length cp), (vI s.st), (vI s.ix), (vB s.cn), (vI s.tr), (vI s.bg), (vI s.er)])), (43, (vT #[(vB false), (vI (chkS s))])), (40, (vT #[(vB false), (vI (chkS s))])), (44, (vB false)), (45, (vI (chkS s))), (9, (vB false)), (10, (vI (chkS s))), (47, (vA #[(vS s.d.name), (vI s.d.rt), (vI s.d.dl), (vL sa s.d.xs.length cp), (vI s.st), (vI s.ix), (vB s.cn), (vI s.tr), (vI s.bg), (vI s.er)])), (48, (vA #[(vS s.d.name), (vI s.d.rt), (vI s.d.dl), (vL sa s.d.xs.length cp), (vI s.st), (vI s.ix), (vB s.cn), (vI s.tr), (vI s.bg), (vI s.er)])), (49, (vT #[(vB false), (vI (chkS s))])), (46, (vT #[(vB false), (vI (chkS s))])), (50, (vB false)), (51, (vI (chkS s))), (11, (vB false)), (12, (vI (chkS s))), (53, (vA #[(vS s.d.name), (vI s.d.rt), (vI s.d.dl), (vL sa s.d.xs.length cp), (vI s.st), (vI s.ix), (vB s.cn), (vI s.tr), (vI s.bg), (vI s.er)])), (54, (vA #[(vS s.d.name), (vI s.d.rt), (vI s.d.dl), (vL sa s.d.xs.length cp), (vI s.st), (vI s.ix), (vB s.cn), (vI s.tr), (vI s.bg), (vI s.er)])), (55, (vT #[(vI ((stpV s).1)), (vI ((stpV s).2))])), (52, (vT #[(vI ((stpV s).1)), (vI ((stpV s).2))])), (56, (vI ((stpV s).1))), (57, (vI ((stpV s).2))), (13, (vI ((stpV s).1))), (14, (vI ((stpV s).2))), (59, (vA #[(vS s.d.name), (vI s.d.rt), (vI s.d.dl), (vL sa s.d.xs.length cp), (vI s.st), (vI s.ix), (vB s.cn), (vI s.tr), (vI s.bg), (vI s.er)])), (60, (vA #[(vS s.d.name), (vI s.d.rt), (vI s.d.dl), (vL sa s.d.xs.length cp), (vI s.st), (vI s.ix), (vB s.cn), (vI s.tr), (vI s.bg), (vI s.er)])), (61, (vT #[(vI ((stpV s).1)), (vI ((stpV s).2))])), (58, (vT #[(vI ((stpV s).1)), (vI ((stpV s).2))])), (62, (vI ((stpV s).1))), (63, (vI ((stpV s).2))), (15, (vI ((stpV s).1))), (16, (vI ((stpV s).2))), (65, (vA #[(vS s.d.name), (vI s.d.rt), (vI s.d.dl), (vL sa s.d.xs.length cp), (vI s.st), (vI s.ix), (vB s.cn), (vI s.tr), (vI s.bg), (vI s.er)])), (66, (vA #[(vS s.d.name), (vI s.d.rt), (vI s.d.dl), (vL sa s.d.xs.length cp), (vI s.st), (vI s.ix), (vB s.cn), (vI s.tr), (vI s.bg), (vI s.er)])), (67, (vT #[(vS (txtV s).1), (vI ((txtV s).2))])), (64, (vT #[(vS (txtV s).1), (vI ((txtV s).2))])), (68, (vS (txtV s).1)), (69, (vI ((txtV s).2))), (17, (vS (txtV s).1)), (18, (vI ((txtV s).2))), (71, (vA #[(vS s.d.name), (vI s.d.rt), (vI s.d.dl), (vL sa s.d.xs.length cp), (vI s.st), (vI s.ix), (vB s.cn), (vI s.tr), (vI s.bg), (vI s.er)])), (72, (vA #[(vS s.d.name), (vI s.d.rt), (vI s.d.dl), (vL sa s.d.xs.length cp), (vI s.st), (vI s.ix), (vB s.cn), (vI s.tr), (vI s.bg), (vI s.er)])), (73, (vT #[(vS (txtV s).1), (vI ((txtV s).2))])), (70, (vT #[(vS (txtV s).1), (vI ((txtV s).2))])), (74, (vS (txtV s).1)), (75, (vI ((txtV s).2))), (19, (vS (txtV s).1)), (20, (vI ((txtV s).2))), (76, (vA #[(vI 0), (vI 0), (vI 0)])), (77, (vA #[(vI 0), (vI 0), (vI 0)])), (78, (vB true)), (79, (vB true)), (80, (vB false)), (81, (vB false)), (82, (vB true)), (83, (vB true)), (84, (vB true)), (85, (vI (chkS s))), (86, (vI (chkS s))), (87, (vB true)), (88, (vB true)), (89, (vB true)), (90, (vB false)), (91, (vB false)), (92, (vB true)), (93, (vB true)), (94, (vB true)), (95, (vI (chkS s))), (96, (vI (chkS s))), (97, (vB true)), (98, (vB true)), (99, (vB true)), (100, (vI ((stpV s).1))), (101, (vI ((stpV s).1))), (102, (vB true)), (103, (vB true)), (104, (vB true)), (105, (vI ((stpV s).2))), (106, (vI ((stpV s).2))), (107, (vB true)), (108, (vB true)), (109, (vB true)), (110, (vS (txtV s).1)), (111, (vS (txtV s).1)), (112, (vB true)), (113, (vB true)), (114, (vB true)), (115, (vI ((txtV s).2))), (116, (vI ((txtV s).2))), (117, (vB true)), (118, (vB true)), (119, (vB true)), (120, (vA #[(vS s.d.name), (vI s.d.rt), (vI s.d.dl), (vL sa s.d.xs.length cp), (vI s.st), (vI s.ix), (vB s.cn), (vI s.tr), (vI s.bg), (vI s.er)])), (123, (vA #[(vS s.d.name), (vI s.d.rt), (vI s.d.dl), (vL sa s.d.xs.length cp), (vI s.st), (vI s.ix), (vB s.cn), (vI s.tr), (vI s.bg), (vI s.er)])), (121, (vA #[(vS s.d.name), (vI s.d.rt), (vI s.d.dl), (vL sa s.d.xs.length cp), (vI s.st), (vI s.ix), (vB s.cn), (vI s.tr), (vI s.bg), (vI s.er)])), (122, (vI (chkS s))), (124, (vA #[(vS s.d.name), (vI s.d.rt), (vI s.d.dl), (vL sa s.d.xs.length cp), (vI s.st), (vI s.ix), (vB s.cn), (vI s.tr), (vI s.bg), (vI s.er)])), (125, (vI (chkS s))), (126, (vB true)), (127, (vB true)), (128, (vB true)), (129, (vB true)), (130, (vB true)), (2, (vB true))] ?_
      exact end_ev [] (vB true) (hK _ _ (⟨rfl, x481⟩))
  · obtain ⟨_, hh482, sn483, rfl, x484⟩ := works_ok h9 (x15 _ _ hg0) (x15 _ _ hg1)
    have x485 := x15.trans x484
    refine wc_ev [evA 0 0 eb2 e4, evL 1 1 0 agg24 size24 f5, evFb 1 2 c16 s10, evF 2 0 sn483] .ret hh482 [(1, (vP b1 0)), (2, (vB false)), (21, (vP b1 0)), (22, (vA #[(vS s.d.name), (vI s.d.rt), (vI s.d.dl), (vL sa s.d.xs.length cp)])), (23, (vB false)), (24, (vB true)), (25, (vB true)), (2, (vB true))] ?_
    exact end_ev [] (vB true) (hK _ _ (⟨rfl, x485⟩))
theorem law_shows_x (h : Heap) (nm : ByteArray) (hnm : nm.size ≤ 9223372036854775807) (rt : Int) (_irt : -9223372036854775808 ≤ rt ∧ rt ≤ 9223372036854775807) (dl : Int) (_idl : -9223372036854775808 ≤ dl ∧ dl ≤ 9223372036854775807) (xs : List StepM) (sa : Option Addr) (cp : Nat) (k : LAt h stepc 2 xs (.slice sa xs.length cp)) (l : xs.length ≤ 9223372036854775807) (q : ∀ x ∈ xs, x.key.size ≤ 9223372036854775807) (st : Int) (_ist : -9223372036854775808 ≤ st ∧ st ≤ 9223372036854775807) (ix : Int) (_iix : -9223372036854775808 ≤ ix ∧ ix ≤ 9223372036854775807) (cn : Bool) (tr : Int) (_itr : -9223372036854775808 ≤ tr ∧ tr ≤ 9223372036854775807) (bg : Int) (_ibg : -9223372036854775808 ≤ bg ∧ bg ≤ 9223372036854775807) (er : Int) (_ier : -9223372036854775808 ≤ er ∧ er ≤ 9223372036854775807) (hg0 : h[0]? = some (.cells #[Value.nilFunc, (Value.func (.func 126) #[] #[]), (Value.func (.func 127) #[] #[]), (Value.func (.func 128) #[] #[])] 86 (0, 0))) (hg1 : h[1]? = some (.cells #[(vI 0), (vI 1), (vI 3), (vI 2)] 96 (0, 0))) : WCall Tryd.prog 10 #[.agg #[.string nm, .int .i64 rt, .int .i64 dl, .slice sa xs.length cp, .int .i64 st, .int .i64 ix, .bool cn, .int .i64 tr, .int .i64 bg, .int .i64 er]] h (fun v h1 => v = .bool true ∧ Ext h h1) := law_shows h ⟨⟨nm, rt, dl, xs⟩, st, ix, cn, tr, bg, er⟩ sa cp k l hnm q hg0 hg1
end C28
