/- The run of StoreNil. -/
import Derived.Test.YtciigibbgklcjaaDoorMg
import Derived.KernelRfl
open Go Go.AM Go.Proofs
namespace C08
theorem agg47 : isAggA Tryd.prog 47 = some true := by kernel_rfl
set_option maxRecDepth 10000 in
set_option maxHeartbeats 4000000 in
theorem law_nil (h : Heap) (x : StepA) : WCall Tryd.prog 5 #[(Value.agg #[(vI (x.k)), (vS x.key), (vI (x.c.v)), (vI (x.c.up)), (vI (x.c.dn)), (vI (x.c.lo)), (vI (x.c.hi)), (vI (x.ph)), (vI (x.d)), (vS x.r0), (vS x.r1)])] h (fun v h1 => v = .bool true ∧ Ext h h1) := by
  suffices H : ∀ K : Value → Heap → Prop, (∀ v h1, (fun v h1 => v = .bool true ∧ Ext h h1) v h1 → K v h1) → WCall Tryd.prog 5 #[(Value.agg #[(vI (x.k)), (vS x.key), (vI (x.c.v)), (vI (x.c.up)), (vI (x.c.dn)), (vI (x.c.lo)), (vI (x.c.hi)), (vI (x.ph)), (vI (x.d)), (vS x.r0), (vS x.r1)])] h K from H _ fun _ _ q => q
  intro K hK
  refine wcall_at { tmps := #[(vA #[(vI x.k), (vS x.key), (vI x.c.v), (vI x.c.up), (vI x.c.dn), (vI x.c.lo), (vI x.c.hi), (vI x.ph), (vI x.d), (vS x.r0), (vS x.r1)]), vZ, vZ, vZ, vZ, vZ, vZ, vZ, vZ, vZ, vZ, vZ, vZ, vZ, vZ, vZ, vZ, vZ, vZ, vZ, vZ, vZ, vZ, vZ, vZ, vZ, vZ, vZ, vZ, vZ, vZ, vZ, vZ, vZ, vZ, vZ, vZ, vZ, vZ, vZ, vZ, vZ, vZ, vZ, vZ, vZ, vZ, vZ, vZ, vZ, vZ, vZ, vZ, vZ, vZ, vZ, vZ, vZ, vZ, vZ, vZ, vZ, vZ, vZ, vZ, vZ, vZ, vZ, vZ, vZ, vZ, vZ, vZ, vZ, vZ, vZ, vZ, vZ, vZ, vZ, vZ, vZ, vZ, vZ, vZ, vZ, vZ, vZ, vZ, vZ, vZ, vZ, vZ, vZ, vZ, vZ, vZ, vZ, vZ, vZ, vZ, vZ, vZ, vZ, vZ, vZ, vZ, vZ, vZ, vZ, vZ, vZ, vZ, vZ, vZ, vZ, vZ, vZ, vZ, vZ, vZ, vZ, vZ, vZ, vZ, vZ, vZ, vZ, vZ, vZ, vZ, vZ, vZ], defers := [] } (by kernel_rfl) ?_
  refine wc_seq' (subc (bodyOf Tryd.prog 5) [0]) (subc (bodyOf Tryd.prog 5) [1]) (by kernel_rfl) ?_
  obtain ⟨b1, eb2⟩ : ∃ zq, zq = h.size := ⟨_, rfl⟩
  obtain ⟨h3, e4⟩ : ∃ zq, zq = h.push (.cells #[(vI (x.k)), (vS x.key), (vI (x.c.v)), (vI (x.c.up)), (vI (x.c.dn)), (vI (x.c.lo)), (vI (x.c.hi)), (vI (x.ph)), (vI (x.d)), (vS x.r0), (vS x.r1)] 47 (0, 0)) := ⟨_, rfl⟩
  have f5 := push_new e4
  rw [← eb2] at f5
  have x6 : Ext h h3 := by rw [e4]; exact Ext.push _ _
  have o7 : h.size ≤ b1 := by have := (Ext.refl h).size; omega
  have x8 := (Ext.refl h).trans x6
  refine wc_ev [evA 0 0 eb2 e4] .normal h3 [(1, (vP b1 0)), (2, (vB false))] ?_
  refine wc_seq' (subc (bodyOf Tryd.prog 5) [1, 0]) (subc (bodyOf Tryd.prog 5) [1, 1]) (by kernel_rfl) ?_
  obtain ⟨b9, eb10⟩ : ∃ zq, zq = h3.size := ⟨_, rfl⟩
  obtain ⟨h11, e12⟩ : ∃ zq, zq = h3.push (.cells #[(vI (x.k)), (vS x.key), (vI (x.c.v)), (vI (x.c.up)), (vI (x.c.dn)), (vI (x.c.lo)), (vI (x.c.hi)), (vI (x.ph)), (vI (x.d)), (vS x.r0), (vS x.r1)] 47 (0, 0)) := ⟨_, rfl⟩
  have f13 := push_new e12
  rw [← eb10] at f13
  have x14 : Ext h3 h11 := by rw [e12]; exact Ext.push _ _
  have o15 : h.size ≤ b9 := by have := x8.size; omega
  have f17 := x14 _ _ f5
  have x18 := x8.trans x14
  obtain ⟨_, h19, s20, b21, rfl, q22, x23⟩ := short_ok h11 [x] _ _ (sl_step (x := x) f13 rfl) (show (1 : Nat) ≤ 9223372036854775807 by decide)
  have f24 := x23 _ _ f17
  have x25 := x18.trans x23
  rcases Bool.eq_false_or_eq_true (b21) with c26 | c26
  · obtain ⟨l9x, s9x⟩ := q22 c26
    have s9x := s9x x (List.mem_singleton.2 rfl)
    refine wc_ev [evLw 1 0 agg47 size47 f5, evS 1 1 1 eb10 e12, evFb 1 2 c26 s20] .normal h19 [(15, (vA #[(vI x.k), (vS x.key), (vI x.c.v), (vI x.c.up), (vI x.c.dn), (vI x.c.lo), (vI x.c.hi), (vI x.ph), (vI x.d), (vS x.r0), (vS x.r1)])), (16, (vL (some ⟨b9, 0, none⟩) 1 1)), (17, (vB true)), (18, (vB false))] ?_
    refine wc_seq' (subc (bodyOf Tryd.prog 5) [1, 1, 0]) (subc (bodyOf Tryd.prog 5) [1, 1, 1]) (by kernel_rfl) ?_
    refine wc_ev [] .normal h19 [(3, vN)] ?_
    refine wc_seq' (subc (bodyOf Tryd.prog 5) [1, 1, 1, 0]) (subc (bodyOf Tryd.prog 5) [1, 1, 1, 1]) (by kernel_rfl) ?_
    obtain ⟨b27, eb28⟩ : ∃ zq, zq = h19.size := ⟨_, rfl⟩
    obtain ⟨h29, e30⟩ : ∃ zq, zq = h19.push (.cells #[(Value.map none)] 50 (0, 0)) := ⟨_, rfl⟩
    have f31 := push_new e30
    rw [← eb28] at f31
    have x32 : Ext h19 h29 := by rw [e30]; exact Ext.push _ _
    have o33 : h.size ≤ b27 := by have := x25.size; omega
    have f34 := x32 _ _ f24
    have x35 := x25.trans x32
    obtain ⟨b36, eb37⟩ : ∃ zq, zq = h29.size := ⟨_, rfl⟩
    obtain ⟨h38, e39⟩ : ∃ zq, zq = h29.push (.cells #[(Value.pointer none), (vP b27 0)] 27 (0, 0)) := ⟨_, rfl⟩
    have f40 := push_new e39
    rw [← eb37] at f40
    have x41 : Ext h29 h38 := by rw [e39]; exact Ext.push _ _
    have o42 : h.size ≤ b36 := by have := x35.size; omega
    have f43 := x41 _ _ f34
    have f44 := x41 _ _ f31
    have x45 := x35.trans x41
    refine wc_ev [evA 4 2 eb28 e30, evS 4 3 2 eb37 e39] .normal h38 [(20, vN), (21, (vA #[(Value.map none)])), (22, (vP b27 0)), (23, (vL (some ⟨b36, 0, none⟩) 2 2)), (4, (vL (some ⟨b36, 0, none⟩) 2 2))] ?_
    refine wc_seq' (subc (bodyOf Tryd.prog 5) [1, 1, 1, 1, 0]) (subc (bodyOf Tryd.prog 5) [1, 1, 1, 1, 1]) (by kernel_rfl) ?_
    refine wc_seq' (subc (bodyOf Tryd.prog 5) [1, 1, 1, 1, 0, 0]) (subc (bodyOf Tryd.prog 5) [1, 1, 1, 1, 0, 1]) (by kernel_rfl) ?_
    refine wc_ev [] .normal h38 [(5, (vI 0))] ?_
    refine wc_block' 0 (subc (bodyOf Tryd.prog 5) [1, 1, 1, 1, 0, 1, 0]) (by kernel_rfl) ?_
    refine wc_once (subc (bodyOf Tryd.prog 5) [1, 1, 1, 1, 0, 1, 0, 0]) (by kernel_rfl) ?_
    obtain ⟨_, hh46, sn47, rfl, x48⟩ := get_nil h38 x.key
    have f49 := x48 _ _ f43
    have f50 := x48 _ _ f44
    have f51 := x48 _ _ f40
    have x52 := x45.trans x48
    obtain ⟨b53, eb54⟩ : ∃ zq, zq = hh46.size := ⟨_, rfl⟩
    obtain ⟨h55, e56⟩ : ∃ zq, zq = hh46.push (.cells #[(vI 0), (vI 0), (vI 0), (vI 0), (vI 0)] 39 (0, 0)) := ⟨_, rfl⟩
    have f57 := push_new e56
    rw [← eb54] at f57
    have n58 : b53 ≠ b1 := by have := row_lt f49; omega
    have n59 : b53 ≠ b27 := by have := row_lt f50; omega
    have n60 : b53 ≠ b36 := by have := row_lt f51; omega
    have x61 : Ext hh46 h55 := by rw [e56]; exact Ext.push _ _
    have o62 : h.size ≤ b53 := by have := x52.size; omega
    have f63 := x61 _ _ f49
    have f65 := x61 _ _ f50
    have f66 := x61 _ _ f51
    have x67 := x52.trans x61
    obtain ⟨h68, e69⟩ : ∃ zq, zq = h55.setIfInBounds b53 (.cells #[(vI 0), (vI 0), (vI 0), (vI 0), (vI 0)] 39 (0, 0)) := ⟨_, rfl⟩
    have f70 := set_same e69 f57
    have f71 := set_other e69 f63 n58
    have f72 := set_other e69 f65 n59
    have f73 := set_other e69 f66 n60
    have x74 := Ext.setNew x67 e69 o62
    obtain ⟨_, hh75, sn76, rfl, x77⟩ := sapply_nil h68 x.key x.ph x.d
    have f78 := x77 _ _ f71
    have f79 := x77 _ _ f72
    have f80 := x77 _ _ f73
    have f81 := x77 _ _ f70
    have x82 := x74.trans x77
    obtain ⟨_, hh83, sn84, rfl, x85⟩ := in_nil hh75 x.r0 x.r1
    have f86 := x85 _ _ f78
    have f87 := x85 _ _ f79
    have f88 := x85 _ _ f80
    have f89 := x85 _ _ f81
    have x90 := x82.trans x85
    obtain ⟨_, hh91, sn92, rfl, x93⟩ := ssum_nil hh83 
    have f94 := x93 _ _ f86
    have f95 := x93 _ _ f87
    have f96 := x93 _ _ f88
    have f97 := x93 _ _ f89
    have x98 := x90.trans x93
    obtain ⟨_, hh99, sn100, rfl, x101⟩ := put_nil hh91 x.key x.c
    have f102 := x101 _ _ f94
    have f103 := x101 _ _ f95
    have f104 := x101 _ _ f96
    have x105 := x98.trans x101
    obtain ⟨_, hh106, sn107, rfl, x108⟩ := remove_nil hh99 x.key
    have f109 := x108 _ _ f102
    have f110 := x108 _ _ f103
    have f111 := x108 _ _ f104
    have x112 := x105.trans x108
    obtain ⟨_, hh113, sn114, w115, c116, rfl, x117⟩ := keys_nil hh106
    have f118 := x117 _ _ f109
    have f119 := x117 _ _ f110
    have f120 := x117 _ _ f111
    have x121 := x112.trans x117
    obtain ⟨_, hh122, sn123, rfl, x124⟩ := len_nil hh113 
    have f125 := x124 _ _ f118
    have f126 := x124 _ _ f119
    have f127 := x124 _ _ f120
    have x128 := x121.trans x124
    obtain ⟨_, hh129, sn130, rfl, x131⟩ := quiet_nil hh122 
    have f132 := x131 _ _ f125
    have f133 := x131 _ _ f126
    have f134 := x131 _ _ f127
    have x135 := x128.trans x131
    obtain ⟨_, hh136, sn137, rfl, x138⟩ := copy_nil hh129 
    have f139 := x138 _ _ f132
    have f140 := x138 _ _ f133
    have f141 := x138 _ _ f134
    have x142 := x135.trans x138
    refine wc_ev [evC 8 3 0 agg27 f40, evC 9 2 1 agg9 f43, evF 9 3 sn47, evA 9 7 eb54 e56, evUw 9 8 size39 f57 e69, evC 10 2 1 agg9 f71, evC 10 4 7 agg3 f71, evC 10 6 8 agg2 f71, evF 10 7 sn76, evL 11 2 9 agg24 size24 f78, evF 11 3 sn84, evF 12 1 sn92, evLw 13 0 agg39 size39 f97, evV 13 2 (vB false) (show binA Tryd.prog .neq 39 (vA #[(vI 0), (vI 0), (vI 0), (vI 0), (vI 0)]) (vA #[(vI 0), (vI 0), (vI 0), (vI 0), (vI 0)]) = some (vB false) from cmp39_neq (decide_eq_false (not_not_intro ⟨rfl, rfl, rfl, rfl, rfl⟩))), evC 13 35 1 agg9 f94, evL 13 37 2 agg39 size39 f94, evF 13 38 sn100, evC 13 44 1 agg9 f102, evF 13 45 sn107, evF 13 50 sn114, evF 13 56 sn123, evF 13 61 sn130, evF 13 65 sn137] .normal hh136 [(24, (vI 0)), (25, (vL (some ⟨b36, 0, none⟩) 2 2)), (26, (vI 2)), (27, (vB true)), (30, (vL (some ⟨b36, 0, none⟩) 2 2)), (31, (vI 0)), (32, (vP b36 0)), (33, vN), (6, vN), (35, vN), (36, (vP b1 1)), (37, (vS x.key)), (38, (vT #[(vA #[(vI 0), (vI 0), (vI 0), (vI 0), (vI 0)]), (vI 1)])), (34, (vT #[(vA #[(vI 0), (vI 0), (vI 0), (vI 0), (vI 0)]), (vI 1)])), (39, (vA #[(vI 0), (vI 0), (vI 0), (vI 0), (vI 0)])), (40, (vI 1)), (7, (vP b53 0)), (8, (vI 1)), (42, vN), (43, (vP b1 1)), (44, (vS x.key)), (45, (vP b1 7)), (46, (vI x.ph)), (47, (vP b1 8)), (48, (vI x.d)), (49, (vT #[(vI 0), (vI 1)])), (41, (vT #[(vI 0), (vI 1)])), (50, (vI 0)), (51, (vI 1)), (9, (vI 0)), (10, (vI 1)), (53, vN), (54, (vP b1 9)), (55, (vA #[(vS x.r0), (vS x.r1)])), (56, (vT #[(vL none 0 0), (vI 1)])), (52, (vT #[(vL none 0 0), (vI 1)])), (57, (vL none 0 0)), (58, (vI 1)), (11, (vL none 0 0)), (12, (vI 1)), (60, vN), (61, (vT #[(vI 0), (vI 1)])), (59, (vT #[(vI 0), (vI 1)])), (62, (vI 0)), (63, (vI 1)), (13, (vI 0)), (14, (vI 1)), (64, (vA #[(vI 0), (vI 0), (vI 0), (vI 0), (vI 0)])), (65, (vA #[(vI 0), (vI 0), (vI 0), (vI 0), (vI 0)])), (66, (vB false)), (67, (vB false)), (68, (vI 1)), (69, (vB false)), (70, (vB false)), (71, (vB false)), (72, (vI 0)), (73, (vB false)), (74, (vB false)), (75, (vB false)), (76, (vI 1)), (77, (vB false)), (78, (vB false)), (79, (vB false)), (80, (vL none 0 0)), (81, (vI 0)), (82, (vB false)), (83, (vB false)), (84, (vB false)), (85, (vI 1)), (86, (vB false)), (87, (vB false)), (88, (vB false)), (89, (vI 0)), (90, (vB false)), (91, (vB false)), (92, (vB false)), (93, (vI 1)), (94, (vB false)), (95, (vB false)), (96, (vB false)), (97, vN), (98, (vP b1 1)), (99, (vS x.key)), (100, (vP b1 2)), (101, (vA #[(vI x.c.v), (vI x.c.up), (vI x.c.dn), (vI x.c.lo), (vI x.c.hi)])), (102, (vI 1)), (103, (vB false)), (104, (vB false)), (105, (vB false)), (106, vN), (107, (vP b1 1)), (108, (vS x.key)), (109, (vI 1)), (110, (vB false)), (111, (vB false)), (112, (vB false)), (113, vN), (114, (vL w115 0 c116)), (115, (vI 0)), (116, (vB false)), (117, (vB false)), (118, (vB false)), (119, vN), (120, (vI 0)), (121, (vB false)), (122, (vB false)), (123, (vB false)), (124, vN), (125, (vB false)), (126, (vB false)), (127, (vB false)), (128, vN), (129, vN), (130, (vB false)), (131, (vB false)), (28, (vI 0)), (29, (vI 1)), (5, (vI 1))] ?_
    refine wc_once (subc (bodyOf Tryd.prog 5) [1, 1, 1, 1, 0, 1, 0, 0]) rfl ?_
    refine wc_act { tmps := #[(vA #[(vI x.k), (vS x.key), (vI x.c.v), (vI x.c.up), (vI x.c.dn), (vI x.c.lo), (vI x.c.hi), (vI x.ph), (vI x.d), (vS x.r0), (vS x.r1)]), (vP b1 0), (vB false), vN, (vL (some ⟨b36, 0, none⟩) 2 2), (vI 1), vN, (vP b53 0), (vI 1), (vI 0), (vI 1), (vL none 0 0), (vI 1), (vI 0), (vI 1), (vA #[(vI x.k), (vS x.key), (vI x.c.v), (vI x.c.up), (vI x.c.dn), (vI x.c.lo), (vI x.c.hi), (vI x.ph), (vI x.d), (vS x.r0), (vS x.r1)]), (vL (some ⟨b9, 0, none⟩) 1 1), (vB true), (vB false), vZ, vN, (vA #[(Value.map none)]), (vP b27 0), (vL (some ⟨b36, 0, none⟩) 2 2), (vI 0), (vL (some ⟨b36, 0, none⟩) 2 2), (vI 2), (vB true), (vI 0), (vI 1), (vL (some ⟨b36, 0, none⟩) 2 2), (vI 0), (vP b36 0), vN, (vT #[(vA #[(vI 0), (vI 0), (vI 0), (vI 0), (vI 0)]), (vI 1)]), vN, (vP b1 1), (vS x.key), (vT #[(vA #[(vI 0), (vI 0), (vI 0), (vI 0), (vI 0)]), (vI 1)]), (vA #[(vI 0), (vI 0), (vI 0), (vI 0), (vI 0)]), (vI 1), (vT #[(vI 0), (vI 1)]), vN, (vP b1 1), (vS x.key), (vP b1 7), (vI x.ph), (vP b1 8), (vI x.d), (vT #[(vI 0), (vI 1)]), (vI 0), (vI 1), (vT #[(vL none 0 0), (vI 1)]), vN, (vP b1 9), (vA #[(vS x.r0), (vS x.r1)]), (vT #[(vL none 0 0), (vI 1)]), (vL none 0 0), (vI 1), (vT #[(vI 0), (vI 1)]), vN, (vT #[(vI 0), (vI 1)]), (vI 0), (vI 1), (vA #[(vI 0), (vI 0), (vI 0), (vI 0), (vI 0)]), (vA #[(vI 0), (vI 0), (vI 0), (vI 0), (vI 0)]), (vB false), (vB false), (vI 1), (vB false), (vB false), (vB false), (vI 0), (vB false), (vB false), (vB false), (vI 1), (vB false), (vB false), (vB false), (vL none 0 0), (vI 0), (vB false), (vB false), (vB false), (vI 1), (vB false), (vB false), (vB false), (vI 0), (vB false), (vB false), (vB false), (vI 1), (vB false), (vB false), (vB false), vN, (vP b1 1), (vS x.key), (vP b1 2), (vA #[(vI x.c.v), (vI x.c.up), (vI x.c.dn), (vI x.c.lo), (vI x.c.hi)]), (vI 1), (vB false), (vB false), (vB false), vN, (vP b1 1), (vS x.key), (vI 1), (vB false), (vB false), (vB false), vN, (vL w115 0 c116), (vI 0), (vB false), (vB false), (vB false), vN, (vI 0), (vB false), (vB false), (vB false), vN, (vB false), (vB false), (vB false), vN, vN, (vB false), (vB false), vZ], defers := [] } (by as_aux_lemma => kernel_rfl) ?_
    obtain ⟨_, hh143, sn144, rfl, x145⟩ := get_bad hh136 f140 x.key
    have f146 := x145 _ _ f139
    have f147 := x145 _ _ f140
    have x148 := x142.trans x145
    obtain ⟨b149, eb150⟩ : ∃ zq, zq = hh143.size := ⟨_, rfl⟩
    obtain ⟨h151, e152⟩ : ∃ zq, zq = hh143.push (.cells #[(vI 0), (vI 0), (vI 0), (vI 0), (vI 0)] 39 (0, 0)) := ⟨_, rfl⟩
    have f153 := push_new e152
    rw [← eb150] at f153
    have n154 : b149 ≠ b1 := by have := row_lt f146; omega
    have n155 : b149 ≠ b27 := by have := row_lt f147; omega
    have x156 : Ext hh143 h151 := by rw [e152]; exact Ext.push _ _
    have o157 : h.size ≤ b149 := by have := x148.size; omega
    have f158 := x156 _ _ f146
    have f159 := x156 _ _ f147
    have x160 := x148.trans x156
    obtain ⟨h161, e162⟩ : ∃ zq, zq = h151.setIfInBounds b149 (.cells #[(vI 0), (vI 0), (vI 0), (vI 0), (vI 0)] 39 (0, 0)) := ⟨_, rfl⟩
    have f163 := set_same e162 f153
    have f164 := set_other e162 f158 n154
    have f165 := set_other e162 f159 n155
    have x166 := Ext.setNew x160 e162 o157
    obtain ⟨_, hh167, sn168, rfl, x169⟩ := sapply_bad h161 f165 x.key x.ph x.d
    have f170 := x169 _ _ f164
    have f171 := x169 _ _ f165
    have f172 := x169 _ _ f163
    have x173 := x166.trans x169
    obtain ⟨_, hh174, sn175, rfl, x176⟩ := in_bad hh167 f171 x.r0 x.r1
    have f177 := x176 _ _ f170
    have f178 := x176 _ _ f171
    have f179 := x176 _ _ f172
    have x180 := x173.trans x176
    obtain ⟨_, hh181, sn182, rfl, x183⟩ := ssum_bad hh174 f178 
    have f184 := x183 _ _ f177
    have f185 := x183 _ _ f178
    have f186 := x183 _ _ f179
    have x187 := x180.trans x183
    obtain ⟨_, hh188, sn189, rfl, x190⟩ := put_bad hh181 f185 x.key x.c
    have f191 := x190 _ _ f184
    have f192 := x190 _ _ f185
    have x193 := x187.trans x190
    obtain ⟨_, hh194, sn195, rfl, x196⟩ := remove_bad hh188 f192 x.key
    have f197 := x196 _ _ f192
    have x198 := x193.trans x196
    obtain ⟨_, hh199, sn200, w201, c202, rfl, x203⟩ := keys_bad hh194 f197
    have f204 := x203 _ _ f197
    have x205 := x198.trans x203
    obtain ⟨_, hh206, sn207, rfl, x208⟩ := len_bad hh199 f204 
    have f209 := x208 _ _ f204
    have x210 := x205.trans x208
    obtain ⟨_, hh211, sn212, rfl, x213⟩ := quiet_bad hh206 f209 
    have f214 := x213 _ _ f209
    have x215 := x210.trans x213
    obtain ⟨_, hh216, sn217, rfl, x218⟩ := copy_bad hh211 f214 
    have x219 := x215.trans x218
    refine wc_ev [evC 8 3 1 agg27 f141, evC 9 2 1 agg9 f139, evF 9 3 sn144, evA 9 7 eb150 e152, evUw 9 8 size39 f153 e162, evC 10 2 1 agg9 f164, evC 10 4 7 agg3 f164, evC 10 6 8 agg2 f164, evF 10 7 sn168, evL 11 2 9 agg24 size24 f170, evF 11 3 sn175, evF 12 1 sn182, evLw 13 0 agg39 size39 f186, evV 13 2 (vB false) (show binA Tryd.prog .neq 39 (vA #[(vI 0), (vI 0), (vI 0), (vI 0), (vI 0)]) (vA #[(vI 0), (vI 0), (vI 0), (vI 0), (vI 0)]) = some (vB false) from cmp39_neq (decide_eq_false (not_not_intro ⟨rfl, rfl, rfl, rfl, rfl⟩))), evC 13 35 1 agg9 f184, evL 13 37 2 agg39 size39 f184, evF 13 38 sn189, evC 13 44 1 agg9 f191, evF 13 45 sn195, evF 13 50 sn200, evF 13 56 sn207, evF 13 61 sn212, evF 13 65 sn217] .normal hh216 [(24, (vI 1)), (25, (vL (some ⟨b36, 0, none⟩) 2 2)), (26, (vI 2)), (27, (vB true)), (30, (vL (some ⟨b36, 0, none⟩) 2 2)), (31, (vI 1)), (32, (vP b36 1)), (33, (vP b27 0)), (6, (vP b27 0)), (35, (vP b27 0)), (36, (vP b1 1)), (37, (vS x.key)), (38, (vT #[(vA #[(vI 0), (vI 0), (vI 0), (vI 0), (vI 0)]), (vI 1)])), (34, (vT #[(vA #[(vI 0), (vI 0), (vI 0), (vI 0), (vI 0)]), (vI 1)])), (39, (vA #[(vI 0), (vI 0), (vI 0), (vI 0), (vI 0)])), (40, (vI 1)), (7, (vP b149 0)), (8, (vI 1)), (42, (vP b27 0)), (43, (vP b1 1)), (44, (vS x.key)), (45, (vP b1 7)), (46, (vI x.ph)), (47, (vP b1 8)), (48, (vI x.d)), (49, (vT #[(vI 0), (vI 1)])), (41, (vT #[(vI 0), (vI 1)])), (50, (vI 0)), (51, (vI 1)), (9, (vI 0)), (10, (vI 1)), (53, (vP b27 0)), (54, (vP b1 9)), (55, (vA #[(vS x.r0), (vS x.r1)])), (56, (vT #[(vL none 0 0), (vI 1)])), (52, (vT #[(vL none 0 0), (vI 1)])), (57, (vL none 0 0)), (58, (vI 1)), (11, (vL none 0 0)), (12, (vI 1)), (60, (vP b27 0)), (61, (vT #[(vI 0), (vI 1)])), (59, (vT #[(vI 0), (vI 1)])), (62, (vI 0)), (63, (vI 1)), (13, (vI 0)), (14, (vI 1)), (64, (vA #[(vI 0), (vI 0), (vI 0), (vI 0), (vI 0)])), (65, (vA #[(vI 0), (vI 0), (vI 0), (vI 0), (vI 0)])), (66, (vB false)), (67, (vB false)), (68, (vI 1)), (69, (vB false)), (70, (vB false)), (71, (vB false)), (72, (vI 0)), (73, (vB false)), (74, (vB false)), (75, (vB false)), (76, (vI 1)), (77, (vB false)), (78, (vB false)), (79, (vB false)), (80, (vL none 0 0)), (81, (vI 0)), (82, (vB false)), (83, (vB false)), (84, (vB false)), (85, (vI 1)), (86, (vB false)), (87, (vB false)), (88, (vB false)), (89, (vI 0)), (90, (vB false)), (91, (vB false)), (92, (vB false)), (93, (vI 1)), (94, (vB false)), (95, (vB false)), (96, (vB false)), (97, (vP b27 0)), (98, (vP b1 1)), (99, (vS x.key)), (100, (vP b1 2)), (101, (vA #[(vI x.c.v), (vI x.c.up), (vI x.c.dn), (vI x.c.lo), (vI x.c.hi)])), (102, (vI 1)), (103, (vB false)), (104, (vB false)), (105, (vB false)), (106, (vP b27 0)), (107, (vP b1 1)), (108, (vS x.key)), (109, (vI 1)), (110, (vB false)), (111, (vB false)), (112, (vB false)), (113, (vP b27 0)), (114, (vL w201 0 c202)), (115, (vI 0)), (116, (vB false)), (117, (vB false)), (118, (vB false)), (119, (vP b27 0)), (120, (vI 0)), (121, (vB false)), (122, (vB false)), (123, (vB false)), (124, (vP b27 0)), (125, (vB false)), (126, (vB false)), (127, (vB false)), (128, (vP b27 0)), (129, vN), (130, (vB false)), (131, (vB false)), (28, (vI 1)), (29, (vI 2)), (5, (vI 2))] ?_
    refine wc_once (subc (bodyOf Tryd.prog 5) [1, 1, 1, 1, 0, 1, 0, 0]) rfl ?_
    refine wc_act { tmps := #[(vA #[(vI x.k), (vS x.key), (vI x.c.v), (vI x.c.up), (vI x.c.dn), (vI x.c.lo), (vI x.c.hi), (vI x.ph), (vI x.d), (vS x.r0), (vS x.r1)]), (vP b1 0), (vB false), vN, (vL (some ⟨b36, 0, none⟩) 2 2), (vI 2), (vP b27 0), (vP b149 0), (vI 1), (vI 0), (vI 1), (vL none 0 0), (vI 1), (vI 0), (vI 1), (vA #[(vI x.k), (vS x.key), (vI x.c.v), (vI x.c.up), (vI x.c.dn), (vI x.c.lo), (vI x.c.hi), (vI x.ph), (vI x.d), (vS x.r0), (vS x.r1)]), (vL (some ⟨b9, 0, none⟩) 1 1), (vB true), (vB false), vZ, vN, (vA #[(Value.map none)]), (vP b27 0), (vL (some ⟨b36, 0, none⟩) 2 2), (vI 1), (vL (some ⟨b36, 0, none⟩) 2 2), (vI 2), (vB true), (vI 1), (vI 2), (vL (some ⟨b36, 0, none⟩) 2 2), (vI 1), (vP b36 1), (vP b27 0), (vT #[(vA #[(vI 0), (vI 0), (vI 0), (vI 0), (vI 0)]), (vI 1)]), (vP b27 0), (vP b1 1), (vS x.key), (vT #[(vA #[(vI 0), (vI 0), (vI 0), (vI 0), (vI 0)]), (vI 1)]), (vA #[(vI 0), (vI 0), (vI 0), (vI 0), (vI 0)]), (vI 1), (vT #[(vI 0), (vI 1)]), (vP b27 0), (vP b1 1), (vS x.key), (vP b1 7), (vI x.ph), (vP b1 8), (vI x.d), (vT #[(vI 0), (vI 1)]), (vI 0), (vI 1), (vT #[(vL none 0 0), (vI 1)]), (vP b27 0), (vP b1 9), (vA #[(vS x.r0), (vS x.r1)]), (vT #[(vL none 0 0), (vI 1)]), (vL none 0 0), (vI 1), (vT #[(vI 0), (vI 1)]), (vP b27 0), (vT #[(vI 0), (vI 1)]), (vI 0), (vI 1), (vA #[(vI 0), (vI 0), (vI 0), (vI 0), (vI 0)]), (vA #[(vI 0), (vI 0), (vI 0), (vI 0), (vI 0)]), (vB false), (vB false), (vI 1), (vB false), (vB false), (vB false), (vI 0), (vB false), (vB false), (vB false), (vI 1), (vB false), (vB false), (vB false), (vL none 0 0), (vI 0), (vB false), (vB false), (vB false), (vI 1), (vB false), (vB false), (vB false), (vI 0), (vB false), (vB false), (vB false), (vI 1), (vB false), (vB false), (vB false), (vP b27 0), (vP b1 1), (vS x.key), (vP b1 2), (vA #[(vI x.c.v), (vI x.c.up), (vI x.c.dn), (vI x.c.lo), (vI x.c.hi)]), (vI 1), (vB false), (vB false), (vB false), (vP b27 0), (vP b1 1), (vS x.key), (vI 1), (vB false), (vB false), (vB false), (vP b27 0), (vL w201 0 c202), (vI 0), (vB false), (vB false), (vB false), (vP b27 0), (vI 0), (vB false), (vB false), (vB false), (vP b27 0), (vB false), (vB false), (vB false), (vP b27 0), vN, (vB false), (vB false), vZ], defers := [] } (by as_aux_lemma => kernel_rfl) ?_
    refine wc_ev [] (.exit 0) hh216 [(24, (vI 2)), (25, (vL (some ⟨b36, 0, none⟩) 2 2)), (26, (vI 2)), (27, (vB false))] ?_
    obtain ⟨_, hh220, sn221, rfl, x222⟩ := works_ok hh216
    have x223 := x219.trans x222
    refine wc_ev [evF 15 0 sn221] .ret hh220 [(132, (vB true)), (2, (vB true))] ?_
    exact end_ev [] (vB true) (hK _ _ (⟨rfl, x223⟩))
  · obtain ⟨_, hh224, sn225, rfl, x226⟩ := works_ok h19
    have x227 := x25.trans x226
    refine wc_ev [evLw 1 0 agg47 size47 f5, evS 1 1 1 eb10 e12, evFb 1 2 c26 s20, evF 2 0 sn225] .ret hh224 [(15, (vA #[(vI x.k), (vS x.key), (vI x.c.v), (vI x.c.up), (vI x.c.dn), (vI x.c.lo), (vI x.c.hi), (vI x.ph), (vI x.d), (vS x.r0), (vS x.r1)])), (16, (vL (some ⟨b9, 0, none⟩) 1 1)), (17, (vB false)), (18, (vB true)), (19, (vB true)), (2, (vB true))] ?_
    exact end_ev [] (vB true) (hK _ _ (⟨rfl, x227⟩))
theorem law_nil_x (h : Heap) (n0 : Int) (_ : -9223372036854775808 ≤ n0 ∧ n0 ≤ 9223372036854775807) (n1 : ByteArray) (n2 : Int) (_ : -9223372036854775808 ≤ n2 ∧ n2 ≤ 9223372036854775807) (n3 : Int) (_ : -9223372036854775808 ≤ n3 ∧ n3 ≤ 9223372036854775807) (n4 : Int) (_ : -9223372036854775808 ≤ n4 ∧ n4 ≤ 9223372036854775807) (n5 : Int) (_ : -9223372036854775808 ≤ n5 ∧ n5 ≤ 9223372036854775807) (n6 : Int) (_ : -9223372036854775808 ≤ n6 ∧ n6 ≤ 9223372036854775807) (n7 : Int) (_ : -9223372036854775808 ≤ n7 ∧ n7 ≤ 9223372036854775807) (n8 : Int) (_ : -9223372036854775808 ≤ n8 ∧ n8 ≤ 9223372036854775807) (n9 : ByteArray) (n10 : ByteArray) : WCall Tryd.prog 5 #[(Value.agg #[(vI (n0)), (vS n1), (vI (n2)), (vI (n3)), (vI (n4)), (vI (n5)), (vI (n6)), (vI (n7)), (vI (n8)), (vS n9), (vS n10)])] h (fun v h1 => v = .bool true ∧ Ext h h1) :=
  law_nil h ⟨n0, n1, ⟨n2, n3, n4, n5, n6⟩, n7, n8, n9, n10⟩
end C08
