/- The run of SagaStarts. -/
import Derived.Test.YtonjnghiehdmmaaDoorMl
import Derived.Test.YtonjnghiehdmmaaDoorMi
import Derived.KernelRfl
open Go Go.AM Go.Proofs
namespace C28
theorem size2 : (Tryd.prog.info? 2).map (·.size) = some 1 := by kernel_rfl
theorem add_wrap {t : TypeId} {a b : Int} : binA Tryd.prog .add t (.int .i64 a) (.int .i64 b) = some (.int .i64 (IntKind.i64.wrap (a + b))) := by simp [binA, intBinA]
set_option maxRecDepth 10000 in
set_option maxHeartbeats 4000000 in
theorem law_starts (h : Heap) (s : SagaM) (sa : Option Addr) (cp : Nat) (hl : LAt h stepc 2 s.d.xs (.slice sa s.d.xs.length cp)) (hlen : s.d.xs.length ≤ 9223372036854775807) (hnm : s.d.name.size ≤ 9223372036854775807) (hks : ∀ x ∈ s.d.xs, x.key.size ≤ 9223372036854775807) (now : Int) (hg0 : h[0]? = some (.cells #[Value.nilFunc, (Value.func (.func 126) #[] #[]), (Value.func (.func 127) #[] #[]), (Value.func (.func 128) #[] #[])] 86 (0, 0))) (hg1 : h[1]? = some (.cells #[(vI 0), (vI 1), (vI 3), (vI 2)] 96 (0, 0))) : WCall Tryd.prog 7 #[(Value.agg #[(vS s.d.name), (vI (s.d.rt)), (vI (s.d.dl)), (Value.slice sa (s.d.xs.length) (cp)), (vI (s.st)), (vI (s.ix)), (vB s.cn), (vI (s.tr)), (vI (s.bg)), (vI (s.er))]), (vI (now))] h (fun v h1 => v = .bool true ∧ Ext h h1) := by
  suffices H : ∀ K : Value → Heap → Prop, (∀ v h1, (fun v h1 => v = .bool true ∧ Ext h h1) v h1 → K v h1) → WCall Tryd.prog 7 #[(Value.agg #[(vS s.d.name), (vI (s.d.rt)), (vI (s.d.dl)), (Value.slice sa (s.d.xs.length) (cp)), (vI (s.st)), (vI (s.ix)), (vB s.cn), (vI (s.tr)), (vI (s.bg)), (vI (s.er))]), (vI (now))] h K from H _ fun _ _ q => q
  intro K hK
  refine wcall_at { tmps := #[(vA #[(vS s.d.name), (vI s.d.rt), (vI s.d.dl), (vL sa s.d.xs.length cp), (vI s.st), (vI s.ix), (vB s.cn), (vI s.tr), (vI s.bg), (vI s.er)]), (vI now), vZ, vZ, vZ, vZ, vZ, vZ, vZ, vZ, vZ, vZ, vZ, vZ, vZ, vZ, vZ, vZ, vZ, vZ, vZ, vZ, vZ, vZ, vZ, vZ, vZ, vZ, vZ, vZ, vZ, vZ, vZ, vZ, vZ, vZ, vZ, vZ, vZ, vZ, vZ, vZ, vZ, vZ, vZ, vZ, vZ, vZ, vZ, vZ, vZ, vZ, vZ, vZ, vZ, vZ, vZ, vZ, vZ, vZ, vZ, vZ, vZ, vZ, vZ, vZ, vZ, vZ, vZ, vZ, vZ, vZ, vZ, vZ, vZ, vZ, vZ, vZ, vZ, vZ, vZ, vZ, vZ, vZ, vZ, vZ, vZ, vZ, vZ, vZ, vZ, vZ, vZ, vZ, vZ, vZ, vZ, vZ, vZ, vZ, vZ, vZ, vZ, vZ, vZ, vZ, vZ, vZ, vZ, vZ, vZ, vZ, vZ, vZ, vZ, vZ, vZ, vZ, vZ, vZ, vZ, vZ, vZ, vZ, vZ, vZ, vZ], defers := [] } (by kernel_rfl) ?_
  refine wc_seq' (subc (bodyOf Tryd.prog 7) [0]) (subc (bodyOf Tryd.prog 7) [1]) (by kernel_rfl) ?_
  obtain ⟨b1, eb2⟩ : ∃ zq, zq = h.size := ⟨_, rfl⟩
  obtain ⟨h3, e4⟩ : ∃ zq, zq = h.push (.cells #[(vS s.d.name), (vI (s.d.rt)), (vI (s.d.dl)), (Value.slice sa (s.d.xs.length) (cp)), (vI (s.st)), (vI (s.ix)), (vB s.cn), (vI (s.tr)), (vI (s.bg)), (vI (s.er))] 27 (0, 0)) := ⟨_, rfl⟩
  have f5 := push_new e4
  rw [← eb2] at f5
  have x6 : Ext h h3 := by rw [e4]; exact Ext.push _ _
  have o7 : h.size ≤ b1 := by have := (Ext.refl h).size; omega
  have x8 := (Ext.refl h).trans x6
  refine wc_ev [evA 0 0 eb2 e4] .normal h3 [(2, (vP b1 0)), (4, (vB false))] ?_
  refine wc_seq' (subc (bodyOf Tryd.prog 7) [1, 0]) (subc (bodyOf Tryd.prog 7) [1, 1]) (by kernel_rfl) ?_
  obtain ⟨_, h9, s10, q11, rfl, u12, x13⟩ := short_ok h3 s.d _ _ (hl.keep fun b r _ q => x8 b r q) (by omega)
  have f14 := x13 _ _ f5
  have x15 := x8.trans x13
  rcases Bool.eq_false_or_eq_true (q11) with c16 | c16
  · have := u12 c16
    refine wc_ev [evL 1 1 0 agg24 size24 f5, evFb 1 2 c16 s10] .normal h9 [(17, (vP b1 0)), (18, (vA #[(vS s.d.name), (vI s.d.rt), (vI s.d.dl), (vL sa s.d.xs.length cp)])), (19, (vB true)), (20, (vB false))] ?_
    refine wc_seq' (subc (bodyOf Tryd.prog 7) [1, 1, 0]) (subc (bodyOf Tryd.prog 7) [1, 1, 1]) (by kernel_rfl) ?_
    obtain ⟨v17, h18, s19, p20, p21, x22⟩ := sstart_ok h9 s.d _ _ (hl.keep fun b r _ q => x15 b r q) (by omega) (now)
    have f23 := x22 _ _ f14
    have x24 := x15.trans x22
    by_cases c25 : ((staE s.d (now)) : Int) = 0
    · obtain ⟨w26, c27, p28, o29, n30⟩ := p21 c25
      obtain ⟨s31, e32⟩ : ∃ q, q = staS s.d (now) := ⟨_, rfl⟩
      have e33 : s31.d = s.d := by rw [e32]; rfl
      have e34 : s31.d.xs.length = (s.d).xs.length := by rw [e33]
      rw [← e32, ← e33] at p28
      rw [← e33] at o29 n30
      have c35 : chkS s31 = 0 := by rw [e32]; exact sta_ok c25
      have z36 : h.size ≤ h9.size := x15.size
      have n37 : ∀ zz, blk (Value.slice w26 (s31.d.xs.length) (c27)) zz → ¬ zz = b1 := fun zz hz ez => by have := n30 zz hz; have := row_lt f14; omega
      have o38 : ∀ zz, blk (Value.slice w26 (s31.d.xs.length) (c27)) zz → h.size ≤ zz := fun zz hz => by have := n30 zz hz; omega
      obtain ⟨b39, eb40⟩ : ∃ zq, zq = h18.size := ⟨_, rfl⟩
      obtain ⟨h41, e42⟩ : ∃ zq, zq = h18.push (.cells #[(vS .empty), (vI 0), (vI 0), (Value.slice none 0 0), (vI 0), (vI 0), (vB false), (vI 0), (vI 0), (vI 0)] 41 (0, 0)) := ⟨_, rfl⟩
      have f43 := push_new e42
      rw [← eb40] at f43
      have n44 : b39 ≠ b1 := by have := row_lt f23; omega
      have n45 : ∀ zz, (blk (Value.slice w26 (s31.d.xs.length) (c27))) zz → ¬ zz = b39 := fun zz hz ez => by have := o29.blk_lt hz; omega
      have x46 : Ext h18 h41 := by rw [e42]; exact Ext.push _ _
      have o47 : h.size ≤ b39 := by have := x24.size; omega
      have f48 := x46 _ _ f23
      have p49 := o29.keep fun b r _ q => x46 b r q
      have x50 := x24.trans x46
      obtain ⟨h51, e52⟩ : ∃ zq, zq = h41.setIfInBounds b39 (.cells #[(vS s31.d.name), (vI (s31.d.rt)), (vI (s31.d.dl)), (Value.slice w26 (s31.d.xs.length) (c27)), (vI (s31.st)), (vI (s31.ix)), (vB s31.cn), (vI (s31.tr)), (vI (s31.bg)), (vI (s31.er))] 41 (0, 0)) := ⟨_, rfl⟩
      have f53 := set_same e52 f43
      have f54 := set_other e52 f48 n44
      have p55 := p49.keep fun b r hb q => (Chg.set e52).same b r q (n45 b hb)
      have x56 := Ext.setNew x50 e52 o47
      refine wc_ev [evL 3 1 0 agg24 size24 f14, evFe 3 3 p28 s19, evA 3 7 eb40 e42, evUw 3 8 size41 f43 e52] .normal h51 [(23, (vP b1 0)), (24, (vA #[(vS s.d.name), (vI s.d.rt), (vI s.d.dl), (vL sa s.d.xs.length cp)])), (25, (vI now)), (26, (vT #[(vA #[(vS s31.d.name), (vI s31.d.rt), (vI s31.d.dl), (vL w26 s31.d.xs.length c27), (vI s31.st), (vI s31.ix), (vB s31.cn), (vI s31.tr), (vI s31.bg), (vI s31.er)]), (vI 0)])), (22, (vT #[(vA #[(vS s31.d.name), (vI s31.d.rt), (vI s31.d.dl), (vL w26 s31.d.xs.length c27), (vI s31.st), (vI s31.ix), (vB s31.cn), (vI s31.tr), (vI s31.bg), (vI s31.er)]), (vI 0)])), (27, (vA #[(vS s31.d.name), (vI s31.d.rt), (vI s31.d.dl), (vL w26 s31.d.xs.length c27), (vI s31.st), (vI s31.ix), (vB s31.cn), (vI s31.tr), (vI s31.bg), (vI s31.er)])), (28, (vI 0)), (5, (vP b39 0)), (6, (vI 0))] ?_
      refine wc_seq' (subc (bodyOf Tryd.prog 7) [1, 1, 1, 0]) (subc (bodyOf Tryd.prog 7) [1, 1, 1, 1]) (by kernel_rfl) ?_
      obtain ⟨v57, h58, s59, p60, p61, x62⟩ := rsstart_ok h51 s.d _ _ (hl.keep fun b r _ q => x56 b r q) (by omega) hnm hks (now)
      have f63 := x62 _ _ f54
      have f65 := x62 _ _ f53
      have p66 := p55.keep fun b r _ q => x62 b r q
      have x67 := x56.trans x62
      obtain ⟨w68, c69, p70, o71, n72⟩ := p61 c25
      rw [← e32, ← e33] at p70
      rw [← e33] at o71 n72
      have z73 : h.size ≤ h51.size := x56.size
      have n74 : ∀ zz, blk (Value.slice w68 (s31.d.xs.length) (c69)) zz → ¬ (blk (Value.slice w26 (s31.d.xs.length) (c27))) zz := fun zz hz ez => by have := n72 zz hz; have := p55.blk_lt ez; omega
      have o75 : ∀ zz, blk (Value.slice w68 (s31.d.xs.length) (c69)) zz → h.size ≤ zz := fun zz hz => by have := n72 zz hz; omega
      obtain ⟨b76, eb77⟩ : ∃ zq, zq = h58.size := ⟨_, rfl⟩
      obtain ⟨h78, e79⟩ : ∃ zq, zq = h58.push (.cells #[(vS .empty), (vI 0), (vI 0), (Value.slice none 0 0), (vI 0), (vI 0), (vB false), (vI 0), (vI 0), (vI 0)] 37 (0, 0)) := ⟨_, rfl⟩
      have f80 := push_new e79
      rw [← eb77] at f80
      have n81 : b76 ≠ b1 := by have := row_lt f63; omega
      have n82 : b76 ≠ b39 := by have := row_lt f65; omega
      have n83 : ∀ zz, (blk (Value.slice w26 (s31.d.xs.length) (c27))) zz → ¬ zz = b76 := fun zz hz ez => by have := p66.blk_lt hz; omega
      have n84 : ∀ zz, (blk (Value.slice w68 (s31.d.xs.length) (c69))) zz → ¬ zz = b76 := fun zz hz ez => by have := o71.blk_lt hz; omega
      have x85 : Ext h58 h78 := by rw [e79]; exact Ext.push _ _
      have o86 : h.size ≤ b76 := by have := x67.size; omega
      have f87 := x85 _ _ f63
      have f88 := x85 _ _ f65
      have p89 := p66.keep fun b r _ q => x85 b r q
      have p90 := o71.keep fun b r _ q => x85 b r q
      have x91 := x67.trans x85
      obtain ⟨h92, e93⟩ : ∃ zq, zq = h78.setIfInBounds b76 (.cells #[(vS s31.d.name), (vI (s31.d.rt)), (vI (s31.d.dl)), (Value.slice w68 (s31.d.xs.length) (c69)), (vI (s31.st)), (vI (s31.ix)), (vB s31.cn), (vI (s31.tr)), (vI (s31.bg)), (vI (s31.er))] 37 (0, 0)) := ⟨_, rfl⟩
      have f94 := set_same e93 f80
      have f95 := set_other e93 f87 n81
      have f96 := set_other e93 f88 n82
      have p97 := p89.keep fun b r hb q => (Chg.set e93).same b r q (n83 b hb)
      have p98 := p90.keep fun b r hb q => (Chg.set e93).same b r q (n84 b hb)
      have x99 := Ext.setNew x91 e93 o86
      refine wc_ev [evL 4 1 0 agg24 size24 f54, evFe 4 3 p70 s59, evA 4 7 eb77 e79, evUw 4 8 size37 f80 e93] .normal h92 [(30, (vP b1 0)), (31, (vA #[(vS s.d.name), (vI s.d.rt), (vI s.d.dl), (vL sa s.d.xs.length cp)])), (32, (vI now)), (33, (vT #[(vA #[(vS s31.d.name), (vI s31.d.rt), (vI s31.d.dl), (vL w68 s31.d.xs.length c69), (vI s31.st), (vI s31.ix), (vB s31.cn), (vI s31.tr), (vI s31.bg), (vI s31.er)]), (vI 0)])), (29, (vT #[(vA #[(vS s31.d.name), (vI s31.d.rt), (vI s31.d.dl), (vL w68 s31.d.xs.length c69), (vI s31.st), (vI s31.ix), (vB s31.cn), (vI s31.tr), (vI s31.bg), (vI s31.er)]), (vI 0)])), (34, (vA #[(vS s31.d.name), (vI s31.d.rt), (vI s31.d.dl), (vL w68 s31.d.xs.length c69), (vI s31.st), (vI s31.ix), (vB s31.cn), (vI s31.tr), (vI s31.bg), (vI s31.er)])), (35, (vI 0)), (7, (vP b76 0)), (8, (vI 0))] ?_
      refine wc_seq' (subc (bodyOf Tryd.prog 7) [1, 1, 1, 1, 0]) (subc (bodyOf Tryd.prog 7) [1, 1, 1, 1, 1]) (by kernel_rfl) ?_
      obtain ⟨_, hh100, sn101, rfl, x102⟩ := givenV_ok h92 s _ _ (hl.keep fun b r _ q => x99 b r q) (by omega) 
      have f103 := x102 _ _ f95
      have f104 := x102 _ _ f96
      have f105 := x102 _ _ f94
      have p106 := p97.keep fun b r _ q => x102 b r q
      have p107 := p98.keep fun b r _ q => x102 b r q
      have x108 := x99.trans x102
      obtain ⟨v109, h110, s111, p112, p113, x114⟩ := cancel_ok hh100 s _ _ (hl.keep fun b r _ q => x108 b r q) (by omega)
      have f115 := x114 _ _ f103
      have f116 := x114 _ _ f104
      have f117 := x114 _ _ f105
      have p118 := p106.keep fun b r _ q => x114 b r q
      have p119 := p107.keep fun b r _ q => x114 b r q
      have x120 := x108.trans x114
      by_cases c121 : ((canE s) : Int) = 0
      · obtain ⟨w122, c123, p124, o125, n126⟩ := p113 c121
        obtain ⟨s127, e128⟩ : ∃ q, q = canS s := ⟨_, rfl⟩
        have e129 : s127.d = s.d := by rw [e128]; rfl
        have e130 : s127.d.xs.length = (s.d).xs.length := by rw [e129]
        rw [← e128, ← e129] at p124
        rw [← e129] at o125 n126
        have c131 : chkS s127 = 0 := by rw [e128]; exact can_ok c121
        have z132 : h.size ≤ hh100.size := x108.size
        have n133 : ∀ zz, blk (Value.slice w122 (s127.d.xs.length) (c123)) zz → ¬ (blk (Value.slice w26 (s31.d.xs.length) (c27))) zz := fun zz hz ez => by have := n126 zz hz; have := p106.blk_lt ez; omega
        have o134 : ∀ zz, blk (Value.slice w122 (s127.d.xs.length) (c123)) zz → h.size ≤ zz := fun zz hz => by have := n126 zz hz; omega
        obtain ⟨b135, eb136⟩ : ∃ zq, zq = h110.size := ⟨_, rfl⟩
        obtain ⟨h137, e138⟩ : ∃ zq, zq = h110.push (.cells #[(vS .empty), (vI 0), (vI 0), (Value.slice none 0 0), (vI 0), (vI 0), (vB false), (vI 0), (vI 0), (vI 0)] 41 (0, 0)) := ⟨_, rfl⟩
        have f139 := push_new e138
        rw [← eb136] at f139
        have n140 : b135 ≠ b1 := by have := row_lt f115; omega
        have n141 : b135 ≠ b39 := by have := row_lt f116; omega
        have n142 : b135 ≠ b76 := by have := row_lt f117; omega
        have n143 : ∀ zz, (blk (Value.slice w26 (s31.d.xs.length) (c27))) zz → ¬ zz = b135 := fun zz hz ez => by have := p118.blk_lt hz; omega
        have n144 : ∀ zz, (blk (Value.slice w68 (s31.d.xs.length) (c69))) zz → ¬ zz = b135 := fun zz hz ez => by have := p119.blk_lt hz; omega
        have n145 : ∀ zz, (blk (Value.slice w122 (s127.d.xs.length) (c123))) zz → ¬ zz = b135 := fun zz hz ez => by have := o125.blk_lt hz; omega
        have x146 : Ext h110 h137 := by rw [e138]; exact Ext.push _ _
        have o147 : h.size ≤ b135 := by have := x120.size; omega
        have f148 := x146 _ _ f115
        have f149 := x146 _ _ f116
        have f150 := x146 _ _ f117
        have p151 := p118.keep fun b r _ q => x146 b r q
        have p152 := p119.keep fun b r _ q => x146 b r q
        have p153 := o125.keep fun b r _ q => x146 b r q
        have x154 := x120.trans x146
        obtain ⟨h155, e156⟩ : ∃ zq, zq = h137.setIfInBounds b135 (.cells #[(vS s127.d.name), (vI (s127.d.rt)), (vI (s127.d.dl)), (Value.slice w122 (s127.d.xs.length) (c123)), (vI (s127.st)), (vI (s127.ix)), (vB s127.cn), (vI (s127.tr)), (vI (s127.bg)), (vI (s127.er))] 41 (0, 0)) := ⟨_, rfl⟩
        have f157 := set_same e156 f139
        have f158 := set_other e156 f148 n140
        have f159 := set_other e156 f149 n141
        have f160 := set_other e156 f150 n142
        have p161 := p151.keep fun b r hb q => (Chg.set e156).same b r q (n143 b hb)
        have p162 := p152.keep fun b r hb q => (Chg.set e156).same b r q (n144 b hb)
        have p163 := p153.keep fun b r hb q => (Chg.set e156).same b r q (n145 b hb)
        have x164 := Ext.setNew x154 e156 o147
        refine wc_ev [evLw 5 0 agg27 size27 f95, evF 5 1 sn101, evFe 5 2 p124 s111, evA 5 6 eb136 e138, evUw 5 7 size41 f139 e156] .normal h155 [(37, (vA #[(vS s.d.name), (vI s.d.rt), (vI s.d.dl), (vL sa s.d.xs.length cp), (vI s.st), (vI s.ix), (vB s.cn), (vI s.tr), (vI s.bg), (vI s.er)])), (38, (vA #[(vS s.d.name), (vI s.d.rt), (vI s.d.dl), (vL sa s.d.xs.length cp), (vI s.st), (vI s.ix), (vB s.cn), (vI s.tr), (vI s.bg), (vI s.er)])), (39, (vT #[(vA #[(vS s127.d.name), (vI s127.d.rt), (vI s127.d.dl), (vL w122 s127.d.xs.length c123), (vI s127.st), (vI s127.ix), (vB s127.cn), (vI s127.tr), (vI s127.bg), (vI s127.er)]), (vI 0)])), (36, (vT #[(vA #[(vS s127.d.name), (vI s127.d.rt), (vI s127.d.dl), (vL w122 s127.d.xs.length c123), (vI s127.st), (vI s127.ix), (vB s127.cn), (vI s127.tr), (vI s127.bg), (vI s127.er)]), (vI 0)])), (40, (vA #[(vS s127.d.name), (vI s127.d.rt), (vI s127.d.dl), (vL w122 s127.d.xs.length c123), (vI s127.st), (vI s127.ix), (vB s127.cn), (vI s127.tr), (vI s127.bg), (vI s127.er)])), (41, (vI 0)), (9, (vP b135 0)), (10, (vI 0))] ?_
        refine wc_act { tmps := #[(vA #[(vS s.d.name), (vI s.d.rt), (vI s.d.dl), (vL sa s.d.xs.length cp), (vI s.st), (vI s.ix), (vB s.cn), (vI s.tr), (vI s.bg), (vI s.er)]), (vI now), (vP b1 0), vZ, (vB false), (vP b39 0), (vI 0), (vP b76 0), (vI 0), (vP b135 0), (vI 0), vZ, vZ, vZ, vZ, vZ, vZ, (vP b1 0), (vA #[(vS s.d.name), (vI s.d.rt), (vI s.d.dl), (vL sa s.d.xs.length cp)]), (vB true), (vB false), vZ, (vT #[(vA #[(vS s31.d.name), (vI s31.d.rt), (vI s31.d.dl), (vL w26 s31.d.xs.length c27), (vI s31.st), (vI s31.ix), (vB s31.cn), (vI s31.tr), (vI s31.bg), (vI s31.er)]), (vI 0)]), (vP b1 0), (vA #[(vS s.d.name), (vI s.d.rt), (vI s.d.dl), (vL sa s.d.xs.length cp)]), (vI now), (vT #[(vA #[(vS s31.d.name), (vI s31.d.rt), (vI s31.d.dl), (vL w26 s31.d.xs.length c27), (vI s31.st), (vI s31.ix), (vB s31.cn), (vI s31.tr), (vI s31.bg), (vI s31.er)]), (vI 0)]), (vA #[(vS s31.d.name), (vI s31.d.rt), (vI s31.d.dl), (vL w26 s31.d.xs.length c27), (vI s31.st), (vI s31.ix), (vB s31.cn), (vI s31.tr), (vI s31.bg), (vI s31.er)]), (vI 0), (vT #[(vA #[(vS s31.d.name), (vI s31.d.rt), (vI s31.d.dl), (vL w68 s31.d.xs.length c69), (vI s31.st), (vI s31.ix), (vB s31.cn), (vI s31.tr), (vI s31.bg), (vI s31.er)]), (vI 0)]), (vP b1 0), (vA #[(vS s.d.name), (vI s.d.rt), (vI s.d.dl), (vL sa s.d.xs.length cp)]), (vI now), (vT #[(vA #[(vS s31.d.name), (vI s31.d.rt), (vI s31.d.dl), (vL w68 s31.d.xs.length c69), (vI s31.st), (vI s31.ix), (vB s31.cn), (vI s31.tr), (vI s31.bg), (vI s31.er)]), (vI 0)]), (vA #[(vS s31.d.name), (vI s31.d.rt), (vI s31.d.dl), (vL w68 s31.d.xs.length c69), (vI s31.st), (vI s31.ix), (vB s31.cn), (vI s31.tr), (vI s31.bg), (vI s31.er)]), (vI 0), (vT #[(vA #[(vS s127.d.name), (vI s127.d.rt), (vI s127.d.dl), (vL w122 s127.d.xs.length c123), (vI s127.st), (vI s127.ix), (vB s127.cn), (vI s127.tr), (vI s127.bg), (vI s127.er)]), (vI 0)]), (vA #[(vS s.d.name), (vI s.d.rt), (vI s.d.dl), (vL sa s.d.xs.length cp), (vI s.st), (vI s.ix), (vB s.cn), (vI s.tr), (vI s.bg), (vI s.er)]), (vA #[(vS s.d.name), (vI s.d.rt), (vI s.d.dl), (vL sa s.d.xs.length cp), (vI s.st), (vI s.ix), (vB s.cn), (vI s.tr), (vI s.bg), (vI s.er)]), (vT #[(vA #[(vS s127.d.name), (vI s127.d.rt), (vI s127.d.dl), (vL w122 s127.d.xs.length c123), (vI s127.st), (vI s127.ix), (vB s127.cn), (vI s127.tr), (vI s127.bg), (vI s127.er)]), (vI 0)]), (vA #[(vS s127.d.name), (vI s127.d.rt), (vI s127.d.dl), (vL w122 s127.d.xs.length c123), (vI s127.st), (vI s127.ix), (vB s127.cn), (vI s127.tr), (vI s127.bg), (vI s127.er)]), (vI 0), vZ, vZ, vZ, vZ, vZ, vZ, vZ, vZ, vZ, vZ, vZ, vZ, vZ, vZ, vZ, vZ, vZ, vZ, vZ, vZ, vZ, vZ, vZ, vZ, vZ, vZ, vZ, vZ, vZ, vZ, vZ, vZ, vZ, vZ, vZ, vZ, vZ, vZ, vZ, vZ, vZ, vZ, vZ, vZ, vZ, vZ, vZ, vZ, vZ, vZ, vZ, vZ, vZ, vZ, vZ, vZ, vZ, vZ, vZ, vZ, vZ, vZ, vZ, vZ, vZ, vZ, vZ, vZ, vZ, vZ, vZ, vZ, vZ, vZ, vZ, vZ, vZ, vZ, vZ, vZ, vZ, vZ, vZ, vZ, vZ], defers := [] } (by as_aux_lemma => kernel_rfl) ?_
        refine wc_seq' (subc (bodyOf Tryd.prog 7) [1, 1, 1, 1, 1, 0]) (subc (bodyOf Tryd.prog 7) [1, 1, 1, 1, 1, 1]) (by kernel_rfl) ?_
        obtain ⟨_, hh165, sn166, rfl, x167⟩ := refV_ok h155 s _ _ (hl.keep fun b r _ q => x164 b r q) (by omega) 
        have f168 := x167 _ _ f158
        have f169 := x167 _ _ f159
        have f170 := x167 _ _ f160
        have f171 := x167 _ _ f157
        have p172 := p161.keep fun b r _ q => x167 b r q
        have p173 := p162.keep fun b r _ q => x167 b r q
        have p174 := p163.keep fun b r _ q => x167 b r q
        have x175 := x164.trans x167
        obtain ⟨v176, h177, s178, p179, p180, x181⟩ := rcancel_ok hh165 s _ _ (hl.keep fun b r _ q => x175 b r q) (by omega) hnm hks
        have f182 := x181 _ _ f168
        have f183 := x181 _ _ f169
        have f184 := x181 _ _ f170
        have f185 := x181 _ _ f171
        have p186 := p172.keep fun b r _ q => x181 b r q
        have p187 := p173.keep fun b r _ q => x181 b r q
        have p188 := p174.keep fun b r _ q => x181 b r q
        have x189 := x175.trans x181
        obtain ⟨w190, c191, p192, o193, n194⟩ := p180 c121
        rw [← e128, ← e129] at p192
        rw [← e129] at o193 n194
        have z195 : h.size ≤ hh165.size := x175.size
        have n196 : ∀ zz, blk (Value.slice w190 (s127.d.xs.length) (c191)) zz → ¬ (blk (Value.slice w26 (s31.d.xs.length) (c27))) zz := fun zz hz ez => by have := n194 zz hz; have := p172.blk_lt ez; omega
        have o197 : ∀ zz, blk (Value.slice w190 (s127.d.xs.length) (c191)) zz → h.size ≤ zz := fun zz hz => by have := n194 zz hz; omega
        obtain ⟨b198, eb199⟩ : ∃ zq, zq = h177.size := ⟨_, rfl⟩
        obtain ⟨h200, e201⟩ : ∃ zq, zq = h177.push (.cells #[(vS .empty), (vI 0), (vI 0), (Value.slice none 0 0), (vI 0), (vI 0), (vB false), (vI 0), (vI 0), (vI 0)] 37 (0, 0)) := ⟨_, rfl⟩
        have f202 := push_new e201
        rw [← eb199] at f202
        have n203 : b198 ≠ b1 := by have := row_lt f182; omega
        have n204 : b198 ≠ b39 := by have := row_lt f183; omega
        have n205 : b198 ≠ b76 := by have := row_lt f184; omega
        have n206 : b198 ≠ b135 := by have := row_lt f185; omega
        have n207 : ∀ zz, (blk (Value.slice w26 (s31.d.xs.length) (c27))) zz → ¬ zz = b198 := fun zz hz ez => by have := p186.blk_lt hz; omega
        have n208 : ∀ zz, (blk (Value.slice w68 (s31.d.xs.length) (c69))) zz → ¬ zz = b198 := fun zz hz ez => by have := p187.blk_lt hz; omega
        have n209 : ∀ zz, (blk (Value.slice w122 (s127.d.xs.length) (c123))) zz → ¬ zz = b198 := fun zz hz ez => by have := p188.blk_lt hz; omega
        have n210 : ∀ zz, (blk (Value.slice w190 (s127.d.xs.length) (c191))) zz → ¬ zz = b198 := fun zz hz ez => by have := o193.blk_lt hz; omega
        have x211 : Ext h177 h200 := by rw [e201]; exact Ext.push _ _
        have o212 : h.size ≤ b198 := by have := x189.size; omega
        have f213 := x211 _ _ f182
        have f214 := x211 _ _ f183
        have f215 := x211 _ _ f184
        have f216 := x211 _ _ f185
        have p217 := p186.keep fun b r _ q => x211 b r q
        have p218 := p187.keep fun b r _ q => x211 b r q
        have p219 := p188.keep fun b r _ q => x211 b r q
        have p220 := o193.keep fun b r _ q => x211 b r q
        have x221 := x189.trans x211
        obtain ⟨h222, e223⟩ : ∃ zq, zq = h200.setIfInBounds b198 (.cells #[(vS s127.d.name), (vI (s127.d.rt)), (vI (s127.d.dl)), (Value.slice w190 (s127.d.xs.length) (c191)), (vI (s127.st)), (vI (s127.ix)), (vB s127.cn), (vI (s127.tr)), (vI (s127.bg)), (vI (s127.er))] 37 (0, 0)) := ⟨_, rfl⟩
        have f224 := set_same e223 f202
        have f225 := set_other e223 f213 n203
        have f226 := set_other e223 f214 n204
        have f227 := set_other e223 f215 n205
        have f228 := set_other e223 f216 n206
        have p229 := p217.keep fun b r hb q => (Chg.set e223).same b r q (n207 b hb)
        have p230 := p218.keep fun b r hb q => (Chg.set e223).same b r q (n208 b hb)
        have p231 := p219.keep fun b r hb q => (Chg.set e223).same b r q (n209 b hb)
        have p232 := p220.keep fun b r hb q => (Chg.set e223).same b r q (n210 b hb)
        have x233 := Ext.setNew x221 e223 o212
        refine wc_ev [evLw 6 0 agg27 size27 f158, evF 6 1 sn166, evFe 6 2 p192 s178, evA 6 6 eb199 e201, evUw 6 7 size37 f202 e223] .normal h222 [(43, (vA #[(vS s.d.name), (vI s.d.rt), (vI s.d.dl), (vL sa s.d.xs.length cp), (vI s.st), (vI s.ix), (vB s.cn), (vI s.tr), (vI s.bg), (vI s.er)])), (44, (vA #[(vS s.d.name), (vI s.d.rt), (vI s.d.dl), (vL sa s.d.xs.length cp), (vI s.st), (vI s.ix), (vB s.cn), (vI s.tr), (vI s.bg), (vI s.er)])), (45, (vT #[(vA #[(vS s127.d.name), (vI s127.d.rt), (vI s127.d.dl), (vL w190 s127.d.xs.length c191), (vI s127.st), (vI s127.ix), (vB s127.cn), (vI s127.tr), (vI s127.bg), (vI s127.er)]), (vI 0)])), (42, (vT #[(vA #[(vS s127.d.name), (vI s127.d.rt), (vI s127.d.dl), (vL w190 s127.d.xs.length c191), (vI s127.st), (vI s127.ix), (vB s127.cn), (vI s127.tr), (vI s127.bg), (vI s127.er)]), (vI 0)])), (46, (vA #[(vS s127.d.name), (vI s127.d.rt), (vI s127.d.dl), (vL w190 s127.d.xs.length c191), (vI s127.st), (vI s127.ix), (vB s127.cn), (vI s127.tr), (vI s127.bg), (vI s127.er)])), (47, (vI 0)), (11, (vP b198 0)), (12, (vI 0))] ?_
        refine wc_seq' (subc (bodyOf Tryd.prog 7) [1, 1, 1, 1, 1, 1, 0]) (subc (bodyOf Tryd.prog 7) [1, 1, 1, 1, 1, 1, 1]) (by kernel_rfl) ?_
        obtain ⟨_, hh234, sn235, rfl, x236⟩ := backV_ok h222 s31 _ _ (OwnAt.lat p229 stepc_size (tsz_of size65)) (by omega) 
        have f237 := x236 _ _ f225
        have f238 := x236 _ _ f226
        have f239 := x236 _ _ f227
        have f240 := x236 _ _ f228
        have f241 := x236 _ _ f224
        have p242 := p229.keep fun b r _ q => x236 b r q
        have p243 := p230.keep fun b r _ q => x236 b r q
        have p244 := p231.keep fun b r _ q => x236 b r q
        have p245 := p232.keep fun b r _ q => x236 b r q
        have x246 := x233.trans x236
        obtain ⟨_, hh247, sn248, rfl, x249⟩ := refV_ok hh234 s31 _ _ (OwnAt.lat p242 stepc_size (tsz_of size65)) (by omega) 
        have f250 := x249 _ _ f237
        have f251 := x249 _ _ f238
        have f252 := x249 _ _ f239
        have f253 := x249 _ _ f240
        have f254 := x249 _ _ f241
        have p255 := p242.keep fun b r _ q => x249 b r q
        have p256 := p243.keep fun b r _ q => x249 b r q
        have p257 := p244.keep fun b r _ q => x249 b r q
        have p258 := p245.keep fun b r _ q => x249 b r q
        have x259 := x246.trans x249
        obtain ⟨_, hh260, sn261, rfl, x262⟩ := same_ok hh247 s31 _ _ (OwnAt.lat p255 stepc_size (tsz_of size65)) (by omega) _ _ (OwnAt.lat p256 stepc_size (tsz_of size65))
        have f263 := x262 _ _ f250
        have f264 := x262 _ _ f251
        have f265 := x262 _ _ f252
        have f266 := x262 _ _ f253
        have f267 := x262 _ _ f254
        have p268 := p255.keep fun b r _ q => x262 b r q
        have p269 := p256.keep fun b r _ q => x262 b r q
        have p270 := p257.keep fun b r _ q => x262 b r q
        have p271 := p258.keep fun b r _ q => x262 b r q
        have x272 := x259.trans x262
        obtain ⟨_, hh273, sn274, rfl, x275⟩ := backV_ok hh260 s127 _ _ (OwnAt.lat p270 stepc_size (tsz_of size65)) (by omega) 
        have f276 := x275 _ _ f263
        have f277 := x275 _ _ f264
        have f278 := x275 _ _ f265
        have f279 := x275 _ _ f266
        have f280 := x275 _ _ f267
        have p281 := p268.keep fun b r _ q => x275 b r q
        have p282 := p269.keep fun b r _ q => x275 b r q
        have p283 := p270.keep fun b r _ q => x275 b r q
        have p284 := p271.keep fun b r _ q => x275 b r q
        have x285 := x272.trans x275
        obtain ⟨_, hh286, sn287, rfl, x288⟩ := refV_ok hh273 s127 _ _ (OwnAt.lat p283 stepc_size (tsz_of size65)) (by omega) 
        have f289 := x288 _ _ f276
        have f290 := x288 _ _ f277
        have f291 := x288 _ _ f278
        have f292 := x288 _ _ f279
        have f293 := x288 _ _ f280
        have p294 := p281.keep fun b r _ q => x288 b r q
        have p295 := p282.keep fun b r _ q => x288 b r q
        have p296 := p283.keep fun b r _ q => x288 b r q
        have p297 := p284.keep fun b r _ q => x288 b r q
        have x298 := x285.trans x288
        obtain ⟨_, hh299, sn300, rfl, x301⟩ := same_ok hh286 s127 _ _ (OwnAt.lat p296 stepc_size (tsz_of size65)) (by omega) _ _ (OwnAt.lat p297 stepc_size (tsz_of size65))
        have f302 := x301 _ _ f289
        have f303 := x301 _ _ f290
        have f304 := x301 _ _ f291
        have f305 := x301 _ _ f292
        have f306 := x301 _ _ f293
        have p307 := p294.keep fun b r _ q => x301 b r q
        have p308 := p295.keep fun b r _ q => x301 b r q
        have p309 := p296.keep fun b r _ q => x301 b r q
        have p310 := p297.keep fun b r _ q => x301 b r q
        have x311 := x298.trans x301
        refine wc_ev [evLw 7 0 agg41 size41 f226, evLw 7 3 agg37 size37 f227, evF 7 1 sn235, evLw 99 0 agg37 size37 f239, evF 7 2 sn248, evLw 99 0 agg37 size37 f252, evF 7 4 sn261, evLw 7 12 agg41 size41 f266, evLw 7 15 agg37 size37 f267, evF 7 13 sn274, evLw 99 0 agg37 size37 f280, evF 7 14 sn287, evLw 99 0 agg37 size37 f293, evF 7 16 sn300] .normal hh299 [(48, (vA #[(vS s31.d.name), (vI s31.d.rt), (vI s31.d.dl), (vL w26 s31.d.xs.length c27), (vI s31.st), (vI s31.ix), (vB s31.cn), (vI s31.tr), (vI s31.bg), (vI s31.er)])), (51, (vA #[(vS s31.d.name), (vI s31.d.rt), (vI s31.d.dl), (vL w68 s31.d.xs.length c69), (vI s31.st), (vI s31.ix), (vB s31.cn), (vI s31.tr), (vI s31.bg), (vI s31.er)])), (49, (vA #[(vS s31.d.name), (vI s31.d.rt), (vI s31.d.dl), (vL w26 s31.d.xs.length c27), (vI s31.st), (vI s31.ix), (vB s31.cn), (vI s31.tr), (vI s31.bg), (vI s31.er)])), (50, (vA #[(vS s31.d.name), (vI s31.d.rt), (vI s31.d.dl), (vL w26 s31.d.xs.length c27), (vI s31.st), (vI s31.ix), (vB s31.cn), (vI s31.tr), (vI s31.bg), (vI s31.er)])), (52, (vB true)), (53, (vB false)), (54, (vB false)), (55, (vI 0)), (56, (vI 0)), (57, (vB false)), (58, (vB false)), (59, (vB false)), (60, (vA #[(vS s127.d.name), (vI s127.d.rt), (vI s127.d.dl), (vL w122 s127.d.xs.length c123), (vI s127.st), (vI s127.ix), (vB s127.cn), (vI s127.tr), (vI s127.bg), (vI s127.er)])), (63, (vA #[(vS s127.d.name), (vI s127.d.rt), (vI s127.d.dl), (vL w190 s127.d.xs.length c191), (vI s127.st), (vI s127.ix), (vB s127.cn), (vI s127.tr), (vI s127.bg), (vI s127.er)])), (61, (vA #[(vS s127.d.name), (vI s127.d.rt), (vI s127.d.dl), (vL w122 s127.d.xs.length c123), (vI s127.st), (vI s127.ix), (vB s127.cn), (vI s127.tr), (vI s127.bg), (vI s127.er)])), (62, (vA #[(vS s127.d.name), (vI s127.d.rt), (vI s127.d.dl), (vL w122 s127.d.xs.length c123), (vI s127.st), (vI s127.ix), (vB s127.cn), (vI s127.tr), (vI s127.bg), (vI s127.er)])), (64, (vB true)), (65, (vB false)), (66, (vB false)), (67, (vB false)), (68, (vI 0)), (69, (vI 0)), (70, (vB false)), (71, (vB false))] ?_
        refine wc_act { tmps := #[(vA #[(vS s.d.name), (vI s.d.rt), (vI s.d.dl), (vL sa s.d.xs.length cp), (vI s.st), (vI s.ix), (vB s.cn), (vI s.tr), (vI s.bg), (vI s.er)]), (vI now), (vP b1 0), vZ, (vB false), (vP b39 0), (vI 0), (vP b76 0), (vI 0), (vP b135 0), (vI 0), (vP b198 0), (vI 0), vZ, vZ, vZ, vZ, (vP b1 0), (vA #[(vS s.d.name), (vI s.d.rt), (vI s.d.dl), (vL sa s.d.xs.length cp)]), (vB true), (vB false), vZ, (vT #[(vA #[(vS s31.d.name), (vI s31.d.rt), (vI s31.d.dl), (vL w26 s31.d.xs.length c27), (vI s31.st), (vI s31.ix), (vB s31.cn), (vI s31.tr), (vI s31.bg), (vI s31.er)]), (vI 0)]), (vP b1 0), (vA #[(vS s.d.name), (vI s.d.rt), (vI s.d.dl), (vL sa s.d.xs.length cp)]), (vI now), (vT #[(vA #[(vS s31.d.name), (vI s31.d.rt), (vI s31.d.dl), (vL w26 s31.d.xs.length c27), (vI s31.st), (vI s31.ix), (vB s31.cn), (vI s31.tr), (vI s31.bg), (vI s31.er)]), (vI 0)]), (vA #[(vS s31.d.name), (vI s31.d.rt), (vI s31.d.dl), (vL w26 s31.d.xs.length c27), (vI s31.st), (vI s31.ix), (vB s31.cn), (vI s31.tr), (vI s31.bg), (vI s31.er)]), (vI 0), (vT #[(vA #[(vS s31.d.name), (vI s31.d.rt), (vI s31.d.dl), (vL w68 s31.d.xs.length c69), (vI s31.st), (vI s31.ix), (vB s31.cn), (vI s31.tr), (vI s31.bg), (vI s31.er)]), (vI 0)]), (vP b1 0), (vA #[(vS s.d.name), (vI s.d.rt), (vI s.d.dl), (vL sa s.d.xs.length cp)]), (vI now), (vT #[(vA #[(vS s31.d.name), (vI s31.d.rt), (vI s31.d.dl), (vL w68 s31.d.xs.length c69), (vI s31.st), (vI s31.ix), (vB s31.cn), (vI s31.tr), (vI s31.bg), (vI s31.er)]), (vI 0)]), (vA #[(vS s31.d.name), (vI s31.d.rt), (vI s31.d.dl), (vL w68 s31.d.xs.length c69), (vI s31.st), (vI s31.ix), (vB s31.cn), (vI s31.tr), (vI s31.bg), (vI s31.er)]), (vI 0), (vT #[(vA #[(vS s127.d.name), (vI s127.d.rt), (vI s127.d.dl), (vL w122 s127.d.xs.length c123), (vI s127.st), (vI s127.ix), (vB s127.cn), (vI s127.tr), (vI s127.bg), (vI s127.er)]), (vI 0)]), (vA #[(vS s.d.name), (vI s.d.rt), (vI s.d.dl), (vL sa s.d.xs.length cp), (vI s.st), (vI s.ix), (vB s.cn), (vI s.tr), (vI s.bg), (vI s.er)]), (vA #[(vS s.d.name), (vI s.d.rt), (vI s.d.dl), (vL sa s.d.xs.length cp), (vI s.st), (vI s.ix), (vB s.cn), (vI s.tr), (vI s.bg), (vI s.er)]), (vT #[(vA #[(vS s127.d.name), (vI s127.d.rt), (vI s127.d.dl), (vL w122 s127.d.xs.length c123), (vI s127.st), (vI s127.ix), (vB s127.cn), (vI s127.tr), (vI s127.bg), (vI s127.er)]), (vI 0)]), (vA #[(vS s127.d.name), (vI s127.d.rt), (vI s127.d.dl), (vL w122 s127.d.xs.length c123), (vI s127.st), (vI s127.ix), (vB s127.cn), (vI s127.tr), (vI s127.bg), (vI s127.er)]), (vI 0), (vT #[(vA #[(vS s127.d.name), (vI s127.d.rt), (vI s127.d.dl), (vL w190 s127.d.xs.length c191), (vI s127.st), (vI s127.ix), (vB s127.cn), (vI s127.tr), (vI s127.bg), (vI s127.er)]), (vI 0)]), (vA #[(vS s.d.name), (vI s.d.rt), (vI s.d.dl), (vL sa s.d.xs.length cp), (vI s.st), (vI s.ix), (vB s.cn), (vI s.tr), (vI s.bg), (vI s.er)]), (vA #[(vS s.d.name), (vI s.d.rt), (vI s.d.dl), (vL sa s.d.xs.length cp), (vI s.st), (vI s.ix), (vB s.cn), (vI s.tr), (vI s.bg), (vI s.er)]), (vT #[(vA #[(vS s127.d.name), (vI s127.d.rt), (vI s127.d.dl), (vL w190 s127.d.xs.length c191), (vI s127.st), (vI s127.ix), (vB s127.cn), (vI s127.tr), (vI s127.bg), (vI s127.er)]), (vI 0)]), (vA #[(vS s127.d.name), (vI s127.d.rt), (vI s127.d.dl), (vL w190 s127.d.xs.length c191), (vI s127.st), (vI s127.ix), (vB s127.cn), (vI s127.tr), (vI s127.bg), (vI s127.er)]), (vI 0), (vA #[(vS s31.d.name), (vI s31.d.rt), (vI s31.d.dl), (vL w26 s31.d.xs.length c27), (vI s31.st), (vI s31.ix), (vB s31.cn), (vI s31.tr), (vI s31.bg), (vI s31.er)]), (vA #[(vS s31.d.name), (vI s31.d.rt), (vI s31.d.dl), (vL w26 s31.d.xs.length c27), (vI s31.st), (vI s31.ix), (vB s31.cn), (vI s31.tr), (vI s31.bg), (vI s31.er)]), (vA #[(vS s31.d.name), (vI s31.d.rt), (vI s31.d.dl), (vL w26 s31.d.xs.length c27), (vI s31.st), (vI s31.ix), (vB s31.cn), (vI s31.tr), (vI s31.bg), (vI s31.er)]), (vA #[(vS s31.d.name), (vI s31.d.rt), (vI s31.d.dl), (vL w68 s31.d.xs.length c69), (vI s31.st), (vI s31.ix), (vB s31.cn), (vI s31.tr), (vI s31.bg), (vI s31.er)]), (vB true), (vB false), (vB false), (vI 0), (vI 0), (vB false), (vB false), (vB false), (vA #[(vS s127.d.name), (vI s127.d.rt), (vI s127.d.dl), (vL w122 s127.d.xs.length c123), (vI s127.st), (vI s127.ix), (vB s127.cn), (vI s127.tr), (vI s127.bg), (vI s127.er)]), (vA #[(vS s127.d.name), (vI s127.d.rt), (vI s127.d.dl), (vL w122 s127.d.xs.length c123), (vI s127.st), (vI s127.ix), (vB s127.cn), (vI s127.tr), (vI s127.bg), (vI s127.er)]), (vA #[(vS s127.d.name), (vI s127.d.rt), (vI s127.d.dl), (vL w122 s127.d.xs.length c123), (vI s127.st), (vI s127.ix), (vB s127.cn), (vI s127.tr), (vI s127.bg), (vI s127.er)]), (vA #[(vS s127.d.name), (vI s127.d.rt), (vI s127.d.dl), (vL w190 s127.d.xs.length c191), (vI s127.st), (vI s127.ix), (vB s127.cn), (vI s127.tr), (vI s127.bg), (vI s127.er)]), (vB true), (vB false), (vB false), (vB false), (vI 0), (vI 0), (vB false), (vB false), vZ, vZ, vZ, vZ, vZ, vZ, vZ, vZ, vZ, vZ, vZ, vZ, vZ, vZ, vZ, vZ, vZ, vZ, vZ, vZ, vZ, vZ, vZ, vZ, vZ, vZ, vZ, vZ, vZ, vZ, vZ, vZ, vZ, vZ, vZ, vZ, vZ, vZ, vZ, vZ, vZ, vZ, vZ, vZ, vZ, vZ, vZ, vZ, vZ, vZ, vZ, vZ, vZ, vZ, vZ], defers := [] } (by as_aux_lemma => kernel_rfl) ?_
        refine wc_seq' (subc (bodyOf Tryd.prog 7) [1, 1, 1, 1, 1, 1, 1, 0]) (subc (bodyOf Tryd.prog 7) [1, 1, 1, 1, 1, 1, 1, 1]) (by kernel_rfl) ?_
        obtain ⟨_, hh312, sn313, rfl, x314⟩ := refV_ok hh299 s _ _ (hl.keep fun b r _ q => x311 b r q) (by omega) 
        have f315 := x314 _ _ f302
        have f316 := x314 _ _ f303
        have f317 := x314 _ _ f304
        have f318 := x314 _ _ f305
        have f319 := x314 _ _ f306
        have p320 := p307.keep fun b r _ q => x314 b r q
        have p321 := p308.keep fun b r _ q => x314 b r q
        have p322 := p309.keep fun b r _ q => x314 b r q
        have p323 := p310.keep fun b r _ q => x314 b r q
        have x324 := x311.trans x314
        obtain ⟨_, h325, s326, w327, c328, rfl, o329, x330, b331⟩ := rcopys_ok hh312 s _ _ (hl.keep fun b r _ q => x324 b r q) (by omega)
        have f332 := x330 _ _ f315
        have f333 := x330 _ _ f316
        have f334 := x330 _ _ f317
        have f335 := x330 _ _ f318
        have f336 := x330 _ _ f319
        have p337 := p320.keep fun b r _ q => x330 b r q
        have p338 := p321.keep fun b r _ q => x330 b r q
        have p339 := p322.keep fun b r _ q => x330 b r q
        have p340 := p323.keep fun b r _ q => x330 b r q
        have x341 := x324.trans x330
        have z342 : h.size ≤ hh312.size := x324.size
        have n343 : ∀ zz, blk (Value.slice w327 (s.d.xs.length) (c328)) zz → ¬ (blk (Value.slice w26 (s31.d.xs.length) (c27))) zz := fun zz hz ez => by have := b331 zz hz; have := p320.blk_lt ez; omega
        have o344 : ∀ zz, blk (Value.slice w327 (s.d.xs.length) (c328)) zz → h.size ≤ zz := fun zz hz => by have := b331 zz hz; omega
        obtain ⟨b345, eb346⟩ : ∃ zq, zq = h325.size := ⟨_, rfl⟩
        obtain ⟨h347, e348⟩ : ∃ zq, zq = h325.push (.cells #[(vS .empty), (vI 0), (vI 0), (Value.slice none 0 0), (vI 0), (vI 0), (vB false), (vI 0), (vI 0), (vI 0)] 37 (0, 0)) := ⟨_, rfl⟩
        have f349 := push_new e348
        rw [← eb346] at f349
        have n350 : b345 ≠ b1 := by have := row_lt f332; omega
        have n351 : b345 ≠ b39 := by have := row_lt f333; omega
        have n352 : b345 ≠ b76 := by have := row_lt f334; omega
        have n353 : b345 ≠ b135 := by have := row_lt f335; omega
        have n354 : b345 ≠ b198 := by have := row_lt f336; omega
        have n355 : ∀ zz, (blk (Value.slice w26 (s31.d.xs.length) (c27))) zz → ¬ zz = b345 := fun zz hz ez => by have := p337.blk_lt hz; omega
        have n356 : ∀ zz, (blk (Value.slice w68 (s31.d.xs.length) (c69))) zz → ¬ zz = b345 := fun zz hz ez => by have := p338.blk_lt hz; omega
        have n357 : ∀ zz, (blk (Value.slice w122 (s127.d.xs.length) (c123))) zz → ¬ zz = b345 := fun zz hz ez => by have := p339.blk_lt hz; omega
        have n358 : ∀ zz, (blk (Value.slice w190 (s127.d.xs.length) (c191))) zz → ¬ zz = b345 := fun zz hz ez => by have := p340.blk_lt hz; omega
        have n359 : ∀ zz, (blk (Value.slice w327 (s.d.xs.length) (c328))) zz → ¬ zz = b345 := fun zz hz ez => by have := o329.blk_lt hz; omega
        have x360 : Ext h325 h347 := by rw [e348]; exact Ext.push _ _
        have o361 : h.size ≤ b345 := by have := x341.size; omega
        have f362 := x360 _ _ f332
        have f363 := x360 _ _ f333
        have f364 := x360 _ _ f334
        have f365 := x360 _ _ f335
        have f366 := x360 _ _ f336
        have p367 := p337.keep fun b r _ q => x360 b r q
        have p368 := p338.keep fun b r _ q => x360 b r q
        have p369 := p339.keep fun b r _ q => x360 b r q
        have p370 := p340.keep fun b r _ q => x360 b r q
        have p371 := o329.keep fun b r _ q => x360 b r q
        have x372 := x341.trans x360
        obtain ⟨h373, e374⟩ : ∃ zq, zq = h347.setIfInBounds b345 (.cells #[(vS s.d.name), (vI (s.d.rt)), (vI (s.d.dl)), (Value.slice w327 (s.d.xs.length) (c328)), (vI (s.st)), (vI (s.ix)), (vB s.cn), (vI (s.tr)), (vI (s.bg)), (vI (s.er))] 37 (0, 0)) := ⟨_, rfl⟩
        have f375 := set_same e374 f349
        have f376 := set_other e374 f362 n350
        have f377 := set_other e374 f363 n351
        have f378 := set_other e374 f364 n352
        have f379 := set_other e374 f365 n353
        have f380 := set_other e374 f366 n354
        have p381 := p367.keep fun b r hb q => (Chg.set e374).same b r q (n355 b hb)
        have p382 := p368.keep fun b r hb q => (Chg.set e374).same b r q (n356 b hb)
        have p383 := p369.keep fun b r hb q => (Chg.set e374).same b r q (n357 b hb)
        have p384 := p370.keep fun b r hb q => (Chg.set e374).same b r q (n358 b hb)
        have p385 := p371.keep fun b r hb q => (Chg.set e374).same b r q (n359 b hb)
        have x386 := Ext.setNew x372 e374 o361
        refine wc_ev [evLw 9 0 agg27 size27 f302, evF 9 1 sn313, evF 9 2 s326, evA 9 3 eb346 e348, evUw 9 4 size37 f349 e374] .normal h373 [(72, (vA #[(vS s.d.name), (vI s.d.rt), (vI s.d.dl), (vL sa s.d.xs.length cp), (vI s.st), (vI s.ix), (vB s.cn), (vI s.tr), (vI s.bg), (vI s.er)])), (73, (vA #[(vS s.d.name), (vI s.d.rt), (vI s.d.dl), (vL sa s.d.xs.length cp), (vI s.st), (vI s.ix), (vB s.cn), (vI s.tr), (vI s.bg), (vI s.er)])), (74, (vA #[(vS s.d.name), (vI s.d.rt), (vI s.d.dl), (vL w327 s.d.xs.length c328), (vI s.st), (vI s.ix), (vB s.cn), (vI s.tr), (vI s.bg), (vI s.er)])), (13, (vP b345 0))] ?_
        refine wc_seq' (subc (bodyOf Tryd.prog 7) [1, 1, 1, 1, 1, 1, 1, 1, 0]) (subc (bodyOf Tryd.prog 7) [1, 1, 1, 1, 1, 1, 1, 1, 1]) (by kernel_rfl) ?_
        obtain ⟨_, hh387, sn388, rfl, x389⟩ := givenV_ok h373 s _ _ (hl.keep fun b r _ q => x386 b r q) (by omega) 
        have f390 := x389 _ _ f376
        have f391 := x389 _ _ f377
        have f392 := x389 _ _ f378
        have f393 := x389 _ _ f379
        have f394 := x389 _ _ f380
        have f395 := x389 _ _ f375
        have p396 := p381.keep fun b r _ q => x389 b r q
        have p397 := p382.keep fun b r _ q => x389 b r q
        have p398 := p383.keep fun b r _ q => x389 b r q
        have p399 := p384.keep fun b r _ q => x389 b r q
        have p400 := p385.keep fun b r _ q => x389 b r q
        have x401 := x386.trans x389
        obtain ⟨_, h402, s403, w404, c405, rfl, o406, x407, b408⟩ := copys_ok hh387 s _ _ (hl.keep fun b r _ q => x401 b r q) (by omega)
        have f409 := x407 _ _ f390
        have f410 := x407 _ _ f391
        have f411 := x407 _ _ f392
        have f412 := x407 _ _ f393
        have f413 := x407 _ _ f394
        have f414 := x407 _ _ f395
        have p415 := p396.keep fun b r _ q => x407 b r q
        have p416 := p397.keep fun b r _ q => x407 b r q
        have p417 := p398.keep fun b r _ q => x407 b r q
        have p418 := p399.keep fun b r _ q => x407 b r q
        have p419 := p400.keep fun b r _ q => x407 b r q
        have x420 := x401.trans x407
        have z421 : h.size ≤ hh387.size := x401.size
        have n422 : ∀ zz, blk (Value.slice w404 (s.d.xs.length) (c405)) zz → ¬ zz = b1 := fun zz hz ez => by have := b408 zz hz; have := row_lt f390; omega
        have n423 : ∀ zz, blk (Value.slice w404 (s.d.xs.length) (c405)) zz → ¬ zz = b39 := fun zz hz ez => by have := b408 zz hz; have := row_lt f391; omega
        have n424 : ∀ zz, blk (Value.slice w404 (s.d.xs.length) (c405)) zz → ¬ zz = b76 := fun zz hz ez => by have := b408 zz hz; have := row_lt f392; omega
        have n425 : ∀ zz, blk (Value.slice w404 (s.d.xs.length) (c405)) zz → ¬ zz = b135 := fun zz hz ez => by have := b408 zz hz; have := row_lt f393; omega
        have n426 : ∀ zz, blk (Value.slice w404 (s.d.xs.length) (c405)) zz → ¬ zz = b198 := fun zz hz ez => by have := b408 zz hz; have := row_lt f394; omega
        have n427 : ∀ zz, blk (Value.slice w404 (s.d.xs.length) (c405)) zz → ¬ zz = b345 := fun zz hz ez => by have := b408 zz hz; have := row_lt f395; omega
        have n428 : ∀ zz, blk (Value.slice w404 (s.d.xs.length) (c405)) zz → ¬ (blk (Value.slice w26 (s31.d.xs.length) (c27))) zz := fun zz hz ez => by have := b408 zz hz; have := p396.blk_lt ez; omega
        have n429 : ∀ zz, blk (Value.slice w404 (s.d.xs.length) (c405)) zz → ¬ (blk (Value.slice w68 (s31.d.xs.length) (c69))) zz := fun zz hz ez => by have := b408 zz hz; have := p397.blk_lt ez; omega
        have n430 : ∀ zz, blk (Value.slice w404 (s.d.xs.length) (c405)) zz → ¬ (blk (Value.slice w122 (s127.d.xs.length) (c123))) zz := fun zz hz ez => by have := b408 zz hz; have := p398.blk_lt ez; omega
        have n431 : ∀ zz, blk (Value.slice w404 (s.d.xs.length) (c405)) zz → ¬ (blk (Value.slice w190 (s127.d.xs.length) (c191))) zz := fun zz hz ez => by have := b408 zz hz; have := p399.blk_lt ez; omega
        have n432 : ∀ zz, blk (Value.slice w404 (s.d.xs.length) (c405)) zz → ¬ (blk (Value.slice w327 (s.d.xs.length) (c328))) zz := fun zz hz ez => by have := b408 zz hz; have := p400.blk_lt ez; omega
        have o433 : ∀ zz, blk (Value.slice w404 (s.d.xs.length) (c405)) zz → h.size ≤ zz := fun zz hz => by have := b408 zz hz; omega
        obtain ⟨b434, eb435⟩ : ∃ zq, zq = h402.size := ⟨_, rfl⟩
        obtain ⟨h436, e437⟩ : ∃ zq, zq = h402.push (.cells #[(vS .empty), (vI 0), (vI 0), (Value.slice none 0 0), (vI 0), (vI 0), (vB false), (vI 0), (vI 0), (vI 0)] 41 (0, 0)) := ⟨_, rfl⟩
        have f438 := push_new e437
        rw [← eb435] at f438
        have n439 : b434 ≠ b1 := by have := row_lt f409; omega
        have n440 : b434 ≠ b39 := by have := row_lt f410; omega
        have n441 : b434 ≠ b76 := by have := row_lt f411; omega
        have n442 : b434 ≠ b135 := by have := row_lt f412; omega
        have n443 : b434 ≠ b198 := by have := row_lt f413; omega
        have n444 : b434 ≠ b345 := by have := row_lt f414; omega
        have n445 : ∀ zz, (blk (Value.slice w26 (s31.d.xs.length) (c27))) zz → ¬ zz = b434 := fun zz hz ez => by have := p415.blk_lt hz; omega
        have n446 : ∀ zz, (blk (Value.slice w68 (s31.d.xs.length) (c69))) zz → ¬ zz = b434 := fun zz hz ez => by have := p416.blk_lt hz; omega
        have n447 : ∀ zz, (blk (Value.slice w122 (s127.d.xs.length) (c123))) zz → ¬ zz = b434 := fun zz hz ez => by have := p417.blk_lt hz; omega
        have n448 : ∀ zz, (blk (Value.slice w190 (s127.d.xs.length) (c191))) zz → ¬ zz = b434 := fun zz hz ez => by have := p418.blk_lt hz; omega
        have n449 : ∀ zz, (blk (Value.slice w327 (s.d.xs.length) (c328))) zz → ¬ zz = b434 := fun zz hz ez => by have := p419.blk_lt hz; omega
        have n450 : ∀ zz, (blk (Value.slice w404 (s.d.xs.length) (c405))) zz → ¬ zz = b434 := fun zz hz ez => by have := o406.blk_lt hz; omega
        have x451 : Ext h402 h436 := by rw [e437]; exact Ext.push _ _
        have o452 : h.size ≤ b434 := by have := x420.size; omega
        have f453 := x451 _ _ f409
        have f454 := x451 _ _ f410
        have f455 := x451 _ _ f411
        have f456 := x451 _ _ f412
        have f457 := x451 _ _ f413
        have f458 := x451 _ _ f414
        have p459 := p415.keep fun b r _ q => x451 b r q
        have p460 := p416.keep fun b r _ q => x451 b r q
        have p461 := p417.keep fun b r _ q => x451 b r q
        have p462 := p418.keep fun b r _ q => x451 b r q
        have p463 := p419.keep fun b r _ q => x451 b r q
        have p464 := o406.keep fun b r _ q => x451 b r q
        have x465 := x420.trans x451
        obtain ⟨h466, e467⟩ : ∃ zq, zq = h436.setIfInBounds b434 (.cells #[(vS s.d.name), (vI (s.d.rt)), (vI (s.d.dl)), (Value.slice w404 (s.d.xs.length) (c405)), (vI (s.st)), (vI (s.ix)), (vB s.cn), (vI (s.tr)), (vI (s.bg)), (vI (s.er))] 41 (0, 0)) := ⟨_, rfl⟩
        have f468 := set_same e467 f438
        have f469 := set_other e467 f453 n439
        have f470 := set_other e467 f454 n440
        have f471 := set_other e467 f455 n441
        have f472 := set_other e467 f456 n442
        have f473 := set_other e467 f457 n443
        have f474 := set_other e467 f458 n444
        have p475 := p459.keep fun b r hb q => (Chg.set e467).same b r q (n445 b hb)
        have p476 := p460.keep fun b r hb q => (Chg.set e467).same b r q (n446 b hb)
        have p477 := p461.keep fun b r hb q => (Chg.set e467).same b r q (n447 b hb)
        have p478 := p462.keep fun b r hb q => (Chg.set e467).same b r q (n448 b hb)
        have p479 := p463.keep fun b r hb q => (Chg.set e467).same b r q (n449 b hb)
        have p480 := p464.keep fun b r hb q => (Chg.set e467).same b r q (n450 b hb)
        have x481 := Ext.setNew x465 e467 o452
        refine wc_ev [evLw 10 0 agg27 size27 f376, evF 10 1 sn388, evF 10 2 s403, evA 10 3 eb435 e437, evUw 10 4 size41 f438 e467] .normal h466 [(75, (vA #[(vS s.d.name), (vI s.d.rt), (vI s.d.dl), (vL sa s.d.xs.length cp), (vI s.st), (vI s.ix), (vB s.cn), (vI s.tr), (vI s.bg), (vI s.er)])), (76, (vA #[(vS s.d.name), (vI s.d.rt), (vI s.d.dl), (vL sa s.d.xs.length cp), (vI s.st), (vI s.ix), (vB s.cn), (vI s.tr), (vI s.bg), (vI s.er)])), (77, (vA #[(vS s.d.name), (vI s.d.rt), (vI s.d.dl), (vL w404 s.d.xs.length c405), (vI s.st), (vI s.ix), (vB s.cn), (vI s.tr), (vI s.bg), (vI s.er)])), (14, (vP b434 0))] ?_
        refine wc_seq' (subc (bodyOf Tryd.prog 7) [1, 1, 1, 1, 1, 1, 1, 1, 1, 0]) (subc (bodyOf Tryd.prog 7) [1, 1, 1, 1, 1, 1, 1, 1, 1, 1]) (by kernel_rfl) ?_
        obtain ⟨_, hh482, sn483, rfl, x484⟩ := backV_ok h466 s _ _ (OwnAt.lat p480 stepc_size (tsz_of size65)) (by omega) 
        have f485 := x484 _ _ f469
        have f486 := x484 _ _ f470
        have f487 := x484 _ _ f471
        have f488 := x484 _ _ f472
        have f489 := x484 _ _ f473
        have f490 := x484 _ _ f474
        have f491 := x484 _ _ f468
        have p492 := p475.keep fun b r _ q => x484 b r q
        have p493 := p476.keep fun b r _ q => x484 b r q
        have p494 := p477.keep fun b r _ q => x484 b r q
        have p495 := p478.keep fun b r _ q => x484 b r q
        have p496 := p479.keep fun b r _ q => x484 b r q
        have p497 := p480.keep fun b r _ q => x484 b r q
        have x498 := x481.trans x484
        obtain ⟨_, hh499, sn500, rfl, x501⟩ := refV_ok hh482 s _ _ (OwnAt.lat p497 stepc_size (tsz_of size65)) (by omega) 
        have f502 := x501 _ _ f485
        have f503 := x501 _ _ f486
        have f504 := x501 _ _ f487
        have f505 := x501 _ _ f488
        have f506 := x501 _ _ f489
        have f507 := x501 _ _ f490
        have f508 := x501 _ _ f491
        have p509 := p492.keep fun b r _ q => x501 b r q
        have p510 := p493.keep fun b r _ q => x501 b r q
        have p511 := p494.keep fun b r _ q => x501 b r q
        have p512 := p495.keep fun b r _ q => x501 b r q
        have p513 := p496.keep fun b r _ q => x501 b r q
        have p514 := p497.keep fun b r _ q => x501 b r q
        have x515 := x498.trans x501
        obtain ⟨_, hh516, sn517, rfl, x518⟩ := same_ok hh499 s _ _ (OwnAt.lat p514 stepc_size (tsz_of size65)) (by omega) _ _ (OwnAt.lat p513 stepc_size (tsz_of size65))
        have f519 := x518 _ _ f502
        have f520 := x518 _ _ f503
        have f521 := x518 _ _ f504
        have f522 := x518 _ _ f505
        have f523 := x518 _ _ f506
        have f524 := x518 _ _ f507
        have f525 := x518 _ _ f508
        have p526 := p509.keep fun b r _ q => x518 b r q
        have p527 := p510.keep fun b r _ q => x518 b r q
        have p528 := p511.keep fun b r _ q => x518 b r q
        have p529 := p512.keep fun b r _ q => x518 b r q
        have p530 := p513.keep fun b r _ q => x518 b r q
        have p531 := p514.keep fun b r _ q => x518 b r q
        have x532 := x515.trans x518
        refine wc_ev [evLw 11 0 agg41 size41 f468, evLw 11 3 agg37 size37 f474, evF 11 1 sn483, evLw 99 0 agg37 size37 f490, evF 11 2 sn500, evLw 99 0 agg37 size37 f507, evF 11 4 sn517] .normal hh516 [(78, (vA #[(vS s.d.name), (vI s.d.rt), (vI s.d.dl), (vL w404 s.d.xs.length c405), (vI s.st), (vI s.ix), (vB s.cn), (vI s.tr), (vI s.bg), (vI s.er)])), (81, (vA #[(vS s.d.name), (vI s.d.rt), (vI s.d.dl), (vL w327 s.d.xs.length c328), (vI s.st), (vI s.ix), (vB s.cn), (vI s.tr), (vI s.bg), (vI s.er)])), (79, (vA #[(vS s.d.name), (vI s.d.rt), (vI s.d.dl), (vL w404 s.d.xs.length c405), (vI s.st), (vI s.ix), (vB s.cn), (vI s.tr), (vI s.bg), (vI s.er)])), (80, (vA #[(vS s.d.name), (vI s.d.rt), (vI s.d.dl), (vL w404 s.d.xs.length c405), (vI s.st), (vI s.ix), (vB s.cn), (vI s.tr), (vI s.bg), (vI s.er)])), (82, (vB true)), (83, (vB false))] ?_
        refine wc_seq' (subc (bodyOf Tryd.prog 7) [1, 1, 1, 1, 1, 1, 1, 1, 1, 1, 0]) (subc (bodyOf Tryd.prog 7) [1, 1, 1, 1, 1, 1, 1, 1, 1, 1, 1]) (by kernel_rfl) ?_
        refine wc_seq' (subc (bodyOf Tryd.prog 7) [1, 1, 1, 1, 1, 1, 1, 1, 1, 1, 0, 0]) (subc (bodyOf Tryd.prog 7) [1, 1, 1, 1, 1, 1, 1, 1, 1, 1, 0, 1]) (by kernel_rfl) ?_
        refine wc_ev [] .normal hh516 [(15, (vI 0))] ?_
        refine wc_block' 0 (subc (bodyOf Tryd.prog 7) [1, 1, 1, 1, 1, 1, 1, 1, 1, 1, 0, 1, 0]) (by kernel_rfl) ?_
        refine wc_loop' (subc (bodyOf Tryd.prog 7) [1, 1, 1, 1, 1, 1, 1, 1, 1, 1, 0, 1, 0, 0]) (by kernel_rfl) (fun n' a' h' => ∃ (k1 : Int) (us : List StepM) (g0 : Nat → Value), a' = { tmps := #[(vA #[(vS s.d.name), (vI s.d.rt), (vI s.d.dl), (vL sa s.d.xs.length cp), (vI s.st), (vI s.ix), (vB s.cn), (vI s.tr), (vI s.bg), (vI s.er)]), (vI now), (vP b1 0), vZ, (vB false), (vP b39 0), (vI 0), (vP b76 0), (vI 0), (vP b135 0), (vI 0), (vP b198 0), (vI 0), (vP b345 0), (vP b434 0), (vI k1), vZ, (vP b1 0), (vA #[(vS s.d.name), (vI s.d.rt), (vI s.d.dl), (vL sa s.d.xs.length cp)]), (vB true), (vB false), vZ, (vT #[(vA #[(vS s31.d.name), (vI s31.d.rt), (vI s31.d.dl), (vL w26 s31.d.xs.length c27), (vI s31.st), (vI s31.ix), (vB s31.cn), (vI s31.tr), (vI s31.bg), (vI s31.er)]), (vI 0)]), (vP b1 0), (vA #[(vS s.d.name), (vI s.d.rt), (vI s.d.dl), (vL sa s.d.xs.length cp)]), (vI now), (vT #[(vA #[(vS s31.d.name), (vI s31.d.rt), (vI s31.d.dl), (vL w26 s31.d.xs.length c27), (vI s31.st), (vI s31.ix), (vB s31.cn), (vI s31.tr), (vI s31.bg), (vI s31.er)]), (vI 0)]), (vA #[(vS s31.d.name), (vI s31.d.rt), (vI s31.d.dl), (vL w26 s31.d.xs.length c27), (vI s31.st), (vI s31.ix), (vB s31.cn), (vI s31.tr), (vI s31.bg), (vI s31.er)]), (vI 0), (vT #[(vA #[(vS s31.d.name), (vI s31.d.rt), (vI s31.d.dl), (vL w68 s31.d.xs.length c69), (vI s31.st), (vI s31.ix), (vB s31.cn), (vI s31.tr), (vI s31.bg), (vI s31.er)]), (vI 0)]), (vP b1 0), (vA #[(vS s.d.name), (vI s.d.rt), (vI s.d.dl), (vL sa s.d.xs.length cp)]), (vI now), (vT #[(vA #[(vS s31.d.name), (vI s31.d.rt), (vI s31.d.dl), (vL w68 s31.d.xs.length c69), (vI s31.st), (vI s31.ix), (vB s31.cn), (vI s31.tr), (vI s31.bg), (vI s31.er)]), (vI 0)]), (vA #[(vS s31.d.name), (vI s31.d.rt), (vI s31.d.dl), (vL w68 s31.d.xs.length c69), (vI s31.st), (vI s31.ix), (vB s31.cn), (vI s31.tr), (vI s31.bg), (vI s31.er)]), (vI 0), (vT #[(vA #[(vS s127.d.name), (vI s127.d.rt), (vI s127.d.dl), (vL w122 s127.d.xs.length c123), (vI s127.st), (vI s127.ix), (vB s127.cn), (vI s127.tr), (vI s127.bg), (vI s127.er)]), (vI 0)]), (vA #[(vS s.d.name), (vI s.d.rt), (vI s.d.dl), (vL sa s.d.xs.length cp), (vI s.st), (vI s.ix), (vB s.cn), (vI s.tr), (vI s.bg), (vI s.er)]), (vA #[(vS s.d.name), (vI s.d.rt), (vI s.d.dl), (vL sa s.d.xs.length cp), (vI s.st), (vI s.ix), (vB s.cn), (vI s.tr), (vI s.bg), (vI s.er)]), (vT #[(vA #[(vS s127.d.name), (vI s127.d.rt), (vI s127.d.dl), (vL w122 s127.d.xs.length c123), (vI s127.st), (vI s127.ix), (vB s127.cn), (vI s127.tr), (vI s127.bg), (vI s127.er)]), (vI 0)]), (vA #[(vS s127.d.name), (vI s127.d.rt), (vI s127.d.dl), (vL w122 s127.d.xs.length c123), (vI s127.st), (vI s127.ix), (vB s127.cn), (vI s127.tr), (vI s127.bg), (vI s127.er)]), (vI 0), (vT #[(vA #[(vS s127.d.name), (vI s127.d.rt), (vI s127.d.dl), (vL w190 s127.d.xs.length c191), (vI s127.st), (vI s127.ix), (vB s127.cn), (vI s127.tr), (vI s127.bg), (vI s127.er)]), (vI 0)]), (vA #[(vS s.d.name), (vI s.d.rt), (vI s.d.dl), (vL sa s.d.xs.length cp), (vI s.st), (vI s.ix), (vB s.cn), (vI s.tr), (vI s.bg), (vI s.er)]), (vA #[(vS s.d.name), (vI s.d.rt), (vI s.d.dl), (vL sa s.d.xs.length cp), (vI s.st), (vI s.ix), (vB s.cn), (vI s.tr), (vI s.bg), (vI s.er)]), (vT #[(vA #[(vS s127.d.name), (vI s127.d.rt), (vI s127.d.dl), (vL w190 s127.d.xs.length c191), (vI s127.st), (vI s127.ix), (vB s127.cn), (vI s127.tr), (vI s127.bg), (vI s127.er)]), (vI 0)]), (vA #[(vS s127.d.name), (vI s127.d.rt), (vI s127.d.dl), (vL w190 s127.d.xs.length c191), (vI s127.st), (vI s127.ix), (vB s127.cn), (vI s127.tr), (vI s127.bg), (vI s127.er)]), (vI 0), (vA #[(vS s31.d.name), (vI s31.d.rt), (vI s31.d.dl), (vL w26 s31.d.xs.length c27), (vI s31.st), (vI s31.ix), (vB s31.cn), (vI s31.tr), (vI s31.bg), (vI s31.er)]), (vA #[(vS s31.d.name), (vI s31.d.rt), (vI s31.d.dl), (vL w26 s31.d.xs.length c27), (vI s31.st), (vI s31.ix), (vB s31.cn), (vI s31.tr), (vI s31.bg), (vI s31.er)]), (vA #[(vS s31.d.name), (vI s31.d.rt), (vI s31.d.dl), (vL w26 s31.d.xs.length c27), (vI s31.st), (vI s31.ix), (vB s31.cn), (vI s31.tr), (vI s31.bg), (vI s31.er)]), (vA #[(vS s31.d.name), (vI s31.d.rt), (vI s31.d.dl), (vL w68 s31.d.xs.length c69), (vI s31.st), (vI s31.ix), (vB s31.cn), (vI s31.tr), (vI s31.bg), (vI s31.er)]), (vB true), (vB false), (vB false), (vI 0), (vI 0), (vB false), (vB false), (vB false), (vA #[(vS s127.d.name), (vI s127.d.rt), (vI s127.d.dl), (vL w122 s127.d.xs.length c123), (vI s127.st), (vI s127.ix), (vB s127.cn), (vI s127.tr), (vI s127.bg), (vI s127.er)]), (vA #[(vS s127.d.name), (vI s127.d.rt), (vI s127.d.dl), (vL w122 s127.d.xs.length c123), (vI s127.st), (vI s127.ix), (vB s127.cn), (vI s127.tr), (vI s127.bg), (vI s127.er)]), (vA #[(vS s127.d.name), (vI s127.d.rt), (vI s127.d.dl), (vL w122 s127.d.xs.length c123), (vI s127.st), (vI s127.ix), (vB s127.cn), (vI s127.tr), (vI s127.bg), (vI s127.er)]), (vA #[(vS s127.d.name), (vI s127.d.rt), (vI s127.d.dl), (vL w190 s127.d.xs.length c191), (vI s127.st), (vI s127.ix), (vB s127.cn), (vI s127.tr), (vI s127.bg), (vI s127.er)]), (vB true), (vB false), (vB false), (vB false), (vI 0), (vI 0), (vB false), (vB false), (vA #[(vS s.d.name), (vI s.d.rt), (vI s.d.dl), (vL sa s.d.xs.length cp), (vI s.st), (vI s.ix), (vB s.cn), (vI s.tr), (vI s.bg), (vI s.er)]), (vA #[(vS s.d.name), (vI s.d.rt), (vI s.d.dl), (vL sa s.d.xs.length cp), (vI s.st), (vI s.ix), (vB s.cn), (vI s.tr), (vI s.bg), (vI s.er)]), (vA #[(vS s.d.name), (vI s.d.rt), (vI s.d.dl), (vL w327 s.d.xs.length c328), (vI s.st), (vI s.ix), (vB s.cn), (vI s.tr), (vI s.bg), (vI s.er)]), (vA #[(vS s.d.name), (vI s.d.rt), (vI s.d.dl), (vL sa s.d.xs.length cp), (vI s.st), (vI s.ix), (vB s.cn), (vI s.tr), (vI s.bg), (vI s.er)]), (vA #[(vS s.d.name), (vI s.d.rt), (vI s.d.dl), (vL sa s.d.xs.length cp), (vI s.st), (vI s.ix), (vB s.cn), (vI s.tr), (vI s.bg), (vI s.er)]), (vA #[(vS s.d.name), (vI s.d.rt), (vI s.d.dl), (vL w404 s.d.xs.length c405), (vI s.st), (vI s.ix), (vB s.cn), (vI s.tr), (vI s.bg), (vI s.er)]), (vA #[(vS s.d.name), (vI s.d.rt), (vI s.d.dl), (vL w404 s.d.xs.length c405), (vI s.st), (vI s.ix), (vB s.cn), (vI s.tr), (vI s.bg), (vI s.er)]), (vA #[(vS s.d.name), (vI s.d.rt), (vI s.d.dl), (vL w404 s.d.xs.length c405), (vI s.st), (vI s.ix), (vB s.cn), (vI s.tr), (vI s.bg), (vI s.er)]), (vA #[(vS s.d.name), (vI s.d.rt), (vI s.d.dl), (vL w404 s.d.xs.length c405), (vI s.st), (vI s.ix), (vB s.cn), (vI s.tr), (vI s.bg), (vI s.er)]), (vA #[(vS s.d.name), (vI s.d.rt), (vI s.d.dl), (vL w327 s.d.xs.length c328), (vI s.st), (vI s.ix), (vB s.cn), (vI s.tr), (vI s.bg), (vI s.er)]), (vB true), (vB false), (g0 84), (g0 85), (g0 86), (g0 87), (g0 88), (g0 89), (g0 90), (g0 91), (g0 92), (g0 93), (g0 94), (g0 95), (g0 96), (g0 97), (g0 98), (g0 99), (g0 100), (g0 101), vZ, vZ, vZ, vZ, vZ, vZ, vZ, vZ, vZ, vZ, vZ, vZ, vZ, vZ, vZ, vZ, vZ, vZ, vZ, vZ, vZ, vZ, vZ, vZ, vZ], defers := [] } ∧ Ext h h' ∧ n' = s.d.xs.length - k1.toNat ∧ h'[b1]? = some (.cells #[(vS s.d.name), (vI s.d.rt), (vI s.d.dl), (vL sa s.d.xs.length cp), (vI s.st), (vI s.ix), (vB s.cn), (vI s.tr), (vI s.bg), (vI s.er)] 27 (0, 0)) ∧ h'[b39]? = some (.cells #[(vS s31.d.name), (vI s31.d.rt), (vI s31.d.dl), (vL w26 s31.d.xs.length c27), (vI s31.st), (vI s31.ix), (vB s31.cn), (vI s31.tr), (vI s31.bg), (vI s31.er)] 41 (0, 0)) ∧ h'[b76]? = some (.cells #[(vS s31.d.name), (vI s31.d.rt), (vI s31.d.dl), (vL w68 s31.d.xs.length c69), (vI s31.st), (vI s31.ix), (vB s31.cn), (vI s31.tr), (vI s31.bg), (vI s31.er)] 37 (0, 0)) ∧ h'[b135]? = some (.cells #[(vS s127.d.name), (vI s127.d.rt), (vI s127.d.dl), (vL w122 s127.d.xs.length c123), (vI s127.st), (vI s127.ix), (vB s127.cn), (vI s127.tr), (vI s127.bg), (vI s127.er)] 41 (0, 0)) ∧ h'[b198]? = some (.cells #[(vS s127.d.name), (vI s127.d.rt), (vI s127.d.dl), (vL w190 s127.d.xs.length c191), (vI s127.st), (vI s127.ix), (vB s127.cn), (vI s127.tr), (vI s127.bg), (vI s127.er)] 37 (0, 0)) ∧ h'[b345]? = some (.cells #[(vS s.d.name), (vI s.d.rt), (vI s.d.dl), (vL w327 s.d.xs.length c328), (vI s.st), (vI s.ix), (vB s.cn), (vI s.tr), (vI s.bg), (vI s.er)] 37 (0, 0)) ∧ h'[b434]? = some (.cells #[(vS s.d.name), (vI s.d.rt), (vI s.d.dl), (vL w404 s.d.xs.length c405), (vI s.st), (vI s.ix), (vB s.cn), (vI s.tr), (vI s.bg), (vI s.er)] 41 (0, 0)) ∧ 0 ≤ k1 ∧ us.length = s.d.xs.length ∧ OwnAt h' 65 stepc us (vL w404 s.d.xs.length c405) ∧ OwnAt h' 65 stepc s31.d.xs (vL w26 s31.d.xs.length c27) ∧ OwnAt h' 65 stepc s31.d.xs (vL w68 s31.d.xs.length c69) ∧ OwnAt h' 65 stepc s127.d.xs (vL w122 s127.d.xs.length c123) ∧ OwnAt h' 65 stepc s127.d.xs (vL w190 s127.d.xs.length c191) ∧ OwnAt h' 65 stepc s.d.xs (vL w327 s.d.xs.length c328)) ?_ (s.d.xs.length - (0 : Int).toNat) ⟨0, s.d.xs, (fun i => ([vU, vU, vU, vU, vU, vU, vU, vU, vU, vU, vU, vU, vU, vU, vU, vU, vU, vU, vU, vU, vU, vU, vU, vU, vU, vU, vU, vU, vU, vU, vU, vU, vU, vU, vU, vU, vU, vU, vU, vU, vU, vU, vU, vU, vU, vU, vU, vU, vU, vU, vU, vU, vU, vU, vU, vU, vU, vU, vU, vU, vU, vU, vU, vU, vU, vU, vU, vU, vU, vU, vU, vU, vU, vU, vU, vU, vU, vU, vU, vU, vU, vU, vU, vU, vZ, vZ, vZ, vZ, vZ, vZ, vZ, vZ, vZ, vZ, vZ, vZ, vZ, vZ, vZ, vZ, vZ, vZ] : List Value).getD i undef), by as_aux_lemma => kernel_rfl, x532, rfl, f519, f520, f521, f522, f523, f524, f525, by omega, rfl, p531, p526, p527, p528, p529, p530⟩
        rintro n' _ h533 ⟨k1, us, g0, rfl, x534, m535, f536, f537, f538, f539, f540, f541, f542, i543, i544, p545, p546, p547, p548, p549, p550⟩
        by_cases c551 : ((k1) : Int) < ((s.d.xs.length : Nat))
        · obtain ⟨i552, v553, e554, l555, g556⟩ := list_at us (e := (k1)) (by omega) (by first | omega | (simp only [List.length_set, List.length_append, List.length_singleton]; omega))
          obtain ⟨b557, o558, q559, a560, k561, u562⟩ := p545.store stepc_size g556
          obtain ⟨b563, o564, q565, a566, k567, u568⟩ := p545.store stepc_size g556
          obtain ⟨h569, e570, p571, c572, z573⟩ := u568 (j := 1) (y := (StepM.mk v553.key (IntKind.i64.wrap ((v553.delta) + 1)))) (u := (vI (IntKind.i64.wrap ((v553.delta) + 1)))) size2 rfl rfl (by decide) (by kernel_rfl)
          have c574 : Chg (blk (Value.slice w404 (s.d.xs.length) (c405))) h533 h569 := c572.weak fun q hq => by subst hq; exact q565
          have z575 : h.size ≤ h533.size := x534.size
          have x576 : Ext h _ := (Chg.then (O := fun _ => False) (Chg.ext x534) c574 (fun b hb => .inr (o433 b hb))).toExt'
          have f577 := c574.same _ _ f536 (fun hb => n422 _ hb rfl)
          have f578 := c574.same _ _ f537 (fun hb => n423 _ hb rfl)
          have f579 := c574.same _ _ f538 (fun hb => n424 _ hb rfl)
          have f580 := c574.same _ _ f539 (fun hb => n425 _ hb rfl)
          have f581 := c574.same _ _ f540 (fun hb => n426 _ hb rfl)
          have f582 := c574.same _ _ f541 (fun hb => n427 _ hb rfl)
          have f583 := c574.same _ _ f542 (fun hb => n450 _ hb rfl)
          have p584 := p546.keep fun b r hb q => c574.same b r q ((fun b hb hb2 => n428 b hb2 hb) b hb)
          have p585 := p547.keep fun b r hb q => c574.same b r q ((fun b hb hb2 => n429 b hb2 hb) b hb)
          have p586 := p548.keep fun b r hb q => c574.same b r q ((fun b hb hb2 => n430 b hb2 hb) b hb)
          have p587 := p549.keep fun b r hb q => c574.same b r q ((fun b hb hb2 => n431 b hb2 hb) b hb)
          have p588 := p550.keep fun b r hb q => c574.same b r q ((fun b hb hb2 => n432 b hb2 hb) b hb)
          refine wc_ev [evC 14 3 3 agg22 f542, ltT 14 5 3 c551, evC 16 2 3 agg22 f542, evV 16 4 (vP b557 o558) (show indexAddrA Tryd.prog 22 (vL w404 s.d.xs.length c405) (vI k1) = some (vP b557 o558) from a560 und22 size65 e554), evV 16 6 (vI v553.delta) (show loadT Tryd.prog h533 2 (vP b557 (o558 + 1)) = some (vI v553.delta) from k561.cell (j := 1) agg2 rfl), evV 16 7 (vI (IntKind.i64.wrap ((v553.delta) + 1))) (show binA Tryd.prog .add 2 (vI v553.delta) (vI 1) = some (vI (IntKind.i64.wrap ((v553.delta) + 1))) from add_wrap), evV 16 8 (vP b563 o564) (show indexAddrA Tryd.prog 22 (vL w404 s.d.xs.length c405) (vI k1) = some (vP b563 o564) from a566 und22 size65 e554), evH 16 10 undef h569 (show (storeT Tryd.prog h533 2 (vP b563 (o564 + 1)) (vI (IntKind.i64.wrap ((v553.delta) + 1))) = some h569 ∧ (undef : Value) = undef) from ⟨e570, rfl⟩), evV 15 1 (vI ((k1) + 1)) (show binA Tryd.prog .add 3 (vI k1) (vI 1) = some (vI ((k1) + 1)) from add_i64 (by omega) (by omega))] .normal h569 [(84, (vI k1)), (85, (vP b434 0)), (86, (vP b434 3)), (87, (vL w404 s.d.xs.length c405)), (88, (vI ((s.d.xs.length : Nat)))), (89, (vB true)), (92, (vP b434 0)), (93, (vP b434 3)), (94, (vL w404 s.d.xs.length c405)), (95, (vI k1)), (96, (vP b557 o558)), (97, (vP b557 (o558 + 1))), (98, (vI v553.delta)), (99, (vI (IntKind.i64.wrap ((v553.delta) + 1)))), (100, (vP b563 o564)), (101, (vP b563 (o564 + 1))), (90, (vI k1)), (91, (vI ((k1) + 1))), (15, (vI ((k1) + 1)))] ?_
          exact ⟨s.d.xs.length - (k1 + 1).toNat, by omega, ⟨k1 + 1, (us.set i552 (StepM.mk v553.key (IntKind.i64.wrap ((v553.delta) + 1)))), (fun i => ([vU, vU, vU, vU, vU, vU, vU, vU, vU, vU, vU, vU, vU, vU, vU, vU, vU, vU, vU, vU, vU, vU, vU, vU, vU, vU, vU, vU, vU, vU, vU, vU, vU, vU, vU, vU, vU, vU, vU, vU, vU, vU, vU, vU, vU, vU, vU, vU, vU, vU, vU, vU, vU, vU, vU, vU, vU, vU, vU, vU, vU, vU, vU, vU, vU, vU, vU, vU, vU, vU, vU, vU, vU, vU, vU, vU, vU, vU, vU, vU, vU, vU, vU, vU, (vI k1), (vP b434 0), (vP b434 3), (vL w404 s.d.xs.length c405), (vI ((s.d.xs.length : Nat))), (vB true), (vI k1), (vI ((k1) + 1)), (vP b434 0), (vP b434 3), (vL w404 s.d.xs.length c405), (vI k1), (vP b557 o558), (vP b557 (o558 + 1)), (vI v553.delta), (vI (IntKind.i64.wrap ((v553.delta) + 1))), (vP b563 o564), (vP b563 (o564 + 1))] : List Value).getD i undef), by as_aux_lemma => kernel_rfl, x576, rfl, f577, f578, f579, f580, f581, f582, f583, by omega, by rw [List.length_set]; exact i544, p571, p584, p585, p586, p587, p588⟩⟩
        · refine wc_ev [evC 14 3 3 agg22 f542, ltF 14 5 3 c551] (.exit 0) h533 [(84, (vI k1)), (85, (vP b434 0)), (86, (vP b434 3)), (87, (vL w404 s.d.xs.length c405)), (88, (vI ((s.d.xs.length : Nat)))), (89, (vB false))] ?_
          refine wc_seq' (subc (bodyOf Tryd.prog 7) [1, 1, 1, 1, 1, 1, 1, 1, 1, 1, 1, 0]) (subc (bodyOf Tryd.prog 7) [1, 1, 1, 1, 1, 1, 1, 1, 1, 1, 1, 1]) (by kernel_rfl) ?_
          refine wc_seq' (subc (bodyOf Tryd.prog 7) [1, 1, 1, 1, 1, 1, 1, 1, 1, 1, 1, 0, 0]) (subc (bodyOf Tryd.prog 7) [1, 1, 1, 1, 1, 1, 1, 1, 1, 1, 1, 0, 1]) (by kernel_rfl) ?_
          refine wc_ev [] .normal h533 [(16, (vI 0))] ?_
          refine wc_block' 2 (subc (bodyOf Tryd.prog 7) [1, 1, 1, 1, 1, 1, 1, 1, 1, 1, 1, 0, 1, 0]) (by kernel_rfl) ?_
          refine wc_loop' (subc (bodyOf Tryd.prog 7) [1, 1, 1, 1, 1, 1, 1, 1, 1, 1, 1, 0, 1, 0, 0]) (by kernel_rfl) (fun n' a' h' => ∃ (k2 : Int) (ws : List StepM) (g1 : Nat → Value), a' = { tmps := #[(vA #[(vS s.d.name), (vI s.d.rt), (vI s.d.dl), (vL sa s.d.xs.length cp), (vI s.st), (vI s.ix), (vB s.cn), (vI s.tr), (vI s.bg), (vI s.er)]), (vI now), (vP b1 0), vZ, (vB false), (vP b39 0), (vI 0), (vP b76 0), (vI 0), (vP b135 0), (vI 0), (vP b198 0), (vI 0), (vP b345 0), (vP b434 0), (vI k1), (vI k2), (vP b1 0), (vA #[(vS s.d.name), (vI s.d.rt), (vI s.d.dl), (vL sa s.d.xs.length cp)]), (vB true), (vB false), vZ, (vT #[(vA #[(vS s31.d.name), (vI s31.d.rt), (vI s31.d.dl), (vL w26 s31.d.xs.length c27), (vI s31.st), (vI s31.ix), (vB s31.cn), (vI s31.tr), (vI s31.bg), (vI s31.er)]), (vI 0)]), (vP b1 0), (vA #[(vS s.d.name), (vI s.d.rt), (vI s.d.dl), (vL sa s.d.xs.length cp)]), (vI now), (vT #[(vA #[(vS s31.d.name), (vI s31.d.rt), (vI s31.d.dl), (vL w26 s31.d.xs.length c27), (vI s31.st), (vI s31.ix), (vB s31.cn), (vI s31.tr), (vI s31.bg), (vI s31.er)]), (vI 0)]), (vA #[(vS s31.d.name), (vI s31.d.rt), (vI s31.d.dl), (vL w26 s31.d.xs.length c27), (vI s31.st), (vI s31.ix), (vB s31.cn), (vI s31.tr), (vI s31.bg), (vI s31.er)]), (vI 0), (vT #[(vA #[(vS s31.d.name), (vI s31.d.rt), (vI s31.d.dl), (vL w68 s31.d.xs.length c69), (vI s31.st), (vI s31.ix), (vB s31.cn), (vI s31.tr), (vI s31.bg), (vI s31.er)]), (vI 0)]), (vP b1 0), (vA #[(vS s.d.name), (vI s.d.rt), (vI s.d.dl), (vL sa s.d.xs.length cp)]), (vI now), (vT #[(vA #[(vS s31.d.name), (vI s31.d.rt), (vI s31.d.dl), (vL w68 s31.d.xs.length c69), (vI s31.st), (vI s31.ix), (vB s31.cn), (vI s31.tr), (vI s31.bg), (vI s31.er)]), (vI 0)]), (vA #[(vS s31.d.name), (vI s31.d.rt), (vI s31.d.dl), (vL w68 s31.d.xs.length c69), (vI s31.st), (vI s31.ix), (vB s31.cn), (vI s31.tr), (vI s31.bg), (vI s31.er)]), (vI 0), (vT #[(vA #[(vS s127.d.name), (vI s127.d.rt), (vI s127.d.dl), (vL w122 s127.d.xs.length c123), (vI s127.st), (vI s127.ix), (vB s127.cn), (vI s127.tr), (vI s127.bg), (vI s127.er)]), (vI 0)]), (vA #[(vS s.d.name), (vI s.d.rt), (vI s.d.dl), (vL sa s.d.xs.length cp), (vI s.st), (vI s.ix), (vB s.cn), (vI s.tr), (vI s.bg), (vI s.er)]), (vA #[(vS s.d.name), (vI s.d.rt), (vI s.d.dl), (vL sa s.d.xs.length cp), (vI s.st), (vI s.ix), (vB s.cn), (vI s.tr), (vI s.bg), (vI s.er)]), (vT #[(vA #[(vS s127.d.name), (vI s127.d.rt), (vI s127.d.dl), (vL w122 s127.d.xs.length c123), (vI s127.st), (vI s127.ix), (vB s127.cn), (vI s127.tr), (vI s127.bg), (vI s127.er)]), (vI 0)]), (vA #[(vS s127.d.name), (vI s127.d.rt), (vI s127.d.dl), (vL w122 s127.d.xs.length c123), (vI s127.st), (vI s127.ix), (vB s127.cn), (vI s127.tr), (vI s127.bg), (vI s127.er)]), (vI 0), (vT #[(vA #[(vS s127.d.name), (vI s127.d.rt), (vI s127.d.dl), (vL w190 s127.d.xs.length c191), (vI s127.st), (vI s127.ix), (vB s127.cn), (vI s127.tr), (vI s127.bg), (vI s127.er)]), (vI 0)]), (vA #[(vS s.d.name), (vI s.d.rt), (vI s.d.dl), (vL sa s.d.xs.length cp), (vI s.st), (vI s.ix), (vB s.cn), (vI s.tr), (vI s.bg), (vI s.er)]), (vA #[(vS s.d.name), (vI s.d.rt), (vI s.d.dl), (vL sa s.d.xs.length cp), (vI s.st), (vI s.ix), (vB s.cn), (vI s.tr), (vI s.bg), (vI s.er)]), (vT #[(vA #[(vS s127.d.name), (vI s127.d.rt), (vI s127.d.dl), (vL w190 s127.d.xs.length c191), (vI s127.st), (vI s127.ix), (vB s127.cn), (vI s127.tr), (vI s127.bg), (vI s127.er)]), (vI 0)]), (vA #[(vS s127.d.name), (vI s127.d.rt), (vI s127.d.dl), (vL w190 s127.d.xs.length c191), (vI s127.st), (vI s127.ix), (vB s127.cn), (vI s127.tr), (vI s127.bg), (vI s127.er)]), (vI 0), (vA #[(vS s31.d.name), (vI s31.d.rt), (vI s31.d.dl), (vL w26 s31.d.xs.length c27), (vI s31.st), (vI s31.ix), (vB s31.cn), (vI s31.tr), (vI s31.bg), (vI s31.er)]), (vA #[(vS s31.d.name), (vI s31.d.rt), (vI s31.d.dl), (vL w26 s31.d.xs.length c27), (vI s31.st), (vI s31.ix), (vB s31.cn), (vI s31.tr), (vI s31.bg), (vI s31.er)]), (vA #[(vS s31.d.name), (vI s31.d.rt), (vI s31.d.dl), (vL w26 s31.d.xs.length c27), (vI s31.st), (vI s31.ix), (vB s31.cn), (vI s31.tr), (vI s31.bg), (vI s31.er)]), (vA #[(vS s31.d.name), (vI s31.d.rt), (vI s31.d.dl), (vL w68 s31.d.xs.length c69), (vI s31.st), (vI s31.ix), (vB s31.cn), (vI s31.tr), (vI s31.bg), (vI s31.er)]), (vB true), (vB false), (vB false), (vI 0), (vI 0), (vB false), (vB false), (vB false), (vA #[(vS s127.d.name), (vI s127.d.rt), (vI s127.d.dl), (vL w122 s127.d.xs.length c123), (vI s127.st), (vI s127.ix), (vB s127.cn), (vI s127.tr), (vI s127.bg), (vI s127.er)]), (vA #[(vS s127.d.name), (vI s127.d.rt), (vI s127.d.dl), (vL w122 s127.d.xs.length c123), (vI s127.st), (vI s127.ix), (vB s127.cn), (vI s127.tr), (vI s127.bg), (vI s127.er)]), (vA #[(vS s127.d.name), (vI s127.d.rt), (vI s127.d.dl), (vL w122 s127.d.xs.length c123), (vI s127.st), (vI s127.ix), (vB s127.cn), (vI s127.tr), (vI s127.bg), (vI s127.er)]), (vA #[(vS s127.d.name), (vI s127.d.rt), (vI s127.d.dl), (vL w190 s127.d.xs.length c191), (vI s127.st), (vI s127.ix), (vB s127.cn), (vI s127.tr), (vI s127.bg), (vI s127.er)]), (vB true), (vB false), (vB false), (vB false), (vI 0), (vI 0), (vB false), (vB false), (vA #[(vS s.d.name), (vI s.d.rt), (vI s.d.dl), (vL sa s.d.xs.length cp), (vI s.st), (vI s.ix), (vB s.cn), (vI s.tr), (vI s.bg), (vI s.er)]), (vA #[(vS s.d.name), (vI s.d.rt), (vI s.d.dl), (vL sa s.d.xs.length cp), (vI s.st), (vI s.ix), (vB s.cn), (vI s.tr), (vI s.bg), (vI s.er)]), (vA #[(vS s.d.name), (vI s.d.rt), (vI s.d.dl), (vL w327 s.d.xs.length c328), (vI s.st), (vI s.ix), (vB s.cn), (vI s.tr), (vI s.bg), (vI s.er)]), (vA #[(vS s.d.name), (vI s.d.rt), (vI s.d.dl), (vL sa s.d.xs.length cp), (vI s.st), (vI s.ix), (vB s.cn), (vI s.tr), (vI s.bg), (vI s.er)]), (vA #[(vS s.d.name), (vI s.d.rt), (vI s.d.dl), (vL sa s.d.xs.length cp), (vI s.st), (vI s.ix), (vB s.cn), (vI s.tr), (vI s.bg), (vI s.er)]), (vA #[(vS s.d.name), (vI s.d.rt), (vI s.d.dl), (vL w404 s.d.xs.length c405), (vI s.st), (vI s.ix), (vB s.cn), (vI s.tr), (vI s.bg), (vI s.er)]), (vA #[(vS s.d.name), (vI s.d.rt), (vI s.d.dl), (vL w404 s.d.xs.length c405), (vI s.st), (vI s.ix), (vB s.cn), (vI s.tr), (vI s.bg), (vI s.er)]), (vA #[(vS s.d.name), (vI s.d.rt), (vI s.d.dl), (vL w404 s.d.xs.length c405), (vI s.st), (vI s.ix), (vB s.cn), (vI s.tr), (vI s.bg), (vI s.er)]), (vA #[(vS s.d.name), (vI s.d.rt), (vI s.d.dl), (vL w404 s.d.xs.length c405), (vI s.st), (vI s.ix), (vB s.cn), (vI s.tr), (vI s.bg), (vI s.er)]), (vA #[(vS s.d.name), (vI s.d.rt), (vI s.d.dl), (vL w327 s.d.xs.length c328), (vI s.st), (vI s.ix), (vB s.cn), (vI s.tr), (vI s.bg), (vI s.er)]), (vB true), (vB false), (vI k1), (vP b434 0), (vP b434 3), (vL w404 s.d.xs.length c405), (vI ((s.d.xs.length : Nat))), (vB false), (g0 90), (g0 91), (g0 92), (g0 93), (g0 94), (g0 95), (g0 96), (g0 97), (g0 98), (g0 99), (g0 100), (g0 101), (g1 102), (g1 103), (g1 104), (g1 105), (g1 106), (g1 107), (g1 108), (g1 109), (g1 110), (g1 111), (g1 112), (g1 113), (g1 114), (g1 115), (g1 116), (g1 117), (g1 118), (g1 119), vZ, vZ, vZ, vZ, vZ, vZ, vZ], defers := [] } ∧ Ext h h' ∧ n' = s31.d.xs.length - k2.toNat ∧ h'[b1]? = some (.cells #[(vS s.d.name), (vI s.d.rt), (vI s.d.dl), (vL sa s.d.xs.length cp), (vI s.st), (vI s.ix), (vB s.cn), (vI s.tr), (vI s.bg), (vI s.er)] 27 (0, 0)) ∧ h'[b39]? = some (.cells #[(vS s31.d.name), (vI s31.d.rt), (vI s31.d.dl), (vL w26 s31.d.xs.length c27), (vI s31.st), (vI s31.ix), (vB s31.cn), (vI s31.tr), (vI s31.bg), (vI s31.er)] 41 (0, 0)) ∧ h'[b76]? = some (.cells #[(vS s31.d.name), (vI s31.d.rt), (vI s31.d.dl), (vL w68 s31.d.xs.length c69), (vI s31.st), (vI s31.ix), (vB s31.cn), (vI s31.tr), (vI s31.bg), (vI s31.er)] 37 (0, 0)) ∧ h'[b135]? = some (.cells #[(vS s127.d.name), (vI s127.d.rt), (vI s127.d.dl), (vL w122 s127.d.xs.length c123), (vI s127.st), (vI s127.ix), (vB s127.cn), (vI s127.tr), (vI s127.bg), (vI s127.er)] 41 (0, 0)) ∧ h'[b198]? = some (.cells #[(vS s127.d.name), (vI s127.d.rt), (vI s127.d.dl), (vL w190 s127.d.xs.length c191), (vI s127.st), (vI s127.ix), (vB s127.cn), (vI s127.tr), (vI s127.bg), (vI s127.er)] 37 (0, 0)) ∧ h'[b345]? = some (.cells #[(vS s.d.name), (vI s.d.rt), (vI s.d.dl), (vL w327 s.d.xs.length c328), (vI s.st), (vI s.ix), (vB s.cn), (vI s.tr), (vI s.bg), (vI s.er)] 37 (0, 0)) ∧ h'[b434]? = some (.cells #[(vS s.d.name), (vI s.d.rt), (vI s.d.dl), (vL w404 s.d.xs.length c405), (vI s.st), (vI s.ix), (vB s.cn), (vI s.tr), (vI s.bg), (vI s.er)] 41 (0, 0)) ∧ 0 ≤ k2 ∧ ws.length = s31.d.xs.length ∧ OwnAt h' 65 stepc ws (vL w26 s31.d.xs.length c27) ∧ OwnAt h' 65 stepc us (vL w404 s.d.xs.length c405) ∧ OwnAt h' 65 stepc s31.d.xs (vL w68 s31.d.xs.length c69) ∧ OwnAt h' 65 stepc s127.d.xs (vL w122 s127.d.xs.length c123) ∧ OwnAt h' 65 stepc s127.d.xs (vL w190 s127.d.xs.length c191) ∧ OwnAt h' 65 stepc s.d.xs (vL w327 s.d.xs.length c328)) ?_ (s31.d.xs.length - (0 : Int).toNat) ⟨0, s31.d.xs, (fun i => ([vU, vU, vU, vU, vU, vU, vU, vU, vU, vU, vU, vU, vU, vU, vU, vU, vU, vU, vU, vU, vU, vU, vU, vU, vU, vU, vU, vU, vU, vU, vU, vU, vU, vU, vU, vU, vU, vU, vU, vU, vU, vU, vU, vU, vU, vU, vU, vU, vU, vU, vU, vU, vU, vU, vU, vU, vU, vU, vU, vU, vU, vU, vU, vU, vU, vU, vU, vU, vU, vU, vU, vU, vU, vU, vU, vU, vU, vU, vU, vU, vU, vU, vU, vU, vU, vU, vU, vU, vU, vU, vU, vU, vU, vU, vU, vU, vU, vU, vU, vU, vU, vU, vZ, vZ, vZ, vZ, vZ, vZ, vZ, vZ, vZ, vZ, vZ, vZ, vZ, vZ, vZ, vZ, vZ, vZ] : List Value).getD i undef), by as_aux_lemma => kernel_rfl, x534, rfl, f536, f537, f538, f539, f540, f541, f542, by omega, rfl, p546, p545, p547, p548, p549, p550⟩
          rintro n' _ h589 ⟨k2, ws, g1, rfl, x590, m591, f592, f593, f594, f595, f596, f597, f598, i599, i600, p601, p602, p603, p604, p605, p606⟩
          by_cases c607 : ((k2) : Int) < ((s31.d.xs.length : Nat))
          · obtain ⟨i608, v609, e610, l611, g612⟩ := list_at ws (e := (k2)) (by omega) (by first | omega | (simp only [List.length_set, List.length_append, List.length_singleton]; omega))
            obtain ⟨b613, o614, q615, a616, k617, u618⟩ := p601.store stepc_size g612
            obtain ⟨b619, o620, q621, a622, k623, u624⟩ := p601.store stepc_size g612
            obtain ⟨h625, e626, p627, c628, z629⟩ := u624 (j := 1) (y := (StepM.mk v609.key (IntKind.i64.wrap ((v609.delta) + 1)))) (u := (vI (IntKind.i64.wrap ((v609.delta) + 1)))) size2 rfl rfl (by decide) (by kernel_rfl)
            have c630 : Chg (blk (Value.slice w26 (s31.d.xs.length) (c27))) h589 h625 := c628.weak fun q hq => by subst hq; exact q621
            have z631 : h.size ≤ h589.size := x590.size
            have x632 : Ext h _ := (Chg.then (O := fun _ => False) (Chg.ext x590) c630 (fun b hb => .inr (o38 b hb))).toExt'
            have f633 := c630.same _ _ f592 (fun hb => n37 _ hb rfl)
            have f634 := c630.same _ _ f593 (fun hb => n45 _ hb rfl)
            have f635 := c630.same _ _ f594 (fun hb => n83 _ hb rfl)
            have f636 := c630.same _ _ f595 (fun hb => n143 _ hb rfl)
            have f637 := c630.same _ _ f596 (fun hb => n207 _ hb rfl)
            have f638 := c630.same _ _ f597 (fun hb => n355 _ hb rfl)
            have f639 := c630.same _ _ f598 (fun hb => n445 _ hb rfl)
            have p640 := p602.keep fun b r hb q => c630.same b r q (n428 b hb)
            have p641 := p603.keep fun b r hb q => c630.same b r q (n74 b hb)
            have p642 := p604.keep fun b r hb q => c630.same b r q (n133 b hb)
            have p643 := p605.keep fun b r hb q => c630.same b r q (n196 b hb)
            have p644 := p606.keep fun b r hb q => c630.same b r q (n343 b hb)
            refine wc_ev [evC 18 3 3 agg22 f593, ltT 18 5 3 c607, evC 20 2 3 agg22 f593, evV 20 4 (vP b613 o614) (show indexAddrA Tryd.prog 22 (vL w26 s31.d.xs.length c27) (vI k2) = some (vP b613 o614) from a616 und22 size65 e610), evV 20 6 (vI v609.delta) (show loadT Tryd.prog h589 2 (vP b613 (o614 + 1)) = some (vI v609.delta) from k617.cell (j := 1) agg2 rfl), evV 20 7 (vI (IntKind.i64.wrap ((v609.delta) + 1))) (show binA Tryd.prog .add 2 (vI v609.delta) (vI 1) = some (vI (IntKind.i64.wrap ((v609.delta) + 1))) from add_wrap), evV 20 8 (vP b619 o620) (show indexAddrA Tryd.prog 22 (vL w26 s31.d.xs.length c27) (vI k2) = some (vP b619 o620) from a622 und22 size65 e610), evH 20 10 undef h625 (show (storeT Tryd.prog h589 2 (vP b619 (o620 + 1)) (vI (IntKind.i64.wrap ((v609.delta) + 1))) = some h625 ∧ (undef : Value) = undef) from ⟨e626, rfl⟩), evV 19 1 (vI ((k2) + 1)) (show binA Tryd.prog .add 3 (vI k2) (vI 1) = some (vI ((k2) + 1)) from add_i64 (by omega) (by omega))] .normal h625 [(102, (vI k2)), (103, (vP b39 0)), (104, (vP b39 3)), (105, (vL w26 s31.d.xs.length c27)), (106, (vI ((s31.d.xs.length : Nat)))), (107, (vB true)), (110, (vP b39 0)), (111, (vP b39 3)), (112, (vL w26 s31.d.xs.length c27)), (113, (vI k2)), (114, (vP b613 o614)), (115, (vP b613 (o614 + 1))), (116, (vI v609.delta)), (117, (vI (IntKind.i64.wrap ((v609.delta) + 1)))), (118, (vP b619 o620)), (119, (vP b619 (o620 + 1))), (108, (vI k2)), (109, (vI ((k2) + 1))), (16, (vI ((k2) + 1)))] ?_
            exact ⟨s31.d.xs.length - (k2 + 1).toNat, by omega, ⟨k2 + 1, (ws.set i608 (StepM.mk v609.key (IntKind.i64.wrap ((v609.delta) + 1)))), (fun i => ([vU, vU, vU, vU, vU, vU, vU, vU, vU, vU, vU, vU, vU, vU, vU, vU, vU, vU, vU, vU, vU, vU, vU, vU, vU, vU, vU, vU, vU, vU, vU, vU, vU, vU, vU, vU, vU, vU, vU, vU, vU, vU, vU, vU, vU, vU, vU, vU, vU, vU, vU, vU, vU, vU, vU, vU, vU, vU, vU, vU, vU, vU, vU, vU, vU, vU, vU, vU, vU, vU, vU, vU, vU, vU, vU, vU, vU, vU, vU, vU, vU, vU, vU, vU, vU, vU, vU, vU, vU, vU, vU, vU, vU, vU, vU, vU, vU, vU, vU, vU, vU, vU, (vI k2), (vP b39 0), (vP b39 3), (vL w26 s31.d.xs.length c27), (vI ((s31.d.xs.length : Nat))), (vB true), (vI k2), (vI ((k2) + 1)), (vP b39 0), (vP b39 3), (vL w26 s31.d.xs.length c27), (vI k2), (vP b613 o614), (vP b613 (o614 + 1)), (vI v609.delta), (vI (IntKind.i64.wrap ((v609.delta) + 1))), (vP b619 o620), (vP b619 (o620 + 1))] : List Value).getD i undef), by as_aux_lemma => kernel_rfl, x632, rfl, f633, f634, f635, f636, f637, f638, f639, by omega, by rw [List.length_set]; exact i600, p627, p640, p641, p642, p643, p644⟩⟩
          · refine wc_ev [evC 18 3 3 agg22 f593, ltF 18 5 3 c607] (.exit 2) h589 [(102, (vI k2)), (103, (vP b39 0)), (104, (vP b39 3)), (105, (vL w26 s31.d.xs.length c27)), (106, (vI ((s31.d.xs.length : Nat)))), (107, (vB false))] ?_
            obtain ⟨_, hh645, sn646, rfl, x647⟩ := refV_ok h589 s _ _ (hl.keep fun b r _ q => x590 b r q) (by omega) 
            have f648 := x647 _ _ f597
            have p649 := p606.keep fun b r _ q => x647 b r q
            have x650 := x590.trans x647
            obtain ⟨_, hh651, sn652, rfl, x653⟩ := same_ok hh645 s _ _ (hl.keep fun b r _ q => x650 b r q) (by omega) _ _ (OwnAt.lat p649 stepc_size (tsz_of size65))
            have x654 := x650.trans x653
            obtain ⟨_, hh655, sn656, rfl, x657⟩ := works_ok hh651 (x654 _ _ hg0) (x654 _ _ hg1)
            have x658 := x654.trans x657
            refine wc_ev [evLw 21 0 agg27 size27 f592, evLw 21 2 agg37 size37 f597, evF 21 1 sn646, evLw 99 0 agg37 size37 f648, evF 21 3 sn652, evF 21 5 sn656] .ret hh655 [(120, (vA #[(vS s.d.name), (vI s.d.rt), (vI s.d.dl), (vL sa s.d.xs.length cp), (vI s.st), (vI s.ix), (vB s.cn), (vI s.tr), (vI s.bg), (vI s.er)])), (122, (vA #[(vS s.d.name), (vI s.d.rt), (vI s.d.dl), (vL w327 s.d.xs.length c328), (vI s.st), (vI s.ix), (vB s.cn), (vI s.tr), (vI s.bg), (vI s.er)])), (121, (vA #[(vS s.d.name), (vI s.d.rt), (vI s.d.dl), (vL sa s.d.xs.length cp), (vI s.st), (vI s.ix), (vB s.cn), (vI s.tr), (vI s.bg), (vI s.er)])), (123, (vB true)), (124, (vB true)), (125, (vB true)), (126, (vB true)), (4, (vB true))] ?_
            exact end_ev [] (vB true) (hK _ _ (⟨rfl, x658⟩))
      · obtain ⟨b659, eb660⟩ : ∃ zq, zq = h110.size := ⟨_, rfl⟩
        obtain ⟨h661, e662⟩ : ∃ zq, zq = h110.push (.cells #[(vS .empty), (vI 0), (vI 0), (Value.slice none 0 0), (vI 0), (vI 0), (vB false), (vI 0), (vI 0), (vI 0)] 41 (0, 0)) := ⟨_, rfl⟩
        have f663 := push_new e662
        rw [← eb660] at f663
        have n664 : b659 ≠ b1 := by have := row_lt f115; omega
        have n665 : b659 ≠ b39 := by have := row_lt f116; omega
        have n666 : b659 ≠ b76 := by have := row_lt f117; omega
        have n667 : ∀ zz, (blk (Value.slice w26 (s31.d.xs.length) (c27))) zz → ¬ zz = b659 := fun zz hz ez => by have := p118.blk_lt hz; omega
        have n668 : ∀ zz, (blk (Value.slice w68 (s31.d.xs.length) (c69))) zz → ¬ zz = b659 := fun zz hz ez => by have := p119.blk_lt hz; omega
        have x669 : Ext h110 h661 := by rw [e662]; exact Ext.push _ _
        have o670 : h.size ≤ b659 := by have := x120.size; omega
        have f671 := x669 _ _ f115
        have f672 := x669 _ _ f116
        have f673 := x669 _ _ f117
        have p674 := p118.keep fun b r _ q => x669 b r q
        have p675 := p119.keep fun b r _ q => x669 b r q
        have x676 := x120.trans x669
        obtain ⟨h677, e678⟩ : ∃ zq, zq = h661.setIfInBounds b659 (.cells #[(vS .empty), (vI 0), (vI 0), (Value.slice none 0 0), (vI 0), (vI 0), (vB false), (vI 0), (vI 0), (vI 0)] 41 (0, 0)) := ⟨_, rfl⟩
        have f679 := set_same e678 f663
        have f680 := set_other e678 f671 n664
        have f681 := set_other e678 f672 n665
        have f682 := set_other e678 f673 n666
        have p683 := p674.keep fun b r hb q => (Chg.set e678).same b r q (n667 b hb)
        have p684 := p675.keep fun b r hb q => (Chg.set e678).same b r q (n668 b hb)
        have x685 := Ext.setNew x676 e678 o670
        refine wc_ev [evLw 5 0 agg27 size27 f95, evF 5 1 sn101, evFe 5 2 (p112 c121) s111, evA 5 6 eb660 e662, evUw 5 7 size41 f663 e678] .normal h677 [(37, (vA #[(vS s.d.name), (vI s.d.rt), (vI s.d.dl), (vL sa s.d.xs.length cp), (vI s.st), (vI s.ix), (vB s.cn), (vI s.tr), (vI s.bg), (vI s.er)])), (38, (vA #[(vS s.d.name), (vI s.d.rt), (vI s.d.dl), (vL sa s.d.xs.length cp), (vI s.st), (vI s.ix), (vB s.cn), (vI s.tr), (vI s.bg), (vI s.er)])), (39, (vT #[(vA #[(vS .empty), (vI 0), (vI 0), (vL none 0 0), (vI 0), (vI 0), (vB false), (vI 0), (vI 0), (vI 0)]), (vI (canE s))])), (36, (vT #[(vA #[(vS .empty), (vI 0), (vI 0), (vL none 0 0), (vI 0), (vI 0), (vB false), (vI 0), (vI 0), (vI 0)]), (vI (canE s))])), (40, (vA #[(vS .empty), (vI 0), (vI 0), (vL none 0 0), (vI 0), (vI 0), (vB false), (vI 0), (vI 0), (vI 0)])), (41, (vI (canE s))), (9, (vP b659 0)), (10, (vI (canE s)))] ?_
        refine wc_act { tmps := #[(vA #[(vS s.d.name), (vI s.d.rt), (vI s.d.dl), (vL sa s.d.xs.length cp), (vI s.st), (vI s.ix), (vB s.cn), (vI s.tr), (vI s.bg), (vI s.er)]), (vI now), (vP b1 0), vZ, (vB false), (vP b39 0), (vI 0), (vP b76 0), (vI 0), (vP b659 0), (vI (canE s)), vZ, vZ, vZ, vZ, vZ, vZ, (vP b1 0), (vA #[(vS s.d.name), (vI s.d.rt), (vI s.d.dl), (vL sa s.d.xs.length cp)]), (vB true), (vB false), vZ, (vT #[(vA #[(vS s31.d.name), (vI s31.d.rt), (vI s31.d.dl), (vL w26 s31.d.xs.length c27), (vI s31.st), (vI s31.ix), (vB s31.cn), (vI s31.tr), (vI s31.bg), (vI s31.er)]), (vI 0)]), (vP b1 0), (vA #[(vS s.d.name), (vI s.d.rt), (vI s.d.dl), (vL sa s.d.xs.length cp)]), (vI now), (vT #[(vA #[(vS s31.d.name), (vI s31.d.rt), (vI s31.d.dl), (vL w26 s31.d.xs.length c27), (vI s31.st), (vI s31.ix), (vB s31.cn), (vI s31.tr), (vI s31.bg), (vI s31.er)]), (vI 0)]), (vA #[(vS s31.d.name), (vI s31.d.rt), (vI s31.d.dl), (vL w26 s31.d.xs.length c27), (vI s31.st), (vI s31.ix), (vB s31.cn), (vI s31.tr), (vI s31.bg), (vI s31.er)]), (vI 0), (vT #[(vA #[(vS s31.d.name), (vI s31.d.rt), (vI s31.d.dl), (vL w68 s31.d.xs.length c69), (vI s31.st), (vI s31.ix), (vB s31.cn), (vI s31.tr), (vI s31.bg), (vI s31.er)]), (vI 0)]), (vP b1 0), (vA #[(vS s.d.name), (vI s.d.rt), (vI s.d.dl), (vL sa s.d.xs.length cp)]), (vI now), (vT #[(vA #[(vS s31.d.name), (vI s31.d.rt), (vI s31.d.dl), (vL w68 s31.d.xs.length c69), (vI s31.st), (vI s31.ix), (vB s31.cn), (vI s31.tr), (vI s31.bg), (vI s31.er)]), (vI 0)]), (vA #[(vS s31.d.name), (vI s31.d.rt), (vI s31.d.dl), (vL w68 s31.d.xs.length c69), (vI s31.st), (vI s31.ix), (vB s31.cn), (vI s31.tr), (vI s31.bg), (vI s31.er)]), (vI 0), (vT #[(vA #[(vS .empty), (vI 0), (vI 0), (vL none 0 0), (vI 0), (vI 0), (vB false), (vI 0), (vI 0), (vI 0)]), (vI (canE s))]), (vA #[(vS s.d.name), (vI s.d.rt), (vI s.d.dl), (vL sa s.d.xs.length cp), (vI s.st), (vI s.ix), (vB s.cn), (vI s.tr), (vI s.bg), (vI s.er)]), (vA #[(vS s.d.name), (vI s.d.rt), (vI s.d.dl), (vL sa s.d.xs.length cp), (vI s.st), (vI s.ix), (vB s.cn), (vI s.tr), (vI s.bg), (vI s.er)]), (vT #[(vA #[(vS .empty), (vI 0), (vI 0), (vL none 0 0), (vI 0), (vI 0), (vB false), (vI 0), (vI 0), (vI 0)]), (vI (canE s))]), (vA #[(vS .empty), (vI 0), (vI 0), (vL none 0 0), (vI 0), (vI 0), (vB false), (vI 0), (vI 0), (vI 0)]), (vI (canE s)), vZ, vZ, vZ, vZ, vZ, vZ, vZ, vZ, vZ, vZ, vZ, vZ, vZ, vZ, vZ, vZ, vZ, vZ, vZ, vZ, vZ, vZ, vZ, vZ, vZ, vZ, vZ, vZ, vZ, vZ, vZ, vZ, vZ, vZ, vZ, vZ, vZ, vZ, vZ, vZ, vZ, vZ, vZ, vZ, vZ, vZ, vZ, vZ, vZ, vZ, vZ, vZ, vZ, vZ, vZ, vZ, vZ, vZ, vZ, vZ, vZ, vZ, vZ, vZ, vZ, vZ, vZ, vZ, vZ, vZ, vZ, vZ, vZ, vZ, vZ, vZ, vZ, vZ, vZ, vZ, vZ, vZ, vZ, vZ, vZ], defers := [] } (by as_aux_lemma => kernel_rfl) ?_
        refine wc_seq' (subc (bodyOf Tryd.prog 7) [1, 1, 1, 1, 1, 0]) (subc (bodyOf Tryd.prog 7) [1, 1, 1, 1, 1, 1]) (by kernel_rfl) ?_
        obtain ⟨_, hh686, sn687, rfl, x688⟩ := refV_ok h677 s _ _ (hl.keep fun b r _ q => x685 b r q) (by omega) 
        have f689 := x688 _ _ f680
        have f690 := x688 _ _ f681
        have f691 := x688 _ _ f682
        have f692 := x688 _ _ f679
        have p693 := p683.keep fun b r _ q => x688 b r q
        have p694 := p684.keep fun b r _ q => x688 b r q
        have x695 := x685.trans x688
        obtain ⟨v696, h697, s698, p699, p700, x701⟩ := rcancel_ok hh686 s _ _ (hl.keep fun b r _ q => x695 b r q) (by omega) hnm hks
        have f702 := x701 _ _ f689
        have f703 := x701 _ _ f690
        have f704 := x701 _ _ f691
        have f705 := x701 _ _ f692
        have p706 := p693.keep fun b r _ q => x701 b r q
        have p707 := p694.keep fun b r _ q => x701 b r q
        have x708 := x695.trans x701
        obtain ⟨b709, eb710⟩ : ∃ zq, zq = h697.size := ⟨_, rfl⟩
        obtain ⟨h711, e712⟩ : ∃ zq, zq = h697.push (.cells #[(vS .empty), (vI 0), (vI 0), (Value.slice none 0 0), (vI 0), (vI 0), (vB false), (vI 0), (vI 0), (vI 0)] 37 (0, 0)) := ⟨_, rfl⟩
        have f713 := push_new e712
        rw [← eb710] at f713
        have n714 : b709 ≠ b1 := by have := row_lt f702; omega
        have n715 : b709 ≠ b39 := by have := row_lt f703; omega
        have n716 : b709 ≠ b76 := by have := row_lt f704; omega
        have n717 : b709 ≠ b659 := by have := row_lt f705; omega
        have n718 : ∀ zz, (blk (Value.slice w26 (s31.d.xs.length) (c27))) zz → ¬ zz = b709 := fun zz hz ez => by have := p706.blk_lt hz; omega
        have n719 : ∀ zz, (blk (Value.slice w68 (s31.d.xs.length) (c69))) zz → ¬ zz = b709 := fun zz hz ez => by have := p707.blk_lt hz; omega
        have x720 : Ext h697 h711 := by rw [e712]; exact Ext.push _ _
        have o721 : h.size ≤ b709 := by have := x708.size; omega
        have f722 := x720 _ _ f702
        have f723 := x720 _ _ f703
        have f724 := x720 _ _ f704
        have f725 := x720 _ _ f705
        have p726 := p706.keep fun b r _ q => x720 b r q
        have p727 := p707.keep fun b r _ q => x720 b r q
        have x728 := x708.trans x720
        obtain ⟨h729, e730⟩ : ∃ zq, zq = h711.setIfInBounds b709 (.cells #[(vS .empty), (vI 0), (vI 0), (Value.slice none 0 0), (vI 0), (vI 0), (vB false), (vI 0), (vI 0), (vI 0)] 37 (0, 0)) := ⟨_, rfl⟩
        have f731 := set_same e730 f713
        have f732 := set_other e730 f722 n714
        have f733 := set_other e730 f723 n715
        have f734 := set_other e730 f724 n716
        have f735 := set_other e730 f725 n717
        have p736 := p726.keep fun b r hb q => (Chg.set e730).same b r q (n718 b hb)
        have p737 := p727.keep fun b r hb q => (Chg.set e730).same b r q (n719 b hb)
        have x738 := Ext.setNew x728 e730 o721
        refine wc_ev [evLw 6 0 agg27 size27 f680, evF 6 1 sn687, evFe 6 2 (p699 c121) s698, evA 6 6 eb710 e712, evUw 6 7 size37 f713 e730] .normal h729 [(43, (vA #[(vS s.d.name), (vI s.d.rt), (vI s.d.dl), (vL sa s.d.xs.length cp), (vI s.st), (vI s.ix), (vB s.cn), (vI s.tr), (vI s.bg), (vI s.er)])), (44, (vA #[(vS s.d.name), (vI s.d.rt), (vI s.d.dl), (vL sa s.d.xs.length cp), (vI s.st), (vI s.ix), (vB s.cn), (vI s.tr), (vI s.bg), (vI s.er)])), (45, (vT #[(vA #[(vS .empty), (vI 0), (vI 0), (vL none 0 0), (vI 0), (vI 0), (vB false), (vI 0), (vI 0), (vI 0)]), (vI (canE s))])), (42, (vT #[(vA #[(vS .empty), (vI 0), (vI 0), (vL none 0 0), (vI 0), (vI 0), (vB false), (vI 0), (vI 0), (vI 0)]), (vI (canE s))])), (46, (vA #[(vS .empty), (vI 0), (vI 0), (vL none 0 0), (vI 0), (vI 0), (vB false), (vI 0), (vI 0), (vI 0)])), (47, (vI (canE s))), (11, (vP b709 0)), (12, (vI (canE s)))] ?_
        refine wc_seq' (subc (bodyOf Tryd.prog 7) [1, 1, 1, 1, 1, 1, 0]) (subc (bodyOf Tryd.prog 7) [1, 1, 1, 1, 1, 1, 1]) (by kernel_rfl) ?_
        obtain ⟨_, hh739, sn740, rfl, x741⟩ := backV_ok h729 s31 _ _ (OwnAt.lat p736 stepc_size (tsz_of size65)) (by omega) 
        have f742 := x741 _ _ f732
        have f743 := x741 _ _ f733
        have f744 := x741 _ _ f734
        have f745 := x741 _ _ f735
        have f746 := x741 _ _ f731
        have p747 := p736.keep fun b r _ q => x741 b r q
        have p748 := p737.keep fun b r _ q => x741 b r q
        have x749 := x738.trans x741
        obtain ⟨_, hh750, sn751, rfl, x752⟩ := refV_ok hh739 s31 _ _ (OwnAt.lat p747 stepc_size (tsz_of size65)) (by omega) 
        have f753 := x752 _ _ f742
        have f754 := x752 _ _ f743
        have f755 := x752 _ _ f744
        have f756 := x752 _ _ f745
        have f757 := x752 _ _ f746
        have p758 := p747.keep fun b r _ q => x752 b r q
        have p759 := p748.keep fun b r _ q => x752 b r q
        have x760 := x749.trans x752
        obtain ⟨_, hh761, sn762, rfl, x763⟩ := same_ok hh750 s31 _ _ (OwnAt.lat p758 stepc_size (tsz_of size65)) (by omega) _ _ (OwnAt.lat p759 stepc_size (tsz_of size65))
        have f764 := x763 _ _ f753
        have f765 := x763 _ _ f754
        have f766 := x763 _ _ f755
        have f767 := x763 _ _ f756
        have f768 := x763 _ _ f757
        have p769 := p758.keep fun b r _ q => x763 b r q
        have p770 := p759.keep fun b r _ q => x763 b r q
        have x771 := x760.trans x763
        obtain ⟨_, hh772, sn773, rfl, x774⟩ := backV_ok hh761 (SagaM.mk (DefM.mk .empty 0 0 ([] : List StepM)) 0 0 false 0 0 0) _ _ lat_none (by decide) 
        have f775 := x774 _ _ f764
        have f776 := x774 _ _ f765
        have f777 := x774 _ _ f766
        have f778 := x774 _ _ f767
        have f779 := x774 _ _ f768
        have p780 := p769.keep fun b r _ q => x774 b r q
        have p781 := p770.keep fun b r _ q => x774 b r q
        have x782 := x771.trans x774
        obtain ⟨_, hh783, sn784, rfl, x785⟩ := refV_ok hh772 (SagaM.mk (DefM.mk .empty 0 0 ([] : List StepM)) 0 0 false 0 0 0) _ _ lat_none (by decide) 
        have f786 := x785 _ _ f775
        have f787 := x785 _ _ f776
        have f788 := x785 _ _ f777
        have f789 := x785 _ _ f778
        have f790 := x785 _ _ f779
        have p791 := p780.keep fun b r _ q => x785 b r q
        have p792 := p781.keep fun b r _ q => x785 b r q
        have x793 := x782.trans x785
        obtain ⟨_, hh794, sn795, rfl, x796⟩ := same_ok hh783 (SagaM.mk (DefM.mk .empty 0 0 ([] : List StepM)) 0 0 false 0 0 0) _ _ lat_none (by decide) _ _ lat_none
        have f797 := x796 _ _ f786
        have f798 := x796 _ _ f787
        have f799 := x796 _ _ f788
        have f800 := x796 _ _ f789
        have f801 := x796 _ _ f790
        have p802 := p791.keep fun b r _ q => x796 b r q
        have p803 := p792.keep fun b r _ q => x796 b r q
        have x804 := x793.trans x796
        refine wc_ev [evLw 7 0 agg41 size41 f733, evLw 7 3 agg37 size37 f734, evF 7 1 sn740, evLw 99 0 agg37 size37 f744, evF 7 2 sn751, evLw 99 0 agg37 size37 f755, evF 7 4 sn762, evLw 7 12 agg41 size41 f767, evLw 7 15 agg37 size37 f768, evF 7 13 sn773, evLw 99 0 agg37 size37 f779, evF 7 14 sn784, evLw 99 0 agg37 size37 f790, evF 7 16 sn795, neF 7 22 25 (Eq.refl ((canE s) : Int))] .normal hh794 [(48, (vA #[(vS s31.d.name), (vI s31.d.rt), (vI s31.d.dl), (vL w26 s31.d.xs.length c27), (vI s31.st), (vI s31.ix), (vB s31.cn), (vI s31.tr), (vI s31.bg), (vI s31.er)])), (51, (vA #[(vS s31.d.name), (vI s31.d.rt), (vI s31.d.dl), (vL w68 s31.d.xs.length c69), (vI s31.st), (vI s31.ix), (vB s31.cn), (vI s31.tr), (vI s31.bg), (vI s31.er)])), (49, (vA #[(vS s31.d.name), (vI s31.d.rt), (vI s31.d.dl), (vL w26 s31.d.xs.length c27), (vI s31.st), (vI s31.ix), (vB s31.cn), (vI s31.tr), (vI s31.bg), (vI s31.er)])), (50, (vA #[(vS s31.d.name), (vI s31.d.rt), (vI s31.d.dl), (vL w26 s31.d.xs.length c27), (vI s31.st), (vI s31.ix), (vB s31.cn), (vI s31.tr), (vI s31.bg), (vI s31.er)])), (52, (vB true)), (53, (vB false)), (54, (vB false)), (55, (vI 0)), (56, (vI 0)), (57, (vB false)), (58, (vB false)), (59, (vB false)), (60, (vA #[(vS .empty), (vI 0), (vI 0), (vL none 0 0), (vI 0), (vI 0), (vB false), (vI 0), (vI 0), (vI 0)])), (63, (vA #[(vS .empty), (vI 0), (vI 0), (vL none 0 0), (vI 0), (vI 0), (vB false), (vI 0), (vI 0), (vI 0)])), (61, (vA #[(vS .empty), (vI 0), (vI 0), (vL none 0 0), (vI 0), (vI 0), (vB false), (vI 0), (vI 0), (vI 0)])), (62, (vA #[(vS .empty), (vI 0), (vI 0), (vL none 0 0), (vI 0), (vI 0), (vB false), (vI 0), (vI 0), (vI 0)])), (64, (vB true)), (65, (vB false)), (66, (vB false)), (67, (vB false)), (68, (vI (canE s))), (69, (vI (canE s))), (70, (vB false)), (71, (vB false))] ?_
        refine wc_act { tmps := #[(vA #[(vS s.d.name), (vI s.d.rt), (vI s.d.dl), (vL sa s.d.xs.length cp), (vI s.st), (vI s.ix), (vB s.cn), (vI s.tr), (vI s.bg), (vI s.er)]), (vI now), (vP b1 0), vZ, (vB false), (vP b39 0), (vI 0), (vP b76 0), (vI 0), (vP b659 0), (vI (canE s)), (vP b709 0), (vI (canE s)), vZ, vZ, vZ, vZ, (vP b1 0), (vA #[(vS s.d.name), (vI s.d.rt), (vI s.d.dl), (vL sa s.d.xs.length cp)]), (vB true), (vB false), vZ, (vT #[(vA #[(vS s31.d.name), (vI s31.d.rt), (vI s31.d.dl), (vL w26 s31.d.xs.length c27), (vI s31.st), (vI s31.ix), (vB s31.cn), (vI s31.tr), (vI s31.bg), (vI s31.er)]), (vI 0)]), (vP b1 0), (vA #[(vS s.d.name), (vI s.d.rt), (vI s.d.dl), (vL sa s.d.xs.length cp)]), (vI now), (vT #[(vA #[(vS s31.d.name), (vI s31.d.rt), (vI s31.d.dl), (vL w26 s31.d.xs.length c27), (vI s31.st), (vI s31.ix), (vB s31.cn), (vI s31.tr), (vI s31.bg), (vI s31.er)]), (vI 0)]), (vA #[(vS s31.d.name), (vI s31.d.rt), (vI s31.d.dl), (vL w26 s31.d.xs.length c27), (vI s31.st), (vI s31.ix), (vB s31.cn), (vI s31.tr), (vI s31.bg), (vI s31.er)]), (vI 0), (vT #[(vA #[(vS s31.d.name), (vI s31.d.rt), (vI s31.d.dl), (vL w68 s31.d.xs.length c69), (vI s31.st), (vI s31.ix), (vB s31.cn), (vI s31.tr), (vI s31.bg), (vI s31.er)]), (vI 0)]), (vP b1 0), (vA #[(vS s.d.name), (vI s.d.rt), (vI s.d.dl), (vL sa s.d.xs.length cp)]), (vI now), (vT #[(vA #[(vS s31.d.name), (vI s31.d.rt), (vI s31.d.dl), (vL w68 s31.d.xs.length c69), (vI s31.st), (vI s31.ix), (vB s31.cn), (vI s31.tr), (vI s31.bg), (vI s31.er)]), (vI 0)]), (vA #[(vS s31.d.name), (vI s31.d.rt), (vI s31.d.dl), (vL w68 s31.d.xs.length c69), (vI s31.st), (vI s31.ix), (vB s31.cn), (vI s31.tr), (vI s31.bg), (vI s31.er)]), (vI 0), (vT #[(vA #[(vS .empty), (vI 0), (vI 0), (vL none 0 0), (vI 0), (vI 0), (vB false), (vI 0), (vI 0), (vI 0)]), (vI (canE s))]), (vA #[(vS s.d.name), (vI s.d.rt), (vI s.d.dl), (vL sa s.d.xs.length cp), (vI s.st), (vI s.ix), (vB s.cn), (vI s.tr), (vI s.bg), (vI s.er)]), (vA #[(vS s.d.name), (vI s.d.rt), (vI s.d.dl), (vL sa s.d.xs.length cp), (vI s.st), (vI s.ix), (vB s.cn), (vI s.tr), (vI s.bg), (vI s.er)]), (vT #[(vA #[(vS .empty), (vI 0), (vI 0), (vL none 0 0), (vI 0), (vI 0), (vB false), (vI 0), (vI 0), (vI 0)]), (vI (canE s))]), (vA #[(vS .empty), (vI 0), (vI 0), (vL none 0 0), (vI 0), (vI 0), (vB false), (vI 0), (vI 0), (vI 0)]), (vI (canE s)), (vT #[(vA #[(vS .empty), (vI 0), (vI 0), (vL none 0 0), (vI 0), (vI 0), (vB false), (vI 0), (vI 0), (vI 0)]), (vI (canE s))]), (vA #[(vS s.d.name), (vI s.d.rt), (vI s.d.dl), (vL sa s.d.xs.length cp), (vI s.st), (vI s.ix), (vB s.cn), (vI s.tr), (vI s.bg), (vI s.er)]), (vA #[(vS s.d.name), (vI s.d.rt), (vI s.d.dl), (vL sa s.d.xs.length cp), (vI s.st), (vI s.ix), (vB s.cn), (vI s.tr), (vI s.bg), (vI s.er)]), (vT #[(vA #[(vS .empty), (vI 0), (vI 0), (vL none 0 0), (vI 0), (vI 0), (vB false), (vI 0), (vI 0), (vI 0)]), (vI (canE s))]), (vA #[(vS .empty), (vI 0), (vI 0), (vL none 0 0), (vI 0), (vI 0), (vB false), (vI 0), (vI 0), (vI 0)]), (vI (canE s)), (vA #[(vS s31.d.name), (vI s31.d.rt), (vI s31.d.dl), (vL w26 s31.d.xs.length c27), (vI s31.st), (vI s31.ix), (vB s31.cn), (vI s31.tr), (vI s31.bg), (vI s31.er)]), (vA #[(vS s31.d.name), (vI s31.d.rt), (vI s31.d.dl), (vL w26 s31.d.xs.length c27), (vI s31.st), (vI s31.ix), (vB s31.cn), (vI s31.tr), (vI s31.bg), (vI s31.er)]), (vA #[(vS s31.d.name), (vI s31.d.rt), (vI s31.d.dl), (vL w26 s31.d.xs.length c27), (vI s31.st), (vI s31.ix), (vB s31.cn), (vI s31.tr), (vI s31.bg), (vI s31.er)]), (vA #[(vS s31.d.name), (vI s31.d.rt), (vI s31.d.dl), (vL w68 s31.d.xs.length c69), (vI s31.st), (vI s31.ix), (vB s31.cn), (vI s31.tr), (vI s31.bg), (vI s31.er)]), (vB true), (vB false), (vB false), (vI 0), (vI 0), (vB false), (vB false), (vB false), (vA #[(vS .empty), (vI 0), (vI 0), (vL none 0 0), (vI 0), (vI 0), (vB false), (vI 0), (vI 0), (vI 0)]), (vA #[(vS .empty), (vI 0), (vI 0), (vL none 0 0), (vI 0), (vI 0), (vB false), (vI 0), (vI 0), (vI 0)]), (vA #[(vS .empty), (vI 0), (vI 0), (vL none 0 0), (vI 0), (vI 0), (vB false), (vI 0), (vI 0), (vI 0)]), (vA #[(vS .empty), (vI 0), (vI 0), (vL none 0 0), (vI 0), (vI 0), (vB false), (vI 0), (vI 0), (vI 0)]), (vB true), (vB false), (vB false), (vB false), (vI (canE s)), (vI (canE s)), (vB false), (vB false), vZ, vZ, vZ, vZ, vZ, vZ, vZ, vZ, vZ, vZ, vZ, vZ, vZ, vZ, vZ, vZ, vZ, vZ, vZ, vZ, vZ, vZ, vZ, vZ, vZ, vZ, vZ, vZ, vZ, vZ, vZ, vZ, vZ, vZ, vZ, vZ, vZ, vZ, vZ, vZ, vZ, vZ, vZ, vZ, vZ, vZ, vZ, vZ, vZ, vZ, vZ, vZ, vZ, vZ, vZ], defers := [] } (by as_aux_lemma => kernel_rfl) ?_
        refine wc_seq' (subc (bodyOf Tryd.prog 7) [1, 1, 1, 1, 1, 1, 1, 0]) (subc (bodyOf Tryd.prog 7) [1, 1, 1, 1, 1, 1, 1, 1]) (by kernel_rfl) ?_
        obtain ⟨_, hh805, sn806, rfl, x807⟩ := refV_ok hh794 s _ _ (hl.keep fun b r _ q => x804 b r q) (by omega) 
        have f808 := x807 _ _ f797
        have f809 := x807 _ _ f798
        have f810 := x807 _ _ f799
        have f811 := x807 _ _ f800
        have f812 := x807 _ _ f801
        have p813 := p802.keep fun b r _ q => x807 b r q
        have p814 := p803.keep fun b r _ q => x807 b r q
        have x815 := x804.trans x807
        obtain ⟨_, h816, s817, w818, c819, rfl, o820, x821, b822⟩ := rcopys_ok hh805 s _ _ (hl.keep fun b r _ q => x815 b r q) (by omega)
        have f823 := x821 _ _ f808
        have f824 := x821 _ _ f809
        have f825 := x821 _ _ f810
        have f826 := x821 _ _ f811
        have f827 := x821 _ _ f812
        have p828 := p813.keep fun b r _ q => x821 b r q
        have p829 := p814.keep fun b r _ q => x821 b r q
        have x830 := x815.trans x821
        have z831 : h.size ≤ hh805.size := x815.size
        have n832 : ∀ zz, blk (Value.slice w818 (s.d.xs.length) (c819)) zz → ¬ (blk (Value.slice w26 (s31.d.xs.length) (c27))) zz := fun zz hz ez => by have := b822 zz hz; have := p813.blk_lt ez; omega
        have o833 : ∀ zz, blk (Value.slice w818 (s.d.xs.length) (c819)) zz → h.size ≤ zz := fun zz hz => by have := b822 zz hz; omega
        obtain ⟨b834, eb835⟩ : ∃ zq, zq = h816.size := ⟨_, rfl⟩
        obtain ⟨h836, e837⟩ : ∃ zq, zq = h816.push (.cells #[(vS .empty), (vI 0), (vI 0), (Value.slice none 0 0), (vI 0), (vI 0), (vB false), (vI 0), (vI 0), (vI 0)] 37 (0, 0)) := ⟨_, rfl⟩
        have f838 := push_new e837
        rw [← eb835] at f838
        have n839 : b834 ≠ b1 := by have := row_lt f823; omega
        have n840 : b834 ≠ b39 := by have := row_lt f824; omega
        have n841 : b834 ≠ b76 := by have := row_lt f825; omega
        have n842 : b834 ≠ b659 := by have := row_lt f826; omega
        have n843 : b834 ≠ b709 := by have := row_lt f827; omega
        have n844 : ∀ zz, (blk (Value.slice w26 (s31.d.xs.length) (c27))) zz → ¬ zz = b834 := fun zz hz ez => by have := p828.blk_lt hz; omega
        have n845 : ∀ zz, (blk (Value.slice w68 (s31.d.xs.length) (c69))) zz → ¬ zz = b834 := fun zz hz ez => by have := p829.blk_lt hz; omega
        have n846 : ∀ zz, (blk (Value.slice w818 (s.d.xs.length) (c819))) zz → ¬ zz = b834 := fun zz hz ez => by have := o820.blk_lt hz; omega
        have x847 : Ext h816 h836 := by rw [e837]; exact Ext.push _ _
        have o848 : h.size ≤ b834 := by have := x830.size; omega
        have f849 := x847 _ _ f823
        have f850 := x847 _ _ f824
        have f851 := x847 _ _ f825
        have f852 := x847 _ _ f826
        have f853 := x847 _ _ f827
        have p854 := p828.keep fun b r _ q => x847 b r q
        have p855 := p829.keep fun b r _ q => x847 b r q
        have p856 := o820.keep fun b r _ q => x847 b r q
        have x857 := x830.trans x847
        obtain ⟨h858, e859⟩ : ∃ zq, zq = h836.setIfInBounds b834 (.cells #[(vS s.d.name), (vI (s.d.rt)), (vI (s.d.dl)), (Value.slice w818 (s.d.xs.length) (c819)), (vI (s.st)), (vI (s.ix)), (vB s.cn), (vI (s.tr)), (vI (s.bg)), (vI (s.er))] 37 (0, 0)) := ⟨_, rfl⟩
        have f860 := set_same e859 f838
        have f861 := set_other e859 f849 n839
        have f862 := set_other e859 f850 n840
        have f863 := set_other e859 f851 n841
        have f864 := set_other e859 f852 n842
        have f865 := set_other e859 f853 n843
        have p866 := p854.keep fun b r hb q => (Chg.set e859).same b r q (n844 b hb)
        have p867 := p855.keep fun b r hb q => (Chg.set e859).same b r q (n845 b hb)
        have p868 := p856.keep fun b r hb q => (Chg.set e859).same b r q (n846 b hb)
        have x869 := Ext.setNew x857 e859 o848
        refine wc_ev [evLw 9 0 agg27 size27 f797, evF 9 1 sn806, evF 9 2 s817, evA 9 3 eb835 e837, evUw 9 4 size37 f838 e859] .normal h858 [(72, (vA #[(vS s.d.name), (vI s.d.rt), (vI s.d.dl), (vL sa s.d.xs.length cp), (vI s.st), (vI s.ix), (vB s.cn), (vI s.tr), (vI s.bg), (vI s.er)])), (73, (vA #[(vS s.d.name), (vI s.d.rt), (vI s.d.dl), (vL sa s.d.xs.length cp), (vI s.st), (vI s.ix), (vB s.cn), (vI s.tr), (vI s.bg), (vI s.er)])), (74, (vA #[(vS s.d.name), (vI s.d.rt), (vI s.d.dl), (vL w818 s.d.xs.length c819), (vI s.st), (vI s.ix), (vB s.cn), (vI s.tr), (vI s.bg), (vI s.er)])), (13, (vP b834 0))] ?_
        refine wc_seq' (subc (bodyOf Tryd.prog 7) [1, 1, 1, 1, 1, 1, 1, 1, 0]) (subc (bodyOf Tryd.prog 7) [1, 1, 1, 1, 1, 1, 1, 1, 1]) (by kernel_rfl) ?_
        obtain ⟨_, hh870, sn871, rfl, x872⟩ := givenV_ok h858 s _ _ (hl.keep fun b r _ q => x869 b r q) (by omega) 
        have f873 := x872 _ _ f861
        have f874 := x872 _ _ f862
        have f875 := x872 _ _ f863
        have f876 := x872 _ _ f864
        have f877 := x872 _ _ f865
        have f878 := x872 _ _ f860
        have p879 := p866.keep fun b r _ q => x872 b r q
        have p880 := p867.keep fun b r _ q => x872 b r q
        have p881 := p868.keep fun b r _ q => x872 b r q
        have x882 := x869.trans x872
        obtain ⟨_, h883, s884, w885, c886, rfl, o887, x888, b889⟩ := copys_ok hh870 s _ _ (hl.keep fun b r _ q => x882 b r q) (by omega)
        have f890 := x888 _ _ f873
        have f891 := x888 _ _ f874
        have f892 := x888 _ _ f875
        have f893 := x888 _ _ f876
        have f894 := x888 _ _ f877
        have f895 := x888 _ _ f878
        have p896 := p879.keep fun b r _ q => x888 b r q
        have p897 := p880.keep fun b r _ q => x888 b r q
        have p898 := p881.keep fun b r _ q => x888 b r q
        have x899 := x882.trans x888
        have z900 : h.size ≤ hh870.size := x882.size
        have n901 : ∀ zz, blk (Value.slice w885 (s.d.xs.length) (c886)) zz → ¬ zz = b1 := fun zz hz ez => by have := b889 zz hz; have := row_lt f873; omega
        have n902 : ∀ zz, blk (Value.slice w885 (s.d.xs.length) (c886)) zz → ¬ zz = b39 := fun zz hz ez => by have := b889 zz hz; have := row_lt f874; omega
        have n903 : ∀ zz, blk (Value.slice w885 (s.d.xs.length) (c886)) zz → ¬ zz = b76 := fun zz hz ez => by have := b889 zz hz; have := row_lt f875; omega
        have n904 : ∀ zz, blk (Value.slice w885 (s.d.xs.length) (c886)) zz → ¬ zz = b659 := fun zz hz ez => by have := b889 zz hz; have := row_lt f876; omega
        have n905 : ∀ zz, blk (Value.slice w885 (s.d.xs.length) (c886)) zz → ¬ zz = b709 := fun zz hz ez => by have := b889 zz hz; have := row_lt f877; omega
        have n906 : ∀ zz, blk (Value.slice w885 (s.d.xs.length) (c886)) zz → ¬ zz = b834 := fun zz hz ez => by have := b889 zz hz; have := row_lt f878; omega
        have n907 : ∀ zz, blk (Value.slice w885 (s.d.xs.length) (c886)) zz → ¬ (blk (Value.slice w26 (s31.d.xs.length) (c27))) zz := fun zz hz ez => by have := b889 zz hz; have := p879.blk_lt ez; omega
        have n908 : ∀ zz, blk (Value.slice w885 (s.d.xs.length) (c886)) zz → ¬ (blk (Value.slice w68 (s31.d.xs.length) (c69))) zz := fun zz hz ez => by have := b889 zz hz; have := p880.blk_lt ez; omega
        have n909 : ∀ zz, blk (Value.slice w885 (s.d.xs.length) (c886)) zz → ¬ (blk (Value.slice w818 (s.d.xs.length) (c819))) zz := fun zz hz ez => by have := b889 zz hz; have := p881.blk_lt ez; omega
        have o910 : ∀ zz, blk (Value.slice w885 (s.d.xs.length) (c886)) zz → h.size ≤ zz := fun zz hz => by have := b889 zz hz; omega
        obtain ⟨b911, eb912⟩ : ∃ zq, zq = h883.size := ⟨_, rfl⟩
        obtain ⟨h913, e914⟩ : ∃ zq, zq = h883.push (.cells #[(vS .empty), (vI 0), (vI 0), (Value.slice none 0 0), (vI 0), (vI 0), (vB false), (vI 0), (vI 0), (vI 0)] 41 (0, 0)) := ⟨_, rfl⟩
        have f915 := push_new e914
        rw [← eb912] at f915
        have n916 : b911 ≠ b1 := by have := row_lt f890; omega
        have n917 : b911 ≠ b39 := by have := row_lt f891; omega
        have n918 : b911 ≠ b76 := by have := row_lt f892; omega
        have n919 : b911 ≠ b659 := by have := row_lt f893; omega
        have n920 : b911 ≠ b709 := by have := row_lt f894; omega
        have n921 : b911 ≠ b834 := by have := row_lt f895; omega
        have n922 : ∀ zz, (blk (Value.slice w26 (s31.d.xs.length) (c27))) zz → ¬ zz = b911 := fun zz hz ez => by have := p896.blk_lt hz; omega
        have n923 : ∀ zz, (blk (Value.slice w68 (s31.d.xs.length) (c69))) zz → ¬ zz = b911 := fun zz hz ez => by have := p897.blk_lt hz; omega
        have n924 : ∀ zz, (blk (Value.slice w818 (s.d.xs.length) (c819))) zz → ¬ zz = b911 := fun zz hz ez => by have := p898.blk_lt hz; omega
        have n925 : ∀ zz, (blk (Value.slice w885 (s.d.xs.length) (c886))) zz → ¬ zz = b911 := fun zz hz ez => by have := o887.blk_lt hz; omega
        have x926 : Ext h883 h913 := by rw [e914]; exact Ext.push _ _
        have o927 : h.size ≤ b911 := by have := x899.size; omega
        have f928 := x926 _ _ f890
        have f929 := x926 _ _ f891
        have f930 := x926 _ _ f892
        have f931 := x926 _ _ f893
        have f932 := x926 _ _ f894
        have f933 := x926 _ _ f895
        have p934 := p896.keep fun b r _ q => x926 b r q
        have p935 := p897.keep fun b r _ q => x926 b r q
        have p936 := p898.keep fun b r _ q => x926 b r q
        have p937 := o887.keep fun b r _ q => x926 b r q
        have x938 := x899.trans x926
        obtain ⟨h939, e940⟩ : ∃ zq, zq = h913.setIfInBounds b911 (.cells #[(vS s.d.name), (vI (s.d.rt)), (vI (s.d.dl)), (Value.slice w885 (s.d.xs.length) (c886)), (vI (s.st)), (vI (s.ix)), (vB s.cn), (vI (s.tr)), (vI (s.bg)), (vI (s.er))] 41 (0, 0)) := ⟨_, rfl⟩
        have f941 := set_same e940 f915
        have f942 := set_other e940 f928 n916
        have f943 := set_other e940 f929 n917
        have f944 := set_other e940 f930 n918
        have f945 := set_other e940 f931 n919
        have f946 := set_other e940 f932 n920
        have f947 := set_other e940 f933 n921
        have p948 := p934.keep fun b r hb q => (Chg.set e940).same b r q (n922 b hb)
        have p949 := p935.keep fun b r hb q => (Chg.set e940).same b r q (n923 b hb)
        have p950 := p936.keep fun b r hb q => (Chg.set e940).same b r q (n924 b hb)
        have p951 := p937.keep fun b r hb q => (Chg.set e940).same b r q (n925 b hb)
        have x952 := Ext.setNew x938 e940 o927
        refine wc_ev [evLw 10 0 agg27 size27 f861, evF 10 1 sn871, evF 10 2 s884, evA 10 3 eb912 e914, evUw 10 4 size41 f915 e940] .normal h939 [(75, (vA #[(vS s.d.name), (vI s.d.rt), (vI s.d.dl), (vL sa s.d.xs.length cp), (vI s.st), (vI s.ix), (vB s.cn), (vI s.tr), (vI s.bg), (vI s.er)])), (76, (vA #[(vS s.d.name), (vI s.d.rt), (vI s.d.dl), (vL sa s.d.xs.length cp), (vI s.st), (vI s.ix), (vB s.cn), (vI s.tr), (vI s.bg), (vI s.er)])), (77, (vA #[(vS s.d.name), (vI s.d.rt), (vI s.d.dl), (vL w885 s.d.xs.length c886), (vI s.st), (vI s.ix), (vB s.cn), (vI s.tr), (vI s.bg), (vI s.er)])), (14, (vP b911 0))] ?_
        refine wc_seq' (subc (bodyOf Tryd.prog 7) [1, 1, 1, 1, 1, 1, 1, 1, 1, 0]) (subc (bodyOf Tryd.prog 7) [1, 1, 1, 1, 1, 1, 1, 1, 1, 1]) (by kernel_rfl) ?_
        obtain ⟨_, hh953, sn954, rfl, x955⟩ := backV_ok h939 s _ _ (OwnAt.lat p951 stepc_size (tsz_of size65)) (by omega) 
        have f956 := x955 _ _ f942
        have f957 := x955 _ _ f943
        have f958 := x955 _ _ f944
        have f959 := x955 _ _ f945
        have f960 := x955 _ _ f946
        have f961 := x955 _ _ f947
        have f962 := x955 _ _ f941
        have p963 := p948.keep fun b r _ q => x955 b r q
        have p964 := p949.keep fun b r _ q => x955 b r q
        have p965 := p950.keep fun b r _ q => x955 b r q
        have p966 := p951.keep fun b r _ q => x955 b r q
        have x967 := x952.trans x955
        obtain ⟨_, hh968, sn969, rfl, x970⟩ := refV_ok hh953 s _ _ (OwnAt.lat p966 stepc_size (tsz_of size65)) (by omega) 
        have f971 := x970 _ _ f956
        have f972 := x970 _ _ f957
        have f973 := x970 _ _ f958
        have f974 := x970 _ _ f959
        have f975 := x970 _ _ f960
        have f976 := x970 _ _ f961
        have f977 := x970 _ _ f962
        have p978 := p963.keep fun b r _ q => x970 b r q
        have p979 := p964.keep fun b r _ q => x970 b r q
        have p980 := p965.keep fun b r _ q => x970 b r q
        have p981 := p966.keep fun b r _ q => x970 b r q
        have x982 := x967.trans x970
        obtain ⟨_, hh983, sn984, rfl, x985⟩ := same_ok hh968 s _ _ (OwnAt.lat p981 stepc_size (tsz_of size65)) (by omega) _ _ (OwnAt.lat p980 stepc_size (tsz_of size65))
        have f986 := x985 _ _ f971
        have f987 := x985 _ _ f972
        have f988 := x985 _ _ f973
        have f989 := x985 _ _ f974
        have f990 := x985 _ _ f975
        have f991 := x985 _ _ f976
        have f992 := x985 _ _ f977
        have p993 := p978.keep fun b r _ q => x985 b r q
        have p994 := p979.keep fun b r _ q => x985 b r q
        have p995 := p980.keep fun b r _ q => x985 b r q
        have p996 := p981.keep fun b r _ q => x985 b r q
        have x997 := x982.trans x985
        refine wc_ev [evLw 11 0 agg41 size41 f941, evLw 11 3 agg37 size37 f947, evF 11 1 sn954, evLw 99 0 agg37 size37 f961, evF 11 2 sn969, evLw 99 0 agg37 size37 f976, evF 11 4 sn984] .normal hh983 [(78, (vA #[(vS s.d.name), (vI s.d.rt), (vI s.d.dl), (vL w885 s.d.xs.length c886), (vI s.st), (vI s.ix), (vB s.cn), (vI s.tr), (vI s.bg), (vI s.er)])), (81, (vA #[(vS s.d.name), (vI s.d.rt), (vI s.d.dl), (vL w818 s.d.xs.length c819), (vI s.st), (vI s.ix), (vB s.cn), (vI s.tr), (vI s.bg), (vI s.er)])), (79, (vA #[(vS s.d.name), (vI s.d.rt), (vI s.d.dl), (vL w885 s.d.xs.length c886), (vI s.st), (vI s.ix), (vB s.cn), (vI s.tr), (vI s.bg), (vI s.er)])), (80, (vA #[(vS s.d.name), (vI s.d.rt), (vI s.d.dl), (vL w885 s.d.xs.length c886), (vI s.st), (vI s.ix), (vB s.cn), (vI s.tr), (vI s.bg), (vI s.er)])), (82, (vB true)), (83, (vB false))] ?_
        refine wc_seq' (subc (bodyOf Tryd.prog 7) [1, 1, 1, 1, 1, 1, 1, 1, 1, 1, 0]) (subc (bodyOf Tryd.prog 7) [1, 1, 1, 1, 1, 1, 1, 1, 1, 1, 1]) (by kernel_rfl) ?_
        refine wc_seq' (subc (bodyOf Tryd.prog 7) [1, 1, 1, 1, 1, 1, 1, 1, 1, 1, 0, 0]) (subc (bodyOf Tryd.prog 7) [1, 1, 1, 1, 1, 1, 1, 1, 1, 1, 0, 1]) (by kernel_rfl) ?_
        refine wc_ev [] .normal hh983 [(15, (vI 0))] ?_
        refine wc_block' 0 (subc (bodyOf Tryd.prog 7) [1, 1, 1, 1, 1, 1, 1, 1, 1, 1, 0, 1, 0]) (by kernel_rfl) ?_
        refine wc_loop' (subc (bodyOf Tryd.prog 7) [1, 1, 1, 1, 1, 1, 1, 1, 1, 1, 0, 1, 0, 0]) (by kernel_rfl) (fun n' a' h' => ∃ (k1 : Int) (us : List StepM) (g2 : Nat → Value), a' = { tmps := #[(vA #[(vS s.d.name), (vI s.d.rt), (vI s.d.dl), (vL sa s.d.xs.length cp), (vI s.st), (vI s.ix), (vB s.cn), (vI s.tr), (vI s.bg), (vI s.er)]), (vI now), (vP b1 0), vZ, (vB false), (vP b39 0), (vI 0), (vP b76 0), (vI 0), (vP b659 0), (vI (canE s)), (vP b709 0), (vI (canE s)), (vP b834 0), (vP b911 0), (vI k1), vZ, (vP b1 0), (vA #[(vS s.d.name), (vI s.d.rt), (vI s.d.dl), (vL sa s.d.xs.length cp)]), (vB true), (vB false), vZ, (vT #[(vA #[(vS s31.d.name), (vI s31.d.rt), (vI s31.d.dl), (vL w26 s31.d.xs.length c27), (vI s31.st), (vI s31.ix), (vB s31.cn), (vI s31.tr), (vI s31.bg), (vI s31.er)]), (vI 0)]), (vP b1 0), (vA #[(vS s.d.name), (vI s.d.rt), (vI s.d.dl), (vL sa s.d.xs.length cp)]), (vI now), (vT #[(vA #[(vS s31.d.name), (vI s31.d.rt), (vI s31.d.dl), (vL w26 s31.d.xs.length c27), (vI s31.st), (vI s31.ix), (vB s31.cn), (vI s31.tr), (vI s31.bg), (vI s31.er)]), (vI 0)]), (vA #[(vS s31.d.name), (vI s31.d.rt), (vI s31.d.dl), (vL w26 s31.d.xs.length c27), (vI s31.st), (vI s31.ix), (vB s31.cn), (vI s31.tr), (vI s31.bg), (vI s31.er)]), (vI 0), (vT #[(vA #[(vS s31.d.name), (vI s31.d.rt), (vI s31.d.dl), (vL w68 s31.d.xs.length c69), (vI s31.st), (vI s31.ix), (vB s31.cn), (vI s31.tr), (vI s31.bg), (vI s31.er)]), (vI 0)]), (vP b1 0), (vA #[(vS s.d.name), (vI s.d.rt), (vI s.d.dl), (vL sa s.d.xs.length cp)]), (vI now), (vT #[(vA #[(vS s31.d.name), (vI s31.d.rt), (vI s31.d.dl), (vL w68 s31.d.xs.length c69), (vI s31.st), (vI s31.ix), (vB s31.cn), (vI s31.tr), (vI s31.bg), (vI s31.er)]), (vI 0)]), (vA #[(vS s31.d.name), (vI s31.d.rt), (vI s31.d.dl), (vL w68 s31.d.xs.length c69), (vI s31.st), (vI s31.ix), (vB s31.cn), (vI s31.tr), (vI s31.bg), (vI s31.er)]), (vI 0), (vT #[(vA #[(vS .empty), (vI 0), (vI 0), (vL none 0 0), (vI 0), (vI 0), (vB false), (vI 0), (vI 0), (vI 0)]), (vI (canE s))]), (vA #[(vS s.d.name), (vI s.d.rt), (vI s.d.dl), (vL sa s.d.xs.length cp), (vI s.st), (vI s.ix), (vB s.cn), (vI s.tr), (vI s.bg), (vI s.er)]), (vA #[(vS s.d.name), (vI s.d.rt), (vI s.d.dl), (vL sa s.d.xs.length cp), (vI s.st), (vI s.ix), (vB s.cn), (vI s.tr), (vI s.bg), (vI s.er)]), (vT #[(vA #[(vS .empty), (vI 0), (vI 0), (vL none 0 0), (vI 0), (vI 0), (vB false), (vI 0), (vI 0), (vI 0)]), (vI (canE s))]), (vA #[(vS .empty), (vI 0), (vI 0), (vL none 0 0), (vI 0), (vI 0), (vB false), (vI 0), (vI 0), (vI 0)]), (vI (canE s)), (vT #[(vA #[(vS .empty), (vI 0), (vI 0), (vL none 0 0), (vI 0), (vI 0), (vB false), (vI 0), (vI 0), (vI 0)]), (vI (canE s))]), (vA #[(vS s.d.name), (vI s.d.rt), (vI s.d.dl), (vL sa s.d.xs.length cp), (vI s.st), (vI s.ix), (vB s.cn), (vI s.tr), (vI s.bg), (vI s.er)]), (vA #[(vS s.d.name), (vI s.d.rt), (vI s.d.dl), (vL sa s.d.xs.length cp), (vI s.st), (vI s.ix), (vB s.cn), (vI s.tr), (vI s.bg), (vI s.er)]), (vT #[(vA #[(vS .empty), (vI 0), (vI 0), (vL none 0 0), (vI 0), (vI 0), (vB false), (vI 0), (vI 0), (vI 0)]), (vI (canE s))]), (vA #[(vS .empty), (vI 0), (vI 0), (vL none 0 0), (vI 0), (vI 0), (vB false), (vI 0), (vI 0), (vI 0)]), (vI (canE s)), (vA #[(vS s31.d.name), (vI s31.d.rt), (vI s31.d.dl), (vL w26 s31.d.xs.length c27), (vI s31.st), (vI s31.ix), (vB s31.cn), (vI s31.tr), (vI s31.bg), (vI s31.er)]), (vA #[(vS s31.d.name), (vI s31.d.rt), (vI s31.d.dl), (vL w26 s31.d.xs.length c27), (vI s31.st), (vI s31.ix), (vB s31.cn), (vI s31.tr), (vI s31.bg), (vI s31.er)]), (vA #[(vS s31.d.name), (vI s31.d.rt), (vI s31.d.dl), (vL w26 s31.d.xs.length c27), (vI s31.st), (vI s31.ix), (vB s31.cn), (vI s31.tr), (vI s31.bg), (vI s31.er)]), (vA #[(vS s31.d.name), (vI s31.d.rt), (vI s31.d.dl), (vL w68 s31.d.xs.length c69), (vI s31.st), (vI s31.ix), (vB s31.cn), (vI s31.tr), (vI s31.bg), (vI s31.er)]), (vB true), (vB false), (vB false), (vI 0), (vI 0), (vB false), (vB false), (vB false), (vA #[(vS .empty), (vI 0), (vI 0), (vL none 0 0), (vI 0), (vI 0), (vB false), (vI 0), (vI 0), (vI 0)]), (vA #[(vS .empty), (vI 0), (vI 0), (vL none 0 0), (vI 0), (vI 0), (vB false), (vI 0), (vI 0), (vI 0)]), (vA #[(vS .empty), (vI 0), (vI 0), (vL none 0 0), (vI 0), (vI 0), (vB false), (vI 0), (vI 0), (vI 0)]), (vA #[(vS .empty), (vI 0), (vI 0), (vL none 0 0), (vI 0), (vI 0), (vB false), (vI 0), (vI 0), (vI 0)]), (vB true), (vB false), (vB false), (vB false), (vI (canE s)), (vI (canE s)), (vB false), (vB false), (vA #[(vS s.d.name), (vI s.d.rt), (vI s.d.dl), (vL sa s.d.xs.length cp), (vI s.st), (vI s.ix), (vB s.cn), (vI s.tr), (vI s.bg), (vI s.er)]), (vA #[(vS s.d.name), (vI s.d.rt), (vI s.d.dl), (vL sa s.d.xs.length cp), (vI s.st), (vI s.ix), (vB s.cn), (vI s.tr), (vI s.bg), (vI s.er)]), (vA #[(vS s.d.name), (vI s.d.rt), (vI s.d.dl), (vL w818 s.d.xs.length c819), (vI s.st), (vI s.ix), (vB s.cn), (vI s.tr), (vI s.bg), (vI s.er)]), (vA #[(vS s.d.name), (vI s.d.rt), (vI s.d.dl), (vL sa s.d.xs.length cp), (vI s.st), (vI s.ix), (vB s.cn), (vI s.tr), (vI s.bg), (vI s.er)]), (vA #[(vS s.d.name), (vI s.d.rt), (vI s.d.dl), (vL sa s.d.xs.length cp), (vI s.st), (vI s.ix), (vB s.cn), (vI s.tr), (vI s.bg), (vI s.er)]), (vA #[(vS s.d.name), (vI s.d.rt), (vI s.d.dl), (vL w885 s.d.xs.length c886), (vI s.st), (vI s.ix), (vB s.cn), (vI s.tr), (vI s.bg), (vI s.er)]), (vA #[(vS s.d.name), (vI s.d.rt), (vI s.d.dl), (vL w885 s.d.xs.length c886), (vI s.st), (vI s.ix), (vB s.cn), (vI s.tr), (vI s.bg), (vI s.er)]), (vA #[(vS s.d.name), (vI s.d.rt), (vI s.d.dl), (vL w885 s.d.xs.length c886), (vI s.st), (vI s.ix), (vB s.cn), (vI s.tr), (vI s.bg), (vI s.er)]), (vA #[(vS s.d.name), (vI s.d.rt), (vI s.d.dl), (vL w885 s.d.xs.length c886), (vI s.st), (vI s.ix), (vB s.cn), (vI s.tr), (vI s.bg), (vI s.er)]), (vA #[(vS s.d.name), (vI s.d.rt), (vI s.d.dl), (vL w818 s.d.xs.length c819), (vI s.st), (vI s.ix), (vB s.cn), (vI s.tr), (vI s.bg), (vI s.er)]), (vB true), (vB false), (g2 84), (g2 85), (g2 86), (g2 87), (g2 88), (g2 89), (g2 90), (g2 91), (g2 92), (g2 93), (g2 94), (g2 95), (g2 96), (g2 97), (g2 98), (g2 99), (g2 100), (g2 101), vZ, vZ, vZ, vZ, vZ, vZ, vZ, vZ, vZ, vZ, vZ, vZ, vZ, vZ, vZ, vZ, vZ, vZ, vZ, vZ, vZ, vZ, vZ, vZ, vZ], defers := [] } ∧ Ext h h' ∧ n' = s.d.xs.length - k1.toNat ∧ h'[b1]? = some (.cells #[(vS s.d.name), (vI s.d.rt), (vI s.d.dl), (vL sa s.d.xs.length cp), (vI s.st), (vI s.ix), (vB s.cn), (vI s.tr), (vI s.bg), (vI s.er)] 27 (0, 0)) ∧ h'[b39]? = some (.cells #[(vS s31.d.name), (vI s31.d.rt), (vI s31.d.dl), (vL w26 s31.d.xs.length c27), (vI s31.st), (vI s31.ix), (vB s31.cn), (vI s31.tr), (vI s31.bg), (vI s31.er)] 41 (0, 0)) ∧ h'[b76]? = some (.cells #[(vS s31.d.name), (vI s31.d.rt), (vI s31.d.dl), (vL w68 s31.d.xs.length c69), (vI s31.st), (vI s31.ix), (vB s31.cn), (vI s31.tr), (vI s31.bg), (vI s31.er)] 37 (0, 0)) ∧ h'[b659]? = some (.cells #[(vS .empty), (vI 0), (vI 0), (vL none 0 0), (vI 0), (vI 0), (vB false), (vI 0), (vI 0), (vI 0)] 41 (0, 0)) ∧ h'[b709]? = some (.cells #[(vS .empty), (vI 0), (vI 0), (vL none 0 0), (vI 0), (vI 0), (vB false), (vI 0), (vI 0), (vI 0)] 37 (0, 0)) ∧ h'[b834]? = some (.cells #[(vS s.d.name), (vI s.d.rt), (vI s.d.dl), (vL w818 s.d.xs.length c819), (vI s.st), (vI s.ix), (vB s.cn), (vI s.tr), (vI s.bg), (vI s.er)] 37 (0, 0)) ∧ h'[b911]? = some (.cells #[(vS s.d.name), (vI s.d.rt), (vI s.d.dl), (vL w885 s.d.xs.length c886), (vI s.st), (vI s.ix), (vB s.cn), (vI s.tr), (vI s.bg), (vI s.er)] 41 (0, 0)) ∧ 0 ≤ k1 ∧ us.length = s.d.xs.length ∧ OwnAt h' 65 stepc us (vL w885 s.d.xs.length c886) ∧ OwnAt h' 65 stepc s31.d.xs (vL w26 s31.d.xs.length c27) ∧ OwnAt h' 65 stepc s31.d.xs (vL w68 s31.d.xs.length c69) ∧ OwnAt h' 65 stepc s.d.xs (vL w818 s.d.xs.length c819)) ?_ (s.d.xs.length - (0 : Int).toNat) ⟨0, s.d.xs, (fun i => ([vU, vU, vU, vU, vU, vU, vU, vU, vU, vU, vU, vU, vU, vU, vU, vU, vU, vU, vU, vU, vU, vU, vU, vU, vU, vU, vU, vU, vU, vU, vU, vU, vU, vU, vU, vU, vU, vU, vU, vU, vU, vU, vU, vU, vU, vU, vU, vU, vU, vU, vU, vU, vU, vU, vU, vU, vU, vU, vU, vU, vU, vU, vU, vU, vU, vU, vU, vU, vU, vU, vU, vU, vU, vU, vU, vU, vU, vU, vU, vU, vU, vU, vU, vU, vZ, vZ, vZ, vZ, vZ, vZ, vZ, vZ, vZ, vZ, vZ, vZ, vZ, vZ, vZ, vZ, vZ, vZ] : List Value).getD i undef), by as_aux_lemma => kernel_rfl, x997, rfl, f986, f987, f988, f989, f990, f991, f992, by omega, rfl, p996, p993, p994, p995⟩
        rintro n' _ h998 ⟨k1, us, g2, rfl, x999, m1000, f1001, f1002, f1003, f1004, f1005, f1006, f1007, i1008, i1009, p1010, p1011, p1012, p1013⟩
        by_cases c1014 : ((k1) : Int) < ((s.d.xs.length : Nat))
        · obtain ⟨i1015, v1016, e1017, l1018, g1019⟩ := list_at us (e := (k1)) (by omega) (by first | omega | (simp only [List.length_set, List.length_append, List.length_singleton]; omega))
          obtain ⟨b1020, o1021, q1022, a1023, k1024, u1025⟩ := p1010.store stepc_size g1019
          obtain ⟨b1026, o1027, q1028, a1029, k1030, u1031⟩ := p1010.store stepc_size g1019
          obtain ⟨h1032, e1033, p1034, c1035, z1036⟩ := u1031 (j := 1) (y := (StepM.mk v1016.key (IntKind.i64.wrap ((v1016.delta) + 1)))) (u := (vI (IntKind.i64.wrap ((v1016.delta) + 1)))) size2 rfl rfl (by decide) (by kernel_rfl)
          have c1037 : Chg (blk (Value.slice w885 (s.d.xs.length) (c886))) h998 h1032 := c1035.weak fun q hq => by subst hq; exact q1028
          have z1038 : h.size ≤ h998.size := x999.size
          have x1039 : Ext h _ := (Chg.then (O := fun _ => False) (Chg.ext x999) c1037 (fun b hb => .inr (o910 b hb))).toExt'
          have f1040 := c1037.same _ _ f1001 (fun hb => n901 _ hb rfl)
          have f1041 := c1037.same _ _ f1002 (fun hb => n902 _ hb rfl)
          have f1042 := c1037.same _ _ f1003 (fun hb => n903 _ hb rfl)
          have f1043 := c1037.same _ _ f1004 (fun hb => n904 _ hb rfl)
          have f1044 := c1037.same _ _ f1005 (fun hb => n905 _ hb rfl)
          have f1045 := c1037.same _ _ f1006 (fun hb => n906 _ hb rfl)
          have f1046 := c1037.same _ _ f1007 (fun hb => n925 _ hb rfl)
          have p1047 := p1011.keep fun b r hb q => c1037.same b r q ((fun b hb hb2 => n907 b hb2 hb) b hb)
          have p1048 := p1012.keep fun b r hb q => c1037.same b r q ((fun b hb hb2 => n908 b hb2 hb) b hb)
          have p1049 := p1013.keep fun b r hb q => c1037.same b r q ((fun b hb hb2 => n909 b hb2 hb) b hb)
          refine wc_ev [evC 14 3 3 agg22 f1007, ltT 14 5 3 c1014, evC 16 2 3 agg22 f1007, evV 16 4 (vP b1020 o1021) (show indexAddrA Tryd.prog 22 (vL w885 s.d.xs.length c886) (vI k1) = some (vP b1020 o1021) from a1023 und22 size65 e1017), evV 16 6 (vI v1016.delta) (show loadT Tryd.prog h998 2 (vP b1020 (o1021 + 1)) = some (vI v1016.delta) from k1024.cell (j := 1) agg2 rfl), evV 16 7 (vI (IntKind.i64.wrap ((v1016.delta) + 1))) (show binA Tryd.prog .add 2 (vI v1016.delta) (vI 1) = some (vI (IntKind.i64.wrap ((v1016.delta) + 1))) from add_wrap), evV 16 8 (vP b1026 o1027) (show indexAddrA Tryd.prog 22 (vL w885 s.d.xs.length c886) (vI k1) = some (vP b1026 o1027) from a1029 und22 size65 e1017), evH 16 10 undef h1032 (show (storeT Tryd.prog h998 2 (vP b1026 (o1027 + 1)) (vI (IntKind.i64.wrap ((v1016.delta) + 1))) = some h1032 ∧ (undef : Value) = undef) from ⟨e1033, rfl⟩), evV 15 1 (vI ((k1) + 1)) (show binA Tryd.prog .add 3 (vI k1) (vI 1) = some (vI ((k1) + 1)) from add_i64 (by omega) (by omega))] .normal h1032 [(84, (vI k1)), (85, (vP b911 0)), (86, (vP b911 3)), (87, (vL w885 s.d.xs.length c886)), (88, (vI ((s.d.xs.length : Nat)))), (89, (vB true)), (92, (vP b911 0)), (93, (vP b911 3)), (94, (vL w885 s.d.xs.length c886)), (95, (vI k1)), (96, (vP b1020 o1021)), (97, (vP b1020 (o1021 + 1))), (98, (vI v1016.delta)), (99, (vI (IntKind.i64.wrap ((v1016.delta) + 1)))), (100, (vP b1026 o1027)), (101, (vP b1026 (o1027 + 1))), (90, (vI k1)), (91, (vI ((k1) + 1))), (15, (vI ((k1) + 1)))] ?_
          exact ⟨s.d.xs.length - (k1 + 1).toNat, by omega, ⟨k1 + 1, (us.set i1015 (StepM.mk v1016.key (IntKind.i64.wrap ((v1016.delta) + 1)))), (fun i => ([vU, vU, vU, vU, vU, vU, vU, vU, vU, vU, vU, vU, vU, vU, vU, vU, vU, vU, vU, vU, vU, vU, vU, vU, vU, vU, vU, vU, vU, vU, vU, vU, vU, vU, vU, vU, vU, vU, vU, vU, vU, vU, vU, vU, vU, vU, vU, vU, vU, vU, vU, vU, vU, vU, vU, vU, vU, vU, vU, vU, vU, vU, vU, vU, vU, vU, vU, vU, vU, vU, vU, vU, vU, vU, vU, vU, vU, vU, vU, vU, vU, vU, vU, vU, (vI k1), (vP b911 0), (vP b911 3), (vL w885 s.d.xs.length c886), (vI ((s.d.xs.length : Nat))), (vB true), (vI k1), (vI ((k1) + 1)), (vP b911 0), (vP b911 3), (vL w885 s.d.xs.length c886), (vI k1), (vP b1020 o1021), (vP b1020 (o1021 + 1)), (vI v1016.delta), (vI (IntKind.i64.wrap ((v1016.delta) + 1))), (vP b1026 o1027), (vP b1026 (o1027 + 1))] : List Value).getD i undef), by as_aux_lemma => kernel_rfl, x1039, rfl, f1040, f1041, f1042, f1043, f1044, f1045, f1046, by omega, by rw [List.length_set]; exact i1009, p1034, p1047, p1048, p1049⟩⟩
        · refine wc_ev [evC 14 3 3 agg22 f1007, ltF 14 5 3 c1014] (.exit 0) h998 [(84, (vI k1)), (85, (vP b911 0)), (86, (vP b911 3)), (87, (vL w885 s.d.xs.length c886)), (88, (vI ((s.d.xs.length : Nat)))), (89, (vB false))] ?_
          refine wc_seq' (subc (bodyOf Tryd.prog 7) [1, 1, 1, 1, 1, 1, 1, 1, 1, 1, 1, 0]) (subc (bodyOf Tryd.prog 7) [1, 1, 1, 1, 1, 1, 1, 1, 1, 1, 1, 1]) (by kernel_rfl) ?_
          refine wc_seq' (subc (bodyOf Tryd.prog 7) [1, 1, 1, 1, 1, 1, 1, 1, 1, 1, 1, 0, 0]) (subc (bodyOf Tryd.prog 7) [1, 1, 1, 1, 1, 1, 1, 1, 1, 1, 1, 0, 1]) (by kernel_rfl) ?_
          refine wc_ev [] .normal h998 [(16, (vI 0))] ?_
          refine wc_block' 2 (subc (bodyOf Tryd.prog 7) [1, 1, 1, 1, 1, 1, 1, 1, 1, 1, 1, 0, 1, 0]) (by kernel_rfl) ?_
          refine wc_loop' (subc (bodyOf Tryd.prog 7) [1, 1, 1, 1, 1, 1, 1, 1, 1, 1, 1, 0, 1, 0, 0]) (by kernel_rfl) (fun n' a' h' => ∃ (k2 : Int) (ws : List StepM) (g3 : Nat → Value), a' = { tmps := #[(vA #[(vS s.d.name), (vI s.d.rt), (vI s.d.dl), (vL sa s.d.xs.length cp), (vI s.st), (vI s.ix), (vB s.cn), (vI s.tr), (vI s.bg), (vI s.er)]), (vI now), (vP b1 0), vZ, (vB false), (vP b39 0), (vI 0), (vP b76 0), (vI 0), (vP b659 0), (vI (canE s)), (vP b709 0), (vI (canE s)), (vP b834 0), (vP b911 0), (vI k1), (vI k2), (vP b1 0), (vA #[(vS s.d.name), (vI s.d.rt), (vI s.d.dl), (vL sa s.d.xs.length cp)]), (vB true), (vB false), vZ, (vT #[(vA #[(vS s31.d.name), (vI s31.d.rt), (vI s31.d.dl), (vL w26 s31.d.xs.length c27), (vI s31.st), (vI s31.ix), (vB s31.cn), (vI s31.tr), (vI s31.bg), (vI s31.er)]), (vI 0)]), (vP b1 0), (vA #[(vS s.d.name), (vI s.d.rt), (vI s.d.dl), (vL sa s.d.xs.length cp)]), (vI now), (vT #[(vA #[(vS s31.d.name), (vI s31.d.rt), (vI s31.d.dl), (vL w26 s31.d.xs.length c27), (vI s31.st), (vI s31.ix), (vB s31.cn), (vI s31.tr), (vI s31.bg), (vI s31.er)]), (vI 0)]), (vA #[(vS s31.d.name), (vI s31.d.rt), (vI s31.d.dl), (vL w26 s31.d.xs.length c27), (vI s31.st), (vI s31.ix), (vB s31.cn), (vI s31.tr), (vI s31.bg), (vI s31.er)]), (vI 0), (vT #[(vA #[(vS s31.d.name), (vI s31.d.rt), (vI s31.d.dl), (vL w68 s31.d.xs.length c69), (vI s31.st), (vI s31.ix), (vB s31.cn), (vI s31.tr), (vI s31.bg), (vI s31.er)]), (vI 0)]), (vP b1 0), (vA #[(vS s.d.name), (vI s.d.rt), (vI s.d.dl), (vL sa s.d.xs.length cp)]), (vI now), (vT #[(vA #[(vS s31.d.name), (vI s31.d.rt), (vI s31.d.dl), (vL w68 s31.d.xs.length c69), (vI s31.st), (vI s31.ix), (vB s31.cn), (vI s31.tr), (vI s31.bg), (vI s31.er)]), (vI 0)]), (vA #[(vS s31.d.name), (vI s31.d.rt), (vI s31.d.dl), (vL w68 s31.d.xs.length c69), (vI s31.st), (vI s31.ix), (vB s31.cn), (vI s31.tr), (vI s31.bg), (vI s31.er)]), (vI 0), (vT #[(vA #[(vS .empty), (vI 0), (vI 0), (vL none 0 0), (vI 0), (vI 0), (vB false), (vI 0), (vI 0), (vI 0)]), (vI (canE s))]), (vA #[(vS s.d.name), (vI s.d.rt), (vI s.d.dl), (vL sa s.d.xs.length cp), (vI s.st), (vI s.ix), (vB s.cn), (vI s.tr), (vI s.bg), (vI s.er)]), (vA #[(vS s.d.name), (vI s.d.rt), (vI s.d.dl), (vL sa s.d.xs.length cp), (vI s.st), (vI s.ix), (vB s.cn), (vI s.tr), (vI s.bg), (vI s.er)]), (vT #[(vA #[(vS .empty), (vI 0), (vI 0), (vL none 0 0), (vI 0), (vI 0), (vB false), (vI 0), (vI 0), (vI 0)]), (vI (canE s))]), (vA #[(vS .empty), (vI 0), (vI 0), (vL none 0 0), (vI 0), (vI 0), (vB false), (vI 0), (vI 0), (vI 0)]), (vI (canE s)), (vT #[(vA #[(vS .empty), (vI 0), (vI 0), (vL none 0 0), (vI 0), (vI 0), (vB false), (vI 0), (vI 0), (vI 0)]), (vI (canE s))]), (vA #[(vS s.d.name), (vI s.d.rt), (vI s.d.dl), (vL sa s.d.xs.length cp), (vI s.st), (vI s.ix), (vB s.cn), (vI s.tr), (vI s.bg), (vI s.er)]), (vA #[(vS s.d.name), (vI s.d.rt), (vI s.d.dl), (vL sa s.d.xs.length cp), (vI s.st), (vI s.ix), (vB s.cn), (vI s.tr), (vI s.bg), (vI s.er)]), (vT #[(vA #[(vS .empty), (vI 0), (vI 0), (vL none 0 0), (vI 0), (vI 0), (vB false), (vI 0), (vI 0), (vI 0)]), (vI (canE s))]), (vA #[(vS .empty), (vI 0), (vI 0), (vL none 0 0), (vI 0), (vI 0), (vB false), (vI 0), (vI 0), (vI 0)]), (vI (canE s)), (vA #[(vS s31.d.name), (vI s31.d.rt), (vI s31.d.dl), (vL w26 s31.d.xs.length c27), (vI s31.st), (vI s31.ix), (vB s31.cn), (vI s31.tr), (vI s31.bg), (vI s31.er)]), (vA #[(vS s31.d.name), (vI s31.d.rt), (vI s31.d.dl), (vL w26 s31.d.xs.length c27), (vI s31.st), (vI s31.ix), (vB s31.cn), (vI s31.tr), (vI s31.bg), (vI s31.er)]), (vA #[(vS s31.d.name), (vI s31.d.rt), (vI s31.d.dl), (vL w26 s31.d.xs.length c27), (vI s31.st), (vI s31.ix), (vB s31.cn), (vI s31.tr), (vI s31.bg), (vI s31.er)]), (vA #[(vS s31.d.name), (vI s31.d.rt), (vI s31.d.dl), (vL w68 s31.d.xs.length c69), (vI s31.st), (vI s31.ix), (vB s31.cn), (vI s31.tr), (vI s31.bg), (vI s31.er)]), (vB true), (vB false), (vB false), (vI 0), (vI 0), (vB false), (vB false), (vB false), (vA #[(vS .empty), (vI 0), (vI 0), (vL none 0 0), (vI 0), (vI 0), (vB false), (vI 0), (vI 0), (vI 0)]), (vA #[(vS .empty), (vI 0), (vI 0), (vL none 0 0), (vI 0), (vI 0), (vB false), (vI 0), (vI 0), (vI 0)]), (vA #[(vS .empty), (vI 0), (vI 0), (vL none 0 0), (vI 0), (vI 0), (vB false), (vI 0), (vI 0), (vI 0)]), (vA #[(vS .empty), (vI 0), (vI 0), (vL none 0 0), (vI 0), (vI 0), (vB false), (vI 0), (vI 0), (vI 0)]), (vB true), (vB false), (vB false), (vB false), (vI (canE s)), (vI (canE s)), (vB false), (vB false), (vA #[(vS s.d.name), (vI s.d.rt), (vI s.d.dl), (vL sa s.d.xs.length cp), (vI s.st), (vI s.ix), (vB s.cn), (vI s.tr), (vI s.bg), (vI s.er)]), (vA #[(vS s.d.name), (vI s.d.rt), (vI s.d.dl), (vL sa s.d.xs.length cp), (vI s.st), (vI s.ix), (vB s.cn), (vI s.tr), (vI s.bg), (vI s.er)]), (vA #[(vS s.d.name), (vI s.d.rt), (vI s.d.dl), (vL w818 s.d.xs.length c819), (vI s.st), (vI s.ix), (vB s.cn), (vI s.tr), (vI s.bg), (vI s.er)]), (vA #[(vS s.d.name), (vI s.d.rt), (vI s.d.dl), (vL sa s.d.xs.length cp), (vI s.st), (vI s.ix), (vB s.cn), (vI s.tr), (vI s.bg), (vI s.er)]), (vA #[(vS s.d.name), (vI s.d.rt), (vI s.d.dl), (vL sa s.d.xs.length cp), (vI s.st), (vI s.ix), (vB s.cn), (vI s.tr), (vI s.bg), (vI s.er)]), (vA #[(vS s.d.name), (vI s.d.rt), (vI s.d.dl), (vL w885 s.d.xs.length c886), (vI s.st), (vI s.ix), (vB s.cn), (vI s.tr), (vI s.bg), (vI s.er)]), (vA #[(vS s.d.name), (vI s.d.rt), (vI s.d.dl), (vL w885 s.d.xs.length c886), (vI s.st), (vI s.ix), (vB s.cn), (vI s.tr), (vI s.bg), (vI s.er)]), (vA #[(vS s.d.name), (vI s.d.rt), (vI s.d.dl), (vL w885 s.d.xs.length c886), (vI s.st), (vI s.ix), (vB s.cn), (vI s.tr), (vI s.bg), (vI s.er)]), (vA #[(vS s.d.name), (vI s.d.rt), (vI s.d.dl), (vL w885 s.d.xs.length c886), (vI s.st), (vI s.ix), (vB s.cn), (vI s.tr), (vI s.bg), (vI s.er)]), (vA #[(vS s.d.name), (vI s.d.rt), (vI s.d.dl), (vL w818 s.d.xs.length c819), (vI s.st), (vI s.ix), (vB s.cn), (vI s.tr), (vI s.bg), (vI s.er)]), (vB true), (vB false), (vI k1), (vP b911 0), (vP b911 3), (vL w885 s.d.xs.length c886), (vI ((s.d.xs.length : Nat))), (vB false), (g2 90), (g2 91), (g2 92), (g2 93), (g2 94), (g2 95), (g2 96), (g2 97), (g2 98), (g2 99), (g2 100), (g2 101), (g3 102), (g3 103), (g3 104), (g3 105), (g3 106), (g3 107), (g3 108), (g3 109), (g3 110), (g3 111), (g3 112), (g3 113), (g3 114), (g3 115), (g3 116), (g3 117), (g3 118), (g3 119), vZ, vZ, vZ, vZ, vZ, vZ, vZ], defers := [] } ∧ Ext h h' ∧ n' = s31.d.xs.length - k2.toNat ∧ h'[b1]? = some (.cells #[(vS s.d.name), (vI s.d.rt), (vI s.d.dl), (vL sa s.d.xs.length cp), (vI s.st), (vI s.ix), (vB s.cn), (vI s.tr), (vI s.bg), (vI s.er)] 27 (0, 0)) ∧ h'[b39]? = some (.cells #[(vS s31.d.name), (vI s31.d.rt), (vI s31.d.dl), (vL w26 s31.d.xs.length c27), (vI s31.st), (vI s31.ix), (vB s31.cn), (vI s31.tr), (vI s31.bg), (vI s31.er)] 41 (0, 0)) ∧ h'[b76]? = some (.cells #[(vS s31.d.name), (vI s31.d.rt), (vI s31.d.dl), (vL w68 s31.d.xs.length c69), (vI s31.st), (vI s31.ix), (vB s31.cn), (vI s31.tr), (vI s31.bg), (vI s31.er)] 37 (0, 0)) ∧ h'[b659]? = some (.cells #[(vS .empty), (vI 0), (vI 0), (vL none 0 0), (vI 0), (vI 0), (vB false), (vI 0), (vI 0), (vI 0)] 41 (0, 0)) ∧ h'[b709]? = some (.cells #[(vS .empty), (vI 0), (vI 0), (vL none 0 0), (vI 0), (vI 0), (vB false), (vI 0), (vI 0), (vI 0)] 37 (0, 0)) ∧ h'[b834]? = some (.cells #[(vS s.d.name), (vI s.d.rt), (vI s.d.dl), (vL w818 s.d.xs.length c819), (vI s.st), (vI s.ix), (vB s.cn), (vI s.tr), (vI s.bg), (vI s.er)] 37 (0, 0)) ∧ h'[b911]? = some (.cells #[(vS s.d.name), (vI s.d.rt), (vI s.d.dl), (vL w885 s.d.xs.length c886), (vI s.st), (vI s.ix), (vB s.cn), (vI s.tr), (vI s.bg), (vI s.er)] 41 (0, 0)) ∧ 0 ≤ k2 ∧ ws.length = s31.d.xs.length ∧ OwnAt h' 65 stepc ws (vL w26 s31.d.xs.length c27) ∧ OwnAt h' 65 stepc us (vL w885 s.d.xs.length c886) ∧ OwnAt h' 65 stepc s31.d.xs (vL w68 s31.d.xs.length c69) ∧ OwnAt h' 65 stepc s.d.xs (vL w818 s.d.xs.length c819)) ?_ (s31.d.xs.length - (0 : Int).toNat) ⟨0, s31.d.xs, (fun i => ([vU, vU, vU, vU, vU, vU, vU, vU, vU, vU, vU, vU, vU, vU, vU, vU, vU, vU, vU, vU, vU, vU, vU, vU, vU, vU, vU, vU, vU, vU, vU, vU, vU, vU, vU, vU, vU, vU, vU, vU, vU, vU, vU, vU, vU, vU, vU, vU, vU, vU, vU, vU, vU, vU, vU, vU, vU, vU, vU, vU, vU, vU, vU, vU, vU, vU, vU, vU, vU, vU, vU, vU, vU, vU, vU, vU, vU, vU, vU, vU, vU, vU, vU, vU, vU, vU, vU, vU, vU, vU, vU, vU, vU, vU, vU, vU, vU, vU, vU, vU, vU, vU, vZ, vZ, vZ, vZ, vZ, vZ, vZ, vZ, vZ, vZ, vZ, vZ, vZ, vZ, vZ, vZ, vZ, vZ] : List Value).getD i undef), by as_aux_lemma => kernel_rfl, x999, rfl, f1001, f1002, f1003, f1004, f1005, f1006, f1007, by omega, rfl, p1011, p1010, p1012, p1013⟩
          rintro n' _ h1050 ⟨k2, ws, g3, rfl, x1051, m1052, f1053, f1054, f1055, f1056, f1057, f1058, f1059, i1060, i1061, p1062, p1063, p1064, p1065⟩
          by_cases c1066 : ((k2) : Int) < ((s31.d.xs.length : Nat))
          · obtain ⟨i1067, v1068, e1069, l1070, g1071⟩ := list_at ws (e := (k2)) (by omega) (by first | omega | (simp only [List.length_set, List.length_append, List.length_singleton]; omega))
            obtain ⟨b1072, o1073, q1074, a1075, k1076, u1077⟩ := p1062.store stepc_size g1071
            obtain ⟨b1078, o1079, q1080, a1081, k1082, u1083⟩ := p1062.store stepc_size g1071
            obtain ⟨h1084, e1085, p1086, c1087, z1088⟩ := u1083 (j := 1) (y := (StepM.mk v1068.key (IntKind.i64.wrap ((v1068.delta) + 1)))) (u := (vI (IntKind.i64.wrap ((v1068.delta) + 1)))) size2 rfl rfl (by decide) (by kernel_rfl)
            have c1089 : Chg (blk (Value.slice w26 (s31.d.xs.length) (c27))) h1050 h1084 := c1087.weak fun q hq => by subst hq; exact q1080
            have z1090 : h.size ≤ h1050.size := x1051.size
            have x1091 : Ext h _ := (Chg.then (O := fun _ => False) (Chg.ext x1051) c1089 (fun b hb => .inr (o38 b hb))).toExt'
            have f1092 := c1089.same _ _ f1053 (fun hb => n37 _ hb rfl)
            have f1093 := c1089.same _ _ f1054 (fun hb => n45 _ hb rfl)
            have f1094 := c1089.same _ _ f1055 (fun hb => n83 _ hb rfl)
            have f1095 := c1089.same _ _ f1056 (fun hb => n667 _ hb rfl)
            have f1096 := c1089.same _ _ f1057 (fun hb => n718 _ hb rfl)
            have f1097 := c1089.same _ _ f1058 (fun hb => n844 _ hb rfl)
            have f1098 := c1089.same _ _ f1059 (fun hb => n922 _ hb rfl)
            have p1099 := p1063.keep fun b r hb q => c1089.same b r q (n907 b hb)
            have p1100 := p1064.keep fun b r hb q => c1089.same b r q (n74 b hb)
            have p1101 := p1065.keep fun b r hb q => c1089.same b r q (n832 b hb)
            refine wc_ev [evC 18 3 3 agg22 f1054, ltT 18 5 3 c1066, evC 20 2 3 agg22 f1054, evV 20 4 (vP b1072 o1073) (show indexAddrA Tryd.prog 22 (vL w26 s31.d.xs.length c27) (vI k2) = some (vP b1072 o1073) from a1075 und22 size65 e1069), evV 20 6 (vI v1068.delta) (show loadT Tryd.prog h1050 2 (vP b1072 (o1073 + 1)) = some (vI v1068.delta) from k1076.cell (j := 1) agg2 rfl), evV 20 7 (vI (IntKind.i64.wrap ((v1068.delta) + 1))) (show binA Tryd.prog .add 2 (vI v1068.delta) (vI 1) = some (vI (IntKind.i64.wrap ((v1068.delta) + 1))) from add_wrap), evV 20 8 (vP b1078 o1079) (show indexAddrA Tryd.prog 22 (vL w26 s31.d.xs.length c27) (vI k2) = some (vP b1078 o1079) from a1081 und22 size65 e1069), evH 20 10 undef h1084 (show (storeT Tryd.prog h1050 2 (vP b1078 (o1079 + 1)) (vI (IntKind.i64.wrap ((v1068.delta) + 1))) = some h1084 ∧ (undef : Value) = undef) from ⟨e1085, rfl⟩), evV 19 1 (vI ((k2) + 1)) (show binA Tryd.prog .add 3 (vI k2) (vI 1) = some (vI ((k2) + 1)) from add_i64 (by omega) (by omega))] .normal h1084 [(102, (vI k2)), (103, (vP b39 0)), (104, (vP b39 3)), (105, (vL w26 s31.d.xs.length c27)), (106, (vI ((s31.d.xs.length : Nat)))), (107, (vB true)), (110, (vP b39 0)), (111, (vP b39 3)), (112, (vL w26 s31.d.xs.length c27)), (113, (vI k2)), (114, (vP b1072 o1073)), (115, (vP b1072 (o1073 + 1))), (116, (vI v1068.delta)), (117, (vI (IntKind.i64.wrap ((v1068.delta) + 1)))), (118, (vP b1078 o1079)), (119, (vP b1078 (o1079 + 1))), (108, (vI k2)), (109, (vI ((k2) + 1))), (16, (vI ((k2) + 1)))] ?_
            exact ⟨s31.d.xs.length - (k2 + 1).toNat, by omega, ⟨k2 + 1, (ws.set i1067 (StepM.mk v1068.key (IntKind.i64.wrap ((v1068.delta) + 1)))), (fun i => ([vU, vU, vU, vU, vU, vU, vU, vU, vU, vU, vU, vU, vU, vU, vU, vU, vU, vU, vU, vU, vU, vU, vU, vU, vU, vU, vU, vU, vU, vU, vU, vU, vU, vU, vU, vU, vU, vU, vU, vU, vU, vU, vU, vU, vU, vU, vU, vU, vU, vU, vU, vU, vU, vU, vU, vU, vU, vU, vU, vU, vU, vU, vU, vU, vU, vU, vU, vU, vU, vU, vU, vU, vU, vU, vU, vU, vU, vU, vU, vU, vU, vU, vU, vU, vU, vU, vU, vU, vU, vU, vU, vU, vU, vU, vU, vU, vU, vU, vU, vU, vU, vU, (vI k2), (vP b39 0), (vP b39 3), (vL w26 s31.d.xs.length c27), (vI ((s31.d.xs.length : Nat))), (vB true), (vI k2), (vI ((k2) + 1)), (vP b39 0), (vP b39 3), (vL w26 s31.d.xs.length c27), (vI k2), (vP b1072 o1073), (vP b1072 (o1073 + 1)), (vI v1068.delta), (vI (IntKind.i64.wrap ((v1068.delta) + 1))), (vP b1078 o1079), (vP b1078 (o1079 + 1))] : List Value).getD i undef), by as_aux_lemma => kernel_rfl, x1091, rfl, f1092, f1093, f1094, f1095, f1096, f1097, f1098, by omega, by rw [List.length_set]; exact i1061, p1086, p1099, p1100, p1101⟩⟩
          · refine wc_ev [evC 18 3 3 agg22 f1054, ltF 18 5 3 c1066] (.exit 2) h1050 [(102, (vI k2)), (103, (vP b39 0)), (104, (vP b39 3)), (105, (vL w26 s31.d.xs.length c27)), (106, (vI ((s31.d.xs.length : Nat)))), (107, (vB false))] ?_
            obtain ⟨_, hh1102, sn1103, rfl, x1104⟩ := refV_ok h1050 s _ _ (hl.keep fun b r _ q => x1051 b r q) (by omega) 
            have f1105 := x1104 _ _ f1058
            have p1106 := p1065.keep fun b r _ q => x1104 b r q
            have x1107 := x1051.trans x1104
            obtain ⟨_, hh1108, sn1109, rfl, x1110⟩ := same_ok hh1102 s _ _ (hl.keep fun b r _ q => x1107 b r q) (by omega) _ _ (OwnAt.lat p1106 stepc_size (tsz_of size65))
            have x1111 := x1107.trans x1110
            obtain ⟨_, hh1112, sn1113, rfl, x1114⟩ := works_ok hh1108 (x1111 _ _ hg0) (x1111 _ _ hg1)
            have x1115 := x1111.trans x1114
            refine wc_ev [evLw 21 0 agg27 size27 f1053, evLw 21 2 agg37 size37 f1058, evF 21 1 sn1103, evLw 99 0 agg37 size37 f1105, evF 21 3 sn1109, evF 21 5 sn1113] .ret hh1112 [(120, (vA #[(vS s.d.name), (vI s.d.rt), (vI s.d.dl), (vL sa s.d.xs.length cp), (vI s.st), (vI s.ix), (vB s.cn), (vI s.tr), (vI s.bg), (vI s.er)])), (122, (vA #[(vS s.d.name), (vI s.d.rt), (vI s.d.dl), (vL w818 s.d.xs.length c819), (vI s.st), (vI s.ix), (vB s.cn), (vI s.tr), (vI s.bg), (vI s.er)])), (121, (vA #[(vS s.d.name), (vI s.d.rt), (vI s.d.dl), (vL sa s.d.xs.length cp), (vI s.st), (vI s.ix), (vB s.cn), (vI s.tr), (vI s.bg), (vI s.er)])), (123, (vB true)), (124, (vB true)), (125, (vB true)), (126, (vB true)), (4, (vB true))] ?_
            exact end_ev [] (vB true) (hK _ _ (⟨rfl, x1115⟩))
    · obtain ⟨b1116, eb1117⟩ : ∃ zq, zq = h18.size := ⟨_, rfl⟩
      obtain ⟨h1118, e1119⟩ : ∃ zq, zq = h18.push (.cells #[(vS .empty), (vI 0), (vI 0), (Value.slice none 0 0), (vI 0), (vI 0), (vB false), (vI 0), (vI 0), (vI 0)] 41 (0, 0)) := ⟨_, rfl⟩
      have f1120 := push_new e1119
      rw [← eb1117] at f1120
      have n1121 : b1116 ≠ b1 := by have := row_lt f23; omega
      have x1122 : Ext h18 h1118 := by rw [e1119]; exact Ext.push _ _
      have o1123 : h.size ≤ b1116 := by have := x24.size; omega
      have f1124 := x1122 _ _ f23
      have x1125 := x24.trans x1122
      obtain ⟨h1126, e1127⟩ : ∃ zq, zq = h1118.setIfInBounds b1116 (.cells #[(vS .empty), (vI 0), (vI 0), (Value.slice none 0 0), (vI 0), (vI 0), (vB false), (vI 0), (vI 0), (vI 0)] 41 (0, 0)) := ⟨_, rfl⟩
      have f1128 := set_same e1127 f1120
      have f1129 := set_other e1127 f1124 n1121
      have x1130 := Ext.setNew x1125 e1127 o1123
      refine wc_ev [evL 3 1 0 agg24 size24 f14, evFe 3 3 (p20 c25) s19, evA 3 7 eb1117 e1119, evUw 3 8 size41 f1120 e1127] .normal h1126 [(23, (vP b1 0)), (24, (vA #[(vS s.d.name), (vI s.d.rt), (vI s.d.dl), (vL sa s.d.xs.length cp)])), (25, (vI now)), (26, (vT #[(vA #[(vS .empty), (vI 0), (vI 0), (vL none 0 0), (vI 0), (vI 0), (vB false), (vI 0), (vI 0), (vI 0)]), (vI (staE s.d (now)))])), (22, (vT #[(vA #[(vS .empty), (vI 0), (vI 0), (vL none 0 0), (vI 0), (vI 0), (vB false), (vI 0), (vI 0), (vI 0)]), (vI (staE s.d (now)))])), (27, (vA #[(vS .empty), (vI 0), (vI 0), (vL none 0 0), (vI 0), (vI 0), (vB false), (vI 0), (vI 0), (vI 0)])), (28, (vI (staE s.d (now)))), (5, (vP b1116 0)), (6, (vI (staE s.d (now))))] ?_
      refine wc_seq' (subc (bodyOf Tryd.prog 7) [1, 1, 1, 0]) (subc (bodyOf Tryd.prog 7) [1, 1, 1, 1]) (by kernel_rfl) ?_
      obtain ⟨v1131, h1132, s1133, p1134, p1135, x1136⟩ := rsstart_ok h1126 s.d _ _ (hl.keep fun b r _ q => x1130 b r q) (by omega) hnm hks (now)
      have f1137 := x1136 _ _ f1129
      have f1138 := x1136 _ _ f1128
      have x1139 := x1130.trans x1136
      obtain ⟨b1140, eb1141⟩ : ∃ zq, zq = h1132.size := ⟨_, rfl⟩
      obtain ⟨h1142, e1143⟩ : ∃ zq, zq = h1132.push (.cells #[(vS .empty), (vI 0), (vI 0), (Value.slice none 0 0), (vI 0), (vI 0), (vB false), (vI 0), (vI 0), (vI 0)] 37 (0, 0)) := ⟨_, rfl⟩
      have f1144 := push_new e1143
      rw [← eb1141] at f1144
      have n1145 : b1140 ≠ b1 := by have := row_lt f1137; omega
      have n1146 : b1140 ≠ b1116 := by have := row_lt f1138; omega
      have x1147 : Ext h1132 h1142 := by rw [e1143]; exact Ext.push _ _
      have o1148 : h.size ≤ b1140 := by have := x1139.size; omega
      have f1149 := x1147 _ _ f1137
      have f1150 := x1147 _ _ f1138
      have x1151 := x1139.trans x1147
      obtain ⟨h1152, e1153⟩ : ∃ zq, zq = h1142.setIfInBounds b1140 (.cells #[(vS .empty), (vI 0), (vI 0), (Value.slice none 0 0), (vI 0), (vI 0), (vB false), (vI 0), (vI 0), (vI 0)] 37 (0, 0)) := ⟨_, rfl⟩
      have f1154 := set_same e1153 f1144
      have f1155 := set_other e1153 f1149 n1145
      have f1156 := set_other e1153 f1150 n1146
      have x1157 := Ext.setNew x1151 e1153 o1148
      refine wc_ev [evL 4 1 0 agg24 size24 f1129, evFe 4 3 (p1134 c25) s1133, evA 4 7 eb1141 e1143, evUw 4 8 size37 f1144 e1153] .normal h1152 [(30, (vP b1 0)), (31, (vA #[(vS s.d.name), (vI s.d.rt), (vI s.d.dl), (vL sa s.d.xs.length cp)])), (32, (vI now)), (33, (vT #[(vA #[(vS .empty), (vI 0), (vI 0), (vL none 0 0), (vI 0), (vI 0), (vB false), (vI 0), (vI 0), (vI 0)]), (vI (staE s.d (now)))])), (29, (vT #[(vA #[(vS .empty), (vI 0), (vI 0), (vL none 0 0), (vI 0), (vI 0), (vB false), (vI 0), (vI 0), (vI 0)]), (vI (staE s.d (now)))])), (34, (vA #[(vS .empty), (vI 0), (vI 0), (vL none 0 0), (vI 0), (vI 0), (vB false), (vI 0), (vI 0), (vI 0)])), (35, (vI (staE s.d (now)))), (7, (vP b1140 0)), (8, (vI (staE s.d (now))))] ?_
      refine wc_seq' (subc (bodyOf Tryd.prog 7) [1, 1, 1, 1, 0]) (subc (bodyOf Tryd.prog 7) [1, 1, 1, 1, 1]) (by kernel_rfl) ?_
      obtain ⟨_, hh1158, sn1159, rfl, x1160⟩ := givenV_ok h1152 s _ _ (hl.keep fun b r _ q => x1157 b r q) (by omega) 
      have f1161 := x1160 _ _ f1155
      have f1162 := x1160 _ _ f1156
      have f1163 := x1160 _ _ f1154
      have x1164 := x1157.trans x1160
      obtain ⟨v1165, h1166, s1167, p1168, p1169, x1170⟩ := cancel_ok hh1158 s _ _ (hl.keep fun b r _ q => x1164 b r q) (by omega)
      have f1171 := x1170 _ _ f1161
      have f1172 := x1170 _ _ f1162
      have f1173 := x1170 _ _ f1163
      have x1174 := x1164.trans x1170
      by_cases c1175 : ((canE s) : Int) = 0
      · obtain ⟨w1176, c1177, p1178, o1179, n1180⟩ := p1169 c1175
        obtain ⟨s1181, e1182⟩ : ∃ q, q = canS s := ⟨_, rfl⟩
        have e1183 : s1181.d = s.d := by rw [e1182]; rfl
        have e1184 : s1181.d.xs.length = (s.d).xs.length := by rw [e1183]
        rw [← e1182, ← e1183] at p1178
        rw [← e1183] at o1179 n1180
        have c1185 : chkS s1181 = 0 := by rw [e1182]; exact can_ok c1175
        have z1186 : h.size ≤ hh1158.size := x1164.size
        have o1187 : ∀ zz, blk (Value.slice w1176 (s1181.d.xs.length) (c1177)) zz → h.size ≤ zz := fun zz hz => by have := n1180 zz hz; omega
        obtain ⟨b1188, eb1189⟩ : ∃ zq, zq = h1166.size := ⟨_, rfl⟩
        obtain ⟨h1190, e1191⟩ : ∃ zq, zq = h1166.push (.cells #[(vS .empty), (vI 0), (vI 0), (Value.slice none 0 0), (vI 0), (vI 0), (vB false), (vI 0), (vI 0), (vI 0)] 41 (0, 0)) := ⟨_, rfl⟩
        have f1192 := push_new e1191
        rw [← eb1189] at f1192
        have n1193 : b1188 ≠ b1 := by have := row_lt f1171; omega
        have n1194 : b1188 ≠ b1116 := by have := row_lt f1172; omega
        have n1195 : b1188 ≠ b1140 := by have := row_lt f1173; omega
        have n1196 : ∀ zz, (blk (Value.slice w1176 (s1181.d.xs.length) (c1177))) zz → ¬ zz = b1188 := fun zz hz ez => by have := o1179.blk_lt hz; omega
        have x1197 : Ext h1166 h1190 := by rw [e1191]; exact Ext.push _ _
        have o1198 : h.size ≤ b1188 := by have := x1174.size; omega
        have f1199 := x1197 _ _ f1171
        have f1200 := x1197 _ _ f1172
        have f1201 := x1197 _ _ f1173
        have p1202 := o1179.keep fun b r _ q => x1197 b r q
        have x1203 := x1174.trans x1197
        obtain ⟨h1204, e1205⟩ : ∃ zq, zq = h1190.setIfInBounds b1188 (.cells #[(vS s1181.d.name), (vI (s1181.d.rt)), (vI (s1181.d.dl)), (Value.slice w1176 (s1181.d.xs.length) (c1177)), (vI (s1181.st)), (vI (s1181.ix)), (vB s1181.cn), (vI (s1181.tr)), (vI (s1181.bg)), (vI (s1181.er))] 41 (0, 0)) := ⟨_, rfl⟩
        have f1206 := set_same e1205 f1192
        have f1207 := set_other e1205 f1199 n1193
        have f1208 := set_other e1205 f1200 n1194
        have f1209 := set_other e1205 f1201 n1195
        have p1210 := p1202.keep fun b r hb q => (Chg.set e1205).same b r q (n1196 b hb)
        have x1211 := Ext.setNew x1203 e1205 o1198
        refine wc_ev [evLw 5 0 agg27 size27 f1155, evF 5 1 sn1159, evFe 5 2 p1178 s1167, evA 5 6 eb1189 e1191, evUw 5 7 size41 f1192 e1205] .normal h1204 [(37, (vA #[(vS s.d.name), (vI s.d.rt), (vI s.d.dl), (vL sa s.d.xs.length cp), (vI s.st), (vI s.ix), (vB s.cn), (vI s.tr), (vI s.bg), (vI s.er)])), (38, (vA #[(vS s.d.name), (vI s.d.rt), (vI s.d.dl), (vL sa s.d.xs.length cp), (vI s.st), (vI s.ix), (vB s.cn), (vI s.tr), (vI s.bg), (vI s.er)])), (39, (vT #[(vA #[(vS s1181.d.name), (vI s1181.d.rt), (vI s1181.d.dl), (vL w1176 s1181.d.xs.length c1177), (vI s1181.st), (vI s1181.ix), (vB s1181.cn), (vI s1181.tr), (vI s1181.bg), (vI s1181.er)]), (vI 0)])), (36, (vT #[(vA #[(vS s1181.d.name), (vI s1181.d.rt), (vI s1181.d.dl), (vL w1176 s1181.d.xs.length c1177), (vI s1181.st), (vI s1181.ix), (vB s1181.cn), (vI s1181.tr), (vI s1181.bg), (vI s1181.er)]), (vI 0)])), (40, (vA #[(vS s1181.d.name), (vI s1181.d.rt), (vI s1181.d.dl), (vL w1176 s1181.d.xs.length c1177), (vI s1181.st), (vI s1181.ix), (vB s1181.cn), (vI s1181.tr), (vI s1181.bg), (vI s1181.er)])), (41, (vI 0)), (9, (vP b1188 0)), (10, (vI 0))] ?_
        refine wc_act { tmps := #[(vA #[(vS s.d.name), (vI s.d.rt), (vI s.d.dl), (vL sa s.d.xs.length cp), (vI s.st), (vI s.ix), (vB s.cn), (vI s.tr), (vI s.bg), (vI s.er)]), (vI now), (vP b1 0), vZ, (vB false), (vP b1116 0), (vI (staE s.d (now))), (vP b1140 0), (vI (staE s.d (now))), (vP b1188 0), (vI 0), vZ, vZ, vZ, vZ, vZ, vZ, (vP b1 0), (vA #[(vS s.d.name), (vI s.d.rt), (vI s.d.dl), (vL sa s.d.xs.length cp)]), (vB true), (vB false), vZ, (vT #[(vA #[(vS .empty), (vI 0), (vI 0), (vL none 0 0), (vI 0), (vI 0), (vB false), (vI 0), (vI 0), (vI 0)]), (vI (staE s.d (now)))]), (vP b1 0), (vA #[(vS s.d.name), (vI s.d.rt), (vI s.d.dl), (vL sa s.d.xs.length cp)]), (vI now), (vT #[(vA #[(vS .empty), (vI 0), (vI 0), (vL none 0 0), (vI 0), (vI 0), (vB false), (vI 0), (vI 0), (vI 0)]), (vI (staE s.d (now)))]), (vA #[(vS .empty), (vI 0), (vI 0), (vL none 0 0), (vI 0), (vI 0), (vB false), (vI 0), (vI 0), (vI 0)]), (vI (staE s.d (now))), (vT #[(vA #[(vS .empty), (vI 0), (vI 0), (vL none 0 0), (vI 0), (vI 0), (vB false), (vI 0), (vI 0), (vI 0)]), (vI (staE s.d (now)))]), (vP b1 0), (vA #[(vS s.d.name), (vI s.d.rt), (vI s.d.dl), (vL sa s.d.xs.length cp)]), (vI now), (vT #[(vA #[(vS .empty), (vI 0), (vI 0), (vL none 0 0), (vI 0), (vI 0), (vB false), (vI 0), (vI 0), (vI 0)]), (vI (staE s.d (now)))]), (vA #[(vS .empty), (vI 0), (vI 0), (vL none 0 0), (vI 0), (vI 0), (vB false), (vI 0), (vI 0), (vI 0)]), (vI (staE s.d (now))), (vT #[(vA #[(vS s1181.d.name), (vI s1181.d.rt), (vI s1181.d.dl), (vL w1176 s1181.d.xs.length c1177), (vI s1181.st), (vI s1181.ix), (vB s1181.cn), (vI s1181.tr), (vI s1181.bg), (vI s1181.er)]), (vI 0)]), (vA #[(vS s.d.name), (vI s.d.rt), (vI s.d.dl), (vL sa s.d.xs.length cp), (vI s.st), (vI s.ix), (vB s.cn), (vI s.tr), (vI s.bg), (vI s.er)]), (vA #[(vS s.d.name), (vI s.d.rt), (vI s.d.dl), (vL sa s.d.xs.length cp), (vI s.st), (vI s.ix), (vB s.cn), (vI s.tr), (vI s.bg), (vI s.er)]), (vT #[(vA #[(vS s1181.d.name), (vI s1181.d.rt), (vI s1181.d.dl), (vL w1176 s1181.d.xs.length c1177), (vI s1181.st), (vI s1181.ix), (vB s1181.cn), (vI s1181.tr), (vI s1181.bg), (vI s1181.er)]), (vI 0)]), (vA #[(vS s1181.d.name), (vI s1181.d.rt), (vI s1181.d.dl), (vL w1176 s1181.d.xs.length c1177), (vI s1181.st), (vI s1181.ix), (vB s1181.cn), (vI s1181.tr), (vI s1181.bg), (vI s1181.er)]), (vI 0), vZ, vZ, vZ, vZ, vZ, vZ, vZ, vZ, vZ, vZ, vZ, vZ, vZ, vZ, vZ, vZ, vZ, vZ, vZ, vZ, vZ, vZ, vZ, vZ, vZ, vZ, vZ, vZ, vZ, vZ, vZ, vZ, vZ, vZ, vZ, vZ, vZ, vZ, vZ, vZ, vZ, vZ, vZ, vZ, vZ, vZ, vZ, vZ, vZ, vZ, vZ, vZ, vZ, vZ, vZ, vZ, vZ, vZ, vZ, vZ, vZ, vZ, vZ, vZ, vZ, vZ, vZ, vZ, vZ, vZ, vZ, vZ, vZ, vZ, vZ, vZ, vZ, vZ, vZ, vZ, vZ, vZ, vZ, vZ, vZ], defers := [] } (by as_aux_lemma => kernel_rfl) ?_
        refine wc_seq' (subc (bodyOf Tryd.prog 7) [1, 1, 1, 1, 1, 0]) (subc (bodyOf Tryd.prog 7) [1, 1, 1, 1, 1, 1]) (by kernel_rfl) ?_
        obtain ⟨_, hh1212, sn1213, rfl, x1214⟩ := refV_ok h1204 s _ _ (hl.keep fun b r _ q => x1211 b r q) (by omega) 
        have f1215 := x1214 _ _ f1207
        have f1216 := x1214 _ _ f1208
        have f1217 := x1214 _ _ f1209
        have f1218 := x1214 _ _ f1206
        have p1219 := p1210.keep fun b r _ q => x1214 b r q
        have x1220 := x1211.trans x1214
        obtain ⟨v1221, h1222, s1223, p1224, p1225, x1226⟩ := rcancel_ok hh1212 s _ _ (hl.keep fun b r _ q => x1220 b r q) (by omega) hnm hks
        have f1227 := x1226 _ _ f1215
        have f1228 := x1226 _ _ f1216
        have f1229 := x1226 _ _ f1217
        have f1230 := x1226 _ _ f1218
        have p1231 := p1219.keep fun b r _ q => x1226 b r q
        have x1232 := x1220.trans x1226
        obtain ⟨w1233, c1234, p1235, o1236, n1237⟩ := p1225 c1175
        rw [← e1182, ← e1183] at p1235
        rw [← e1183] at o1236 n1237
        have z1238 : h.size ≤ hh1212.size := x1220.size
        have o1239 : ∀ zz, blk (Value.slice w1233 (s1181.d.xs.length) (c1234)) zz → h.size ≤ zz := fun zz hz => by have := n1237 zz hz; omega
        obtain ⟨b1240, eb1241⟩ : ∃ zq, zq = h1222.size := ⟨_, rfl⟩
        obtain ⟨h1242, e1243⟩ : ∃ zq, zq = h1222.push (.cells #[(vS .empty), (vI 0), (vI 0), (Value.slice none 0 0), (vI 0), (vI 0), (vB false), (vI 0), (vI 0), (vI 0)] 37 (0, 0)) := ⟨_, rfl⟩
        have f1244 := push_new e1243
        rw [← eb1241] at f1244
        have n1245 : b1240 ≠ b1 := by have := row_lt f1227; omega
        have n1246 : b1240 ≠ b1116 := by have := row_lt f1228; omega
        have n1247 : b1240 ≠ b1140 := by have := row_lt f1229; omega
        have n1248 : b1240 ≠ b1188 := by have := row_lt f1230; omega
        have n1249 : ∀ zz, (blk (Value.slice w1176 (s1181.d.xs.length) (c1177))) zz → ¬ zz = b1240 := fun zz hz ez => by have := p1231.blk_lt hz; omega
        have n1250 : ∀ zz, (blk (Value.slice w1233 (s1181.d.xs.length) (c1234))) zz → ¬ zz = b1240 := fun zz hz ez => by have := o1236.blk_lt hz; omega
        have x1251 : Ext h1222 h1242 := by rw [e1243]; exact Ext.push _ _
        have o1252 : h.size ≤ b1240 := by have := x1232.size; omega
        have f1253 := x1251 _ _ f1227
        have f1254 := x1251 _ _ f1228
        have f1255 := x1251 _ _ f1229
        have f1256 := x1251 _ _ f1230
        have p1257 := p1231.keep fun b r _ q => x1251 b r q
        have p1258 := o1236.keep fun b r _ q => x1251 b r q
        have x1259 := x1232.trans x1251
        obtain ⟨h1260, e1261⟩ : ∃ zq, zq = h1242.setIfInBounds b1240 (.cells #[(vS s1181.d.name), (vI (s1181.d.rt)), (vI (s1181.d.dl)), (Value.slice w1233 (s1181.d.xs.length) (c1234)), (vI (s1181.st)), (vI (s1181.ix)), (vB s1181.cn), (vI (s1181.tr)), (vI (s1181.bg)), (vI (s1181.er))] 37 (0, 0)) := ⟨_, rfl⟩
        have f1262 := set_same e1261 f1244
        have f1263 := set_other e1261 f1253 n1245
        have f1264 := set_other e1261 f1254 n1246
        have f1265 := set_other e1261 f1255 n1247
        have f1266 := set_other e1261 f1256 n1248
        have p1267 := p1257.keep fun b r hb q => (Chg.set e1261).same b r q (n1249 b hb)
        have p1268 := p1258.keep fun b r hb q => (Chg.set e1261).same b r q (n1250 b hb)
        have x1269 := Ext.setNew x1259 e1261 o1252
        refine wc_ev [evLw 6 0 agg27 size27 f1207, evF 6 1 sn1213, evFe 6 2 p1235 s1223, evA 6 6 eb1241 e1243, evUw 6 7 size37 f1244 e1261] .normal h1260 [(43, (vA #[(vS s.d.name), (vI s.d.rt), (vI s.d.dl), (vL sa s.d.xs.length cp), (vI s.st), (vI s.ix), (vB s.cn), (vI s.tr), (vI s.bg), (vI s.er)])), (44, (vA #[(vS s.d.name), (vI s.d.rt), (vI s.d.dl), (vL sa s.d.xs.length cp), (vI s.st), (vI s.ix), (vB s.cn), (vI s.tr), (vI s.bg), (vI s.er)])), (45, (vT #[(vA #[(vS s1181.d.name), (vI s1181.d.rt), (vI s1181.d.dl), (vL w1233 s1181.d.xs.length c1234), (vI s1181.st), (vI s1181.ix), (vB s1181.cn), (vI s1181.tr), (vI s1181.bg), (vI s1181.er)]), (vI 0)])), (42, (vT #[(vA #[(vS s1181.d.name), (vI s1181.d.rt), (vI s1181.d.dl), (vL w1233 s1181.d.xs.length c1234), (vI s1181.st), (vI s1181.ix), (vB s1181.cn), (vI s1181.tr), (vI s1181.bg), (vI s1181.er)]), (vI 0)])), (46, (vA #[(vS s1181.d.name), (vI s1181.d.rt), (vI s1181.d.dl), (vL w1233 s1181.d.xs.length c1234), (vI s1181.st), (vI s1181.ix), (vB s1181.cn), (vI s1181.tr), (vI s1181.bg), (vI s1181.er)])), (47, (vI 0)), (11, (vP b1240 0)), (12, (vI 0))] ?_
        refine wc_seq' (subc (bodyOf Tryd.prog 7) [1, 1, 1, 1, 1, 1, 0]) (subc (bodyOf Tryd.prog 7) [1, 1, 1, 1, 1, 1, 1]) (by kernel_rfl) ?_
        obtain ⟨_, hh1270, sn1271, rfl, x1272⟩ := backV_ok h1260 (SagaM.mk (DefM.mk .empty 0 0 ([] : List StepM)) 0 0 false 0 0 0) _ _ lat_none (by decide) 
        have f1273 := x1272 _ _ f1263
        have f1274 := x1272 _ _ f1264
        have f1275 := x1272 _ _ f1265
        have f1276 := x1272 _ _ f1266
        have f1277 := x1272 _ _ f1262
        have p1278 := p1267.keep fun b r _ q => x1272 b r q
        have p1279 := p1268.keep fun b r _ q => x1272 b r q
        have x1280 := x1269.trans x1272
        obtain ⟨_, hh1281, sn1282, rfl, x1283⟩ := refV_ok hh1270 (SagaM.mk (DefM.mk .empty 0 0 ([] : List StepM)) 0 0 false 0 0 0) _ _ lat_none (by decide) 
        have f1284 := x1283 _ _ f1273
        have f1285 := x1283 _ _ f1274
        have f1286 := x1283 _ _ f1275
        have f1287 := x1283 _ _ f1276
        have f1288 := x1283 _ _ f1277
        have p1289 := p1278.keep fun b r _ q => x1283 b r q
        have p1290 := p1279.keep fun b r _ q => x1283 b r q
        have x1291 := x1280.trans x1283
        obtain ⟨_, hh1292, sn1293, rfl, x1294⟩ := same_ok hh1281 (SagaM.mk (DefM.mk .empty 0 0 ([] : List StepM)) 0 0 false 0 0 0) _ _ lat_none (by decide) _ _ lat_none
        have f1295 := x1294 _ _ f1284
        have f1296 := x1294 _ _ f1285
        have f1297 := x1294 _ _ f1286
        have f1298 := x1294 _ _ f1287
        have f1299 := x1294 _ _ f1288
        have p1300 := p1289.keep fun b r _ q => x1294 b r q
        have p1301 := p1290.keep fun b r _ q => x1294 b r q
        have x1302 := x1291.trans x1294
        obtain ⟨_, hh1303, sn1304, rfl, x1305⟩ := backV_ok hh1292 s1181 _ _ (OwnAt.lat p1300 stepc_size (tsz_of size65)) (by omega) 
        have f1306 := x1305 _ _ f1295
        have f1307 := x1305 _ _ f1296
        have f1308 := x1305 _ _ f1297
        have f1309 := x1305 _ _ f1298
        have f1310 := x1305 _ _ f1299
        have p1311 := p1300.keep fun b r _ q => x1305 b r q
        have p1312 := p1301.keep fun b r _ q => x1305 b r q
        have x1313 := x1302.trans x1305
        obtain ⟨_, hh1314, sn1315, rfl, x1316⟩ := refV_ok hh1303 s1181 _ _ (OwnAt.lat p1311 stepc_size (tsz_of size65)) (by omega) 
        have f1317 := x1316 _ _ f1306
        have f1318 := x1316 _ _ f1307
        have f1319 := x1316 _ _ f1308
        have f1320 := x1316 _ _ f1309
        have f1321 := x1316 _ _ f1310
        have p1322 := p1311.keep fun b r _ q => x1316 b r q
        have p1323 := p1312.keep fun b r _ q => x1316 b r q
        have x1324 := x1313.trans x1316
        obtain ⟨_, hh1325, sn1326, rfl, x1327⟩ := same_ok hh1314 s1181 _ _ (OwnAt.lat p1322 stepc_size (tsz_of size65)) (by omega) _ _ (OwnAt.lat p1323 stepc_size (tsz_of size65))
        have f1328 := x1327 _ _ f1317
        have f1329 := x1327 _ _ f1318
        have f1330 := x1327 _ _ f1319
        have f1331 := x1327 _ _ f1320
        have f1332 := x1327 _ _ f1321
        have p1333 := p1322.keep fun b r _ q => x1327 b r q
        have p1334 := p1323.keep fun b r _ q => x1327 b r q
        have x1335 := x1324.trans x1327
        refine wc_ev [evLw 7 0 agg41 size41 f1264, evLw 7 3 agg37 size37 f1265, evF 7 1 sn1271, evLw 99 0 agg37 size37 f1275, evF 7 2 sn1282, evLw 99 0 agg37 size37 f1286, evF 7 4 sn1293, neF 7 9 25 (Eq.refl ((staE s.d (now)) : Int)), evLw 7 12 agg41 size41 f1298, evLw 7 15 agg37 size37 f1299, evF 7 13 sn1304, evLw 99 0 agg37 size37 f1310, evF 7 14 sn1315, evLw 99 0 agg37 size37 f1321, evF 7 16 sn1326] .normal hh1325 [(48, (vA #[(vS .empty), (vI 0), (vI 0), (vL none 0 0), (vI 0), (vI 0), (vB false), (vI 0), (vI 0), (vI 0)])), (51, (vA #[(vS .empty), (vI 0), (vI 0), (vL none 0 0), (vI 0), (vI 0), (vB false), (vI 0), (vI 0), (vI 0)])), (49, (vA #[(vS .empty), (vI 0), (vI 0), (vL none 0 0), (vI 0), (vI 0), (vB false), (vI 0), (vI 0), (vI 0)])), (50, (vA #[(vS .empty), (vI 0), (vI 0), (vL none 0 0), (vI 0), (vI 0), (vB false), (vI 0), (vI 0), (vI 0)])), (52, (vB true)), (53, (vB false)), (54, (vB false)), (55, (vI (staE s.d (now)))), (56, (vI (staE s.d (now)))), (57, (vB false)), (58, (vB false)), (59, (vB false)), (60, (vA #[(vS s1181.d.name), (vI s1181.d.rt), (vI s1181.d.dl), (vL w1176 s1181.d.xs.length c1177), (vI s1181.st), (vI s1181.ix), (vB s1181.cn), (vI s1181.tr), (vI s1181.bg), (vI s1181.er)])), (63, (vA #[(vS s1181.d.name), (vI s1181.d.rt), (vI s1181.d.dl), (vL w1233 s1181.d.xs.length c1234), (vI s1181.st), (vI s1181.ix), (vB s1181.cn), (vI s1181.tr), (vI s1181.bg), (vI s1181.er)])), (61, (vA #[(vS s1181.d.name), (vI s1181.d.rt), (vI s1181.d.dl), (vL w1176 s1181.d.xs.length c1177), (vI s1181.st), (vI s1181.ix), (vB s1181.cn), (vI s1181.tr), (vI s1181.bg), (vI s1181.er)])), (62, (vA #[(vS s1181.d.name), (vI s1181.d.rt), (vI s1181.d.dl), (vL w1176 s1181.d.xs.length c1177), (vI s1181.st), (vI s1181.ix), (vB s1181.cn), (vI s1181.tr), (vI s1181.bg), (vI s1181.er)])), (64, (vB true)), (65, (vB false)), (66, (vB false)), (67, (vB false)), (68, (vI 0)), (69, (vI 0)), (70, (vB false)), (71, (vB false))] ?_
        refine wc_act { tmps := #[(vA #[(vS s.d.name), (vI s.d.rt), (vI s.d.dl), (vL sa s.d.xs.length cp), (vI s.st), (vI s.ix), (vB s.cn), (vI s.tr), (vI s.bg), (vI s.er)]), (vI now), (vP b1 0), vZ, (vB false), (vP b1116 0), (vI (staE s.d (now))), (vP b1140 0), (vI (staE s.d (now))), (vP b1188 0), (vI 0), (vP b1240 0), (vI 0), vZ, vZ, vZ, vZ, (vP b1 0), (vA #[(vS s.d.name), (vI s.d.rt), (vI s.d.dl), (vL sa s.d.xs.length cp)]), (vB true), (vB false), vZ, (vT #[(vA #[(vS .empty), (vI 0), (vI 0), (vL none 0 0), (vI 0), (vI 0), (vB false), (vI 0), (vI 0), (vI 0)]), (vI (staE s.d (now)))]), (vP b1 0), (vA #[(vS s.d.name), (vI s.d.rt), (vI s.d.dl), (vL sa s.d.xs.length cp)]), (vI now), (vT #[(vA #[(vS .empty), (vI 0), (vI 0), (vL none 0 0), (vI 0), (vI 0), (vB false), (vI 0), (vI 0), (vI 0)]), (vI (staE s.d (now)))]), (vA #[(vS .empty), (vI 0), (vI 0), (vL none 0 0), (vI 0), (vI 0), (vB false), (vI 0), (vI 0), (vI 0)]), (vI (staE s.d (now))), (vT #[(vA #[(vS .empty), (vI 0), (vI 0), (vL none 0 0), (vI 0), (vI 0), (vB false), (vI 0), (vI 0), (vI 0)]), (vI (staE s.d (now)))]), (vP b1 0), (vA #[(vS s.d.name), (vI s.d.rt), (vI s.d.dl), (vL sa s.d.xs.length cp)]), (vI now), (vT #[(vA #[(vS .empty), (vI 0), (vI 0), (vL none 0 0), (vI 0), (vI 0), (vB false), (vI 0), (vI 0), (vI 0)]), (vI (staE s.d (now)))]), (vA #[(vS .empty), (vI 0), (vI 0), (vL none 0 0), (vI 0), (vI 0), (vB false), (vI 0), (vI 0), (vI 0)]), (vI (staE s.d (now))), (vT #[(vA #[(vS s1181.d.name), (vI s1181.d.rt), (vI s1181.d.dl), (vL w1176 s1181.d.xs.length c1177), (vI s1181.st), (vI s1181.ix), (vB s1181.cn), (vI s1181.tr), (vI s1181.bg), (vI s1181.er)]), (vI 0)]), (vA #[(vS s.d.name), (vI s.d.rt), (vI s.d.dl), (vL sa s.d.xs.length cp), (vI s.st), (vI s.ix), (vB s.cn), (vI s.tr), (vI s.bg), (vI s.er)]), (vA #[(vS s.d.name), (vI s.d.rt), (vI s.d.dl), (vL sa s.d.xs.length cp), (vI s.st), (vI s.ix), (vB s.cn), (vI s.tr), (vI s.bg), (vI s.er)]), (vT #[(vA #[(vS s1181.d.name), (vI s1181.d.rt), (vI s1181.d.dl), (vL w1176 s1181.d.xs.length c1177), (vI s1181.st), (vI s1181.ix), (vB s1181.cn), (vI s1181.tr), (vI s1181.bg), (vI s1181.er)]), (vI 0)]), (vA #[(vS s1181.d.name), (vI s1181.d.rt), (vI s1181.d.dl), (vL w1176 s1181.d.xs.length c1177), (vI s1181.st), (vI s1181.ix), (vB s1181.cn), (vI s1181.tr), (vI s1181.bg), (vI s1181.er)]), (vI 0), (vT #[(vA #[(vS s1181.d.name), (vI s1181.d.rt), (vI s1181.d.dl), (vL w1233 s1181.d.xs.length c1234), (vI s1181.st), (vI s1181.ix), (vB s1181.cn), (vI s1181.tr), (vI s1181.bg), (vI s1181.er)]), (vI 0)]), (vA #[(vS s.d.name), (vI s.d.rt), (vI s.d.dl), (vL sa s.d.xs.length cp), (vI s.st), (vI s.ix), (vB s.cn), (vI s.tr), (vI s.bg), (vI s.er)]), (vA #[(vS s.d.name), (vI s.d.rt), (vI s.d.dl), (vL sa s.d.xs.length cp), (vI s.st), (vI s.ix), (vB s.cn), (vI s.tr), (vI s.bg), (vI s.er)]), (vT #[(vA #[(vS s1181.d.name), (vI s1181.d.rt), (vI s1181.d.dl), (vL w1233 s1181.d.xs.length c1234), (vI s1181.st), (vI s1181.ix), (vB s1181.cn), (vI s1181.tr), (vI s1181.bg), (vI s1181.er)]), (vI 0)]), (vA #[(vS s1181.d.name), (vI s1181.d.rt), (vI s1181.d.dl), (vL w1233 s1181.d.xs.length c1234), (vI s1181.st), (vI s1181.ix), (vB s1181.cn), (vI s1181.tr), (vI s1181.bg), (vI s1181.er)]), (vI 0), (vA #[(vS .empty), (vI 0), (vI 0), (vL none 0 0), (vI 0), (vI 0), (vB false), (vI 0), (vI 0), (vI 0)]), (vA #[(vS .empty), (vI 0), (vI 0), (vL none 0 0), (vI 0), (vI 0), (vB false), (vI 0), (vI 0), (vI 0)]), (vA #[(vS .empty), (vI 0), (vI 0), (vL none 0 0), (vI 0), (vI 0), (vB false), (vI 0), (vI 0), (vI 0)]), (vA #[(vS .empty), (vI 0), (vI 0), (vL none 0 0), (vI 0), (vI 0), (vB false), (vI 0), (vI 0), (vI 0)]), (vB true), (vB false), (vB false), (vI (staE s.d (now))), (vI (staE s.d (now))), (vB false), (vB false), (vB false), (vA #[(vS s1181.d.name), (vI s1181.d.rt), (vI s1181.d.dl), (vL w1176 s1181.d.xs.length c1177), (vI s1181.st), (vI s1181.ix), (vB s1181.cn), (vI s1181.tr), (vI s1181.bg), (vI s1181.er)]), (vA #[(vS s1181.d.name), (vI s1181.d.rt), (vI s1181.d.dl), (vL w1176 s1181.d.xs.length c1177), (vI s1181.st), (vI s1181.ix), (vB s1181.cn), (vI s1181.tr), (vI s1181.bg), (vI s1181.er)]), (vA #[(vS s1181.d.name), (vI s1181.d.rt), (vI s1181.d.dl), (vL w1176 s1181.d.xs.length c1177), (vI s1181.st), (vI s1181.ix), (vB s1181.cn), (vI s1181.tr), (vI s1181.bg), (vI s1181.er)]), (vA #[(vS s1181.d.name), (vI s1181.d.rt), (vI s1181.d.dl), (vL w1233 s1181.d.xs.length c1234), (vI s1181.st), (vI s1181.ix), (vB s1181.cn), (vI s1181.tr), (vI s1181.bg), (vI s1181.er)]), (vB true), (vB false), (vB false), (vB false), (vI 0), (vI 0), (vB false), (vB false), vZ, vZ, vZ, vZ, vZ, vZ, vZ, vZ, vZ, vZ, vZ, vZ, vZ, vZ, vZ, vZ, vZ, vZ, vZ, vZ, vZ, vZ, vZ, vZ, vZ, vZ, vZ, vZ, vZ, vZ, vZ, vZ, vZ, vZ, vZ, vZ, vZ, vZ, vZ, vZ, vZ, vZ, vZ, vZ, vZ, vZ, vZ, vZ, vZ, vZ, vZ, vZ, vZ, vZ, vZ], defers := [] } (by as_aux_lemma => kernel_rfl) ?_
        refine wc_seq' (subc (bodyOf Tryd.prog 7) [1, 1, 1, 1, 1, 1, 1, 0]) (subc (bodyOf Tryd.prog 7) [1, 1, 1, 1, 1, 1, 1, 1]) (by kernel_rfl) ?_
        obtain ⟨_, hh1336, sn1337, rfl, x1338⟩ := refV_ok hh1325 s _ _ (hl.keep fun b r _ q => x1335 b r q) (by omega) 
        have f1339 := x1338 _ _ f1328
        have f1340 := x1338 _ _ f1329
        have f1341 := x1338 _ _ f1330
        have f1342 := x1338 _ _ f1331
        have f1343 := x1338 _ _ f1332
        have p1344 := p1333.keep fun b r _ q => x1338 b r q
        have p1345 := p1334.keep fun b r _ q => x1338 b r q
        have x1346 := x1335.trans x1338
        obtain ⟨_, h1347, s1348, w1349, c1350, rfl, o1351, x1352, b1353⟩ := rcopys_ok hh1336 s _ _ (hl.keep fun b r _ q => x1346 b r q) (by omega)
        have f1354 := x1352 _ _ f1339
        have f1355 := x1352 _ _ f1340
        have f1356 := x1352 _ _ f1341
        have f1357 := x1352 _ _ f1342
        have f1358 := x1352 _ _ f1343
        have p1359 := p1344.keep fun b r _ q => x1352 b r q
        have p1360 := p1345.keep fun b r _ q => x1352 b r q
        have x1361 := x1346.trans x1352
        have z1362 : h.size ≤ hh1336.size := x1346.size
        have o1363 : ∀ zz, blk (Value.slice w1349 (s.d.xs.length) (c1350)) zz → h.size ≤ zz := fun zz hz => by have := b1353 zz hz; omega
        obtain ⟨b1364, eb1365⟩ : ∃ zq, zq = h1347.size := ⟨_, rfl⟩
        obtain ⟨h1366, e1367⟩ : ∃ zq, zq = h1347.push (.cells #[(vS .empty), (vI 0), (vI 0), (Value.slice none 0 0), (vI 0), (vI 0), (vB false), (vI 0), (vI 0), (vI 0)] 37 (0, 0)) := ⟨_, rfl⟩
        have f1368 := push_new e1367
        rw [← eb1365] at f1368
        have n1369 : b1364 ≠ b1 := by have := row_lt f1354; omega
        have n1370 : b1364 ≠ b1116 := by have := row_lt f1355; omega
        have n1371 : b1364 ≠ b1140 := by have := row_lt f1356; omega
        have n1372 : b1364 ≠ b1188 := by have := row_lt f1357; omega
        have n1373 : b1364 ≠ b1240 := by have := row_lt f1358; omega
        have n1374 : ∀ zz, (blk (Value.slice w1176 (s1181.d.xs.length) (c1177))) zz → ¬ zz = b1364 := fun zz hz ez => by have := p1359.blk_lt hz; omega
        have n1375 : ∀ zz, (blk (Value.slice w1233 (s1181.d.xs.length) (c1234))) zz → ¬ zz = b1364 := fun zz hz ez => by have := p1360.blk_lt hz; omega
        have n1376 : ∀ zz, (blk (Value.slice w1349 (s.d.xs.length) (c1350))) zz → ¬ zz = b1364 := fun zz hz ez => by have := o1351.blk_lt hz; omega
        have x1377 : Ext h1347 h1366 := by rw [e1367]; exact Ext.push _ _
        have o1378 : h.size ≤ b1364 := by have := x1361.size; omega
        have f1379 := x1377 _ _ f1354
        have f1380 := x1377 _ _ f1355
        have f1381 := x1377 _ _ f1356
        have f1382 := x1377 _ _ f1357
        have f1383 := x1377 _ _ f1358
        have p1384 := p1359.keep fun b r _ q => x1377 b r q
        have p1385 := p1360.keep fun b r _ q => x1377 b r q
        have p1386 := o1351.keep fun b r _ q => x1377 b r q
        have x1387 := x1361.trans x1377
        obtain ⟨h1388, e1389⟩ : ∃ zq, zq = h1366.setIfInBounds b1364 (.cells #[(vS s.d.name), (vI (s.d.rt)), (vI (s.d.dl)), (Value.slice w1349 (s.d.xs.length) (c1350)), (vI (s.st)), (vI (s.ix)), (vB s.cn), (vI (s.tr)), (vI (s.bg)), (vI (s.er))] 37 (0, 0)) := ⟨_, rfl⟩
        have f1390 := set_same e1389 f1368
        have f1391 := set_other e1389 f1379 n1369
        have f1392 := set_other e1389 f1380 n1370
        have f1393 := set_other e1389 f1381 n1371
        have f1394 := set_other e1389 f1382 n1372
        have f1395 := set_other e1389 f1383 n1373
        have p1396 := p1384.keep fun b r hb q => (Chg.set e1389).same b r q (n1374 b hb)
        have p1397 := p1385.keep fun b r hb q => (Chg.set e1389).same b r q (n1375 b hb)
        have p1398 := p1386.keep fun b r hb q => (Chg.set e1389).same b r q (n1376 b hb)
        have x1399 := Ext.setNew x1387 e1389 o1378
        refine wc_ev [evLw 9 0 agg27 size27 f1328, evF 9 1 sn1337, evF 9 2 s1348, evA 9 3 eb1365 e1367, evUw 9 4 size37 f1368 e1389] .normal h1388 [(72, (vA #[(vS s.d.name), (vI s.d.rt), (vI s.d.dl), (vL sa s.d.xs.length cp), (vI s.st), (vI s.ix), (vB s.cn), (vI s.tr), (vI s.bg), (vI s.er)])), (73, (vA #[(vS s.d.name), (vI s.d.rt), (vI s.d.dl), (vL sa s.d.xs.length cp), (vI s.st), (vI s.ix), (vB s.cn), (vI s.tr), (vI s.bg), (vI s.er)])), (74, (vA #[(vS s.d.name), (vI s.d.rt), (vI s.d.dl), (vL w1349 s.d.xs.length c1350), (vI s.st), (vI s.ix), (vB s.cn), (vI s.tr), (vI s.bg), (vI s.er)])), (13, (vP b1364 0))] ?_
        refine wc_seq' (subc (bodyOf Tryd.prog 7) [1, 1, 1, 1, 1, 1, 1, 1, 0]) (subc (bodyOf Tryd.prog 7) [1, 1, 1, 1, 1, 1, 1, 1, 1]) (by kernel_rfl) ?_
        obtain ⟨_, hh1400, sn1401, rfl, x1402⟩ := givenV_ok h1388 s _ _ (hl.keep fun b r _ q => x1399 b r q) (by omega) 
        have f1403 := x1402 _ _ f1391
        have f1404 := x1402 _ _ f1392
        have f1405 := x1402 _ _ f1393
        have f1406 := x1402 _ _ f1394
        have f1407 := x1402 _ _ f1395
        have f1408 := x1402 _ _ f1390
        have p1409 := p1396.keep fun b r _ q => x1402 b r q
        have p1410 := p1397.keep fun b r _ q => x1402 b r q
        have p1411 := p1398.keep fun b r _ q => x1402 b r q
        have x1412 := x1399.trans x1402
        obtain ⟨_, h1413, s1414, w1415, c1416, rfl, o1417, x1418, b1419⟩ := copys_ok hh1400 s _ _ (hl.keep fun b r _ q => x1412 b r q) (by omega)
        have f1420 := x1418 _ _ f1403
        have f1421 := x1418 _ _ f1404
        have f1422 := x1418 _ _ f1405
        have f1423 := x1418 _ _ f1406
        have f1424 := x1418 _ _ f1407
        have f1425 := x1418 _ _ f1408
        have p1426 := p1409.keep fun b r _ q => x1418 b r q
        have p1427 := p1410.keep fun b r _ q => x1418 b r q
        have p1428 := p1411.keep fun b r _ q => x1418 b r q
        have x1429 := x1412.trans x1418
        have z1430 : h.size ≤ hh1400.size := x1412.size
        have n1431 : ∀ zz, blk (Value.slice w1415 (s.d.xs.length) (c1416)) zz → ¬ zz = b1 := fun zz hz ez => by have := b1419 zz hz; have := row_lt f1403; omega
        have n1432 : ∀ zz, blk (Value.slice w1415 (s.d.xs.length) (c1416)) zz → ¬ zz = b1116 := fun zz hz ez => by have := b1419 zz hz; have := row_lt f1404; omega
        have n1433 : ∀ zz, blk (Value.slice w1415 (s.d.xs.length) (c1416)) zz → ¬ zz = b1140 := fun zz hz ez => by have := b1419 zz hz; have := row_lt f1405; omega
        have n1434 : ∀ zz, blk (Value.slice w1415 (s.d.xs.length) (c1416)) zz → ¬ zz = b1188 := fun zz hz ez => by have := b1419 zz hz; have := row_lt f1406; omega
        have n1435 : ∀ zz, blk (Value.slice w1415 (s.d.xs.length) (c1416)) zz → ¬ zz = b1240 := fun zz hz ez => by have := b1419 zz hz; have := row_lt f1407; omega
        have n1436 : ∀ zz, blk (Value.slice w1415 (s.d.xs.length) (c1416)) zz → ¬ zz = b1364 := fun zz hz ez => by have := b1419 zz hz; have := row_lt f1408; omega
        have n1437 : ∀ zz, blk (Value.slice w1415 (s.d.xs.length) (c1416)) zz → ¬ (blk (Value.slice w1176 (s1181.d.xs.length) (c1177))) zz := fun zz hz ez => by have := b1419 zz hz; have := p1409.blk_lt ez; omega
        have n1438 : ∀ zz, blk (Value.slice w1415 (s.d.xs.length) (c1416)) zz → ¬ (blk (Value.slice w1233 (s1181.d.xs.length) (c1234))) zz := fun zz hz ez => by have := b1419 zz hz; have := p1410.blk_lt ez; omega
        have n1439 : ∀ zz, blk (Value.slice w1415 (s.d.xs.length) (c1416)) zz → ¬ (blk (Value.slice w1349 (s.d.xs.length) (c1350))) zz := fun zz hz ez => by have := b1419 zz hz; have := p1411.blk_lt ez; omega
        have o1440 : ∀ zz, blk (Value.slice w1415 (s.d.xs.length) (c1416)) zz → h.size ≤ zz := fun zz hz => by have := b1419 zz hz; omega
        obtain ⟨b1441, eb1442⟩ : ∃ zq, zq = h1413.size := ⟨_, rfl⟩
        obtain ⟨h1443, e1444⟩ : ∃ zq, zq = h1413.push (.cells #[(vS .empty), (vI 0), (vI 0), (Value.slice none 0 0), (vI 0), (vI 0), (vB false), (vI 0), (vI 0), (vI 0)] 41 (0, 0)) := ⟨_, rfl⟩
        have f1445 := push_new e1444
        rw [← eb1442] at f1445
        have n1446 : b1441 ≠ b1 := by have := row_lt f1420; omega
        have n1447 : b1441 ≠ b1116 := by have := row_lt f1421; omega
        have n1448 : b1441 ≠ b1140 := by have := row_lt f1422; omega
        have n1449 : b1441 ≠ b1188 := by have := row_lt f1423; omega
        have n1450 : b1441 ≠ b1240 := by have := row_lt f1424; omega
        have n1451 : b1441 ≠ b1364 := by have := row_lt f1425; omega
        have n1452 : ∀ zz, (blk (Value.slice w1176 (s1181.d.xs.length) (c1177))) zz → ¬ zz = b1441 := fun zz hz ez => by have := p1426.blk_lt hz; omega
        have n1453 : ∀ zz, (blk (Value.slice w1233 (s1181.d.xs.length) (c1234))) zz → ¬ zz = b1441 := fun zz hz ez => by have := p1427.blk_lt hz; omega
        have n1454 : ∀ zz, (blk (Value.slice w1349 (s.d.xs.length) (c1350))) zz → ¬ zz = b1441 := fun zz hz ez => by have := p1428.blk_lt hz; omega
        have n1455 : ∀ zz, (blk (Value.slice w1415 (s.d.xs.length) (c1416))) zz → ¬ zz = b1441 := fun zz hz ez => by have := o1417.blk_lt hz; omega
        have x1456 : Ext h1413 h1443 := by rw [e1444]; exact Ext.push _ _
        have o1457 : h.size ≤ b1441 := by have := x1429.size; omega
        have f1458 := x1456 _ _ f1420
        have f1459 := x1456 _ _ f1421
        have f1460 := x1456 _ _ f1422
        have f1461 := x1456 _ _ f1423
        have f1462 := x1456 _ _ f1424
        have f1463 := x1456 _ _ f1425
        have p1464 := p1426.keep fun b r _ q => x1456 b r q
        have p1465 := p1427.keep fun b r _ q => x1456 b r q
        have p1466 := p1428.keep fun b r _ q => x1456 b r q
        have p1467 := o1417.keep fun b r _ q => x1456 b r q
        have x1468 := x1429.trans x1456
        obtain ⟨h1469, e1470⟩ : ∃ zq, zq = h1443.setIfInBounds b1441 (.cells #[(vS s.d.name), (vI (s.d.rt)), (vI (s.d.dl)), (Value.slice w1415 (s.d.xs.length) (c1416)), (vI (s.st)), (vI (s.ix)), (vB s.cn), (vI (s.tr)), (vI (s.bg)), (vI (s.er))] 41 (0, 0)) := ⟨_, rfl⟩
        have f1471 := set_same e1470 f1445
        have f1472 := set_other e1470 f1458 n1446
        have f1473 := set_other e1470 f1459 n1447
        have f1474 := set_other e1470 f1460 n1448
        have f1475 := set_other e1470 f1461 n1449
        have f1476 := set_other e1470 f1462 n1450
        have f1477 := set_other e1470 f1463 n1451
        have p1478 := p1464.keep fun b r hb q => (Chg.set e1470).same b r q (n1452 b hb)
        have p1479 := p1465.keep fun b r hb q => (Chg.set e1470).same b r q (n1453 b hb)
        have p1480 := p1466.keep fun b r hb q => (Chg.set e1470).same b r q (n1454 b hb)
        have p1481 := p1467.keep fun b r hb q => (Chg.set e1470).same b r q (n1455 b hb)
        have x1482 := Ext.setNew x1468 e1470 o1457
        refine wc_ev [evLw 10 0 agg27 size27 f1391, evF 10 1 sn1401, evF 10 2 s1414, evA 10 3 eb1442 e1444, evUw 10 4 size41 f1445 e1470] .normal h1469 [(75, (vA #[(vS s.d.name), (vI s.d.rt), (vI s.d.dl), (vL sa s.d.xs.length cp), (vI s.st), (vI s.ix), (vB s.cn), (vI s.tr), (vI s.bg), (vI s.er)])), (76, (vA #[(vS s.d.name), (vI s.d.rt), (vI s.d.dl), (vL sa s.d.xs.length cp), (vI s.st), (vI s.ix), (vB s.cn), (vI s.tr), (vI s.bg), (vI s.er)])), (77, (vA #[(vS s.d.name), (vI s.d.rt), (vI s.d.dl), (vL w1415 s.d.xs.length c1416), (vI s.st), (vI s.ix), (vB s.cn), (vI s.tr), (vI s.bg), (vI s.er)])), (14, (vP b1441 0))] ?_
        refine wc_seq' (subc (bodyOf Tryd.prog 7) [1, 1, 1, 1, 1, 1, 1, 1, 1, 0]) (subc (bodyOf Tryd.prog 7) [1, 1, 1, 1, 1, 1, 1, 1, 1, 1]) (by kernel_rfl) ?_
        obtain ⟨_, hh1483, sn1484, rfl, x1485⟩ := backV_ok h1469 s _ _ (OwnAt.lat p1481 stepc_size (tsz_of size65)) (by omega) 
        have f1486 := x1485 _ _ f1472
        have f1487 := x1485 _ _ f1473
        have f1488 := x1485 _ _ f1474
        have f1489 := x1485 _ _ f1475
        have f1490 := x1485 _ _ f1476
        have f1491 := x1485 _ _ f1477
        have f1492 := x1485 _ _ f1471
        have p1493 := p1478.keep fun b r _ q => x1485 b r q
        have p1494 := p1479.keep fun b r _ q => x1485 b r q
        have p1495 := p1480.keep fun b r _ q => x1485 b r q
        have p1496 := p1481.keep fun b r _ q => x1485 b r q
        have x1497 := x1482.trans x1485
        obtain ⟨_, hh1498, sn1499, rfl, x1500⟩ := refV_ok hh1483 s _ _ (OwnAt.lat p1496 stepc_size (tsz_of size65)) (by omega) 
        have f1501 := x1500 _ _ f1486
        have f1502 := x1500 _ _ f1487
        have f1503 := x1500 _ _ f1488
        have f1504 := x1500 _ _ f1489
        have f1505 := x1500 _ _ f1490
        have f1506 := x1500 _ _ f1491
        have f1507 := x1500 _ _ f1492
        have p1508 := p1493.keep fun b r _ q => x1500 b r q
        have p1509 := p1494.keep fun b r _ q => x1500 b r q
        have p1510 := p1495.keep fun b r _ q => x1500 b r q
        have p1511 := p1496.keep fun b r _ q => x1500 b r q
        have x1512 := x1497.trans x1500
        obtain ⟨_, hh1513, sn1514, rfl, x1515⟩ := same_ok hh1498 s _ _ (OwnAt.lat p1511 stepc_size (tsz_of size65)) (by omega) _ _ (OwnAt.lat p1510 stepc_size (tsz_of size65))
        have f1516 := x1515 _ _ f1501
        have f1517 := x1515 _ _ f1502
        have f1518 := x1515 _ _ f1503
        have f1519 := x1515 _ _ f1504
        have f1520 := x1515 _ _ f1505
        have f1521 := x1515 _ _ f1506
        have f1522 := x1515 _ _ f1507
        have p1523 := p1508.keep fun b r _ q => x1515 b r q
        have p1524 := p1509.keep fun b r _ q => x1515 b r q
        have p1525 := p1510.keep fun b r _ q => x1515 b r q
        have p1526 := p1511.keep fun b r _ q => x1515 b r q
        have x1527 := x1512.trans x1515
        refine wc_ev [evLw 11 0 agg41 size41 f1471, evLw 11 3 agg37 size37 f1477, evF 11 1 sn1484, evLw 99 0 agg37 size37 f1491, evF 11 2 sn1499, evLw 99 0 agg37 size37 f1506, evF 11 4 sn1514] .normal hh1513 [(78, (vA #[(vS s.d.name), (vI s.d.rt), (vI s.d.dl), (vL w1415 s.d.xs.length c1416), (vI s.st), (vI s.ix), (vB s.cn), (vI s.tr), (vI s.bg), (vI s.er)])), (81, (vA #[(vS s.d.name), (vI s.d.rt), (vI s.d.dl), (vL w1349 s.d.xs.length c1350), (vI s.st), (vI s.ix), (vB s.cn), (vI s.tr), (vI s.bg), (vI s.er)])), (79, (vA #[(vS s.d.name), (vI s.d.rt), (vI s.d.dl), (vL w1415 s.d.xs.length c1416), (vI s.st), (vI s.ix), (vB s.cn), (vI s.tr), (vI s.bg), (vI s.er)])), (80, (vA #[(vS s.d.name), (vI s.d.rt), (vI s.d.dl), (vL w1415 s.d.xs.length c1416), (vI s.st), (vI s.ix), (vB s.cn), (vI s.tr), (vI s.bg), (vI s.er)])), (82, (vB true)), (83, (vB false))] ?_
        refine wc_seq' (subc (bodyOf Tryd.prog 7) [1, 1, 1, 1, 1, 1, 1, 1, 1, 1, 0]) (subc (bodyOf Tryd.prog 7) [1, 1, 1, 1, 1, 1, 1, 1, 1, 1, 1]) (by kernel_rfl) ?_
        refine wc_seq' (subc (bodyOf Tryd.prog 7) [1, 1, 1, 1, 1, 1, 1, 1, 1, 1, 0, 0]) (subc (bodyOf Tryd.prog 7) [1, 1, 1, 1, 1, 1, 1, 1, 1, 1, 0, 1]) (by kernel_rfl) ?_
        refine wc_ev [] .normal hh1513 [(15, (vI 0))] ?_
        refine wc_block' 0 (subc (bodyOf Tryd.prog 7) [1, 1, 1, 1, 1, 1, 1, 1, 1, 1, 0, 1, 0]) (by kernel_rfl) ?_
        refine wc_loop' (subc (bodyOf Tryd.prog 7) [1, 1, 1, 1, 1, 1, 1, 1, 1, 1, 0, 1, 0, 0]) (by kernel_rfl) (fun n' a' h' => ∃ (k1 : Int) (us : List StepM) (g4 : Nat → Value), a' = { tmps := #[(vA #[(vS s.d.name), (vI s.d.rt), (vI s.d.dl), (vL sa s.d.xs.length cp), (vI s.st), (vI s.ix), (vB s.cn), (vI s.tr), (vI s.bg), (vI s.er)]), (vI now), (vP b1 0), vZ, (vB false), (vP b1116 0), (vI (staE s.d (now))), (vP b1140 0), (vI (staE s.d (now))), (vP b1188 0), (vI 0), (vP b1240 0), (vI 0), (vP b1364 0), (vP b1441 0), (vI k1), vZ, (vP b1 0), (vA #[(vS s.d.name), (vI s.d.rt), (vI s.d.dl), (vL sa s.d.xs.length cp)]), (vB true), (vB false), vZ, (vT #[(vA #[(vS .empty), (vI 0), (vI 0), (vL none 0 0), (vI 0), (vI 0), (vB false), (vI 0), (vI 0), (vI 0)]), (vI (staE s.d (now)))]), (vP b1 0), (vA #[(vS s.d.name), (vI s.d.rt), (vI s.d.dl), (vL sa s.d.xs.length cp)]), (vI now), (vT #[(vA #[(vS .empty), (vI 0), (vI 0), (vL none 0 0), (vI 0), (vI 0), (vB false), (vI 0), (vI 0), (vI 0)]), (vI (staE s.d (now)))]), (vA #[(vS .empty), (vI 0), (vI 0), (vL none 0 0), (vI 0), (vI 0), (vB false), (vI 0), (vI 0), (vI 0)]), (vI (staE s.d (now))), (vT #[(vA #[(vS .empty), (vI 0), (vI 0), (vL none 0 0), (vI 0), (vI 0), (vB false), (vI 0), (vI 0), (vI 0)]), (vI (staE s.d (now)))]), (vP b1 0), (vA #[(vS s.d.name), (vI s.d.rt), (vI s.d.dl), (vL sa s.d.xs.length cp)]), (vI now), (vT #[(vA #[(vS .empty), (vI 0), (vI 0), (vL none 0 0), (vI 0), (vI 0), (vB false), (vI 0), (vI 0), (vI 0)]), (vI (staE s.d (now)))]), (vA #[(vS .empty), (vI 0), (vI 0), (vL none 0 0), (vI 0), (vI 0), (vB false), (vI 0), (vI 0), (vI 0)]), (vI (staE s.d (now))), (vT #[(vA #[(vS s1181.d.name), (vI s1181.d.rt), (vI s1181.d.dl), (vL w1176 s1181.d.xs.length c1177), (vI s1181.st), (vI s1181.ix), (vB s1181.cn), (vI s1181.tr), (vI s1181.bg), (vI s1181.er)]), (vI 0)]), (vA #[(vS s.d.name), (vI s.d.rt), (vI s.d.dl), (vL sa s.d.xs.length cp), (vI s.st), (vI s.ix), (vB s.cn), (vI s.tr), (vI s.bg), (vI s.er)]), (vA #[(vS s.d.name), (vI s.d.rt), (vI s.d.dl), (vL sa s.d.xs.length cp), (vI s.st), (vI s.ix), (vB s.cn), (vI s.tr), (vI s.bg), (vI s.er)]), (vT #[(vA #[(vS s1181.d.name), (vI s1181.d.rt), (vI s1181.d.dl), (vL w1176 s1181.d.xs.length c1177), (vI s1181.st), (vI s1181.ix), (vB s1181.cn), (vI s1181.tr), (vI s1181.bg), (vI s1181.er)]), (vI 0)]), (vA #[(vS s1181.d.name), (vI s1181.d.rt), (vI s1181.d.dl), (vL w1176 s1181.d.xs.length c1177), (vI s1181.st), (vI s1181.ix), (vB s1181.cn), (vI s1181.tr), (vI s1181.bg), (vI s1181.er)]), (vI 0), (vT #[(vA #[(vS s1181.d.name), (vI s1181.d.rt), (vI s1181.d.dl), (vL w1233 s1181.d.xs.length c1234), (vI s1181.st), (vI s1181.ix), (vB s1181.cn), (vI s1181.tr), (vI s1181.bg), (vI s1181.er)]), (vI 0)]), (vA #[(vS s.d.name), (vI s.d.rt), (vI s.d.dl), (vL sa s.d.xs.length cp), (vI s.st), (vI s.ix), (vB s.cn), (vI s.tr), (vI s.bg), (vI s.er)]), (vA #[(vS s.d.name), (vI s.d.rt), (vI s.d.dl), (vL sa s.d.xs.length cp), (vI s.st), (vI s.ix), (vB s.cn), (vI s.tr), (vI s.bg), (vI s.er)]), (vT #[(vA #[(vS s1181.d.name), (vI s1181.d.rt), (vI s1181.d.dl), (vL w1233 s1181.d.xs.length c1234), (vI s1181.st), (vI s1181.ix), (vB s1181.cn), (vI s1181.tr), (vI s1181.bg), (vI s1181.er)]), (vI 0)]), (vA #[(vS s1181.d.name), (vI s1181.d.rt), (vI s1181.d.dl), (vL w1233 s1181.d.xs.length c1234), (vI s1181.st), (vI s1181.ix), (vB s1181.cn), (vI s1181.tr), (vI s1181.bg), (vI s1181.er)]), (vI 0), (vA #[(vS .empty), (vI 0), (vI 0), (vL none 0 0), (vI 0), (vI 0), (vB false), (vI 0), (vI 0), (vI 0)]), (vA #[(vS .empty), (vI 0), (vI 0), (vL none 0 0), (vI 0), (vI 0), (vB false), (vI 0), (vI 0), (vI 0)]), (vA #[(vS .empty), (vI 0), (vI 0), (vL none 0 0), (vI 0), (vI 0), (vB false), (vI 0), (vI 0), (vI 0)]), (vA #[(vS .empty), (vI 0), (vI 0), (vL none 0 0), (vI 0), (vI 0), (vB false), (vI 0), (vI 0), (vI 0)]), (vB true), (vB false), (vB false), (vI (staE s.d (now))), (vI (staE s.d (now))), (vB false), (vB false), (vB false), (vA #[(vS s1181.d.name), (vI s1181.d.rt), (vI s1181.d.dl), (vL w1176 s1181.d.xs.length c1177), (vI s1181.st), (vI s1181.ix), (vB s1181.cn), (vI s1181.tr), (vI s1181.bg), (vI s1181.er)]), (vA #[(vS s1181.d.name), (vI s1181.d.rt), (vI s1181.d.dl), (vL w1176 s1181.d.xs.length c1177), (vI s1181.st), (vI s1181.ix), (vB s1181.cn), (vI s1181.tr), (vI s1181.bg), (vI s1181.er)]), (vA #[(vS s1181.d.name), (vI s1181.d.rt), (vI s1181.d.dl), (vL w1176 s1181.d.xs.length c1177), (vI s1181.st), (vI s1181.ix), (vB s1181.cn), (vI s1181.tr), (vI s1181.bg), (vI s1181.er)]), (vA #[(vS s1181.d.name), (vI s1181.d.rt), (vI s1181.d.dl), (vL w1233 s1181.d.xs.length c1234), (vI s1181.st), (vI s1181.ix), (vB s1181.cn), (vI s1181.tr), (vI s1181.bg), (vI s1181.er)]), (vB true), (vB false), (vB false), (vB false), (vI 0), (vI 0), (vB false), (vB false), (vA #[(vS s.d.name), (vI s.d.rt), (vI s.d.dl), (vL sa s.d.xs.length cp), (vI s.st), (vI s.ix), (vB s.cn), (vI s.tr), (vI s.bg), (vI s.er)]), (vA #[(vS s.d.name), (vI s.d.rt), (vI s.d.dl), (vL sa s.d.xs.length cp), (vI s.st), (vI s.ix), (vB s.cn), (vI s.tr), (vI s.bg), (vI s.er)]), (vA #[(vS s.d.name), (vI s.d.rt), (vI s.d.dl), (vL w1349 s.d.xs.length c1350), (vI s.st), (vI s.ix), (vB s.cn), (vI s.tr), (vI s.bg), (vI s.er)]), (vA #[(vS s.d.name), (vI s.d.rt), (vI s.d.dl), (vL sa s.d.xs.length cp), (vI s.st), (vI s.ix), (vB s.cn), (vI s.tr), (vI s.bg), (vI s.er)]), (vA #[(vS s.d.name), (vI s.d.rt), (vI s.d.dl), (vL sa s.d.xs.length cp), (vI s.st), (vI s.ix), (vB s.cn), (vI s.tr), (vI s.bg), (vI s.er)]), (vA #[(vS s.d.name), (vI s.d.rt), (vI s.d.dl), (vL w1415 s.d.xs.length c1416), (vI s.st), (vI s.ix), (vB s.cn), (vI s.tr), (vI s.bg), (vI s.er)]), (vA #[(vS s.d.name), (vI s.d.rt), (vI s.d.dl), (vL w1415 s.d.xs.length c1416), (vI s.st), (vI s.ix), (vB s.cn), (vI s.tr), (vI s.bg), (vI s.er)]), (vA #[(vS s.d.name), (vI s.d.rt), (vI s.d.dl), (vL w1415 s.d.xs.length c1416), (vI s.st), (vI s.ix), (vB s.cn), (vI s.tr), (vI s.bg), (vI s.er)]), (vA #[(vS s.d.name), (vI s.d.rt), (vI s.d.dl), (vL w1415 s.d.xs.length c1416), (vI s.st), (vI s.ix), (vB s.cn), (vI s.tr), (vI s.bg), (vI s.er)]), (vA #[(vS s.d.name), (vI s.d.rt), (vI s.d.dl), (vL w1349 s.d.xs.length c1350), (vI s.st), (vI s.ix), (vB s.cn), (vI s.tr), (vI s.bg), (vI s.er)]), (vB true), (vB false), (g4 84), (g4 85), (g4 86), (g4 87), (g4 88), (g4 89), (g4 90), (g4 91), (g4 92), (g4 93), (g4 94), (g4 95), (g4 96), (g4 97), (g4 98), (g4 99), (g4 100), (g4 101), vZ, vZ, vZ, vZ, vZ, vZ, vZ, vZ, vZ, vZ, vZ, vZ, vZ, vZ, vZ, vZ, vZ, vZ, vZ, vZ, vZ, vZ, vZ, vZ, vZ], defers := [] } ∧ Ext h h' ∧ n' = s.d.xs.length - k1.toNat ∧ h'[b1]? = some (.cells #[(vS s.d.name), (vI s.d.rt), (vI s.d.dl), (vL sa s.d.xs.length cp), (vI s.st), (vI s.ix), (vB s.cn), (vI s.tr), (vI s.bg), (vI s.er)] 27 (0, 0)) ∧ h'[b1116]? = some (.cells #[(vS .empty), (vI 0), (vI 0), (vL none 0 0), (vI 0), (vI 0), (vB false), (vI 0), (vI 0), (vI 0)] 41 (0, 0)) ∧ h'[b1140]? = some (.cells #[(vS .empty), (vI 0), (vI 0), (vL none 0 0), (vI 0), (vI 0), (vB false), (vI 0), (vI 0), (vI 0)] 37 (0, 0)) ∧ h'[b1188]? = some (.cells #[(vS s1181.d.name), (vI s1181.d.rt), (vI s1181.d.dl), (vL w1176 s1181.d.xs.length c1177), (vI s1181.st), (vI s1181.ix), (vB s1181.cn), (vI s1181.tr), (vI s1181.bg), (vI s1181.er)] 41 (0, 0)) ∧ h'[b1240]? = some (.cells #[(vS s1181.d.name), (vI s1181.d.rt), (vI s1181.d.dl), (vL w1233 s1181.d.xs.length c1234), (vI s1181.st), (vI s1181.ix), (vB s1181.cn), (vI s1181.tr), (vI s1181.bg), (vI s1181.er)] 37 (0, 0)) ∧ h'[b1364]? = some (.cells #[(vS s.d.name), (vI s.d.rt), (vI s.d.dl), (vL w1349 s.d.xs.length c1350), (vI s.st), (vI s.ix), (vB s.cn), (vI s.tr), (vI s.bg), (vI s.er)] 37 (0, 0)) ∧ h'[b1441]? = some (.cells #[(vS s.d.name), (vI s.d.rt), (vI s.d.dl), (vL w1415 s.d.xs.length c1416), (vI s.st), (vI s.ix), (vB s.cn), (vI s.tr), (vI s.bg), (vI s.er)] 41 (0, 0)) ∧ 0 ≤ k1 ∧ us.length = s.d.xs.length ∧ OwnAt h' 65 stepc us (vL w1415 s.d.xs.length c1416) ∧ OwnAt h' 65 stepc s1181.d.xs (vL w1176 s1181.d.xs.length c1177) ∧ OwnAt h' 65 stepc s1181.d.xs (vL w1233 s1181.d.xs.length c1234) ∧ OwnAt h' 65 stepc s.d.xs (vL w1349 s.d.xs.length c1350)) ?_ (s.d.xs.length - (0 : Int).toNat) ⟨0, s.d.xs, (fun i => ([vU, vU, vU, vU, vU, vU, vU, vU, vU, vU, vU, vU, vU, vU, vU, vU, vU, vU, vU, vU, vU, vU, vU, vU, vU, vU, vU, vU, vU, vU, vU, vU, vU, vU, vU, vU, vU, vU, vU, vU, vU, vU, vU, vU, vU, vU, vU, vU, vU, vU, vU, vU, vU, vU, vU, vU, vU, vU, vU, vU, vU, vU, vU, vU, vU, vU, vU, vU, vU, vU, vU, vU, vU, vU, vU, vU, vU, vU, vU, vU, vU, vU, vU, vU, vZ, vZ, vZ, vZ, vZ, vZ, vZ, vZ, vZ, vZ, vZ, vZ, vZ, vZ, vZ, vZ, vZ, vZ] : List Value).getD i undef), by as_aux_lemma => kernel_rfl, x1527, rfl, f1516, f1517, f1518, f1519, f1520, f1521, f1522, by omega, rfl, p1526, p1523, p1524, p1525⟩
        rintro n' _ h1528 ⟨k1, us, g4, rfl, x1529, m1530, f1531, f1532, f1533, f1534, f1535, f1536, f1537, i1538, i1539, p1540, p1541, p1542, p1543⟩
        by_cases c1544 : ((k1) : Int) < ((s.d.xs.length : Nat))
        · obtain ⟨i1545, v1546, e1547, l1548, g1549⟩ := list_at us (e := (k1)) (by omega) (by first | omega | (simp only [List.length_set, List.length_append, List.length_singleton]; omega))
          obtain ⟨b1550, o1551, q1552, a1553, k1554, u1555⟩ := p1540.store stepc_size g1549
          obtain ⟨b1556, o1557, q1558, a1559, k1560, u1561⟩ := p1540.store stepc_size g1549
          obtain ⟨h1562, e1563, p1564, c1565, z1566⟩ := u1561 (j := 1) (y := (StepM.mk v1546.key (IntKind.i64.wrap ((v1546.delta) + 1)))) (u := (vI (IntKind.i64.wrap ((v1546.delta) + 1)))) size2 rfl rfl (by decide) (by kernel_rfl)
          have c1567 : Chg (blk (Value.slice w1415 (s.d.xs.length) (c1416))) h1528 h1562 := c1565.weak fun q hq => by subst hq; exact q1558
          have z1568 : h.size ≤ h1528.size := x1529.size
          have x1569 : Ext h _ := (Chg.then (O := fun _ => False) (Chg.ext x1529) c1567 (fun b hb => .inr (o1440 b hb))).toExt'
          have f1570 := c1567.same _ _ f1531 (fun hb => n1431 _ hb rfl)
          have f1571 := c1567.same _ _ f1532 (fun hb => n1432 _ hb rfl)
          have f1572 := c1567.same _ _ f1533 (fun hb => n1433 _ hb rfl)
          have f1573 := c1567.same _ _ f1534 (fun hb => n1434 _ hb rfl)
          have f1574 := c1567.same _ _ f1535 (fun hb => n1435 _ hb rfl)
          have f1575 := c1567.same _ _ f1536 (fun hb => n1436 _ hb rfl)
          have f1576 := c1567.same _ _ f1537 (fun hb => n1455 _ hb rfl)
          have p1577 := p1541.keep fun b r hb q => c1567.same b r q ((fun b hb hb2 => n1437 b hb2 hb) b hb)
          have p1578 := p1542.keep fun b r hb q => c1567.same b r q ((fun b hb hb2 => n1438 b hb2 hb) b hb)
          have p1579 := p1543.keep fun b r hb q => c1567.same b r q ((fun b hb hb2 => n1439 b hb2 hb) b hb)
          refine wc_ev [evC 14 3 3 agg22 f1537, ltT 14 5 3 c1544, evC 16 2 3 agg22 f1537, evV 16 4 (vP b1550 o1551) (show indexAddrA Tryd.prog 22 (vL w1415 s.d.xs.length c1416) (vI k1) = some (vP b1550 o1551) from a1553 und22 size65 e1547), evV 16 6 (vI v1546.delta) (show loadT Tryd.prog h1528 2 (vP b1550 (o1551 + 1)) = some (vI v1546.delta) from k1554.cell (j := 1) agg2 rfl), evV 16 7 (vI (IntKind.i64.wrap ((v1546.delta) + 1))) (show binA Tryd.prog .add 2 (vI v1546.delta) (vI 1) = some (vI (IntKind.i64.wrap ((v1546.delta) + 1))) from add_wrap), evV 16 8 (vP b1556 o1557) (show indexAddrA Tryd.prog 22 (vL w1415 s.d.xs.length c1416) (vI k1) = some (vP b1556 o1557) from a1559 und22 size65 e1547), evH 16 10 undef h1562 (show (storeT Tryd.prog h1528 2 (vP b1556 (o1557 + 1)) (vI (IntKind.i64.wrap ((v1546.delta) + 1))) = some h1562 ∧ (undef : Value) = undef) from ⟨e1563, rfl⟩), evV 15 1 (vI ((k1) + 1)) (show binA Tryd.prog .add 3 (vI k1) (vI 1) = some (vI ((k1) + 1)) from add_i64 (by omega) (by omega))] .normal h1562 [(84, (vI k1)), (85, (vP b1441 0)), (86, (vP b1441 3)), (87, (vL w1415 s.d.xs.length c1416)), (88, (vI ((s.d.xs.length : Nat)))), (89, (vB true)), (92, (vP b1441 0)), (93, (vP b1441 3)), (94, (vL w1415 s.d.xs.length c1416)), (95, (vI k1)), (96, (vP b1550 o1551)), (97, (vP b1550 (o1551 + 1))), (98, (vI v1546.delta)), (99, (vI (IntKind.i64.wrap ((v1546.delta) + 1)))), (100, (vP b1556 o1557)), (101, (vP b1556 (o1557 + 1))), (90, (vI k1)), (91, (vI ((k1) + 1))), (15, (vI ((k1) + 1)))] ?_
          exact ⟨s.d.xs.length - (k1 + 1).toNat, by omega, ⟨k1 + 1, (us.set i1545 (StepM.mk v1546.key (IntKind.i64.wrap ((v1546.delta) + 1)))), (fun i => ([vU, vU, vU, vU, vU, vU, vU, vU, vU, vU, vU, vU, vU, vU, vU, vU, vU, vU, vU, vU, vU, vU, vU, vU, vU, vU, vU, vU, vU, vU, vU, vU, vU, vU, vU, vU, vU, vU, vU, vU, vU, vU, vU, vU, vU, vU, vU, vU, vU, vU, vU, vU, vU, vU, vU, vU, vU, vU, vU, vU, vU, vU, vU, vU, vU, vU, vU, vU, vU, vU, vU, vU, vU, vU, vU, vU, vU, vU, vU, vU, vU, vU, vU, vU, (vI k1), (vP b1441 0), (vP b1441 3), (vL w1415 s.d.xs.length c1416), (vI ((s.d.xs.length : Nat))), (vB true), (vI k1), (vI ((k1) + 1)), (vP b1441 0), (vP b1441 3), (vL w1415 s.d.xs.length c1416), (vI k1), (vP b1550 o1551), (vP b1550 (o1551 + 1)), (vI v1546.delta), (vI (IntKind.i64.wrap ((v1546.delta) + 1))), (vP b1556 o1557), (vP b1556 (o1557 + 1))] : List Value).getD i undef), by as_aux_lemma => kernel_rfl, x1569, rfl, f1570, f1571, f1572, f1573, f1574, f1575, f1576, by omega, by rw [List.length_set]; exact i1539, p1564, p1577, p1578, p1579⟩⟩
        · refine wc_ev [evC 14 3 3 agg22 f1537, ltF 14 5 3 c1544] (.exit 0) h1528 [(84, (vI k1)), (85, (vP b1441 0)), (86, (vP b1441 3)), (87, (vL w1415 s.d.xs.length c1416)), (88, (vI ((s.d.xs.length : Nat)))), (89, (vB false))] ?_
          refine wc_seq' (subc (bodyOf Tryd.prog 7) [1, 1, 1, 1, 1, 1, 1, 1, 1, 1, 1, 0]) (subc (bodyOf Tryd.prog 7) [1, 1, 1, 1, 1, 1, 1, 1, 1, 1, 1, 1]) (by kernel_rfl) ?_
          refine wc_seq' (subc (bodyOf Tryd.prog 7) [1, 1, 1, 1, 1, 1, 1, 1, 1, 1, 1, 0, 0]) (subc (bodyOf Tryd.prog 7) [1, 1, 1, 1, 1, 1, 1, 1, 1, 1, 1, 0, 1]) (by kernel_rfl) ?_
          refine wc_ev [] .normal h1528 [(16, (vI 0))] ?_
          refine wc_block' 2 (subc (bodyOf Tryd.prog 7) [1, 1, 1, 1, 1, 1, 1, 1, 1, 1, 1, 0, 1, 0]) (by kernel_rfl) ?_
          refine wc_once (subc (bodyOf Tryd.prog 7) [1, 1, 1, 1, 1, 1, 1, 1, 1, 1, 1, 0, 1, 0, 0]) (by kernel_rfl) ?_
          refine wc_ev [evC 18 3 3 agg22 f1532] (.exit 2) h1528 [(102, (vI 0)), (103, (vP b1116 0)), (104, (vP b1116 3)), (105, (vL none 0 0)), (106, (vI 0)), (107, (vB false))] ?_
          obtain ⟨_, hh1580, sn1581, rfl, x1582⟩ := refV_ok h1528 s _ _ (hl.keep fun b r _ q => x1529 b r q) (by omega) 
          have f1583 := x1582 _ _ f1536
          have p1584 := p1543.keep fun b r _ q => x1582 b r q
          have x1585 := x1529.trans x1582
          obtain ⟨_, hh1586, sn1587, rfl, x1588⟩ := same_ok hh1580 s _ _ (hl.keep fun b r _ q => x1585 b r q) (by omega) _ _ (OwnAt.lat p1584 stepc_size (tsz_of size65))
          have x1589 := x1585.trans x1588
          obtain ⟨_, hh1590, sn1591, rfl, x1592⟩ := works_ok hh1586 (x1589 _ _ hg0) (x1589 _ _ hg1)
          have x1593 := x1589.trans x1592
          refine wc_ev [evLw 21 0 agg27 size27 f1531, evLw 21 2 agg37 size37 f1536, evF 21 1 sn1581, evLw 99 0 agg37 size37 f1583, evF 21 3 sn1587, evF 21 5 sn1591] .ret hh1590 [(120, (vA #[(vS s.d.name), (vI s.d.rt), (vI s.d.dl), (vL sa s.d.xs.length cp), (vI s.st), (vI s.ix), (vB s.cn), (vI s.tr), (vI s.bg), (vI s.er)])), (122, (vA #[(vS s.d.name), (vI s.d.rt), (vI s.d.dl), (vL w1349 s.d.xs.length c1350), (vI s.st), (vI s.ix), (vB s.cn), (vI s.tr), (vI s.bg), (vI s.er)])), (121, (vA #[(vS s.d.name), (vI s.d.rt), (vI s.d.dl), (vL sa s.d.xs.length cp), (vI s.st), (vI s.ix), (vB s.cn), (vI s.tr), (vI s.bg), (vI s.er)])), (123, (vB true)), (124, (vB true)), (125, (vB true)), (126, (vB true)), (4, (vB true))] ?_
          exact end_ev [] (vB true) (hK _ _ (⟨rfl, x1593⟩))
      · obtain ⟨b1594, eb1595⟩ : ∃ zq, zq = h1166.size := ⟨_, rfl⟩
        obtain ⟨h1596, e1597⟩ : ∃ zq, zq = h1166.push (.cells #[(vS .empty), (vI 0), (vI 0), (Value.slice none 0 0), (vI 0), (vI 0), (vB false), (vI 0), (vI 0), (vI 0)] 41 (0, 0)) := ⟨_, rfl⟩
        have f1598 := push_new e1597
        rw [← eb1595] at f1598
        have n1599 : b1594 ≠ b1 := by have := row_lt f1171; omega
        have n1600 : b1594 ≠ b1116 := by have := row_lt f1172; omega
        have n1601 : b1594 ≠ b1140 := by have := row_lt f1173; omega
        have x1602 : Ext h1166 h1596 := by rw [e1597]; exact Ext.push _ _
        have o1603 : h.size ≤ b1594 := by have := x1174.size; omega
        have f1604 := x1602 _ _ f1171
        have f1605 := x1602 _ _ f1172
        have f1606 := x1602 _ _ f1173
        have x1607 := x1174.trans x1602
        obtain ⟨h1608, e1609⟩ : ∃ zq, zq = h1596.setIfInBounds b1594 (.cells #[(vS .empty), (vI 0), (vI 0), (Value.slice none 0 0), (vI 0), (vI 0), (vB false), (vI 0), (vI 0), (vI 0)] 41 (0, 0)) := ⟨_, rfl⟩
        have f1610 := set_same e1609 f1598
        have f1611 := set_other e1609 f1604 n1599
        have f1612 := set_other e1609 f1605 n1600
        have f1613 := set_other e1609 f1606 n1601
        have x1614 := Ext.setNew x1607 e1609 o1603
        refine wc_ev [evLw 5 0 agg27 size27 f1155, evF 5 1 sn1159, evFe 5 2 (p1168 c1175) s1167, evA 5 6 eb1595 e1597, evUw 5 7 size41 f1598 e1609] .normal h1608 [(37, (vA #[(vS s.d.name), (vI s.d.rt), (vI s.d.dl), (vL sa s.d.xs.length cp), (vI s.st), (vI s.ix), (vB s.cn), (vI s.tr), (vI s.bg), (vI s.er)])), (38, (vA #[(vS s.d.name), (vI s.d.rt), (vI s.d.dl), (vL sa s.d.xs.length cp), (vI s.st), (vI s.ix), (vB s.cn), (vI s.tr), (vI s.bg), (vI s.er)])), (39, (vT #[(vA #[(vS .empty), (vI 0), (vI 0), (vL none 0 0), (vI 0), (vI 0), (vB false), (vI 0), (vI 0), (vI 0)]), (vI (canE s))])), (36, (vT #[(vA #[(vS .empty), (vI 0), (vI 0), (vL none 0 0), (vI 0), (vI 0), (vB false), (vI 0), (vI 0), (vI 0)]), (vI (canE s))])), (40, (vA #[(vS .empty), (vI 0), (vI 0), (vL none 0 0), (vI 0), (vI 0), (vB false), (vI 0), (vI 0), (vI 0)])), (41, (vI (canE s))), (9, (vP b1594 0)), (10, (vI (canE s)))] ?_
        refine wc_act { tmps := #[(vA #[(vS s.d.name), (vI s.d.rt), (vI s.d.dl), (vL sa s.d.xs.length cp), (vI s.st), (vI s.ix), (vB s.cn), (vI s.tr), (vI s.bg), (vI s.er)]), (vI now), (vP b1 0), vZ, (vB false), (vP b1116 0), (vI (staE s.d (now))), (vP b1140 0), (vI (staE s.d (now))), (vP b1594 0), (vI (canE s)), vZ, vZ, vZ, vZ, vZ, vZ, (vP b1 0), (vA #[(vS s.d.name), (vI s.d.rt), (vI s.d.dl), (vL sa s.d.xs.length cp)]), (vB true), (vB false), vZ, (vT #[(vA #[(vS .empty), (vI 0), (vI 0), (vL none 0 0), (vI 0), (vI 0), (vB false), (vI 0), (vI 0), (vI 0)]), (vI (staE s.d (now)))]), (vP b1 0), (vA #[(vS s.d.name), (vI s.d.rt), (vI s.d.dl), (vL sa s.d.xs.length cp)]), (vI now), (vT #[(vA #[(vS .empty), (vI 0), (vI 0), (vL none 0 0), (vI 0), (vI 0), (vB false), (vI 0), (vI 0), (vI 0)]), (vI (staE s.d (now)))]), (vA #[(vS .empty), (vI 0), (vI 0), (vL none 0 0), (vI 0), (vI 0), (vB false), (vI 0), (vI 0), (vI 0)]), (vI (staE s.d (now))), (vT #[(vA #[(vS .empty), (vI 0), (vI 0), (vL none 0 0), (vI 0), (vI 0), (vB false), (vI 0), (vI 0), (vI 0)]), (vI (staE s.d (now)))]), (vP b1 0), (vA #[(vS s.d.name), (vI s.d.rt), (vI s.d.dl), (vL sa s.d.xs.length cp)]), (vI now), (vT #[(vA #[(vS .empty), (vI 0), (vI 0), (vL none 0 0), (vI 0), (vI 0), (vB false), (vI 0), (vI 0), (vI 0)]), (vI (staE s.d (now)))]), (vA #[(vS .empty), (vI 0), (vI 0), (vL none 0 0), (vI 0), (vI 0), (vB false), (vI 0), (vI 0), (vI 0)]), (vI (staE s.d (now))), (vT #[(vA #[(vS .empty), (vI 0), (vI 0), (vL none 0 0), (vI 0), (vI 0), (vB false), (vI 0), (vI 0), (vI 0)]), (vI (canE s))]), (vA #[(vS s.d.name), (vI s.d.rt), (vI s.d.dl), (vL sa s.d.xs.length cp), (vI s.st), (vI s.ix), (vB s.cn), (vI s.tr), (vI s.bg), (vI s.er)]), (vA #[(vS s.d.name), (vI s.d.rt), (vI s.d.dl), (vL sa s.d.xs.length cp), (vI s.st), (vI s.ix), (vB s.cn), (vI s.tr), (vI s.bg), (vI s.er)]), (vT #[(vA #[(vS .empty), (vI 0), (vI 0), (vL none 0 0), (vI 0), (vI 0), (vB false), (vI 0), (vI 0), (vI 0)]), (vI (canE s))]), (vA #[(vS .empty), (vI 0), (vI 0), (vL none 0 0), (vI 0), (vI 0), (vB false), (vI 0), (vI 0), (vI 0)]), (vI (canE s)), vZ, vZ, vZ, vZ, vZ, vZ, vZ, vZ, vZ, vZ, vZ, vZ, vZ, vZ, vZ, vZ, vZ, vZ, vZ, vZ, vZ, vZ, vZ, vZ, vZ, vZ, vZ, vZ, vZ, vZ, vZ, vZ, vZ, vZ, vZ, vZ, vZ, vZ, vZ, vZ, vZ, vZ, vZ, vZ, vZ, vZ, vZ, vZ, vZ, vZ, vZ, vZ, vZ, vZ, vZ, vZ, vZ, vZ, vZ, vZ, vZ, vZ, vZ, vZ, vZ, vZ, vZ, vZ, vZ, vZ, vZ, vZ, vZ, vZ, vZ, vZ, vZ, vZ, vZ, vZ, vZ, vZ, vZ, vZ, vZ], defers := [] } (by as_aux_lemma => kernel_rfl) ?_
        refine wc_seq' (subc (bodyOf Tryd.prog 7) [1, 1, 1, 1, 1, 0]) (subc (bodyOf Tryd.prog 7) [1, 1, 1, 1, 1, 1]) (by kernel_rfl) ?_
        obtain ⟨_, hh1615, sn1616, rfl, x1617⟩ := refV_ok h1608 s _ _ (hl.keep fun b r _ q => x1614 b r q) (by omega) 
        have f1618 := x1617 _ _ f1611
        have f1619 := x1617 _ _ f1612
        have f1620 := x1617 _ _ f1613
        have f1621 := x1617 _ _ f1610
        have x1622 := x1614.trans x1617
        obtain ⟨v1623, h1624, s1625, p1626, p1627, x1628⟩ := rcancel_ok hh1615 s _ _ (hl.keep fun b r _ q => x1622 b r q) (by omega) hnm hks
        have f1629 := x1628 _ _ f1618
        have f1630 := x1628 _ _ f1619
        have f1631 := x1628 _ _ f1620
        have f1632 := x1628 _ _ f1621
        have x1633 := x1622.trans x1628
        obtain ⟨b1634, eb1635⟩ : ∃ zq, zq = h1624.size := ⟨_, rfl⟩
        obtain ⟨h1636, e1637⟩ : ∃ zq, zq = h1624.push (.cells #[(vS .empty), (vI 0), (vI 0), (Value.slice none 0 0), (vI 0), (vI 0), (vB false), (vI 0), (vI 0), (vI 0)] 37 (0, 0)) := ⟨_, rfl⟩
        have f1638 := push_new e1637
        rw [← eb1635] at f1638
        have n1639 : b1634 ≠ b1 := by have := row_lt f1629; omega
        have n1640 : b1634 ≠ b1116 := by have := row_lt f1630; omega
        have n1641 : b1634 ≠ b1140 := by have := row_lt f1631; omega
        have n1642 : b1634 ≠ b1594 := by have := row_lt f1632; omega
        have x1643 : Ext h1624 h1636 := by rw [e1637]; exact Ext.push _ _
        have o1644 : h.size ≤ b1634 := by have := x1633.size; omega
        have f1645 := x1643 _ _ f1629
        have f1646 := x1643 _ _ f1630
        have f1647 := x1643 _ _ f1631
        have f1648 := x1643 _ _ f1632
        have x1649 := x1633.trans x1643
        obtain ⟨h1650, e1651⟩ : ∃ zq, zq = h1636.setIfInBounds b1634 (.cells #[(vS .empty), (vI 0), (vI 0), (Value.slice none 0 0), (vI 0), (vI 0), (vB false), (vI 0), (vI 0), (vI 0)] 37 (0, 0)) := ⟨_, rfl⟩
        have f1652 := set_same e1651 f1638
        have f1653 := set_other e1651 f1645 n1639
        have f1654 := set_other e1651 f1646 n1640
        have f1655 := set_other e1651 f1647 n1641
        have f1656 := set_other e1651 f1648 n1642
        have x1657 := Ext.setNew x1649 e1651 o1644
        refine wc_ev [evLw 6 0 agg27 size27 f1611, evF 6 1 sn1616, evFe 6 2 (p1626 c1175) s1625, evA 6 6 eb1635 e1637, evUw 6 7 size37 f1638 e1651] .normal h1650 [(43, (vA #[(vS s.d.name), (vI s.d.rt), (vI s.d.dl), (vL sa s.d.xs.length cp), (vI s.st), (vI s.ix), (vB s.cn), (vI s.tr), (vI s.bg), (vI s.er)])), (44, (vA #[(vS s.d.name), (vI s.d.rt), (vI s.d.dl), (vL sa s.d.xs.length cp), (vI s.st), (vI s.ix), (vB s.cn), (vI s.tr), (vI s.bg), (vI s.er)])), (45, (vT #[(vA #[(vS .empty), (vI 0), (vI 0), (vL none 0 0), (vI 0), (vI 0), (vB false), (vI 0), (vI 0), (vI 0)]), (vI (canE s))])), (42, (vT #[(vA #[(vS .empty), (vI 0), (vI 0), (vL none 0 0), (vI 0), (vI 0), (vB false), (vI 0), (vI 0), (vI 0)]), (vI (canE s))])), (46, (vA #[(vS .empty), (vI 0), (vI 0), (vL none 0 0), (vI 0), (vI 0), (vB false), (vI 0), (vI 0), (vI 0)])), (47, (vI (canE s))), (11, (vP b1634 0)), (12, (vI (canE s)))] ?_
        refine wc_seq' (subc (bodyOf Tryd.prog 7) [1, 1, 1, 1, 1, 1, 0]) (subc (bodyOf Tryd.prog 7) [1, 1, 1, 1, 1, 1, 1]) (by kernel_rfl) ?_
        obtain ⟨_, hh1658, sn1659, rfl, x1660⟩ := backV_ok h1650 (SagaM.mk (DefM.mk .empty 0 0 ([] : List StepM)) 0 0 false 0 0 0) _ _ lat_none (by decide) 
        have f1661 := x1660 _ _ f1653
        have f1662 := x1660 _ _ f1654
        have f1663 := x1660 _ _ f1655
        have f1664 := x1660 _ _ f1656
        have f1665 := x1660 _ _ f1652
        have x1666 := x1657.trans x1660
        obtain ⟨_, hh1667, sn1668, rfl, x1669⟩ := refV_ok hh1658 (SagaM.mk (DefM.mk .empty 0 0 ([] : List StepM)) 0 0 false 0 0 0) _ _ lat_none (by decide) 
        have f1670 := x1669 _ _ f1661
        have f1671 := x1669 _ _ f1662
        have f1672 := x1669 _ _ f1663
        have f1673 := x1669 _ _ f1664
        have f1674 := x1669 _ _ f1665
        have x1675 := x1666.trans x1669
        obtain ⟨_, hh1676, sn1677, rfl, x1678⟩ := same_ok hh1667 (SagaM.mk (DefM.mk .empty 0 0 ([] : List StepM)) 0 0 false 0 0 0) _ _ lat_none (by decide) _ _ lat_none
        have f1679 := x1678 _ _ f1670
        have f1680 := x1678 _ _ f1671
        have f1681 := x1678 _ _ f1672
        have f1682 := x1678 _ _ f1673
        have f1683 := x1678 _ _ f1674
        have x1684 := x1675.trans x1678
        obtain ⟨_, hh1685, sn1686, rfl, x1687⟩ := backV_ok hh1676 (SagaM.mk (DefM.mk .empty 0 0 ([] : List StepM)) 0 0 false 0 0 0) _ _ lat_none (by decide) 
        have f1688 := x1687 _ _ f1679
        have f1689 := x1687 _ _ f1680
        have f1690 := x1687 _ _ f1681
        have f1691 := x1687 _ _ f1682
        have f1692 := x1687 _ _ f1683
        have x1693 := x1684.trans x1687
        obtain ⟨_, hh1694, sn1695, rfl, x1696⟩ := refV_ok hh1685 (SagaM.mk (DefM.mk .empty 0 0 ([] : List StepM)) 0 0 false 0 0 0) _ _ lat_none (by decide) 
        have f1697 := x1696 _ _ f1688
        have f1698 := x1696 _ _ f1689
        have f1699 := x1696 _ _ f1690
        have f1700 := x1696 _ _ f1691
        have f1701 := x1696 _ _ f1692
        have x1702 := x1693.trans x1696
        obtain ⟨_, hh1703, sn1704, rfl, x1705⟩ := same_ok hh1694 (SagaM.mk (DefM.mk .empty 0 0 ([] : List StepM)) 0 0 false 0 0 0) _ _ lat_none (by decide) _ _ lat_none
        have f1706 := x1705 _ _ f1697
        have f1707 := x1705 _ _ f1698
        have f1708 := x1705 _ _ f1699
        have f1709 := x1705 _ _ f1700
        have f1710 := x1705 _ _ f1701
        have x1711 := x1702.trans x1705
        refine wc_ev [evLw 7 0 agg41 size41 f1654, evLw 7 3 agg37 size37 f1655, evF 7 1 sn1659, evLw 99 0 agg37 size37 f1663, evF 7 2 sn1668, evLw 99 0 agg37 size37 f1672, evF 7 4 sn1677, neF 7 9 25 (Eq.refl ((staE s.d (now)) : Int)), evLw 7 12 agg41 size41 f1682, evLw 7 15 agg37 size37 f1683, evF 7 13 sn1686, evLw 99 0 agg37 size37 f1692, evF 7 14 sn1695, evLw 99 0 agg37 size37 f1701, evF 7 16 sn1704, neF 7 22 25 (Eq.refl ((canE s) : Int))] .normal hh1703 [(48, (vA #[(vS .empty), (vI 0), (vI 0), (vL none 0 0), (vI 0), (vI 0), (vB false), (vI 0), (vI 0), (vI 0)])), (51, (vA #[(vS .empty), (vI 0), (vI 0), (vL none 0 0), (vI 0), (vI 0), (vB false), (vI 0), (vI 0), (vI 0)])), (49, (vA #[(vS .empty), (vI 0), (vI 0), (vL none 0 0), (vI 0), (vI 0), (vB false), (vI 0), (vI 0), (vI 0)])), (50, (vA #[(vS .empty), (vI 0), (vI 0), (vL none 0 0), (vI 0), (vI 0), (vB false), (vI 0), (vI 0), (vI 0)])), (52, (vB true)), (53, (vB false)), (54, (vB false)), (55, (vI (staE s.d (now)))), (56, (vI (staE s.d (now)))), (57, (vB false)), (58, (vB false)), (59, (vB false)), (60, (vA #[(vS .empty), (vI 0), (vI 0), (vL none 0 0), (vI 0), (vI 0), (vB false), (vI 0), (vI 0), (vI 0)])), (63, (vA #[(vS .empty), (vI 0), (vI 0), (vL none 0 0), (vI 0), (vI 0), (vB false), (vI 0), (vI 0), (vI 0)])), (61, (vA #[(vS .empty), (vI 0), (vI 0), (vL none 0 0), (vI 0), (vI 0), (vB false), (vI 0), (vI 0), (vI 0)])), (62, (vA #[(vS .empty), (vI 0), (vI 0), (vL none 0 0), (vI 0), (vI 0), (vB false), (vI 0), (vI 0), (vI 0)])), (64, (vB true)), (65, (vB false)), (66, (vB false)), (67, (vB false)), (68, (vI (canE s))), (69, (vI (canE s))), (70, (vB false)), (71, (vB false))] ?_
        refine wc_act { tmps := #[(vA #[(vS s.d.name), (vI s.d.rt), (vI s.d.dl), (vL sa s.d.xs.length cp), (vI s.st), (vI s.ix), (vB s.cn), (vI s.tr), (vI s.bg), (vI s.er)]), (vI now), (vP b1 0), vZ, (vB false), (vP b1116 0), (vI (staE s.d (now))), (vP b1140 0), (vI (staE s.d (now))), (vP b1594 0), (vI (canE s)), (vP b1634 0), (vI (canE s)), vZ, vZ, vZ, vZ, (vP b1 0), (vA #[(vS s.d.name), (vI s.d.rt), (vI s.d.dl), (vL sa s.d.xs.length cp)]), (vB true), (vB false), vZ, (vT #[(vA #[(vS .empty), (vI 0), (vI 0), (vL none 0 0), (vI 0), (vI 0), (vB false), (vI 0), (vI 0), (vI 0)]), (vI (staE s.d (now)))]), (vP b1 0), (vA #[(vS s.d.name), (vI s.d.rt), (vI s.d.dl), (vL sa s.d.xs.length cp)]), (vI now), (vT #[(vA #[(vS .empty), (vI 0), (vI 0), (vL none 0 0), (vI 0), (vI 0), (vB false), (vI 0), (vI 0), (vI 0)]), (vI (staE s.d (now)))]), (vA #[(vS .empty), (vI 0), (vI 0), (vL none 0 0), (vI 0), (vI 0), (vB false), (vI 0), (vI 0), (vI 0)]), (vI (staE s.d (now))), (vT #[(vA #[(vS .empty), (vI 0), (vI 0), (vL none 0 0), (vI 0), (vI 0), (vB false), (vI 0), (vI 0), (vI 0)]), (vI (staE s.d (now)))]), (vP b1 0), (vA #[(vS s.d.name), (vI s.d.rt), (vI s.d.dl), (vL sa s.d.xs.length cp)]), (vI now), (vT #[(vA #[(vS .empty), (vI 0), (vI 0), (vL none 0 0), (vI 0), (vI 0), (vB false), (vI 0), (vI 0), (vI 0)]), (vI (staE s.d (now)))]), (vA #[(vS .empty), (vI 0), (vI 0), (vL none 0 0), (vI 0), (vI 0), (vB false), (vI 0), (vI 0), (vI 0)]), (vI (staE s.d (now))), (vT #[(vA #[(vS .empty), (vI 0), (vI 0), (vL none 0 0), (vI 0), (vI 0), (vB false), (vI 0), (vI 0), (vI 0)]), (vI (canE s))]), (vA #[(vS s.d.name), (vI s.d.rt), (vI s.d.dl), (vL sa s.d.xs.length cp), (vI s.st), (vI s.ix), (vB s.cn), (vI s.tr), (vI s.bg), (vI s.er)]), (vA #[(vS s.d.name), (vI s.d.rt), (vI s.d.dl), (vL sa s.d.xs.length cp), (vI s.st), (vI s.ix), (vB s.cn), (vI s.tr), (vI s.bg), (vI s.er)]), (vT #[(vA #[(vS .empty), (vI 0), (vI 0), (vL none 0 0), (vI 0), (vI 0), (vB false), (vI 0), (vI 0), (vI 0)]), (vI (canE s))]), (vA #[(vS .empty), (vI 0), (vI 0), (vL none 0 0), (vI 0), (vI 0), (vB false), (vI 0), (vI 0), (vI 0)]), (vI (canE s)), (vT #[(vA #[(vS .empty), (vI 0), (vI 0), (vL none 0 0), (vI 0), (vI 0), (vB false), (vI 0), (vI 0), (vI 0)]), (vI (canE s))]), (vA #[(vS s.d.name), (vI s.d.rt), (vI s.d.dl), (vL sa s.d.xs.length cp), (vI s.st), (vI s.ix), (vB s.cn), (vI s.tr), (vI s.bg), (vI s.er)]), (vA #[(vS s.d.name), (vI s.d.rt), (vI s.d.dl), (vL sa s.d.xs.length cp), (vI s.st), (vI s.ix), (vB s.cn), (vI s.tr), (vI s.bg), (vI s.er)]), (vT #[(vA #[(vS .empty), (vI 0), (vI 0), (vL none 0 0), (vI 0), (vI 0), (vB false), (vI 0), (vI 0), (vI 0)]), (vI (canE s))]), (vA #[(vS .empty), (vI 0), (vI 0), (vL none 0 0), (vI 0), (vI 0), (vB false), (vI 0), (vI 0), (vI 0)]), (vI (canE s)), (vA #[(vS .empty), (vI 0), (vI 0), (vL none 0 0), (vI 0), (vI 0), (vB false), (vI 0), (vI 0), (vI 0)]), (vA #[(vS .empty), (vI 0), (vI 0), (vL none 0 0), (vI 0), (vI 0), (vB false), (vI 0), (vI 0), (vI 0)]), (vA #[(vS .empty), (vI 0), (vI 0), (vL none 0 0), (vI 0), (vI 0), (vB false), (vI 0), (vI 0), (vI 0)]), (vA #[(vS .empty), (vI 0), (vI 0), (vL none 0 0), (vI 0), (vI 0), (vB false), (vI 0), (vI 0), (vI 0)]), (vB true), (vB false), (vB false), (vI (staE s.d (now))), (vI (staE s.d (now))), (vB false), (vB false), (vB false), (vA #[(vS .empty), (vI 0), (vI 0), (vL none 0 0), (vI 0), (vI 0), (vB false), (vI 0), (vI 0), (vI 0)]), (vA #[(vS .empty), (vI 0), (vI 0), (vL none 0 0), (vI 0), (vI 0), (vB false), (vI 0), (vI 0), (vI 0)]), (vA #[(vS .empty), (vI 0), (vI 0), (vL none 0 0), (vI 0), (vI 0), (vB false), (vI 0), (vI 0), (vI 0)]), (vA #[(vS .empty), (vI 0), (vI 0), (vL none 0 0), (vI 0), (vI 0), (vB false), (vI 0), (vI 0), (vI 0)]), (vB true), (vB false), (vB false), (vB false), (vI (canE s)), (vI (canE s)), (vB false), (vB false), vZ, vZ, vZ, vZ, vZ, vZ, vZ, vZ, vZ, vZ, vZ, vZ, vZ, vZ, vZ, vZ, vZ, vZ, vZ, vZ, vZ, vZ, vZ, vZ, vZ, vZ, vZ, vZ, vZ, vZ, vZ, vZ, vZ, vZ, vZ, vZ, vZ, vZ, vZ, vZ, vZ, vZ, vZ, vZ, vZ, vZ, vZ, vZ, vZ, vZ, vZ, vZ, vZ, vZ, vZ], defers := [] } (by as_aux_lemma => kernel_rfl) ?_
        refine wc_seq' (subc (bodyOf Tryd.prog 7) [1, 1, 1, 1, 1, 1, 1, 0]) (subc (bodyOf Tryd.prog 7) [1, 1, 1, 1, 1, 1, 1, 1]) (by kernel_rfl) ?_
        obtain ⟨_, hh1712, sn1713, rfl, x1714⟩ := refV_ok hh1703 s _ _ (hl.keep fun b r _ q => x1711 b r q) (by omega) 
        have f1715 := x1714 _ _ f1706
        have f1716 := x1714 _ _ f1707
        have f1717 := x1714 _ _ f1708
        have f1718 := x1714 _ _ f1709
        have f1719 := x1714 _ _ f1710
        have x1720 := x1711.trans x1714
        obtain ⟨_, h1721, s1722, w1723, c1724, rfl, o1725, x1726, b1727⟩ := rcopys_ok hh1712 s _ _ (hl.keep fun b r _ q => x1720 b r q) (by omega)
        have f1728 := x1726 _ _ f1715
        have f1729 := x1726 _ _ f1716
        have f1730 := x1726 _ _ f1717
        have f1731 := x1726 _ _ f1718
        have f1732 := x1726 _ _ f1719
        have x1733 := x1720.trans x1726
        have z1734 : h.size ≤ hh1712.size := x1720.size
        have o1735 : ∀ zz, blk (Value.slice w1723 (s.d.xs.length) (c1724)) zz → h.size ≤ zz := fun zz hz => by have := b1727 zz hz; omega
        obtain ⟨b1736, eb1737⟩ : ∃ zq, zq = h1721.size := ⟨_, rfl⟩
        obtain ⟨h1738, e1739⟩ : ∃ zq, zq = h1721.push (.cells #[(vS .empty), (vI 0), (vI 0), (Value.slice none 0 0), (vI 0), (vI 0), (vB false), (vI 0), (vI 0), (vI 0)] 37 (0, 0)) := ⟨_, rfl⟩
        have f1740 := push_new e1739
        rw [← eb1737] at f1740
        have n1741 : b1736 ≠ b1 := by have := row_lt f1728; omega
        have n1742 : b1736 ≠ b1116 := by have := row_lt f1729; omega
        have n1743 : b1736 ≠ b1140 := by have := row_lt f1730; omega
        have n1744 : b1736 ≠ b1594 := by have := row_lt f1731; omega
        have n1745 : b1736 ≠ b1634 := by have := row_lt f1732; omega
        have n1746 : ∀ zz, (blk (Value.slice w1723 (s.d.xs.length) (c1724))) zz → ¬ zz = b1736 := fun zz hz ez => by have := o1725.blk_lt hz; omega
        have x1747 : Ext h1721 h1738 := by rw [e1739]; exact Ext.push _ _
        have o1748 : h.size ≤ b1736 := by have := x1733.size; omega
        have f1749 := x1747 _ _ f1728
        have f1750 := x1747 _ _ f1729
        have f1751 := x1747 _ _ f1730
        have f1752 := x1747 _ _ f1731
        have f1753 := x1747 _ _ f1732
        have p1754 := o1725.keep fun b r _ q => x1747 b r q
        have x1755 := x1733.trans x1747
        obtain ⟨h1756, e1757⟩ : ∃ zq, zq = h1738.setIfInBounds b1736 (.cells #[(vS s.d.name), (vI (s.d.rt)), (vI (s.d.dl)), (Value.slice w1723 (s.d.xs.length) (c1724)), (vI (s.st)), (vI (s.ix)), (vB s.cn), (vI (s.tr)), (vI (s.bg)), (vI (s.er))] 37 (0, 0)) := ⟨_, rfl⟩
        have f1758 := set_same e1757 f1740
        have f1759 := set_other e1757 f1749 n1741
        have f1760 := set_other e1757 f1750 n1742
        have f1761 := set_other e1757 f1751 n1743
        have f1762 := set_other e1757 f1752 n1744
        have f1763 := set_other e1757 f1753 n1745
        have p1764 := p1754.keep fun b r hb q => (Chg.set e1757).same b r q (n1746 b hb)
        have x1765 := Ext.setNew x1755 e1757 o1748
        refine wc_ev [evLw 9 0 agg27 size27 f1706, evF 9 1 sn1713, evF 9 2 s1722, evA 9 3 eb1737 e1739, evUw 9 4 size37 f1740 e1757] .normal h1756 [(72, (vA #[(vS s.d.name), (vI s.d.rt), (vI s.d.dl), (vL sa s.d.xs.length cp), (vI s.st), (vI s.ix), (vB s.cn), (vI s.tr), (vI s.bg), (vI s.er)])), (73, (vA #[(vS s.d.name), (vI s.d.rt), (vI s.d.dl), (vL sa s.d.xs.length cp), (vI s.st), (vI s.ix), (vB s.cn), (vI s.tr), (vI s.bg), (vI s.er)])), (74, (vA #[(vS s.d.name), (vI s.d.rt), (vI s.d.dl), (vL w1723 s.d.xs.length c1724), (vI s.st), (vI s.ix), (vB s.cn), (vI s.tr), (vI s.bg), (vI s.er)])), (13, (vP b1736 0))] ?_
        refine wc_seq' (subc (bodyOf Tryd.prog 7) [1, 1, 1, 1, 1, 1, 1, 1, 0]) (subc (bodyOf Tryd.prog 7) [1, 1, 1, 1, 1, 1, 1, 1, 1]) (by kernel_rfl) ?_
        obtain ⟨_, hh1766, sn1767, rfl, x1768⟩ := givenV_ok h1756 s _ _ (hl.keep fun b r _ q => x1765 b r q) (by omega) 
        have f1769 := x1768 _ _ f1759
        have f1770 := x1768 _ _ f1760
        have f1771 := x1768 _ _ f1761
        have f1772 := x1768 _ _ f1762
        have f1773 := x1768 _ _ f1763
        have f1774 := x1768 _ _ f1758
        have p1775 := p1764.keep fun b r _ q => x1768 b r q
        have x1776 := x1765.trans x1768
        obtain ⟨_, h1777, s1778, w1779, c1780, rfl, o1781, x1782, b1783⟩ := copys_ok hh1766 s _ _ (hl.keep fun b r _ q => x1776 b r q) (by omega)
        have f1784 := x1782 _ _ f1769
        have f1785 := x1782 _ _ f1770
        have f1786 := x1782 _ _ f1771
        have f1787 := x1782 _ _ f1772
        have f1788 := x1782 _ _ f1773
        have f1789 := x1782 _ _ f1774
        have p1790 := p1775.keep fun b r _ q => x1782 b r q
        have x1791 := x1776.trans x1782
        have z1792 : h.size ≤ hh1766.size := x1776.size
        have n1793 : ∀ zz, blk (Value.slice w1779 (s.d.xs.length) (c1780)) zz → ¬ zz = b1 := fun zz hz ez => by have := b1783 zz hz; have := row_lt f1769; omega
        have n1794 : ∀ zz, blk (Value.slice w1779 (s.d.xs.length) (c1780)) zz → ¬ zz = b1116 := fun zz hz ez => by have := b1783 zz hz; have := row_lt f1770; omega
        have n1795 : ∀ zz, blk (Value.slice w1779 (s.d.xs.length) (c1780)) zz → ¬ zz = b1140 := fun zz hz ez => by have := b1783 zz hz; have := row_lt f1771; omega
        have n1796 : ∀ zz, blk (Value.slice w1779 (s.d.xs.length) (c1780)) zz → ¬ zz = b1594 := fun zz hz ez => by have := b1783 zz hz; have := row_lt f1772; omega
        have n1797 : ∀ zz, blk (Value.slice w1779 (s.d.xs.length) (c1780)) zz → ¬ zz = b1634 := fun zz hz ez => by have := b1783 zz hz; have := row_lt f1773; omega
        have n1798 : ∀ zz, blk (Value.slice w1779 (s.d.xs.length) (c1780)) zz → ¬ zz = b1736 := fun zz hz ez => by have := b1783 zz hz; have := row_lt f1774; omega
        have n1799 : ∀ zz, blk (Value.slice w1779 (s.d.xs.length) (c1780)) zz → ¬ (blk (Value.slice w1723 (s.d.xs.length) (c1724))) zz := fun zz hz ez => by have := b1783 zz hz; have := p1775.blk_lt ez; omega
        have o1800 : ∀ zz, blk (Value.slice w1779 (s.d.xs.length) (c1780)) zz → h.size ≤ zz := fun zz hz => by have := b1783 zz hz; omega
        obtain ⟨b1801, eb1802⟩ : ∃ zq, zq = h1777.size := ⟨_, rfl⟩
        obtain ⟨h1803, e1804⟩ : ∃ zq, zq = h1777.push (.cells #[(vS .empty), (vI 0), (vI 0), (Value.slice none 0 0), (vI 0), (vI 0), (vB false), (vI 0), (vI 0), (vI 0)] 41 (0, 0)) := ⟨_, rfl⟩
        have f1805 := push_new e1804
        rw [← eb1802] at f1805
        have n1806 : b1801 ≠ b1 := by have := row_lt f1784; omega
        have n1807 : b1801 ≠ b1116 := by have := row_lt f1785; omega
        have n1808 : b1801 ≠ b1140 := by have := row_lt f1786; omega
        have n1809 : b1801 ≠ b1594 := by have := row_lt f1787; omega
        have n1810 : b1801 ≠ b1634 := by have := row_lt f1788; omega
        have n1811 : b1801 ≠ b1736 := by have := row_lt f1789; omega
        have n1812 : ∀ zz, (blk (Value.slice w1723 (s.d.xs.length) (c1724))) zz → ¬ zz = b1801 := fun zz hz ez => by have := p1790.blk_lt hz; omega
        have n1813 : ∀ zz, (blk (Value.slice w1779 (s.d.xs.length) (c1780))) zz → ¬ zz = b1801 := fun zz hz ez => by have := o1781.blk_lt hz; omega
        have x1814 : Ext h1777 h1803 := by rw [e1804]; exact Ext.push _ _
        have o1815 : h.size ≤ b1801 := by have := x1791.size; omega
        have f1816 := x1814 _ _ f1784
        have f1817 := x1814 _ _ f1785
        have f1818 := x1814 _ _ f1786
        have f1819 := x1814 _ _ f1787
        have f1820 := x1814 _ _ f1788
        have f1821 := x1814 _ _ f1789
        have p1822 := p1790.keep fun b r _ q => x1814 b r q
        have p1823 := o1781.keep fun b r _ q => x1814 b r q
        have x1824 := x1791.trans x1814
        obtain ⟨h1825, e1826⟩ : ∃ zq, zq = h1803.setIfInBounds b1801 (.cells #[(vS s.d.name), (vI (s.d.rt)), (vI (s.d.dl)), (Value.slice w1779 (s.d.xs.length) (c1780)), (vI (s.st)), (vI (s.ix)), (vB s.cn), (vI (s.tr)), (vI (s.bg)), (vI (s.er))] 41 (0, 0)) := ⟨_, rfl⟩
        have f1827 := set_same e1826 f1805
        have f1828 := set_other e1826 f1816 n1806
        have f1829 := set_other e1826 f1817 n1807
        have f1830 := set_other e1826 f1818 n1808
        have f1831 := set_other e1826 f1819 n1809
        have f1832 := set_other e1826 f1820 n1810
        have f1833 := set_other e1826 f1821 n1811
        have p1834 := p1822.keep fun b r hb q => (Chg.set e1826).same b r q (n1812 b hb)
        have p1835 := p1823.keep fun b r hb q => (Chg.set e1826).same b r q (n1813 b hb)
        have x1836 := Ext.setNew x1824 e1826 o1815
        refine wc_ev [evLw 10 0 agg27 size27 f1759, evF 10 1 sn1767, evF 10 2 s1778, evA 10 3 eb1802 e1804, evUw 10 4 size41 f1805 e1826] .normal h1825 [(75, (vA #[(vS s.d.name), (vI s.d.rt), (vI s.d.dl), (vL sa s.d.xs.length cp), (vI s.st), (vI s.ix), (vB s.cn), (vI s.tr), (vI s.bg), (vI s.er)])), (76, (vA #[(vS s.d.name), (vI s.d.rt), (vI s.d.dl), (vL sa s.d.xs.length cp), (vI s.st), (vI s.ix), (vB s.cn), (vI s.tr), (vI s.bg), (vI s.er)])), (77, (vA #[(vS s.d.name), (vI s.d.rt), (vI s.d.dl), (vL w1779 s.d.xs.length c1780), (vI s.st), (vI s.ix), (vB s.cn), (vI s.tr), (vI s.bg), (vI s.er)])), (14, (vP b1801 0))] ?_
        refine wc_seq' (subc (bodyOf Tryd.prog 7) [1, 1, 1, 1, 1, 1, 1, 1, 1, 0]) (subc (bodyOf Tryd.prog 7) [1, 1, 1, 1, 1, 1, 1, 1, 1, 1]) (by kernel_rfl) ?_
        obtain ⟨_, hh1837, sn1838, rfl, x1839⟩ := backV_ok h1825 s _ _ (OwnAt.lat p1835 stepc_size (tsz_of size65)) (by omega) 
        have f1840 := x1839 _ _ f1828
        have f1841 := x1839 _ _ f1829
        have f1842 := x1839 _ _ f1830
        have f1843 := x1839 _ _ f1831
        have f1844 := x1839 _ _ f1832
        have f1845 := x1839 _ _ f1833
        have f1846 := x1839 _ _ f1827
        have p1847 := p1834.keep fun b r _ q => x1839 b r q
        have p1848 := p1835.keep fun b r _ q => x1839 b r q
        have x1849 := x1836.trans x1839
        obtain ⟨_, hh1850, sn1851, rfl, x1852⟩ := refV_ok hh1837 s _ _ (OwnAt.lat p1848 stepc_size (tsz_of size65)) (by omega) 
        have f1853 := x1852 _ _ f1840
        have f1854 := x1852 _ _ f1841
        have f1855 := x1852 _ _ f1842
        have f1856 := x1852 _ _ f1843
        have f1857 := x1852 _ _ f1844
        have f1858 := x1852 _ _ f1845
        have f1859 := x1852 _ _ f1846
        have p1860 := p1847.keep fun b r _ q => x1852 b r q
        have p1861 := p1848.keep fun b r _ q => x1852 b r q
        have x1862 := x1849.trans x1852
        obtain ⟨_, hh1863, sn1864, rfl, x1865⟩ := same_ok hh1850 s _ _ (OwnAt.lat p1861 stepc_size (tsz_of size65)) (by omega) _ _ (OwnAt.lat p1860 stepc_size (tsz_of size65))
        have f1866 := x1865 _ _ f1853
        have f1867 := x1865 _ _ f1854
        have f1868 := x1865 _ _ f1855
        have f1869 := x1865 _ _ f1856
        have f1870 := x1865 _ _ f1857
        have f1871 := x1865 _ _ f1858
        have f1872 := x1865 _ _ f1859
        have p1873 := p1860.keep fun b r _ q => x1865 b r q
        have p1874 := p1861.keep fun b r _ q => x1865 b r q
        have x1875 := x1862.trans x1865
        refine wc_ev [evLw 11 0 agg41 size41 f1827, evLw 11 3 agg37 size37 f1833, evF 11 1 sn1838, evLw 99 0 agg37 size37 f1845, evF 11 2 sn1851, evLw 99 0 agg37 size37 f1858, evF 11 4 sn1864] .normal hh1863 [(78, (vA #[(vS s.d.name), (vI s.d.rt), (vI s.d.dl), (vL w1779 s.d.xs.length c1780), (vI s.st), (vI s.ix), (vB s.cn), (vI s.tr), (vI s.bg), (vI s.er)])), (81, (vA #[(vS s.d.name), (vI s.d.rt), (vI s.d.dl), (vL w1723 s.d.xs.length c1724), (vI s.st), (vI s.ix), (vB s.cn), (vI s.tr), (vI s.bg), (vI s.er)])), (79, (vA #[(vS s.d.name), (vI s.d.rt), (vI s.d.dl), (vL w1779 s.d.xs.length c1780), (vI s.st), (vI s.ix), (vB s.cn), (vI s.tr), (vI s.bg), (vI s.er)])), (80, (vA #[(vS s.d.name), (vI s.d.rt), (vI s.d.dl), (vL w1779 s.d.xs.length c1780), (vI s.st), (vI s.ix), (vB s.cn), (vI s.tr), (vI s.bg), (vI s.er)])), (82, (vB true)), (83, (vB false))] ?_
        refine wc_seq' (subc (bodyOf Tryd.prog 7) [1, 1, 1, 1, 1, 1, 1, 1, 1, 1, 0]) (subc (bodyOf Tryd.prog 7) [1, 1, 1, 1, 1, 1, 1, 1, 1, 1, 1]) (by kernel_rfl) ?_
        refine wc_seq' (subc (bodyOf Tryd.prog 7) [1, 1, 1, 1, 1, 1, 1, 1, 1, 1, 0, 0]) (subc (bodyOf Tryd.prog 7) [1, 1, 1, 1, 1, 1, 1, 1, 1, 1, 0, 1]) (by kernel_rfl) ?_
        refine wc_ev [] .normal hh1863 [(15, (vI 0))] ?_
        refine wc_block' 0 (subc (bodyOf Tryd.prog 7) [1, 1, 1, 1, 1, 1, 1, 1, 1, 1, 0, 1, 0]) (by kernel_rfl) ?_
        refine wc_loop' (subc (bodyOf Tryd.prog 7) [1, 1, 1, 1, 1, 1, 1, 1, 1, 1, 0, 1, 0, 0]) (by kernel_rfl) (fun n' a' h' => ∃ (k1 : Int) (us : List StepM) (g5 : Nat → Value), a' = { tmps := #[(vA #[(vS s.d.name), (vI s.d.rt), (vI s.d.dl), (vL sa s.d.xs.length cp), (vI s.st), (vI s.ix), (vB s.cn), (vI s.tr), (vI s.bg), (vI s.er)]), (vI now), (vP b1 0), vZ, (vB false), (vP b1116 0), (vI (staE s.d (now))), (vP b1140 0), (vI (staE s.d (now))), (vP b1594 0), (vI (canE s)), (vP b1634 0), (vI (canE s)), (vP b1736 0), (vP b1801 0), (vI k1), vZ, (vP b1 0), (vA #[(vS s.d.name), (vI s.d.rt), (vI s.d.dl), (vL sa s.d.xs.length cp)]), (vB true), (vB false), vZ, (vT #[(vA #[(vS .empty), (vI 0), (vI 0), (vL none 0 0), (vI 0), (vI 0), (vB false), (vI 0), (vI 0), (vI 0)]), (vI (staE s.d (now)))]), (vP b1 0), (vA #[(vS s.d.name), (vI s.d.rt), (vI s.d.dl), (vL sa s.d.xs.length cp)]), (vI now), (vT #[(vA #[(vS .empty), (vI 0), (vI 0), (vL none 0 0), (vI 0), (vI 0), (vB false), (vI 0), (vI 0), (vI 0)]), (vI (staE s.d (now)))]), (vA #[(vS .empty), (vI 0), (vI 0), (vL none 0 0), (vI 0), (vI 0), (vB false), (vI 0), (vI 0), (vI 0)]), (vI (staE s.d (now))), (vT #[(vA #[(vS .empty), (vI 0), (vI 0), (vL none 0 0), (vI 0), (vI 0), (vB false), (vI 0), (vI 0), (vI 0)]), (vI (staE s.d (now)))]), (vP b1 0), (vA #[(vS s.d.name), (vI s.d.rt), (vI s.d.dl), (vL sa s.d.xs.length cp)]), (vI now), (vT #[(vA #[(vS .empty), (vI 0), (vI 0), (vL none 0 0), (vI 0), (vI 0), (vB false), (vI 0), (vI 0), (vI 0)]), (vI (staE s.d (now)))]), (vA #[(vS .empty), (vI 0), (vI 0), (vL none 0 0), (vI 0), (vI 0), (vB false), (vI 0), (vI 0), (vI 0)]), (vI (staE s.d (now))), (vT #[(vA #[(vS .empty), (vI 0), (vI 0), (vL none 0 0), (vI 0), (vI 0), (vB false), (vI 0), (vI 0), (vI 0)]), (vI (canE s))]), (vA #[(vS s.d.name), (vI s.d.rt), (vI s.d.dl), (vL sa s.d.xs.length cp), (vI s.st), (vI s.ix), (vB s.cn), (vI s.tr), (vI s.bg), (vI s.er)]), (vA #[(vS s.d.name), (vI s.d.rt), (vI s.d.dl), (vL sa s.d.xs.length cp), (vI s.st), (vI s.ix), (vB s.cn), (vI s.tr), (vI s.bg), (vI s.er)]), (vT #[(vA #[(vS .empty), (vI 0), (vI 0), (vL none 0 0), (vI 0), (vI 0), (vB false), (vI 0), (vI 0), (vI 0)]), (vI (canE s))]), (vA #[(vS .empty), (vI 0), (vI 0), (vL none 0 0), (vI 0), (vI 0), (vB false), (vI 0), (vI 0), (vI 0)]), (vI (canE s)), (vT #[(vA #[(vS .empty), (vI 0), (vI 0), (vL none 0 0), (vI 0), (vI 0), (vB false), (vI 0), (vI 0), (vI 0)]), (vI (canE s))]), (vA #[(vS s.d.name), (vI s.d.rt), (vI s.d.dl), (vL sa s.d.xs.length cp), (vI s.st), (vI s.ix), (vB s.cn), (vI s.tr), (vI s.bg), (vI s.er)]), (vA #[(vS s.d.name), (vI s.d.rt), (vI s.d.dl), (vL sa s.d.xs.length cp), (vI s.st), (vI s.ix), (vB s.cn), (vI s.tr), (vI s.bg), (vI s.er)]), (vT #[(vA #[(vS .empty), (vI 0), (vI 0), (vL none 0 0), (vI 0), (vI 0), (vB false), (vI 0), (vI 0), (vI 0)]), (vI (canE s))]), (vA #[(vS .empty), (vI 0), (vI 0), (vL none 0 0), (vI 0), (vI 0), (vB false), (vI 0), (vI 0), (vI 0)]), (vI (canE s)), (vA #[(vS .empty), (vI 0), (vI 0), (vL none 0 0), (vI 0), (vI 0), (vB false), (vI 0), (vI 0), (vI 0)]), (vA #[(vS .empty), (vI 0), (vI 0), (vL none 0 0), (vI 0), (vI 0), (vB false), (vI 0), (vI 0), (vI 0)]), (vA #[(vS .empty), (vI 0), (vI 0), (vL none 0 0), (vI 0), (vI 0), (vB false), (vI 0), (vI 0), (vI 0)]), (vA #[(vS .empty), (vI 0), (vI 0), (vL none 0 0), (vI 0), (vI 0), (vB false), (vI 0), (vI 0), (vI 0)]), (vB true), (vB false), (vB false), (vI (staE s.d (now))), (vI (staE s.d (now))), (vB false), (vB false), (vB false), (vA #[(vS .empty), (vI 0), (vI 0), (vL none 0 0), (vI 0), (vI 0), (vB false), (vI 0), (vI 0), (vI 0)]), (vA #[(vS .empty), (vI 0), (vI 0), (vL none 0 0), (vI 0), (vI 0), (vB false), (vI 0), (vI 0), (vI 0)]), (vA #[(vS .empty), (vI 0), (vI 0), (vL none 0 0), (vI 0), (vI 0), (vB false), (vI 0), (vI 0), (vI 0)]), (vA #[(vS .empty), (vI 0), (vI 0), (vL none 0 0), (vI 0), (vI 0), (vB false), (vI 0), (vI 0), (vI 0)]), (vB true), (vB false), (vB false), (vB false), (vI (canE s)), (vI (canE s)), (vB false), (vB false), (vA #[(vS s.d.name), (vI s.d.rt), (vI s.d.dl), (vL sa s.d.xs.length cp), (vI s.st), (vI s.ix), (vB s.cn), (vI s.tr), (vI s.bg), (vI s.er)]), (vA #[(vS s.d.name), (vI s.d.rt), (vI s.d.dl), (vL sa s.d.xs.length cp), (vI s.st), (vI s.ix), (vB s.cn), (vI s.tr), (vI s.bg), (vI s.er)]), (vA #[(vS s.d.name), (vI s.d.rt), (vI s.d.dl), (vL w1723 s.d.xs.length c1724), (vI s.st), (vI s.ix), (vB s.cn), (vI s.tr), (vI s.bg), (vI s.er)]), (vA #[(vS s.d.name), (vI s.d.rt), (vI s.d.dl), (vL sa s.d.xs.length cp), (vI s.st), (vI s.ix), (vB s.cn), (vI s.tr), (vI s.bg), (vI s.er)]), (vA #[(vS s.d.name), (vI s.d.rt), (vI s.d.dl), (vL sa s.d.xs.length cp), (vI s.st), (vI s.ix), (vB s.cn), (vI s.tr), (vI s.bg), (vI s.er)]), (vA #[(vS s.d.name), (vI s.d.rt), (vI s.d.dl), (vL w1779 s.d.xs.length c1780), (vI s.st), (vI s.ix), (vB s.cn), (vI s.tr), (vI s.bg), (vI s.er)]), (vA #[(vS s.d.name), (vI s.d.rt), (vI s.d.dl), (vL w1779 s.d.xs.length c1780), (vI s.st), (vI s.ix), (vB s.cn), (vI s.tr), (vI s.bg), (vI s.er)]), (vA #[(vS s.d.name), (vI s.d.rt), (vI s.d.dl), (vL w1779 s.d.xs.length c1780), (vI s.st), (vI s.ix), (vB s.cn), (vI s.tr), (vI s.bg), (vI s.er)]), (vA #[(vS s.d.name), (vI s.d.rt), (vI s.d.dl), (vL w1779 s.d.xs.length c1780), (vI s.st), (vI s.ix), (vB s.cn), (vI s.tr), (vI s.bg), (vI s.er)]), (vA #[(vS s.d.name), (vI s.d.rt), (vI s.d.dl), (vL w1723 s.d.xs.length c1724), (vI s.st), (vI s.ix), (vB s.cn), (vI s.tr), (vI s.bg), (vI s.er)]), (vB true), (vB false), (g5 84), (g5 85), (g5 86), (g5 87), (g5 88), (g5 89), (g5 90), (g5 91), (g5 92), (g5 93), (g5 94), (g5 95), (g5 96), (g5 97), (g5 98), (g5 99), (g5 100), (g5 101), vZ, vZ, vZ, vZ, vZ, vZ, vZ, vZ, vZ, vZ, vZ, vZ, vZ, vZ, vZ, vZ, vZ, vZ, vZ, vZ, vZ, vZ, vZ, vZ, vZ], defers := [] } ∧ Ext h h' ∧ n' = s.d.xs.length - k1.toNat ∧ h'[b1]? = some (.cells #[(vS s.d.name), (vI s.d.rt), (vI s.d.dl), (vL sa s.d.xs.length cp), (vI s.st), (vI s.ix), (vB s.cn), (vI s.tr), (vI s.bg), (vI s.er)] 27 (0, 0)) ∧ h'[b1116]? = some (.cells #[(vS .empty), (vI 0), (vI 0), (vL none 0 0), (vI 0), (vI 0), (vB false), (vI 0), (vI 0), (vI 0)] 41 (0, 0)) ∧ h'[b1140]? = some (.cells #[(vS .empty), (vI 0), (vI 0), (vL none 0 0), (vI 0), (vI 0), (vB false), (vI 0), (vI 0), (vI 0)] 37 (0, 0)) ∧ h'[b1594]? = some (.cells #[(vS .empty), (vI 0), (vI 0), (vL none 0 0), (vI 0), (vI 0), (vB false), (vI 0), (vI 0), (vI 0)] 41 (0, 0)) ∧ h'[b1634]? = some (.cells #[(vS .empty), (vI 0), (vI 0), (vL none 0 0), (vI 0), (vI 0), (vB false), (vI 0), (vI 0), (vI 0)] 37 (0, 0)) ∧ h'[b1736]? = some (.cells #[(vS s.d.name), (vI s.d.rt), (vI s.d.dl), (vL w1723 s.d.xs.length c1724), (vI s.st), (vI s.ix), (vB s.cn), (vI s.tr), (vI s.bg), (vI s.er)] 37 (0, 0)) ∧ h'[b1801]? = some (.cells #[(vS s.d.name), (vI s.d.rt), (vI s.d.dl), (vL w1779 s.d.xs.length c1780), (vI s.st), (vI s.ix), (vB s.cn), (vI s.tr), (vI s.bg), (vI s.er)] 41 (0, 0)) ∧ 0 ≤ k1 ∧ us.length = s.d.xs.length ∧ OwnAt h' 65 stepc us (vL w1779 s.d.xs.length c1780) ∧ OwnAt h' 65 stepc s.d.xs (vL w1723 s.d.xs.length c1724)) ?_ (s.d.xs.length - (0 : Int).toNat) ⟨0, s.d.xs, (fun i => ([vU, vU, vU, vU, vU, vU, vU, vU, vU, vU, vU, vU, vU, vU, vU, vU, vU, vU, vU, vU, vU, vU, vU, vU, vU, vU, vU, vU, vU, vU, vU, vU, vU, vU, vU, vU, vU, vU, vU, vU, vU, vU, vU, vU, vU, vU, vU, vU, vU, vU, vU, vU, vU, vU, vU, vU, vU, vU, vU, vU, vU, vU, vU, vU, vU, vU, vU, vU, vU, vU, vU, vU, vU, vU, vU, vU, vU, vU, vU, vU, vU, vU, vU, vU, vZ, vZ, vZ, vZ, vZ, vZ, vZ, vZ, vZ, vZ, vZ, vZ, vZ, vZ, vZ, vZ, vZ, vZ] : List Value).getD i undef), by as_aux_lemma => kernel_rfl, x1875, rfl, f1866, f1867, f1868, f1869, f1870, f1871, f1872, by omega, rfl, p1874, p1873⟩
        rintro n' _ h1876 ⟨k1, us, g5, rfl, x1877, m1878, f1879, f1880, f1881, f1882, f1883, f1884, f1885, i1886, i1887, p1888, p1889⟩
        by_cases c1890 : ((k1) : Int) < ((s.d.xs.length : Nat))
        · obtain ⟨i1891, v1892, e1893, l1894, g1895⟩ := list_at us (e := (k1)) (by omega) (by first | omega | (simp only [List.length_set, List.length_append, List.length_singleton]; omega))
          obtain ⟨b1896, o1897, q1898, a1899, k1900, u1901⟩ := p1888.store stepc_size g1895
          obtain ⟨b1902, o1903, q1904, a1905, k1906, u1907⟩ := p1888.store stepc_size g1895
          obtain ⟨h1908, e1909, p1910, c1911, z1912⟩ := u1907 (j := 1) (y := (StepM.mk v1892.key (IntKind.i64.wrap ((v1892.delta) + 1)))) (u := (vI (IntKind.i64.wrap ((v1892.delta) + 1)))) size2 rfl rfl (by decide) (by kernel_rfl)
          have c1913 : Chg (blk (Value.slice w1779 (s.d.xs.length) (c1780))) h1876 h1908 := c1911.weak fun q hq => by subst hq; exact q1904
          have z1914 : h.size ≤ h1876.size := x1877.size
          have x1915 : Ext h _ := (Chg.then (O := fun _ => False) (Chg.ext x1877) c1913 (fun b hb => .inr (o1800 b hb))).toExt'
          have f1916 := c1913.same _ _ f1879 (fun hb => n1793 _ hb rfl)
          have f1917 := c1913.same _ _ f1880 (fun hb => n1794 _ hb rfl)
          have f1918 := c1913.same _ _ f1881 (fun hb => n1795 _ hb rfl)
          have f1919 := c1913.same _ _ f1882 (fun hb => n1796 _ hb rfl)
          have f1920 := c1913.same _ _ f1883 (fun hb => n1797 _ hb rfl)
          have f1921 := c1913.same _ _ f1884 (fun hb => n1798 _ hb rfl)
          have f1922 := c1913.same _ _ f1885 (fun hb => n1813 _ hb rfl)
          have p1923 := p1889.keep fun b r hb q => c1913.same b r q ((fun b hb hb2 => n1799 b hb2 hb) b hb)
          refine wc_ev [evC 14 3 3 agg22 f1885, ltT 14 5 3 c1890, evC 16 2 3 agg22 f1885, evV 16 4 (vP b1896 o1897) (show indexAddrA Tryd.prog 22 (vL w1779 s.d.xs.length c1780) (vI k1) = some (vP b1896 o1897) from a1899 und22 size65 e1893), evV 16 6 (vI v1892.delta) (show loadT Tryd.prog h1876 2 (vP b1896 (o1897 + 1)) = some (vI v1892.delta) from k1900.cell (j := 1) agg2 rfl), evV 16 7 (vI (IntKind.i64.wrap ((v1892.delta) + 1))) (show binA Tryd.prog .add 2 (vI v1892.delta) (vI 1) = some (vI (IntKind.i64.wrap ((v1892.delta) + 1))) from add_wrap), evV 16 8 (vP b1902 o1903) (show indexAddrA Tryd.prog 22 (vL w1779 s.d.xs.length c1780) (vI k1) = some (vP b1902 o1903) from a1905 und22 size65 e1893), evH 16 10 undef h1908 (show (storeT Tryd.prog h1876 2 (vP b1902 (o1903 + 1)) (vI (IntKind.i64.wrap ((v1892.delta) + 1))) = some h1908 ∧ (undef : Value) = undef) from ⟨e1909, rfl⟩), evV 15 1 (vI ((k1) + 1)) (show binA Tryd.prog .add 3 (vI k1) (vI 1) = some (vI ((k1) + 1)) from add_i64 (by omega) (by omega))] .normal h1908 [(84, (vI k1)), (85, (vP b1801 0)), (86, (vP b1801 3)), (87, (vL w1779 s.d.xs.length c1780)), (88, (vI ((s.d.xs.length : Nat)))), (89, (vB true)), (92, (vP b1801 0)), (93, (vP b1801 3)), (94, (vL w1779 s.d.xs.length c1780)), (95, (vI k1)), (96, (vP b1896 o1897)), (97, (vP b1896 (o1897 + 1))), (98, (vI v1892.delta)), (99, (vI (IntKind.i64.wrap ((v1892.delta) + 1)))), (100, (vP b1902 o1903)), (101, (vP b1902 (o1903 + 1))), (90, (vI k1)), (91, (vI ((k1) + 1))), (15, (vI ((k1) + 1)))] ?_
          exact ⟨s.d.xs.length - (k1 + 1).toNat, by omega, ⟨k1 + 1, (us.set i1891 (StepM.mk v1892.key (IntKind.i64.wrap ((v1892.delta) + 1)))), (fun i => ([vU, vU, vU, vU, vU, vU, vU, vU, vU, vU, vU, vU, vU, vU, vU, vU, vU, vU, vU, vU, vU, vU, vU, vU, vU, vU, vU, vU, vU, vU, vU, vU, vU, vU, vU, vU, vU, vU, vU, vU, vU, vU, vU, vU, vU, vU, vU, vU, vU, vU, vU, vU, vU, vU, vU, vU, vU, vU, vU, vU, vU, vU, vU, vU, vU, vU, vU, vU, vU, vU, vU, vU, vU, vU, vU, vU, vU, vU, vU, vU, vU, vU, vU, vU, (vI k1), (vP b1801 0), (vP b1801 3), (vL w1779 s.d.xs.length c1780), (vI ((s.d.xs.length : Nat))), (vB true), (vI k1), (vI ((k1) + 1)), (vP b1801 0), (vP b1801 3), (vL w1779 s.d.xs.length c1780), (vI k1), (vP b1896 o1897), (vP b1896 (o1897 + 1)), (vI v1892.delta), (vI (IntKind.i64.wrap ((v1892.delta) + 1))), (vP b1902 o1903), (vP b1902 (o1903 + 1))] : List Value).getD i undef), by as_aux_lemma => kernel_rfl, x1915, rfl, f1916, f1917, f1918, f1919, f1920, f1921, f1922, by omega, by rw [List.length_set]; exact i1887, p1910, p1923⟩⟩
        · refine wc_ev [evC 14 3 3 agg22 f1885, ltF 14 5 3 c1890] (.exit 0) h1876 [(84, (vI k1)), (85, (vP b1801 0)), (86, (vP b1801 3)), (87, (vL w1779 s.d.xs.length c1780)), (88, (vI ((s.d.xs.length : Nat)))), (89, (vB false))] ?_
          refine wc_seq' (subc (bodyOf Tryd.prog 7) [1, 1, 1, 1, 1, 1, 1, 1, 1, 1, 1, 0]) (subc (bodyOf Tryd.prog 7) [1, 1, 1, 1, 1, 1, 1, 1, 1, 1, 1, 1]) (by kernel_rfl) ?_
          refine wc_seq' (subc (bodyOf Tryd.prog 7) [1, 1, 1, 1, 1, 1, 1, 1, 1, 1, 1, 0, 0]) (subc (bodyOf Tryd.prog 7) [1, 1, 1, 1, 1, 1, 1, 1, 1, 1, 1, 0, 1]) (by kernel_rfl) ?_
          refine wc_ev [] .normal h1876 [(16, (vI 0))] ?_
          refine wc_block' 2 (subc (bodyOf Tryd.prog 7) [1, 1, 1, 1, 1, 1, 1, 1, 1, 1, 1, 0, 1, 0]) (by kernel_rfl) ?_
          refine wc_once (subc (bodyOf Tryd.prog 7) [1, 1, 1, 1, 1, 1, 1, 1, 1, 1, 1, 0, 1, 0, 0]) (by kernel_rfl) ?_
          refine wc_ev [evC 18 3 3 agg22 f1880] (.exit 2) h1876 [(102, (vI 0)), (103, (vP b1116 0)), (104, (vP b1116 3)), (105, (vL none 0 0)), (106, (vI 0)), (107, (vB false))] ?_
          obtain ⟨_, hh1924, sn1925, rfl, x1926⟩ := refV_ok h1876 s _ _ (hl.keep fun b r _ q => x1877 b r q) (by omega) 
          have f1927 := x1926 _ _ f1884
          have p1928 := p1889.keep fun b r _ q => x1926 b r q
          have x1929 := x1877.trans x1926
          obtain ⟨_, hh1930, sn1931, rfl, x1932⟩ := same_ok hh1924 s _ _ (hl.keep fun b r _ q => x1929 b r q) (by omega) _ _ (OwnAt.lat p1928 stepc_size (tsz_of size65))
          have x1933 := x1929.trans x1932
          obtain ⟨_, hh1934, sn1935, rfl, x1936⟩ := works_ok hh1930 (x1933 _ _ hg0) (x1933 _ _ hg1)
          have x1937 := x1933.trans x1936
          refine wc_ev [evLw 21 0 agg27 size27 f1879, evLw 21 2 agg37 size37 f1884, evF 21 1 sn1925, evLw 99 0 agg37 size37 f1927, evF 21 3 sn1931, evF 21 5 sn1935] .ret hh1934 [(120, (vA #[(vS s.d.name), (vI s.d.rt), (vI s.d.dl), (vL sa s.d.xs.length cp), (vI s.st), (vI s.ix), (vB s.cn), (vI s.tr), (vI s.bg), (vI s.er)])), (122, (vA #[(vS s.d.name), (vI s.d.rt), (vI s.d.dl), (vL w1723 s.d.xs.length c1724), (vI s.st), (vI s.ix), (vB s.cn), (vI s.tr), (vI s.bg), (vI s.er)])), (121, (vA #[(vS s.d.name), (vI s.d.rt), (vI s.d.dl), (vL sa s.d.xs.length cp), (vI s.st), (vI s.ix), (vB s.cn), (vI s.tr), (vI s.bg), (vI s.er)])), (123, (vB true)), (124, (vB true)), (125, (vB true)), (126, (vB true)), (4, (vB true))] ?_
          exact end_ev [] (vB true) (hK _ _ (⟨rfl, x1937⟩))
  · obtain ⟨_, hh1938, sn1939, rfl, x1940⟩ := works_ok h9 (x15 _ _ hg0) (x15 _ _ hg1)
    have x1941 := x15.trans x1940
    refine wc_ev [evL 1 1 0 agg24 size24 f5, evFb 1 2 c16 s10, evF 2 0 sn1939] .ret hh1938 [(17, (vP b1 0)), (18, (vA #[(vS s.d.name), (vI s.d.rt), (vI s.d.dl), (vL sa s.d.xs.length cp)])), (19, (vB false)), (20, (vB true)), (21, (vB true)), (4, (vB true))] ?_
    exact end_ev [] (vB true) (hK _ _ (⟨rfl, x1941⟩))
theorem law_starts_x (h : Heap) (nm : ByteArray) (hnm : nm.size ≤ 9223372036854775807) (rt : Int) (_irt : -9223372036854775808 ≤ rt ∧ rt ≤ 9223372036854775807) (dl : Int) (_idl : -9223372036854775808 ≤ dl ∧ dl ≤ 9223372036854775807) (xs : List StepM) (sa : Option Addr) (cp : Nat) (k : LAt h stepc 2 xs (.slice sa xs.length cp)) (l : xs.length ≤ 9223372036854775807) (q : ∀ x ∈ xs, x.key.size ≤ 9223372036854775807) (st : Int) (_ist : -9223372036854775808 ≤ st ∧ st ≤ 9223372036854775807) (ix : Int) (_iix : -9223372036854775808 ≤ ix ∧ ix ≤ 9223372036854775807) (cn : Bool) (tr : Int) (_itr : -9223372036854775808 ≤ tr ∧ tr ≤ 9223372036854775807) (bg : Int) (_ibg : -9223372036854775808 ≤ bg ∧ bg ≤ 9223372036854775807) (er : Int) (_ier : -9223372036854775808 ≤ er ∧ er ≤ 9223372036854775807) (now : Int) (_inow : -9223372036854775808 ≤ now ∧ now ≤ 9223372036854775807) (hg0 : h[0]? = some (.cells #[Value.nilFunc, (Value.func (.func 126) #[] #[]), (Value.func (.func 127) #[] #[]), (Value.func (.func 128) #[] #[])] 86 (0, 0))) (hg1 : h[1]? = some (.cells #[(vI 0), (vI 1), (vI 3), (vI 2)] 96 (0, 0))) : WCall Tryd.prog 7 #[.agg #[.string nm, .int .i64 rt, .int .i64 dl, .slice sa xs.length cp, .int .i64 st, .int .i64 ix, .bool cn, .int .i64 tr, .int .i64 bg, .int .i64 er], .int .i64 now] h (fun v h1 => v = .bool true ∧ Ext h h1) := law_starts h ⟨⟨nm, rt, dl, xs⟩, st, ix, cn, tr, bg, er⟩ sa cp k l hnm q now hg0 hg1
end C28
