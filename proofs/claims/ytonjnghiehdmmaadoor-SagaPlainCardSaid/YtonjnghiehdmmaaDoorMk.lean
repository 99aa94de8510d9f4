/- The examples of the chapter hold. -/
import Derived.Test.YtonjnghiehdmmaaDoorMe
import Derived.KernelRfl
open Go Go.AM Go.Proofs
namespace C28
def smpX : List StepM := [⟨⟨#[97]⟩, 3⟩, ⟨⟨#[98]⟩, -4⟩]
theorem lat_row {h : Heap} {b n : Nat} {xs : List StepM} {c : Array Value} (k : h[b]? = some (.cells c 65 (0, 0))) (e : c = flat stepc xs) (hn : xs.length = n) : LAt h stepc 2 xs (.slice (some ⟨b, 0, none⟩) n n) := by
  subst hn
  refine ⟨.inr ⟨b, 0, xs.length, c, 65, (0, 0), rfl, k, by decide, Nat.le_refl _, ?_, ?_⟩, fun q hq => ?_⟩
  · rw [e, flat_size stepc_size]; omega
  · have : c.size = 0 + xs.length * 2 := by rw [e, flat_size stepc_size]; omega
    rw [← this, Array.extract_size]; exact e
  · cases hq; simp [slackElem, k]
set_option maxHeartbeats 4000000 in
theorem sample_ok (h : Heap)  : WCall Tryd.prog 30 #[] h (fun v h1 => ∃ bq, v = (Value.agg #[(vS ⟨#[100]⟩), (vI 1), (vI 0), (Value.slice (some ⟨bq, 0, none⟩) 2 2)]) ∧ LAt h1 stepc 2 smpX (.slice (some ⟨bq, 0, none⟩) 2 2) ∧ Ext h h1) := by
  obtain ⟨b1, eb2⟩ : ∃ zq, zq = h.size := ⟨_, rfl⟩
  obtain ⟨h3, e4⟩ : ∃ zq, zq = h.push (.cells #[(vS .empty), (vI 0), (vI 0), (Value.slice none 0 0)] 24 (0, 0)) := ⟨_, rfl⟩
  have f5 := push_new e4
  rw [← eb2] at f5
  have x6 : Ext h h3 := by rw [e4]; exact Ext.push _ _
  have o7 : h.size ≤ b1 := by have := (Ext.refl h).size; omega
  have x8 := (Ext.refl h).trans x6
  obtain ⟨b9, eb10⟩ : ∃ zq, zq = h3.size := ⟨_, rfl⟩
  obtain ⟨h11, e12⟩ : ∃ zq, zq = h3.push (.cells #[(vS ⟨#[97]⟩), (vI 3), (vS ⟨#[98]⟩), (vI (-4))] 65 (0, 0)) := ⟨_, rfl⟩
  have f13 := push_new e12
  rw [← eb10] at f13
  have n14 : b9 ≠ b1 := by have := row_lt f5; omega
  have x15 : Ext h3 h11 := by rw [e12]; exact Ext.push _ _
  have o16 : h.size ≤ b9 := by have := x8.size; omega
  have f17 := x15 _ _ f5
  have x18 := x8.trans x15
  obtain ⟨h19, e20⟩ : ∃ zq, zq = h11.setIfInBounds b1 (.cells #[(vS ⟨#[100]⟩), (vI 1), (vI 0), (Value.slice (some ⟨b9, 0, none⟩) 2 2)] 24 (0, 0)) := ⟨_, rfl⟩
  have f21 := set_same e20 f17
  have f22 := set_other e20 f13 n14.symm
  have x23 := Ext.setNew x18 e20 o7
  exact hCall_ev [evA 0 0 eb2 e4, evS 1 2 2 eb10 e12, evUw 1 4 size24 f17 e20] [evLw 0 0 agg24 size24 f21] (vA #[(vS ⟨#[100]⟩), (vI 1), (vI 0), (vL (some ⟨b9, 0, none⟩) 2 2)]) h19 ⟨b9, rfl, lat_row f22 (by kernel_rfl) rfl, x23⟩
set_option maxRecDepth 10000 in
set_option maxHeartbeats 4000000 in
theorem works_ok (h : Heap) (hg0 : h[0]? = some (.cells #[Value.nilFunc, (Value.func (.func 126) #[] #[]), (Value.func (.func 127) #[] #[]), (Value.func (.func 128) #[] #[])] 86 (0, 0))) (hg1 : h[1]? = some (.cells #[(vI 0), (vI 1), (vI 3), (vI 2)] 96 (0, 0))) : WCall Tryd.prog 13 #[] h (fun v h1 => v = .bool true ∧ Ext h h1) := by
  suffices H : ∀ K : Value → Heap → Prop, (∀ v h1, (fun v h1 => v = .bool true ∧ Ext h h1) v h1 → K v h1) → WCall Tryd.prog 13 #[] h K from H _ fun _ _ q => q
  intro K hK
  refine wcall_at { tmps := #[vZ, vZ, vZ, vZ, vZ, vZ, vZ, vZ, vZ, vZ, vZ, vZ, vZ, vZ, vZ, vZ, vZ, vZ, vZ, vZ, vZ, vZ, vZ, vZ, vZ, vZ, vZ, vZ, vZ, vZ, vZ, vZ, vZ, vZ, vZ, vZ, vZ, vZ, vZ, vZ, vZ, vZ, vZ, vZ, vZ, vZ, vZ, vZ, vZ, vZ, vZ, vZ, vZ, vZ, vZ, vZ, vZ, vZ, vZ, vZ, vZ, vZ, vZ, vZ, vZ, vZ, vZ, vZ, vZ], defers := [] } (by kernel_rfl) ?_
  refine wc_seq' (subc (bodyOf Tryd.prog 13) [0]) (subc (bodyOf Tryd.prog 13) [1]) (by kernel_rfl) ?_
  refine wc_ev [] .normal h [(0, (vB false))] ?_
  refine wc_seq' (subc (bodyOf Tryd.prog 13) [1, 0]) (subc (bodyOf Tryd.prog 13) [1, 1]) (by kernel_rfl) ?_
  obtain ⟨_, hh1, sn2, b3, rfl, p4, x5⟩ := sample_ok h
  have x6 := (Ext.refl h).trans x5
  obtain ⟨v7, h8, s9, p10, p11, x12⟩ := sstart_ok hh1 (DefM.mk ⟨#[100]⟩ 1 0 smpX) _ _ p4 (by decide) 5
  have q13 : staE (DefM.mk ⟨#[100]⟩ 1 0 smpX) 5 = 0 := by kernel_rfl
  obtain ⟨w14, c15, p16, o17, n18⟩ := p11 q13
  have q19 : staS (DefM.mk ⟨#[100]⟩ 1 0 smpX) 5 = SagaM.mk (DefM.mk ⟨#[100]⟩ 1 0 smpX) 1 0 false 0 5 0 := by kernel_rfl
  rw [q19] at p16
  subst p16
  have o20 : OwnAt h8 65 stepc smpX (.slice w14 2 c15) := o17
  have n21 : ∀ b, blk (.slice w14 2 c15) b → hh1.size ≤ b := n18
  have x22 := x6.trans x12
  have z23 : h.size ≤ hh1.size := x6.size
  have o24 : ∀ zz, blk (Value.slice w14 2 (c15)) zz → h.size ≤ zz := fun zz hz => by have := n21 zz hz; omega
  obtain ⟨b25, eb26⟩ : ∃ zq, zq = h8.size := ⟨_, rfl⟩
  obtain ⟨h27, e28⟩ : ∃ zq, zq = h8.push (.cells #[(vS .empty), (vI 0), (vI 0), (Value.slice none 0 0), (vI 0), (vI 0), (vB false), (vI 0), (vI 0), (vI 0)] 41 (0, 0)) := ⟨_, rfl⟩
  have f29 := push_new e28
  rw [← eb26] at f29
  have n30 : ∀ zz, (blk (Value.slice w14 2 (c15))) zz → ¬ zz = b25 := fun zz hz ez => by have := o20.blk_lt hz; omega
  have x31 : Ext h8 h27 := by rw [e28]; exact Ext.push _ _
  have o32 : h.size ≤ b25 := by have := x22.size; omega
  have p33 := o20.keep fun b r _ q => x31 b r q
  have x34 := x22.trans x31
  obtain ⟨h35, e36⟩ : ∃ zq, zq = h27.setIfInBounds b25 (.cells #[(vS ⟨#[100]⟩), (vI 1), (vI 0), (Value.slice w14 2 (c15)), (vI 1), (vI 0), (vB false), (vI 0), (vI 5), (vI 0)] 41 (0, 0)) := ⟨_, rfl⟩
  have f37 := set_same e36 f29
  have p38 := p33.keep fun b r hb q => (Chg.set e36).same b r q (n30 b hb)
  have x39 := Ext.setNew x34 e36 o32
  refine wc_ev [evF 1 0 sn2, evF 1 1 s9, evA 1 5 eb26 e28, evUw 1 6 size41 f29 e36] .normal h35 [(12, (vA #[(vS ⟨#[100]⟩), (vI 1), (vI 0), (vL (some ⟨b3, 0, none⟩) 2 2)])), (13, (vT #[(vA #[(vS ⟨#[100]⟩), (vI 1), (vI 0), (vL w14 2 c15), (vI 1), (vI 0), (vB false), (vI 0), (vI 5), (vI 0)]), (vI 0)])), (11, (vT #[(vA #[(vS ⟨#[100]⟩), (vI 1), (vI 0), (vL w14 2 c15), (vI 1), (vI 0), (vB false), (vI 0), (vI 5), (vI 0)]), (vI 0)])), (14, (vA #[(vS ⟨#[100]⟩), (vI 1), (vI 0), (vL w14 2 c15), (vI 1), (vI 0), (vB false), (vI 0), (vI 5), (vI 0)])), (15, (vI 0)), (1, (vP b25 0)), (2, (vI 0))] ?_
  refine wc_seq' (subc (bodyOf Tryd.prog 13) [1, 1, 0]) (subc (bodyOf Tryd.prog 13) [1, 1, 1]) (by kernel_rfl) ?_
  refine wc_ev [] .normal h35 [(16, (vI 0)), (17, (vB false))] ?_
  refine wc_seq' (subc (bodyOf Tryd.prog 13) [1, 1, 1, 0]) (subc (bodyOf Tryd.prog 13) [1, 1, 1, 1]) (by kernel_rfl) ?_
  obtain ⟨b40, eb41⟩ : ∃ zq, zq = h35.size := ⟨_, rfl⟩
  obtain ⟨h42, e43⟩ : ∃ zq, zq = h35.push (.cells #[(vS ⟨#[114, 117, 110, 110, 105, 110, 103, 32, 48]⟩), (vS ⟨#[114, 117, 110, 110, 105, 110, 103, 32, 49]⟩), (vS ⟨#[114, 117, 110, 110, 105, 110, 103, 32, 49]⟩), (vS ⟨#[117, 110, 100, 111, 105, 110, 103, 32, 49]⟩), (vS ⟨#[117, 110, 100, 111, 105, 110, 103, 32, 48]⟩), (vS ⟨#[97, 98, 111, 114, 116, 101, 100, 32, 49, 55]⟩)] 9 (0, 0)) := ⟨_, rfl⟩
  have f44 := push_new e43
  rw [← eb41] at f44
  have n45 : b40 ≠ b25 := by have := row_lt f37; omega
  have x46 : Ext h35 h42 := by rw [e43]; exact Ext.push _ _
  have o47 : h.size ≤ b40 := by have := x39.size; omega
  have f48 := x46 _ _ f37
  have p49 := p38.keep fun b r _ q => x46 b r q
  have x50 := x39.trans x46
  refine wc_ev [evS 4 0 6 eb41 e43] .normal h42 [(18, (vL (some ⟨b40, 0, none⟩) 6 6)), (3, (vL (some ⟨b40, 0, none⟩) 6 6))] ?_
  refine wc_seq' (subc (bodyOf Tryd.prog 13) [1, 1, 1, 1, 0]) (subc (bodyOf Tryd.prog 13) [1, 1, 1, 1, 1]) (by kernel_rfl) ?_
  obtain ⟨b51, eb52⟩ : ∃ zq, zq = h42.size := ⟨_, rfl⟩
  obtain ⟨h53, e54⟩ : ∃ zq, zq = h42.push (.cells #[(vI 0), (vI 17), (vI 17), (vI 0), (vI 0)] 25 (0, 0)) := ⟨_, rfl⟩
  have f55 := push_new e54
  rw [← eb52] at f55
  have n56 : b51 ≠ b25 := by have := row_lt f48; omega
  have x57 : Ext h42 h53 := by rw [e54]; exact Ext.push _ _
  have o58 : h.size ≤ b51 := by have := x50.size; omega
  have f59 := x57 _ _ f48
  have f60 := x57 _ _ f44
  have p61 := p49.keep fun b r _ q => x57 b r q
  have x62 := x50.trans x57
  refine wc_ev [evS 5 0 5 eb52 e54] .normal h53 [(19, (vL (some ⟨b51, 0, none⟩) 5 5)), (4, (vL (some ⟨b51, 0, none⟩) 5 5))] ?_
  refine wc_seq' (subc (bodyOf Tryd.prog 13) [1, 1, 1, 1, 1, 0]) (subc (bodyOf Tryd.prog 13) [1, 1, 1, 1, 1, 1]) (by kernel_rfl) ?_
  refine wc_seq' (subc (bodyOf Tryd.prog 13) [1, 1, 1, 1, 1, 0, 0]) (subc (bodyOf Tryd.prog 13) [1, 1, 1, 1, 1, 0, 1]) (by kernel_rfl) ?_
  refine wc_ev [] .normal h53 [(5, (vI 0))] ?_
  refine wc_block' 0 (subc (bodyOf Tryd.prog 13) [1, 1, 1, 1, 1, 0, 1, 0]) (by kernel_rfl) ?_
  refine wc_once (subc (bodyOf Tryd.prog 13) [1, 1, 1, 1, 1, 0, 1, 0, 0]) (by kernel_rfl) ?_
  obtain ⟨_, h63, s64, rfl, x65⟩ := txtV_ok h53 (SagaM.mk (DefM.mk ⟨#[100]⟩ 1 0 smpX) 1 0 false 0 5 0) _ _ (OwnAt.lat p61 stepc_size (tsz_of size65)) (by decide)
  have q66 : txtV (SagaM.mk (DefM.mk ⟨#[100]⟩ 1 0 smpX) 1 0 false 0 5 0) = (⟨#[114, 117, 110, 110, 105, 110, 103, 32, 48]⟩, 0) := by kernel_rfl
  have f67 := x65 _ _ f59
  have f68 := x65 _ _ f60
  have f69 := x65 _ _ f55
  have p70 := p61.keep fun b r _ q => x65 b r q
  have x71 := x62.trans x65
  obtain ⟨_, h72, s73, rfl, x74⟩ := nextV_ok h63 (SagaM.mk (DefM.mk ⟨#[100]⟩ 1 0 smpX) 1 0 false 0 5 0) _ _ (OwnAt.lat p70 stepc_size (tsz_of size65)) (by decide) (x71 _ _ hg0) (x71 _ _ hg1)
  have q75 : nextV (SagaM.mk (DefM.mk ⟨#[100]⟩ 1 0 smpX) 1 0 false 0 5 0) = (0, 1, true, 0) := by kernel_rfl
  have f76 := x74 _ _ f67
  have f77 := x74 _ _ f68
  have f78 := x74 _ _ f69
  have p79 := p70.keep fun b r _ q => x74 b r q
  have x80 := x71.trans x74
  obtain ⟨b81, eb82⟩ : ∃ zq, zq = h72.size := ⟨_, rfl⟩
  obtain ⟨h83, e84⟩ : ∃ zq, zq = h72.push (.cells #[(vI 0), (vI 0), (vI 0)] 29 (0, 0)) := ⟨_, rfl⟩
  have f85 := push_new e84
  rw [← eb82] at f85
  have n86 : b81 ≠ b25 := by have := row_lt f76; omega
  have n87 : b81 ≠ b40 := by have := row_lt f77; omega
  have n88 : b81 ≠ b51 := by have := row_lt f78; omega
  have n89 : ∀ zz, (blk (Value.slice w14 2 (c15))) zz → ¬ zz = b81 := fun zz hz ez => by have := p79.blk_lt hz; omega
  have x90 : Ext h72 h83 := by rw [e84]; exact Ext.push _ _
  have o91 : h.size ≤ b81 := by have := x80.size; omega
  have f92 := x90 _ _ f76
  have f93 := x90 _ _ f77
  have f94 := x90 _ _ f78
  have p95 := p79.keep fun b r _ q => x90 b r q
  have x96 := x80.trans x90
  obtain ⟨h97, e98⟩ : ∃ zq, zq = h83.setIfInBounds b81 (.cells #[(vI 0), (vI 0), (vI 1)] 29 (0, 0)) := ⟨_, rfl⟩
  have f99 := set_same e98 f85
  have f100 := set_other e98 f92 n86
  have f101 := set_other e98 f93 n87
  have f102 := set_other e98 f94 n88
  have p103 := p95.keep fun b r hb q => (Chg.set e98).same b r q (n89 b hb)
  have x104 := Ext.setNew x96 e98 o91
  obtain ⟨v105, h106, s107, p108, p109, x110⟩ := result_ok h97 (SagaM.mk (DefM.mk ⟨#[100]⟩ 1 0 smpX) 1 0 false 0 5 0) _ _ (OwnAt.lat p103 stepc_size (tsz_of size65)) (by decide) 0 0 1 0 5 (x104 _ _ hg0) (x104 _ _ hg1)
  have q111 : resE (SagaM.mk (DefM.mk ⟨#[100]⟩ 1 0 smpX) 1 0 false 0 5 0) 0 0 1 0 5 = 0 := by kernel_rfl
  obtain ⟨w112, c113, p114, o115, n116⟩ := p109 q111
  have q117 : nxtS (SagaM.mk (DefM.mk ⟨#[100]⟩ 1 0 smpX) 1 0 false 0 5 0) 0 5 = SagaM.mk (DefM.mk ⟨#[100]⟩ 1 0 smpX) 1 1 false 0 5 0 := by kernel_rfl
  rw [q117] at p114
  subst p114
  have o118 : OwnAt h106 65 stepc smpX (.slice w112 2 c113) := o115
  have n119 : ∀ b, blk (.slice w112 2 c113) b → h97.size ≤ b := n116
  have f120 := x110 _ _ f100
  have f121 := x110 _ _ f101
  have f122 := x110 _ _ f102
  have x123 := x104.trans x110
  have z124 : h.size ≤ h97.size := x104.size
  have n125 : ∀ zz, blk (Value.slice w112 2 (c113)) zz → ¬ zz = b25 := fun zz hz ez => by have := n119 zz hz; have := row_lt f100; omega
  have o126 : ∀ zz, blk (Value.slice w112 2 (c113)) zz → h.size ≤ zz := fun zz hz => by have := n119 zz hz; omega
  obtain ⟨h127, e128⟩ : ∃ zq, zq = h106.setIfInBounds b25 (.cells #[(vS ⟨#[100]⟩), (vI 1), (vI 0), (Value.slice w112 2 (c113)), (vI 1), (vI 1), (vB false), (vI 0), (vI 5), (vI 0)] 41 (0, 0)) := ⟨_, rfl⟩
  have f129 := set_same e128 f120
  have f130 := set_other e128 f121 n45.symm
  have f131 := set_other e128 f122 n56.symm
  have p132 := o118.keep fun b r hb q => (Chg.set e128).same b r q (n125 b hb)
  have x133 := Ext.setNew x123 e128 o32
  refine wc_ev [evLw 9 0 agg41 size41 f59, evF 9 1 (by rw [q66] at s64; exact s64), evC 10 7 0 agg9 f68, snF 10 8 9 (Eq.refl (⟨#[114, 117, 110, 110, 105, 110, 103, 32, 48]⟩ : ByteArray)), evLw 13 0 agg41 size41 f67, evF 13 1 (by rw [q75] at s73; exact s73), evA 13 6 eb82 e84, evUw 13 7 size29 f85 e98, evLw 16 0 agg41 size41 f100, evLw 16 1 agg29 size29 f99, evC 16 5 0 agg25 f102, evF 16 6 s107, evUw 16 10 size41 f120 e128] .normal h127 [(20, (vI 0)), (21, (vL (some ⟨b40, 0, none⟩) 6 6)), (22, (vI 6)), (23, (vB true)), (27, (vA #[(vS ⟨#[100]⟩), (vI 1), (vI 0), (vL w14 2 c15), (vI 1), (vI 0), (vB false), (vI 0), (vI 5), (vI 0)])), (28, (vT #[(vS ⟨#[114, 117, 110, 110, 105, 110, 103, 32, 48]⟩), (vI 0)])), (26, (vT #[(vS ⟨#[114, 117, 110, 110, 105, 110, 103, 32, 48]⟩), (vI 0)])), (29, (vS ⟨#[114, 117, 110, 110, 105, 110, 103, 32, 48]⟩)), (30, (vI 0)), (6, (vS ⟨#[114, 117, 110, 110, 105, 110, 103, 32, 48]⟩)), (7, (vI 0)), (31, (vI 0)), (32, (vB false)), (33, (vB false)), (34, (vS ⟨#[114, 117, 110, 110, 105, 110, 103, 32, 48]⟩)), (35, (vL (some ⟨b40, 0, none⟩) 6 6)), (36, (vI 0)), (37, (vP b40 0)), (38, (vS ⟨#[114, 117, 110, 110, 105, 110, 103, 32, 48]⟩)), (39, (vB false)), (40, (vB false)), (41, (vI 0)), (42, (vL (some ⟨b51, 0, none⟩) 5 5)), (43, (vI 5)), (44, (vB false)), (46, (vA #[(vS ⟨#[100]⟩), (vI 1), (vI 0), (vL w14 2 c15), (vI 1), (vI 0), (vB false), (vI 0), (vI 5), (vI 0)])), (47, (vT #[(vA #[(vI 0), (vI 0), (vI 1)]), (vB true), (vI 0)])), (45, (vT #[(vA #[(vI 0), (vI 0), (vI 1)]), (vB true), (vI 0)])), (48, (vA #[(vI 0), (vI 0), (vI 1)])), (49, (vB true)), (50, (vI 0)), (8, (vP b81 0)), (9, (vB true)), (10, (vI 0)), (51, (vI 0)), (52, (vB false)), (53, (vB false)), (54, (vB true)), (55, (vB false)), (56, (vB false)), (58, (vA #[(vS ⟨#[100]⟩), (vI 1), (vI 0), (vL w14 2 c15), (vI 1), (vI 0), (vB false), (vI 0), (vI 5), (vI 0)])), (59, (vA #[(vI 0), (vI 0), (vI 1)])), (60, (vL (some ⟨b51, 0, none⟩) 5 5)), (61, (vI 0)), (62, (vP b51 0)), (63, (vI 0)), (64, (vT #[(vA #[(vS ⟨#[100]⟩), (vI 1), (vI 0), (vL w112 2 c113), (vI 1), (vI 1), (vB false), (vI 0), (vI 5), (vI 0)]), (vI 0)])), (57, (vT #[(vA #[(vS ⟨#[100]⟩), (vI 1), (vI 0), (vL w112 2 c113), (vI 1), (vI 1), (vB false), (vI 0), (vI 5), (vI 0)]), (vI 0)])), (65, (vA #[(vS ⟨#[100]⟩), (vI 1), (vI 0), (vL w112 2 c113), (vI 1), (vI 1), (vB false), (vI 0), (vI 5), (vI 0)])), (66, (vI 0)), (10, (vI 0)), (67, (vI 0)), (68, (vB false)), (24, (vI 0)), (25, (vI 1)), (5, (vI 1))] ?_
  refine wc_once (subc (bodyOf Tryd.prog 13) [1, 1, 1, 1, 1, 0, 1, 0, 0]) rfl ?_
  refine wc_act { tmps := #[(vB false), (vP b25 0), (vI 0), (vL (some ⟨b40, 0, none⟩) 6 6), (vL (some ⟨b51, 0, none⟩) 5 5), (vI 1), (vS ⟨#[114, 117, 110, 110, 105, 110, 103, 32, 48]⟩), (vI 0), (vP b81 0), (vB true), (vI 0), (vT #[(vA #[(vS ⟨#[100]⟩), (vI 1), (vI 0), (vL w14 2 c15), (vI 1), (vI 0), (vB false), (vI 0), (vI 5), (vI 0)]), (vI 0)]), (vA #[(vS ⟨#[100]⟩), (vI 1), (vI 0), (vL (some ⟨b3, 0, none⟩) 2 2)]), (vT #[(vA #[(vS ⟨#[100]⟩), (vI 1), (vI 0), (vL w14 2 c15), (vI 1), (vI 0), (vB false), (vI 0), (vI 5), (vI 0)]), (vI 0)]), (vA #[(vS ⟨#[100]⟩), (vI 1), (vI 0), (vL w14 2 c15), (vI 1), (vI 0), (vB false), (vI 0), (vI 5), (vI 0)]), (vI 0), (vI 0), (vB false), (vL (some ⟨b40, 0, none⟩) 6 6), (vL (some ⟨b51, 0, none⟩) 5 5), (vI 0), (vL (some ⟨b40, 0, none⟩) 6 6), (vI 6), (vB true), (vI 0), (vI 1), (vT #[(vS ⟨#[114, 117, 110, 110, 105, 110, 103, 32, 48]⟩), (vI 0)]), (vA #[(vS ⟨#[100]⟩), (vI 1), (vI 0), (vL w14 2 c15), (vI 1), (vI 0), (vB false), (vI 0), (vI 5), (vI 0)]), (vT #[(vS ⟨#[114, 117, 110, 110, 105, 110, 103, 32, 48]⟩), (vI 0)]), (vS ⟨#[114, 117, 110, 110, 105, 110, 103, 32, 48]⟩), (vI 0), (vI 0), (vB false), (vB false), (vS ⟨#[114, 117, 110, 110, 105, 110, 103, 32, 48]⟩), (vL (some ⟨b40, 0, none⟩) 6 6), (vI 0), (vP b40 0), (vS ⟨#[114, 117, 110, 110, 105, 110, 103, 32, 48]⟩), (vB false), (vB false), (vI 0), (vL (some ⟨b51, 0, none⟩) 5 5), (vI 5), (vB false), (vT #[(vA #[(vI 0), (vI 0), (vI 1)]), (vB true), (vI 0)]), (vA #[(vS ⟨#[100]⟩), (vI 1), (vI 0), (vL w14 2 c15), (vI 1), (vI 0), (vB false), (vI 0), (vI 5), (vI 0)]), (vT #[(vA #[(vI 0), (vI 0), (vI 1)]), (vB true), (vI 0)]), (vA #[(vI 0), (vI 0), (vI 1)]), (vB true), (vI 0), (vI 0), (vB false), (vB false), (vB true), (vB false), (vB false), (vT #[(vA #[(vS ⟨#[100]⟩), (vI 1), (vI 0), (vL w112 2 c113), (vI 1), (vI 1), (vB false), (vI 0), (vI 5), (vI 0)]), (vI 0)]), (vA #[(vS ⟨#[100]⟩), (vI 1), (vI 0), (vL w14 2 c15), (vI 1), (vI 0), (vB false), (vI 0), (vI 5), (vI 0)]), (vA #[(vI 0), (vI 0), (vI 1)]), (vL (some ⟨b51, 0, none⟩) 5 5), (vI 0), (vP b51 0), (vI 0), (vT #[(vA #[(vS ⟨#[100]⟩), (vI 1), (vI 0), (vL w112 2 c113), (vI 1), (vI 1), (vB false), (vI 0), (vI 5), (vI 0)]), (vI 0)]), (vA #[(vS ⟨#[100]⟩), (vI 1), (vI 0), (vL w112 2 c113), (vI 1), (vI 1), (vB false), (vI 0), (vI 5), (vI 0)]), (vI 0), (vI 0), (vB false)], defers := [] } (by as_aux_lemma => kernel_rfl) ?_
  obtain ⟨_, h134, s135, rfl, x136⟩ := txtV_ok h127 (SagaM.mk (DefM.mk ⟨#[100]⟩ 1 0 smpX) 1 1 false 0 5 0) _ _ (OwnAt.lat p132 stepc_size (tsz_of size65)) (by decide)
  have q137 : txtV (SagaM.mk (DefM.mk ⟨#[100]⟩ 1 0 smpX) 1 1 false 0 5 0) = (⟨#[114, 117, 110, 110, 105, 110, 103, 32, 49]⟩, 0) := by kernel_rfl
  have f138 := x136 _ _ f129
  have f139 := x136 _ _ f130
  have f140 := x136 _ _ f131
  have p141 := p132.keep fun b r _ q => x136 b r q
  have x142 := x133.trans x136
  obtain ⟨_, h143, s144, rfl, x145⟩ := nextV_ok h134 (SagaM.mk (DefM.mk ⟨#[100]⟩ 1 0 smpX) 1 1 false 0 5 0) _ _ (OwnAt.lat p141 stepc_size (tsz_of size65)) (by decide) (x142 _ _ hg0) (x142 _ _ hg1)
  have q146 : nextV (SagaM.mk (DefM.mk ⟨#[100]⟩ 1 0 smpX) 1 1 false 0 5 0) = (1, 1, true, 0) := by kernel_rfl
  have f147 := x145 _ _ f138
  have f148 := x145 _ _ f139
  have f149 := x145 _ _ f140
  have p150 := p141.keep fun b r _ q => x145 b r q
  have x151 := x142.trans x145
  obtain ⟨b152, eb153⟩ : ∃ zq, zq = h143.size := ⟨_, rfl⟩
  obtain ⟨h154, e155⟩ : ∃ zq, zq = h143.push (.cells #[(vI 0), (vI 0), (vI 0)] 29 (0, 0)) := ⟨_, rfl⟩
  have f156 := push_new e155
  rw [← eb153] at f156
  have n157 : b152 ≠ b25 := by have := row_lt f147; omega
  have n158 : b152 ≠ b40 := by have := row_lt f148; omega
  have n159 : b152 ≠ b51 := by have := row_lt f149; omega
  have n160 : ∀ zz, (blk (Value.slice w112 2 (c113))) zz → ¬ zz = b152 := fun zz hz ez => by have := p150.blk_lt hz; omega
  have x161 : Ext h143 h154 := by rw [e155]; exact Ext.push _ _
  have o162 : h.size ≤ b152 := by have := x151.size; omega
  have f163 := x161 _ _ f147
  have f164 := x161 _ _ f148
  have f165 := x161 _ _ f149
  have p166 := p150.keep fun b r _ q => x161 b r q
  have x167 := x151.trans x161
  obtain ⟨h168, e169⟩ : ∃ zq, zq = h154.setIfInBounds b152 (.cells #[(vI 0), (vI 1), (vI 1)] 29 (0, 0)) := ⟨_, rfl⟩
  have f170 := set_same e169 f156
  have f171 := set_other e169 f163 n157
  have f172 := set_other e169 f164 n158
  have f173 := set_other e169 f165 n159
  have p174 := p166.keep fun b r hb q => (Chg.set e169).same b r q (n160 b hb)
  have x175 := Ext.setNew x167 e169 o162
  obtain ⟨v176, h177, s178, p179, p180, x181⟩ := result_ok h168 (SagaM.mk (DefM.mk ⟨#[100]⟩ 1 0 smpX) 1 1 false 0 5 0) _ _ (OwnAt.lat p174 stepc_size (tsz_of size65)) (by decide) 0 1 1 17 5 (x175 _ _ hg0) (x175 _ _ hg1)
  have q182 : resE (SagaM.mk (DefM.mk ⟨#[100]⟩ 1 0 smpX) 1 1 false 0 5 0) 0 1 1 17 5 = 0 := by kernel_rfl
  obtain ⟨w183, c184, p185, o186, n187⟩ := p180 q182
  have q188 : nxtS (SagaM.mk (DefM.mk ⟨#[100]⟩ 1 0 smpX) 1 1 false 0 5 0) 17 5 = SagaM.mk (DefM.mk ⟨#[100]⟩ 1 0 smpX) 1 1 false 1 5 0 := by kernel_rfl
  rw [q188] at p185
  subst p185
  have o189 : OwnAt h177 65 stepc smpX (.slice w183 2 c184) := o186
  have n190 : ∀ b, blk (.slice w183 2 c184) b → h168.size ≤ b := n187
  have f191 := x181 _ _ f171
  have f192 := x181 _ _ f172
  have f193 := x181 _ _ f173
  have x194 := x175.trans x181
  have z195 : h.size ≤ h168.size := x175.size
  have n196 : ∀ zz, blk (Value.slice w183 2 (c184)) zz → ¬ zz = b25 := fun zz hz ez => by have := n190 zz hz; have := row_lt f171; omega
  have o197 : ∀ zz, blk (Value.slice w183 2 (c184)) zz → h.size ≤ zz := fun zz hz => by have := n190 zz hz; omega
  obtain ⟨h198, e199⟩ : ∃ zq, zq = h177.setIfInBounds b25 (.cells #[(vS ⟨#[100]⟩), (vI 1), (vI 0), (Value.slice w183 2 (c184)), (vI 1), (vI 1), (vB false), (vI 1), (vI 5), (vI 0)] 41 (0, 0)) := ⟨_, rfl⟩
  have f200 := set_same e199 f191
  have f201 := set_other e199 f192 n45.symm
  have f202 := set_other e199 f193 n56.symm
  have p203 := o189.keep fun b r hb q => (Chg.set e199).same b r q (n196 b hb)
  have x204 := Ext.setNew x194 e199 o32
  refine wc_ev [evLw 9 0 agg41 size41 f129, evF 9 1 (by rw [q137] at s135; exact s135), evC 10 7 1 agg9 f139, snF 10 8 9 (Eq.refl (⟨#[114, 117, 110, 110, 105, 110, 103, 32, 49]⟩ : ByteArray)), evLw 13 0 agg41 size41 f138, evF 13 1 (by rw [q146] at s144; exact s144), evA 13 6 eb153 e155, evUw 13 7 size29 f156 e169, evLw 16 0 agg41 size41 f171, evLw 16 1 agg29 size29 f170, evC 16 5 1 agg25 f173, evF 16 6 s178, evUw 16 10 size41 f191 e199] .normal h198 [(20, (vI 1)), (21, (vL (some ⟨b40, 0, none⟩) 6 6)), (22, (vI 6)), (23, (vB true)), (27, (vA #[(vS ⟨#[100]⟩), (vI 1), (vI 0), (vL w112 2 c113), (vI 1), (vI 1), (vB false), (vI 0), (vI 5), (vI 0)])), (28, (vT #[(vS ⟨#[114, 117, 110, 110, 105, 110, 103, 32, 49]⟩), (vI 0)])), (26, (vT #[(vS ⟨#[114, 117, 110, 110, 105, 110, 103, 32, 49]⟩), (vI 0)])), (29, (vS ⟨#[114, 117, 110, 110, 105, 110, 103, 32, 49]⟩)), (30, (vI 0)), (6, (vS ⟨#[114, 117, 110, 110, 105, 110, 103, 32, 49]⟩)), (7, (vI 0)), (31, (vI 0)), (32, (vB false)), (33, (vB false)), (34, (vS ⟨#[114, 117, 110, 110, 105, 110, 103, 32, 49]⟩)), (35, (vL (some ⟨b40, 0, none⟩) 6 6)), (36, (vI 1)), (37, (vP b40 1)), (38, (vS ⟨#[114, 117, 110, 110, 105, 110, 103, 32, 49]⟩)), (39, (vB false)), (40, (vB false)), (41, (vI 1)), (42, (vL (some ⟨b51, 0, none⟩) 5 5)), (43, (vI 5)), (44, (vB false)), (46, (vA #[(vS ⟨#[100]⟩), (vI 1), (vI 0), (vL w112 2 c113), (vI 1), (vI 1), (vB false), (vI 0), (vI 5), (vI 0)])), (47, (vT #[(vA #[(vI 0), (vI 1), (vI 1)]), (vB true), (vI 0)])), (45, (vT #[(vA #[(vI 0), (vI 1), (vI 1)]), (vB true), (vI 0)])), (48, (vA #[(vI 0), (vI 1), (vI 1)])), (49, (vB true)), (50, (vI 0)), (8, (vP b152 0)), (9, (vB true)), (10, (vI 0)), (51, (vI 0)), (52, (vB false)), (53, (vB false)), (54, (vB true)), (55, (vB false)), (56, (vB false)), (58, (vA #[(vS ⟨#[100]⟩), (vI 1), (vI 0), (vL w112 2 c113), (vI 1), (vI 1), (vB false), (vI 0), (vI 5), (vI 0)])), (59, (vA #[(vI 0), (vI 1), (vI 1)])), (60, (vL (some ⟨b51, 0, none⟩) 5 5)), (61, (vI 1)), (62, (vP b51 1)), (63, (vI 17)), (64, (vT #[(vA #[(vS ⟨#[100]⟩), (vI 1), (vI 0), (vL w183 2 c184), (vI 1), (vI 1), (vB false), (vI 1), (vI 5), (vI 0)]), (vI 0)])), (57, (vT #[(vA #[(vS ⟨#[100]⟩), (vI 1), (vI 0), (vL w183 2 c184), (vI 1), (vI 1), (vB false), (vI 1), (vI 5), (vI 0)]), (vI 0)])), (65, (vA #[(vS ⟨#[100]⟩), (vI 1), (vI 0), (vL w183 2 c184), (vI 1), (vI 1), (vB false), (vI 1), (vI 5), (vI 0)])), (66, (vI 0)), (10, (vI 0)), (67, (vI 0)), (68, (vB false)), (24, (vI 1)), (25, (vI 2)), (5, (vI 2))] ?_
  refine wc_once (subc (bodyOf Tryd.prog 13) [1, 1, 1, 1, 1, 0, 1, 0, 0]) rfl ?_
  refine wc_act { tmps := #[(vB false), (vP b25 0), (vI 0), (vL (some ⟨b40, 0, none⟩) 6 6), (vL (some ⟨b51, 0, none⟩) 5 5), (vI 2), (vS ⟨#[114, 117, 110, 110, 105, 110, 103, 32, 49]⟩), (vI 0), (vP b152 0), (vB true), (vI 0), (vT #[(vA #[(vS ⟨#[100]⟩), (vI 1), (vI 0), (vL w14 2 c15), (vI 1), (vI 0), (vB false), (vI 0), (vI 5), (vI 0)]), (vI 0)]), (vA #[(vS ⟨#[100]⟩), (vI 1), (vI 0), (vL (some ⟨b3, 0, none⟩) 2 2)]), (vT #[(vA #[(vS ⟨#[100]⟩), (vI 1), (vI 0), (vL w14 2 c15), (vI 1), (vI 0), (vB false), (vI 0), (vI 5), (vI 0)]), (vI 0)]), (vA #[(vS ⟨#[100]⟩), (vI 1), (vI 0), (vL w14 2 c15), (vI 1), (vI 0), (vB false), (vI 0), (vI 5), (vI 0)]), (vI 0), (vI 0), (vB false), (vL (some ⟨b40, 0, none⟩) 6 6), (vL (some ⟨b51, 0, none⟩) 5 5), (vI 1), (vL (some ⟨b40, 0, none⟩) 6 6), (vI 6), (vB true), (vI 1), (vI 2), (vT #[(vS ⟨#[114, 117, 110, 110, 105, 110, 103, 32, 49]⟩), (vI 0)]), (vA #[(vS ⟨#[100]⟩), (vI 1), (vI 0), (vL w112 2 c113), (vI 1), (vI 1), (vB false), (vI 0), (vI 5), (vI 0)]), (vT #[(vS ⟨#[114, 117, 110, 110, 105, 110, 103, 32, 49]⟩), (vI 0)]), (vS ⟨#[114, 117, 110, 110, 105, 110, 103, 32, 49]⟩), (vI 0), (vI 0), (vB false), (vB false), (vS ⟨#[114, 117, 110, 110, 105, 110, 103, 32, 49]⟩), (vL (some ⟨b40, 0, none⟩) 6 6), (vI 1), (vP b40 1), (vS ⟨#[114, 117, 110, 110, 105, 110, 103, 32, 49]⟩), (vB false), (vB false), (vI 1), (vL (some ⟨b51, 0, none⟩) 5 5), (vI 5), (vB false), (vT #[(vA #[(vI 0), (vI 1), (vI 1)]), (vB true), (vI 0)]), (vA #[(vS ⟨#[100]⟩), (vI 1), (vI 0), (vL w112 2 c113), (vI 1), (vI 1), (vB false), (vI 0), (vI 5), (vI 0)]), (vT #[(vA #[(vI 0), (vI 1), (vI 1)]), (vB true), (vI 0)]), (vA #[(vI 0), (vI 1), (vI 1)]), (vB true), (vI 0), (vI 0), (vB false), (vB false), (vB true), (vB false), (vB false), (vT #[(vA #[(vS ⟨#[100]⟩), (vI 1), (vI 0), (vL w183 2 c184), (vI 1), (vI 1), (vB false), (vI 1), (vI 5), (vI 0)]), (vI 0)]), (vA #[(vS ⟨#[100]⟩), (vI 1), (vI 0), (vL w112 2 c113), (vI 1), (vI 1), (vB false), (vI 0), (vI 5), (vI 0)]), (vA #[(vI 0), (vI 1), (vI 1)]), (vL (some ⟨b51, 0, none⟩) 5 5), (vI 1), (vP b51 1), (vI 17), (vT #[(vA #[(vS ⟨#[100]⟩), (vI 1), (vI 0), (vL w183 2 c184), (vI 1), (vI 1), (vB false), (vI 1), (vI 5), (vI 0)]), (vI 0)]), (vA #[(vS ⟨#[100]⟩), (vI 1), (vI 0), (vL w183 2 c184), (vI 1), (vI 1), (vB false), (vI 1), (vI 5), (vI 0)]), (vI 0), (vI 0), (vB false)], defers := [] } (by as_aux_lemma => kernel_rfl) ?_
  obtain ⟨_, h205, s206, rfl, x207⟩ := txtV_ok h198 (SagaM.mk (DefM.mk ⟨#[100]⟩ 1 0 smpX) 1 1 false 1 5 0) _ _ (OwnAt.lat p203 stepc_size (tsz_of size65)) (by decide)
  have q208 : txtV (SagaM.mk (DefM.mk ⟨#[100]⟩ 1 0 smpX) 1 1 false 1 5 0) = (⟨#[114, 117, 110, 110, 105, 110, 103, 32, 49]⟩, 0) := by kernel_rfl
  have f209 := x207 _ _ f200
  have f210 := x207 _ _ f201
  have f211 := x207 _ _ f202
  have p212 := p203.keep fun b r _ q => x207 b r q
  have x213 := x204.trans x207
  obtain ⟨_, h214, s215, rfl, x216⟩ := nextV_ok h205 (SagaM.mk (DefM.mk ⟨#[100]⟩ 1 0 smpX) 1 1 false 1 5 0) _ _ (OwnAt.lat p212 stepc_size (tsz_of size65)) (by decide) (x213 _ _ hg0) (x213 _ _ hg1)
  have q217 : nextV (SagaM.mk (DefM.mk ⟨#[100]⟩ 1 0 smpX) 1 1 false 1 5 0) = (1, 1, true, 0) := by kernel_rfl
  have f218 := x216 _ _ f209
  have f219 := x216 _ _ f210
  have f220 := x216 _ _ f211
  have p221 := p212.keep fun b r _ q => x216 b r q
  have x222 := x213.trans x216
  obtain ⟨b223, eb224⟩ : ∃ zq, zq = h214.size := ⟨_, rfl⟩
  obtain ⟨h225, e226⟩ : ∃ zq, zq = h214.push (.cells #[(vI 0), (vI 0), (vI 0)] 29 (0, 0)) := ⟨_, rfl⟩
  have f227 := push_new e226
  rw [← eb224] at f227
  have n228 : b223 ≠ b25 := by have := row_lt f218; omega
  have n229 : b223 ≠ b40 := by have := row_lt f219; omega
  have n230 : b223 ≠ b51 := by have := row_lt f220; omega
  have n231 : ∀ zz, (blk (Value.slice w183 2 (c184))) zz → ¬ zz = b223 := fun zz hz ez => by have := p221.blk_lt hz; omega
  have x232 : Ext h214 h225 := by rw [e226]; exact Ext.push _ _
  have o233 : h.size ≤ b223 := by have := x222.size; omega
  have f234 := x232 _ _ f218
  have f235 := x232 _ _ f219
  have f236 := x232 _ _ f220
  have p237 := p221.keep fun b r _ q => x232 b r q
  have x238 := x222.trans x232
  obtain ⟨h239, e240⟩ : ∃ zq, zq = h225.setIfInBounds b223 (.cells #[(vI 0), (vI 1), (vI 1)] 29 (0, 0)) := ⟨_, rfl⟩
  have f241 := set_same e240 f227
  have f242 := set_other e240 f234 n228
  have f243 := set_other e240 f235 n229
  have f244 := set_other e240 f236 n230
  have p245 := p237.keep fun b r hb q => (Chg.set e240).same b r q (n231 b hb)
  have x246 := Ext.setNew x238 e240 o233
  obtain ⟨v247, h248, s249, p250, p251, x252⟩ := result_ok h239 (SagaM.mk (DefM.mk ⟨#[100]⟩ 1 0 smpX) 1 1 false 1 5 0) _ _ (OwnAt.lat p245 stepc_size (tsz_of size65)) (by decide) 0 1 1 17 5 (x246 _ _ hg0) (x246 _ _ hg1)
  have q253 : resE (SagaM.mk (DefM.mk ⟨#[100]⟩ 1 0 smpX) 1 1 false 1 5 0) 0 1 1 17 5 = 0 := by kernel_rfl
  obtain ⟨w254, c255, p256, o257, n258⟩ := p251 q253
  have q259 : nxtS (SagaM.mk (DefM.mk ⟨#[100]⟩ 1 0 smpX) 1 1 false 1 5 0) 17 5 = SagaM.mk (DefM.mk ⟨#[100]⟩ 1 0 smpX) 3 1 false 0 5 17 := by kernel_rfl
  rw [q259] at p256
  subst p256
  have o260 : OwnAt h248 65 stepc smpX (.slice w254 2 c255) := o257
  have n261 : ∀ b, blk (.slice w254 2 c255) b → h239.size ≤ b := n258
  have f262 := x252 _ _ f242
  have f263 := x252 _ _ f243
  have f264 := x252 _ _ f244
  have x265 := x246.trans x252
  have z266 : h.size ≤ h239.size := x246.size
  have n267 : ∀ zz, blk (Value.slice w254 2 (c255)) zz → ¬ zz = b25 := fun zz hz ez => by have := n261 zz hz; have := row_lt f242; omega
  have o268 : ∀ zz, blk (Value.slice w254 2 (c255)) zz → h.size ≤ zz := fun zz hz => by have := n261 zz hz; omega
  obtain ⟨h269, e270⟩ : ∃ zq, zq = h248.setIfInBounds b25 (.cells #[(vS ⟨#[100]⟩), (vI 1), (vI 0), (Value.slice w254 2 (c255)), (vI 3), (vI 1), (vB false), (vI 0), (vI 5), (vI 17)] 41 (0, 0)) := ⟨_, rfl⟩
  have f271 := set_same e270 f262
  have f272 := set_other e270 f263 n45.symm
  have f273 := set_other e270 f264 n56.symm
  have p274 := o260.keep fun b r hb q => (Chg.set e270).same b r q (n267 b hb)
  have x275 := Ext.setNew x265 e270 o32
  refine wc_ev [evLw 9 0 agg41 size41 f200, evF 9 1 (by rw [q208] at s206; exact s206), evC 10 7 2 agg9 f210, snF 10 8 9 (Eq.refl (⟨#[114, 117, 110, 110, 105, 110, 103, 32, 49]⟩ : ByteArray)), evLw 13 0 agg41 size41 f209, evF 13 1 (by rw [q217] at s215; exact s215), evA 13 6 eb224 e226, evUw 13 7 size29 f227 e240, evLw 16 0 agg41 size41 f242, evLw 16 1 agg29 size29 f241, evC 16 5 2 agg25 f244, evF 16 6 s249, evUw 16 10 size41 f262 e270] .normal h269 [(20, (vI 2)), (21, (vL (some ⟨b40, 0, none⟩) 6 6)), (22, (vI 6)), (23, (vB true)), (27, (vA #[(vS ⟨#[100]⟩), (vI 1), (vI 0), (vL w183 2 c184), (vI 1), (vI 1), (vB false), (vI 1), (vI 5), (vI 0)])), (28, (vT #[(vS ⟨#[114, 117, 110, 110, 105, 110, 103, 32, 49]⟩), (vI 0)])), (26, (vT #[(vS ⟨#[114, 117, 110, 110, 105, 110, 103, 32, 49]⟩), (vI 0)])), (29, (vS ⟨#[114, 117, 110, 110, 105, 110, 103, 32, 49]⟩)), (30, (vI 0)), (6, (vS ⟨#[114, 117, 110, 110, 105, 110, 103, 32, 49]⟩)), (7, (vI 0)), (31, (vI 0)), (32, (vB false)), (33, (vB false)), (34, (vS ⟨#[114, 117, 110, 110, 105, 110, 103, 32, 49]⟩)), (35, (vL (some ⟨b40, 0, none⟩) 6 6)), (36, (vI 2)), (37, (vP b40 2)), (38, (vS ⟨#[114, 117, 110, 110, 105, 110, 103, 32, 49]⟩)), (39, (vB false)), (40, (vB false)), (41, (vI 2)), (42, (vL (some ⟨b51, 0, none⟩) 5 5)), (43, (vI 5)), (44, (vB false)), (46, (vA #[(vS ⟨#[100]⟩), (vI 1), (vI 0), (vL w183 2 c184), (vI 1), (vI 1), (vB false), (vI 1), (vI 5), (vI 0)])), (47, (vT #[(vA #[(vI 0), (vI 1), (vI 1)]), (vB true), (vI 0)])), (45, (vT #[(vA #[(vI 0), (vI 1), (vI 1)]), (vB true), (vI 0)])), (48, (vA #[(vI 0), (vI 1), (vI 1)])), (49, (vB true)), (50, (vI 0)), (8, (vP b223 0)), (9, (vB true)), (10, (vI 0)), (51, (vI 0)), (52, (vB false)), (53, (vB false)), (54, (vB true)), (55, (vB false)), (56, (vB false)), (58, (vA #[(vS ⟨#[100]⟩), (vI 1), (vI 0), (vL w183 2 c184), (vI 1), (vI 1), (vB false), (vI 1), (vI 5), (vI 0)])), (59, (vA #[(vI 0), (vI 1), (vI 1)])), (60, (vL (some ⟨b51, 0, none⟩) 5 5)), (61, (vI 2)), (62, (vP b51 2)), (63, (vI 17)), (64, (vT #[(vA #[(vS ⟨#[100]⟩), (vI 1), (vI 0), (vL w254 2 c255), (vI 3), (vI 1), (vB false), (vI 0), (vI 5), (vI 17)]), (vI 0)])), (57, (vT #[(vA #[(vS ⟨#[100]⟩), (vI 1), (vI 0), (vL w254 2 c255), (vI 3), (vI 1), (vB false), (vI 0), (vI 5), (vI 17)]), (vI 0)])), (65, (vA #[(vS ⟨#[100]⟩), (vI 1), (vI 0), (vL w254 2 c255), (vI 3), (vI 1), (vB false), (vI 0), (vI 5), (vI 17)])), (66, (vI 0)), (10, (vI 0)), (67, (vI 0)), (68, (vB false)), (24, (vI 2)), (25, (vI 3)), (5, (vI 3))] ?_
  refine wc_once (subc (bodyOf Tryd.prog 13) [1, 1, 1, 1, 1, 0, 1, 0, 0]) rfl ?_
  refine wc_act { tmps := #[(vB false), (vP b25 0), (vI 0), (vL (some ⟨b40, 0, none⟩) 6 6), (vL (some ⟨b51, 0, none⟩) 5 5), (vI 3), (vS ⟨#[114, 117, 110, 110, 105, 110, 103, 32, 49]⟩), (vI 0), (vP b223 0), (vB true), (vI 0), (vT #[(vA #[(vS ⟨#[100]⟩), (vI 1), (vI 0), (vL w14 2 c15), (vI 1), (vI 0), (vB false), (vI 0), (vI 5), (vI 0)]), (vI 0)]), (vA #[(vS ⟨#[100]⟩), (vI 1), (vI 0), (vL (some ⟨b3, 0, none⟩) 2 2)]), (vT #[(vA #[(vS ⟨#[100]⟩), (vI 1), (vI 0), (vL w14 2 c15), (vI 1), (vI 0), (vB false), (vI 0), (vI 5), (vI 0)]), (vI 0)]), (vA #[(vS ⟨#[100]⟩), (vI 1), (vI 0), (vL w14 2 c15), (vI 1), (vI 0), (vB false), (vI 0), (vI 5), (vI 0)]), (vI 0), (vI 0), (vB false), (vL (some ⟨b40, 0, none⟩) 6 6), (vL (some ⟨b51, 0, none⟩) 5 5), (vI 2), (vL (some ⟨b40, 0, none⟩) 6 6), (vI 6), (vB true), (vI 2), (vI 3), (vT #[(vS ⟨#[114, 117, 110, 110, 105, 110, 103, 32, 49]⟩), (vI 0)]), (vA #[(vS ⟨#[100]⟩), (vI 1), (vI 0), (vL w183 2 c184), (vI 1), (vI 1), (vB false), (vI 1), (vI 5), (vI 0)]), (vT #[(vS ⟨#[114, 117, 110, 110, 105, 110, 103, 32, 49]⟩), (vI 0)]), (vS ⟨#[114, 117, 110, 110, 105, 110, 103, 32, 49]⟩), (vI 0), (vI 0), (vB false), (vB false), (vS ⟨#[114, 117, 110, 110, 105, 110, 103, 32, 49]⟩), (vL (some ⟨b40, 0, none⟩) 6 6), (vI 2), (vP b40 2), (vS ⟨#[114, 117, 110, 110, 105, 110, 103, 32, 49]⟩), (vB false), (vB false), (vI 2), (vL (some ⟨b51, 0, none⟩) 5 5), (vI 5), (vB false), (vT #[(vA #[(vI 0), (vI 1), (vI 1)]), (vB true), (vI 0)]), (vA #[(vS ⟨#[100]⟩), (vI 1), (vI 0), (vL w183 2 c184), (vI 1), (vI 1), (vB false), (vI 1), (vI 5), (vI 0)]), (vT #[(vA #[(vI 0), (vI 1), (vI 1)]), (vB true), (vI 0)]), (vA #[(vI 0), (vI 1), (vI 1)]), (vB true), (vI 0), (vI 0), (vB false), (vB false), (vB true), (vB false), (vB false), (vT #[(vA #[(vS ⟨#[100]⟩), (vI 1), (vI 0), (vL w254 2 c255), (vI 3), (vI 1), (vB false), (vI 0), (vI 5), (vI 17)]), (vI 0)]), (vA #[(vS ⟨#[100]⟩), (vI 1), (vI 0), (vL w183 2 c184), (vI 1), (vI 1), (vB false), (vI 1), (vI 5), (vI 0)]), (vA #[(vI 0), (vI 1), (vI 1)]), (vL (some ⟨b51, 0, none⟩) 5 5), (vI 2), (vP b51 2), (vI 17), (vT #[(vA #[(vS ⟨#[100]⟩), (vI 1), (vI 0), (vL w254 2 c255), (vI 3), (vI 1), (vB false), (vI 0), (vI 5), (vI 17)]), (vI 0)]), (vA #[(vS ⟨#[100]⟩), (vI 1), (vI 0), (vL w254 2 c255), (vI 3), (vI 1), (vB false), (vI 0), (vI 5), (vI 17)]), (vI 0), (vI 0), (vB false)], defers := [] } (by as_aux_lemma => kernel_rfl) ?_
  obtain ⟨_, h276, s277, rfl, x278⟩ := txtV_ok h269 (SagaM.mk (DefM.mk ⟨#[100]⟩ 1 0 smpX) 3 1 false 0 5 17) _ _ (OwnAt.lat p274 stepc_size (tsz_of size65)) (by decide)
  have q279 : txtV (SagaM.mk (DefM.mk ⟨#[100]⟩ 1 0 smpX) 3 1 false 0 5 17) = (⟨#[117, 110, 100, 111, 105, 110, 103, 32, 49]⟩, 0) := by kernel_rfl
  have f280 := x278 _ _ f271
  have f281 := x278 _ _ f272
  have f282 := x278 _ _ f273
  have p283 := p274.keep fun b r _ q => x278 b r q
  have x284 := x275.trans x278
  obtain ⟨_, h285, s286, rfl, x287⟩ := nextV_ok h276 (SagaM.mk (DefM.mk ⟨#[100]⟩ 1 0 smpX) 3 1 false 0 5 17) _ _ (OwnAt.lat p283 stepc_size (tsz_of size65)) (by decide) (x284 _ _ hg0) (x284 _ _ hg1)
  have q288 : nextV (SagaM.mk (DefM.mk ⟨#[100]⟩ 1 0 smpX) 3 1 false 0 5 17) = (1, 2, true, 0) := by kernel_rfl
  have f289 := x287 _ _ f280
  have f290 := x287 _ _ f281
  have f291 := x287 _ _ f282
  have p292 := p283.keep fun b r _ q => x287 b r q
  have x293 := x284.trans x287
  obtain ⟨b294, eb295⟩ : ∃ zq, zq = h285.size := ⟨_, rfl⟩
  obtain ⟨h296, e297⟩ : ∃ zq, zq = h285.push (.cells #[(vI 0), (vI 0), (vI 0)] 29 (0, 0)) := ⟨_, rfl⟩
  have f298 := push_new e297
  rw [← eb295] at f298
  have n299 : b294 ≠ b25 := by have := row_lt f289; omega
  have n300 : b294 ≠ b40 := by have := row_lt f290; omega
  have n301 : b294 ≠ b51 := by have := row_lt f291; omega
  have n302 : ∀ zz, (blk (Value.slice w254 2 (c255))) zz → ¬ zz = b294 := fun zz hz ez => by have := p292.blk_lt hz; omega
  have x303 : Ext h285 h296 := by rw [e297]; exact Ext.push _ _
  have o304 : h.size ≤ b294 := by have := x293.size; omega
  have f305 := x303 _ _ f289
  have f306 := x303 _ _ f290
  have f307 := x303 _ _ f291
  have p308 := p292.keep fun b r _ q => x303 b r q
  have x309 := x293.trans x303
  obtain ⟨h310, e311⟩ : ∃ zq, zq = h296.setIfInBounds b294 (.cells #[(vI 0), (vI 1), (vI 2)] 29 (0, 0)) := ⟨_, rfl⟩
  have f312 := set_same e311 f298
  have f313 := set_other e311 f305 n299
  have f314 := set_other e311 f306 n300
  have f315 := set_other e311 f307 n301
  have p316 := p308.keep fun b r hb q => (Chg.set e311).same b r q (n302 b hb)
  have x317 := Ext.setNew x309 e311 o304
  obtain ⟨v318, h319, s320, p321, p322, x323⟩ := result_ok h310 (SagaM.mk (DefM.mk ⟨#[100]⟩ 1 0 smpX) 3 1 false 0 5 17) _ _ (OwnAt.lat p316 stepc_size (tsz_of size65)) (by decide) 0 1 2 0 5 (x317 _ _ hg0) (x317 _ _ hg1)
  have q324 : resE (SagaM.mk (DefM.mk ⟨#[100]⟩ 1 0 smpX) 3 1 false 0 5 17) 0 1 2 0 5 = 0 := by kernel_rfl
  obtain ⟨w325, c326, p327, o328, n329⟩ := p322 q324
  have q330 : nxtS (SagaM.mk (DefM.mk ⟨#[100]⟩ 1 0 smpX) 3 1 false 0 5 17) 0 5 = SagaM.mk (DefM.mk ⟨#[100]⟩ 1 0 smpX) 3 0 false 0 5 17 := by kernel_rfl
  rw [q330] at p327
  subst p327
  have o331 : OwnAt h319 65 stepc smpX (.slice w325 2 c326) := o328
  have n332 : ∀ b, blk (.slice w325 2 c326) b → h310.size ≤ b := n329
  have f333 := x323 _ _ f313
  have f334 := x323 _ _ f314
  have f335 := x323 _ _ f315
  have x336 := x317.trans x323
  have z337 : h.size ≤ h310.size := x317.size
  have n338 : ∀ zz, blk (Value.slice w325 2 (c326)) zz → ¬ zz = b25 := fun zz hz ez => by have := n332 zz hz; have := row_lt f313; omega
  have o339 : ∀ zz, blk (Value.slice w325 2 (c326)) zz → h.size ≤ zz := fun zz hz => by have := n332 zz hz; omega
  obtain ⟨h340, e341⟩ : ∃ zq, zq = h319.setIfInBounds b25 (.cells #[(vS ⟨#[100]⟩), (vI 1), (vI 0), (Value.slice w325 2 (c326)), (vI 3), (vI 0), (vB false), (vI 0), (vI 5), (vI 17)] 41 (0, 0)) := ⟨_, rfl⟩
  have f342 := set_same e341 f333
  have f343 := set_other e341 f334 n45.symm
  have f344 := set_other e341 f335 n56.symm
  have p345 := o331.keep fun b r hb q => (Chg.set e341).same b r q (n338 b hb)
  have x346 := Ext.setNew x336 e341 o32
  refine wc_ev [evLw 9 0 agg41 size41 f271, evF 9 1 (by rw [q279] at s277; exact s277), evC 10 7 3 agg9 f281, snF 10 8 9 (Eq.refl (⟨#[117, 110, 100, 111, 105, 110, 103, 32, 49]⟩ : ByteArray)), evLw 13 0 agg41 size41 f280, evF 13 1 (by rw [q288] at s286; exact s286), evA 13 6 eb295 e297, evUw 13 7 size29 f298 e311, evLw 16 0 agg41 size41 f313, evLw 16 1 agg29 size29 f312, evC 16 5 3 agg25 f315, evF 16 6 s320, evUw 16 10 size41 f333 e341] .normal h340 [(20, (vI 3)), (21, (vL (some ⟨b40, 0, none⟩) 6 6)), (22, (vI 6)), (23, (vB true)), (27, (vA #[(vS ⟨#[100]⟩), (vI 1), (vI 0), (vL w254 2 c255), (vI 3), (vI 1), (vB false), (vI 0), (vI 5), (vI 17)])), (28, (vT #[(vS ⟨#[117, 110, 100, 111, 105, 110, 103, 32, 49]⟩), (vI 0)])), (26, (vT #[(vS ⟨#[117, 110, 100, 111, 105, 110, 103, 32, 49]⟩), (vI 0)])), (29, (vS ⟨#[117, 110, 100, 111, 105, 110, 103, 32, 49]⟩)), (30, (vI 0)), (6, (vS ⟨#[117, 110, 100, 111, 105, 110, 103, 32, 49]⟩)), (7, (vI 0)), (31, (vI 0)), (32, (vB false)), (33, (vB false)), (34, (vS ⟨#[117, 110, 100, 111, 105, 110, 103, 32, 49]⟩)), (35, (vL (some ⟨b40, 0, none⟩) 6 6)), (36, (vI 3)), (37, (vP b40 3)), (38, (vS ⟨#[117, 110, 100, 111, 105, 110, 103, 32, 49]⟩)), (39, (vB false)), (40, (vB false)), (41, (vI 3)), (42, (vL (some ⟨b51, 0, none⟩) 5 5)), (43, (vI 5)), (44, (vB false)), (46, (vA #[(vS ⟨#[100]⟩), (vI 1), (vI 0), (vL w254 2 c255), (vI 3), (vI 1), (vB false), (vI 0), (vI 5), (vI 17)])), (47, (vT #[(vA #[(vI 0), (vI 1), (vI 2)]), (vB true), (vI 0)])), (45, (vT #[(vA #[(vI 0), (vI 1), (vI 2)]), (vB true), (vI 0)])), (48, (vA #[(vI 0), (vI 1), (vI 2)])), (49, (vB true)), (50, (vI 0)), (8, (vP b294 0)), (9, (vB true)), (10, (vI 0)), (51, (vI 0)), (52, (vB false)), (53, (vB false)), (54, (vB true)), (55, (vB false)), (56, (vB false)), (58, (vA #[(vS ⟨#[100]⟩), (vI 1), (vI 0), (vL w254 2 c255), (vI 3), (vI 1), (vB false), (vI 0), (vI 5), (vI 17)])), (59, (vA #[(vI 0), (vI 1), (vI 2)])), (60, (vL (some ⟨b51, 0, none⟩) 5 5)), (61, (vI 3)), (62, (vP b51 3)), (63, (vI 0)), (64, (vT #[(vA #[(vS ⟨#[100]⟩), (vI 1), (vI 0), (vL w325 2 c326), (vI 3), (vI 0), (vB false), (vI 0), (vI 5), (vI 17)]), (vI 0)])), (57, (vT #[(vA #[(vS ⟨#[100]⟩), (vI 1), (vI 0), (vL w325 2 c326), (vI 3), (vI 0), (vB false), (vI 0), (vI 5), (vI 17)]), (vI 0)])), (65, (vA #[(vS ⟨#[100]⟩), (vI 1), (vI 0), (vL w325 2 c326), (vI 3), (vI 0), (vB false), (vI 0), (vI 5), (vI 17)])), (66, (vI 0)), (10, (vI 0)), (67, (vI 0)), (68, (vB false)), (24, (vI 3)), (25, (vI 4)), (5, (vI 4))] ?_
  refine wc_once (subc (bodyOf Tryd.prog 13) [1, 1, 1, 1, 1, 0, 1, 0, 0]) rfl ?_
  refine wc_act { tmps := #[(vB false), (vP b25 0), (vI 0), (vL (some ⟨b40, 0, none⟩) 6 6), (vL (some ⟨b51, 0, none⟩) 5 5), (vI 4), (vS ⟨#[117, 110, 100, 111, 105, 110, 103, 32, 49]⟩), (vI 0), (vP b294 0), (vB true), (vI 0), (vT #[(vA #[(vS ⟨#[100]⟩), (vI 1), (vI 0), (vL w14 2 c15), (vI 1), (vI 0), (vB false), (vI 0), (vI 5), (vI 0)]), (vI 0)]), (vA #[(vS ⟨#[100]⟩), (vI 1), (vI 0), (vL (some ⟨b3, 0, none⟩) 2 2)]), (vT #[(vA #[(vS ⟨#[100]⟩), (vI 1), (vI 0), (vL w14 2 c15), (vI 1), (vI 0), (vB false), (vI 0), (vI 5), (vI 0)]), (vI 0)]), (vA #[(vS ⟨#[100]⟩), (vI 1), (vI 0), (vL w14 2 c15), (vI 1), (vI 0), (vB false), (vI 0), (vI 5), (vI 0)]), (vI 0), (vI 0), (vB false), (vL (some ⟨b40, 0, none⟩) 6 6), (vL (some ⟨b51, 0, none⟩) 5 5), (vI 3), (vL (some ⟨b40, 0, none⟩) 6 6), (vI 6), (vB true), (vI 3), (vI 4), (vT #[(vS ⟨#[117, 110, 100, 111, 105, 110, 103, 32, 49]⟩), (vI 0)]), (vA #[(vS ⟨#[100]⟩), (vI 1), (vI 0), (vL w254 2 c255), (vI 3), (vI 1), (vB false), (vI 0), (vI 5), (vI 17)]), (vT #[(vS ⟨#[117, 110, 100, 111, 105, 110, 103, 32, 49]⟩), (vI 0)]), (vS ⟨#[117, 110, 100, 111, 105, 110, 103, 32, 49]⟩), (vI 0), (vI 0), (vB false), (vB false), (vS ⟨#[117, 110, 100, 111, 105, 110, 103, 32, 49]⟩), (vL (some ⟨b40, 0, none⟩) 6 6), (vI 3), (vP b40 3), (vS ⟨#[117, 110, 100, 111, 105, 110, 103, 32, 49]⟩), (vB false), (vB false), (vI 3), (vL (some ⟨b51, 0, none⟩) 5 5), (vI 5), (vB false), (vT #[(vA #[(vI 0), (vI 1), (vI 2)]), (vB true), (vI 0)]), (vA #[(vS ⟨#[100]⟩), (vI 1), (vI 0), (vL w254 2 c255), (vI 3), (vI 1), (vB false), (vI 0), (vI 5), (vI 17)]), (vT #[(vA #[(vI 0), (vI 1), (vI 2)]), (vB true), (vI 0)]), (vA #[(vI 0), (vI 1), (vI 2)]), (vB true), (vI 0), (vI 0), (vB false), (vB false), (vB true), (vB false), (vB false), (vT #[(vA #[(vS ⟨#[100]⟩), (vI 1), (vI 0), (vL w325 2 c326), (vI 3), (vI 0), (vB false), (vI 0), (vI 5), (vI 17)]), (vI 0)]), (vA #[(vS ⟨#[100]⟩), (vI 1), (vI 0), (vL w254 2 c255), (vI 3), (vI 1), (vB false), (vI 0), (vI 5), (vI 17)]), (vA #[(vI 0), (vI 1), (vI 2)]), (vL (some ⟨b51, 0, none⟩) 5 5), (vI 3), (vP b51 3), (vI 0), (vT #[(vA #[(vS ⟨#[100]⟩), (vI 1), (vI 0), (vL w325 2 c326), (vI 3), (vI 0), (vB false), (vI 0), (vI 5), (vI 17)]), (vI 0)]), (vA #[(vS ⟨#[100]⟩), (vI 1), (vI 0), (vL w325 2 c326), (vI 3), (vI 0), (vB false), (vI 0), (vI 5), (vI 17)]), (vI 0), (vI 0), (vB false)], defers := [] } (by as_aux_lemma => kernel_rfl) ?_
  obtain ⟨_, h347, s348, rfl, x349⟩ := txtV_ok h340 (SagaM.mk (DefM.mk ⟨#[100]⟩ 1 0 smpX) 3 0 false 0 5 17) _ _ (OwnAt.lat p345 stepc_size (tsz_of size65)) (by decide)
  have q350 : txtV (SagaM.mk (DefM.mk ⟨#[100]⟩ 1 0 smpX) 3 0 false 0 5 17) = (⟨#[117, 110, 100, 111, 105, 110, 103, 32, 48]⟩, 0) := by kernel_rfl
  have f351 := x349 _ _ f342
  have f352 := x349 _ _ f343
  have f353 := x349 _ _ f344
  have p354 := p345.keep fun b r _ q => x349 b r q
  have x355 := x346.trans x349
  obtain ⟨_, h356, s357, rfl, x358⟩ := nextV_ok h347 (SagaM.mk (DefM.mk ⟨#[100]⟩ 1 0 smpX) 3 0 false 0 5 17) _ _ (OwnAt.lat p354 stepc_size (tsz_of size65)) (by decide) (x355 _ _ hg0) (x355 _ _ hg1)
  have q359 : nextV (SagaM.mk (DefM.mk ⟨#[100]⟩ 1 0 smpX) 3 0 false 0 5 17) = (0, 2, true, 0) := by kernel_rfl
  have f360 := x358 _ _ f351
  have f361 := x358 _ _ f352
  have f362 := x358 _ _ f353
  have p363 := p354.keep fun b r _ q => x358 b r q
  have x364 := x355.trans x358
  obtain ⟨b365, eb366⟩ : ∃ zq, zq = h356.size := ⟨_, rfl⟩
  obtain ⟨h367, e368⟩ : ∃ zq, zq = h356.push (.cells #[(vI 0), (vI 0), (vI 0)] 29 (0, 0)) := ⟨_, rfl⟩
  have f369 := push_new e368
  rw [← eb366] at f369
  have n370 : b365 ≠ b25 := by have := row_lt f360; omega
  have n371 : b365 ≠ b40 := by have := row_lt f361; omega
  have n372 : b365 ≠ b51 := by have := row_lt f362; omega
  have n373 : ∀ zz, (blk (Value.slice w325 2 (c326))) zz → ¬ zz = b365 := fun zz hz ez => by have := p363.blk_lt hz; omega
  have x374 : Ext h356 h367 := by rw [e368]; exact Ext.push _ _
  have o375 : h.size ≤ b365 := by have := x364.size; omega
  have f376 := x374 _ _ f360
  have f377 := x374 _ _ f361
  have f378 := x374 _ _ f362
  have p379 := p363.keep fun b r _ q => x374 b r q
  have x380 := x364.trans x374
  obtain ⟨h381, e382⟩ : ∃ zq, zq = h367.setIfInBounds b365 (.cells #[(vI 0), (vI 0), (vI 2)] 29 (0, 0)) := ⟨_, rfl⟩
  have f383 := set_same e382 f369
  have f384 := set_other e382 f376 n370
  have f385 := set_other e382 f377 n371
  have f386 := set_other e382 f378 n372
  have p387 := p379.keep fun b r hb q => (Chg.set e382).same b r q (n373 b hb)
  have x388 := Ext.setNew x380 e382 o375
  obtain ⟨v389, h390, s391, p392, p393, x394⟩ := result_ok h381 (SagaM.mk (DefM.mk ⟨#[100]⟩ 1 0 smpX) 3 0 false 0 5 17) _ _ (OwnAt.lat p387 stepc_size (tsz_of size65)) (by decide) 0 0 2 0 5 (x388 _ _ hg0) (x388 _ _ hg1)
  have q395 : resE (SagaM.mk (DefM.mk ⟨#[100]⟩ 1 0 smpX) 3 0 false 0 5 17) 0 0 2 0 5 = 0 := by kernel_rfl
  obtain ⟨w396, c397, p398, o399, n400⟩ := p393 q395
  have q401 : nxtS (SagaM.mk (DefM.mk ⟨#[100]⟩ 1 0 smpX) 3 0 false 0 5 17) 0 5 = SagaM.mk (DefM.mk ⟨#[100]⟩ 1 0 smpX) 5 0 false 0 5 17 := by kernel_rfl
  rw [q401] at p398
  subst p398
  have o402 : OwnAt h390 65 stepc smpX (.slice w396 2 c397) := o399
  have n403 : ∀ b, blk (.slice w396 2 c397) b → h381.size ≤ b := n400
  have f404 := x394 _ _ f384
  have f405 := x394 _ _ f385
  have x406 := x388.trans x394
  have z407 : h.size ≤ h381.size := x388.size
  have n408 : ∀ zz, blk (Value.slice w396 2 (c397)) zz → ¬ zz = b25 := fun zz hz ez => by have := n403 zz hz; have := row_lt f384; omega
  have o409 : ∀ zz, blk (Value.slice w396 2 (c397)) zz → h.size ≤ zz := fun zz hz => by have := n403 zz hz; omega
  obtain ⟨h410, e411⟩ : ∃ zq, zq = h390.setIfInBounds b25 (.cells #[(vS ⟨#[100]⟩), (vI 1), (vI 0), (Value.slice w396 2 (c397)), (vI 5), (vI 0), (vB false), (vI 0), (vI 5), (vI 17)] 41 (0, 0)) := ⟨_, rfl⟩
  have f412 := set_same e411 f404
  have f413 := set_other e411 f405 n45.symm
  have p414 := o402.keep fun b r hb q => (Chg.set e411).same b r q (n408 b hb)
  have x415 := Ext.setNew x406 e411 o32
  refine wc_ev [evLw 9 0 agg41 size41 f342, evF 9 1 (by rw [q350] at s348; exact s348), evC 10 7 4 agg9 f352, snF 10 8 9 (Eq.refl (⟨#[117, 110, 100, 111, 105, 110, 103, 32, 48]⟩ : ByteArray)), evLw 13 0 agg41 size41 f351, evF 13 1 (by rw [q359] at s357; exact s357), evA 13 6 eb366 e368, evUw 13 7 size29 f369 e382, evLw 16 0 agg41 size41 f384, evLw 16 1 agg29 size29 f383, evC 16 5 4 agg25 f386, evF 16 6 s391, evUw 16 10 size41 f404 e411] .normal h410 [(20, (vI 4)), (21, (vL (some ⟨b40, 0, none⟩) 6 6)), (22, (vI 6)), (23, (vB true)), (27, (vA #[(vS ⟨#[100]⟩), (vI 1), (vI 0), (vL w325 2 c326), (vI 3), (vI 0), (vB false), (vI 0), (vI 5), (vI 17)])), (28, (vT #[(vS ⟨#[117, 110, 100, 111, 105, 110, 103, 32, 48]⟩), (vI 0)])), (26, (vT #[(vS ⟨#[117, 110, 100, 111, 105, 110, 103, 32, 48]⟩), (vI 0)])), (29, (vS ⟨#[117, 110, 100, 111, 105, 110, 103, 32, 48]⟩)), (30, (vI 0)), (6, (vS ⟨#[117, 110, 100, 111, 105, 110, 103, 32, 48]⟩)), (7, (vI 0)), (31, (vI 0)), (32, (vB false)), (33, (vB false)), (34, (vS ⟨#[117, 110, 100, 111, 105, 110, 103, 32, 48]⟩)), (35, (vL (some ⟨b40, 0, none⟩) 6 6)), (36, (vI 4)), (37, (vP b40 4)), (38, (vS ⟨#[117, 110, 100, 111, 105, 110, 103, 32, 48]⟩)), (39, (vB false)), (40, (vB false)), (41, (vI 4)), (42, (vL (some ⟨b51, 0, none⟩) 5 5)), (43, (vI 5)), (44, (vB false)), (46, (vA #[(vS ⟨#[100]⟩), (vI 1), (vI 0), (vL w325 2 c326), (vI 3), (vI 0), (vB false), (vI 0), (vI 5), (vI 17)])), (47, (vT #[(vA #[(vI 0), (vI 0), (vI 2)]), (vB true), (vI 0)])), (45, (vT #[(vA #[(vI 0), (vI 0), (vI 2)]), (vB true), (vI 0)])), (48, (vA #[(vI 0), (vI 0), (vI 2)])), (49, (vB true)), (50, (vI 0)), (8, (vP b365 0)), (9, (vB true)), (10, (vI 0)), (51, (vI 0)), (52, (vB false)), (53, (vB false)), (54, (vB true)), (55, (vB false)), (56, (vB false)), (58, (vA #[(vS ⟨#[100]⟩), (vI 1), (vI 0), (vL w325 2 c326), (vI 3), (vI 0), (vB false), (vI 0), (vI 5), (vI 17)])), (59, (vA #[(vI 0), (vI 0), (vI 2)])), (60, (vL (some ⟨b51, 0, none⟩) 5 5)), (61, (vI 4)), (62, (vP b51 4)), (63, (vI 0)), (64, (vT #[(vA #[(vS ⟨#[100]⟩), (vI 1), (vI 0), (vL w396 2 c397), (vI 5), (vI 0), (vB false), (vI 0), (vI 5), (vI 17)]), (vI 0)])), (57, (vT #[(vA #[(vS ⟨#[100]⟩), (vI 1), (vI 0), (vL w396 2 c397), (vI 5), (vI 0), (vB false), (vI 0), (vI 5), (vI 17)]), (vI 0)])), (65, (vA #[(vS ⟨#[100]⟩), (vI 1), (vI 0), (vL w396 2 c397), (vI 5), (vI 0), (vB false), (vI 0), (vI 5), (vI 17)])), (66, (vI 0)), (10, (vI 0)), (67, (vI 0)), (68, (vB false)), (24, (vI 4)), (25, (vI 5)), (5, (vI 5))] ?_
  refine wc_once (subc (bodyOf Tryd.prog 13) [1, 1, 1, 1, 1, 0, 1, 0, 0]) rfl ?_
  refine wc_act { tmps := #[(vB false), (vP b25 0), (vI 0), (vL (some ⟨b40, 0, none⟩) 6 6), (vL (some ⟨b51, 0, none⟩) 5 5), (vI 5), (vS ⟨#[117, 110, 100, 111, 105, 110, 103, 32, 48]⟩), (vI 0), (vP b365 0), (vB true), (vI 0), (vT #[(vA #[(vS ⟨#[100]⟩), (vI 1), (vI 0), (vL w14 2 c15), (vI 1), (vI 0), (vB false), (vI 0), (vI 5), (vI 0)]), (vI 0)]), (vA #[(vS ⟨#[100]⟩), (vI 1), (vI 0), (vL (some ⟨b3, 0, none⟩) 2 2)]), (vT #[(vA #[(vS ⟨#[100]⟩), (vI 1), (vI 0), (vL w14 2 c15), (vI 1), (vI 0), (vB false), (vI 0), (vI 5), (vI 0)]), (vI 0)]), (vA #[(vS ⟨#[100]⟩), (vI 1), (vI 0), (vL w14 2 c15), (vI 1), (vI 0), (vB false), (vI 0), (vI 5), (vI 0)]), (vI 0), (vI 0), (vB false), (vL (some ⟨b40, 0, none⟩) 6 6), (vL (some ⟨b51, 0, none⟩) 5 5), (vI 4), (vL (some ⟨b40, 0, none⟩) 6 6), (vI 6), (vB true), (vI 4), (vI 5), (vT #[(vS ⟨#[117, 110, 100, 111, 105, 110, 103, 32, 48]⟩), (vI 0)]), (vA #[(vS ⟨#[100]⟩), (vI 1), (vI 0), (vL w325 2 c326), (vI 3), (vI 0), (vB false), (vI 0), (vI 5), (vI 17)]), (vT #[(vS ⟨#[117, 110, 100, 111, 105, 110, 103, 32, 48]⟩), (vI 0)]), (vS ⟨#[117, 110, 100, 111, 105, 110, 103, 32, 48]⟩), (vI 0), (vI 0), (vB false), (vB false), (vS ⟨#[117, 110, 100, 111, 105, 110, 103, 32, 48]⟩), (vL (some ⟨b40, 0, none⟩) 6 6), (vI 4), (vP b40 4), (vS ⟨#[117, 110, 100, 111, 105, 110, 103, 32, 48]⟩), (vB false), (vB false), (vI 4), (vL (some ⟨b51, 0, none⟩) 5 5), (vI 5), (vB false), (vT #[(vA #[(vI 0), (vI 0), (vI 2)]), (vB true), (vI 0)]), (vA #[(vS ⟨#[100]⟩), (vI 1), (vI 0), (vL w325 2 c326), (vI 3), (vI 0), (vB false), (vI 0), (vI 5), (vI 17)]), (vT #[(vA #[(vI 0), (vI 0), (vI 2)]), (vB true), (vI 0)]), (vA #[(vI 0), (vI 0), (vI 2)]), (vB true), (vI 0), (vI 0), (vB false), (vB false), (vB true), (vB false), (vB false), (vT #[(vA #[(vS ⟨#[100]⟩), (vI 1), (vI 0), (vL w396 2 c397), (vI 5), (vI 0), (vB false), (vI 0), (vI 5), (vI 17)]), (vI 0)]), (vA #[(vS ⟨#[100]⟩), (vI 1), (vI 0), (vL w325 2 c326), (vI 3), (vI 0), (vB false), (vI 0), (vI 5), (vI 17)]), (vA #[(vI 0), (vI 0), (vI 2)]), (vL (some ⟨b51, 0, none⟩) 5 5), (vI 4), (vP b51 4), (vI 0), (vT #[(vA #[(vS ⟨#[100]⟩), (vI 1), (vI 0), (vL w396 2 c397), (vI 5), (vI 0), (vB false), (vI 0), (vI 5), (vI 17)]), (vI 0)]), (vA #[(vS ⟨#[100]⟩), (vI 1), (vI 0), (vL w396 2 c397), (vI 5), (vI 0), (vB false), (vI 0), (vI 5), (vI 17)]), (vI 0), (vI 0), (vB false)], defers := [] } (by as_aux_lemma => kernel_rfl) ?_
  obtain ⟨_, h416, s417, rfl, x418⟩ := txtV_ok h410 (SagaM.mk (DefM.mk ⟨#[100]⟩ 1 0 smpX) 5 0 false 0 5 17) _ _ (OwnAt.lat p414 stepc_size (tsz_of size65)) (by decide)
  have q419 : txtV (SagaM.mk (DefM.mk ⟨#[100]⟩ 1 0 smpX) 5 0 false 0 5 17) = (⟨#[97, 98, 111, 114, 116, 101, 100, 32, 49, 55]⟩, 0) := by kernel_rfl
  have f420 := x418 _ _ f413
  have x421 := x415.trans x418
  refine wc_ev [evLw 9 0 agg41 size41 f412, evF 9 1 (by rw [q419] at s417; exact s417), evC 10 7 5 agg9 f420, snF 10 8 9 (Eq.refl (⟨#[97, 98, 111, 114, 116, 101, 100, 32, 49, 55]⟩ : ByteArray))] (.exit 0) h416 [(20, (vI 5)), (21, (vL (some ⟨b40, 0, none⟩) 6 6)), (22, (vI 6)), (23, (vB true)), (27, (vA #[(vS ⟨#[100]⟩), (vI 1), (vI 0), (vL w396 2 c397), (vI 5), (vI 0), (vB false), (vI 0), (vI 5), (vI 17)])), (28, (vT #[(vS ⟨#[97, 98, 111, 114, 116, 101, 100, 32, 49, 55]⟩), (vI 0)])), (26, (vT #[(vS ⟨#[97, 98, 111, 114, 116, 101, 100, 32, 49, 55]⟩), (vI 0)])), (29, (vS ⟨#[97, 98, 111, 114, 116, 101, 100, 32, 49, 55]⟩)), (30, (vI 0)), (6, (vS ⟨#[97, 98, 111, 114, 116, 101, 100, 32, 49, 55]⟩)), (7, (vI 0)), (31, (vI 0)), (32, (vB false)), (33, (vB false)), (34, (vS ⟨#[97, 98, 111, 114, 116, 101, 100, 32, 49, 55]⟩)), (35, (vL (some ⟨b40, 0, none⟩) 6 6)), (36, (vI 5)), (37, (vP b40 5)), (38, (vS ⟨#[97, 98, 111, 114, 116, 101, 100, 32, 49, 55]⟩)), (39, (vB false)), (40, (vB false)), (41, (vI 5)), (42, (vL (some ⟨b51, 0, none⟩) 5 5)), (43, (vI 5)), (44, (vB true))] ?_
  refine wc_act { tmps := #[(vB false), (vP b25 0), (vI 0), (vL (some ⟨b40, 0, none⟩) 6 6), (vL (some ⟨b51, 0, none⟩) 5 5), (vI 5), (vS ⟨#[97, 98, 111, 114, 116, 101, 100, 32, 49, 55]⟩), (vI 0), (vP b365 0), (vB true), (vI 0), (vT #[(vA #[(vS ⟨#[100]⟩), (vI 1), (vI 0), (vL w14 2 c15), (vI 1), (vI 0), (vB false), (vI 0), (vI 5), (vI 0)]), (vI 0)]), (vA #[(vS ⟨#[100]⟩), (vI 1), (vI 0), (vL (some ⟨b3, 0, none⟩) 2 2)]), (vT #[(vA #[(vS ⟨#[100]⟩), (vI 1), (vI 0), (vL w14 2 c15), (vI 1), (vI 0), (vB false), (vI 0), (vI 5), (vI 0)]), (vI 0)]), (vA #[(vS ⟨#[100]⟩), (vI 1), (vI 0), (vL w14 2 c15), (vI 1), (vI 0), (vB false), (vI 0), (vI 5), (vI 0)]), (vI 0), (vI 0), (vB false), (vL (some ⟨b40, 0, none⟩) 6 6), (vL (some ⟨b51, 0, none⟩) 5 5), (vI 5), (vL (some ⟨b40, 0, none⟩) 6 6), (vI 6), (vB true), (vI 4), (vI 5), (vT #[(vS ⟨#[97, 98, 111, 114, 116, 101, 100, 32, 49, 55]⟩), (vI 0)]), (vA #[(vS ⟨#[100]⟩), (vI 1), (vI 0), (vL w396 2 c397), (vI 5), (vI 0), (vB false), (vI 0), (vI 5), (vI 17)]), (vT #[(vS ⟨#[97, 98, 111, 114, 116, 101, 100, 32, 49, 55]⟩), (vI 0)]), (vS ⟨#[97, 98, 111, 114, 116, 101, 100, 32, 49, 55]⟩), (vI 0), (vI 0), (vB false), (vB false), (vS ⟨#[97, 98, 111, 114, 116, 101, 100, 32, 49, 55]⟩), (vL (some ⟨b40, 0, none⟩) 6 6), (vI 5), (vP b40 5), (vS ⟨#[97, 98, 111, 114, 116, 101, 100, 32, 49, 55]⟩), (vB false), (vB false), (vI 5), (vL (some ⟨b51, 0, none⟩) 5 5), (vI 5), (vB true), (vT #[(vA #[(vI 0), (vI 0), (vI 2)]), (vB true), (vI 0)]), (vA #[(vS ⟨#[100]⟩), (vI 1), (vI 0), (vL w325 2 c326), (vI 3), (vI 0), (vB false), (vI 0), (vI 5), (vI 17)]), (vT #[(vA #[(vI 0), (vI 0), (vI 2)]), (vB true), (vI 0)]), (vA #[(vI 0), (vI 0), (vI 2)]), (vB true), (vI 0), (vI 0), (vB false), (vB false), (vB true), (vB false), (vB false), (vT #[(vA #[(vS ⟨#[100]⟩), (vI 1), (vI 0), (vL w396 2 c397), (vI 5), (vI 0), (vB false), (vI 0), (vI 5), (vI 17)]), (vI 0)]), (vA #[(vS ⟨#[100]⟩), (vI 1), (vI 0), (vL w325 2 c326), (vI 3), (vI 0), (vB false), (vI 0), (vI 5), (vI 17)]), (vA #[(vI 0), (vI 0), (vI 2)]), (vL (some ⟨b51, 0, none⟩) 5 5), (vI 4), (vP b51 4), (vI 0), (vT #[(vA #[(vS ⟨#[100]⟩), (vI 1), (vI 0), (vL w396 2 c397), (vI 5), (vI 0), (vB false), (vI 0), (vI 5), (vI 17)]), (vI 0)]), (vA #[(vS ⟨#[100]⟩), (vI 1), (vI 0), (vL w396 2 c397), (vI 5), (vI 0), (vB false), (vI 0), (vI 5), (vI 17)]), (vI 0), (vI 0), (vB false)], defers := [] } (by as_aux_lemma => kernel_rfl) ?_
  refine wc_ev [] .ret h416 [(0, (vB true))] ?_
  exact end_ev [] (vB true) (hK _ _ (⟨rfl, x421⟩))
end C28
