/- The run of SagaKnown. -/
import Derived.Test.YtonjnghiehdmmaaDoorMl
import Derived.KernelRfl
open Go Go.AM Go.Proofs
namespace C28
set_option maxRecDepth 10000 in
set_option maxHeartbeats 4000000 in
theorem law_known (h : Heap) (hg0 : h[0]? = some (.cells #[Value.nilFunc, (Value.func (.func 126) #[] #[]), (Value.func (.func 127) #[] #[]), (Value.func (.func 128) #[] #[])] 86 (0, 0))) (hg1 : h[1]? = some (.cells #[(vI 0), (vI 1), (vI 3), (vI 2)] 96 (0, 0))) : WCall Tryd.prog 9 #[] h (fun v h1 => v = .bool true ∧ Ext h h1) := by
  suffices H : ∀ K : Value → Heap → Prop, (∀ v h1, (fun v h1 => v = .bool true ∧ Ext h h1) v h1 → K v h1) → WCall Tryd.prog 9 #[] h K from H _ fun _ _ q => q
  intro K hK
  refine wcall_at { tmps := #[vZ, vZ, vZ, vZ, vZ, vZ, vZ, vZ, vZ, vZ, vZ, vZ, vZ, vZ, vZ, vZ, vZ, vZ, vZ, vZ, vZ, vZ, vZ, vZ, vZ, vZ, vZ, vZ, vZ, vZ, vZ, vZ, vZ, vZ, vZ, vZ, vZ, vZ, vZ, vZ, vZ, vZ, vZ, vZ, vZ, vZ, vZ, vZ, vZ, vZ, vZ, vZ, vZ, vZ, vZ, vZ, vZ, vZ, vZ, vZ, vZ, vZ, vZ, vZ, vZ, vZ, vZ, vZ, vZ, vZ, vZ, vZ, vZ, vZ, vZ, vZ, vZ, vZ, vZ, vZ, vZ, vZ, vZ, vZ, vZ, vZ, vZ, vZ, vZ, vZ, vZ, vZ, vZ, vZ, vZ, vZ, vZ, vZ, vZ, vZ, vZ, vZ, vZ, vZ, vZ, vZ, vZ, vZ, vZ, vZ, vZ, vZ, vZ, vZ, vZ, vZ, vZ, vZ, vZ, vZ, vZ, vZ, vZ, vZ, vZ, vZ, vZ, vZ, vZ, vZ, vZ, vZ, vZ, vZ, vZ, vZ, vZ, vZ, vZ, vZ, vZ, vZ, vZ, vZ, vZ, vZ, vZ, vZ, vZ, vZ, vZ, vZ, vZ, vZ, vZ, vZ, vZ, vZ, vZ, vZ, vZ, vZ, vZ, vZ, vZ, vZ, vZ, vZ, vZ, vZ, vZ, vZ, vZ, vZ, vZ, vZ, vZ, vZ, vZ, vZ, vZ, vZ, vZ, vZ, vZ, vZ, vZ, vZ, vZ, vZ, vZ, vZ, vZ, vZ, vZ, vZ, vZ, vZ, vZ, vZ, vZ, vZ, vZ, vZ, vZ, vZ, vZ, vZ, vZ, vZ, vZ, vZ, vZ, vZ, vZ, vZ, vZ, vZ, vZ, vZ, vZ, vZ], defers := [] } (by kernel_rfl) ?_
  obtain ⟨_, hh1, sn2, b3, rfl, p4, x5⟩ := sample_ok h
  have x6 := (Ext.refl h).trans x5
  obtain ⟨v7, h8, s9, p10, p11, x12⟩ := sstart_ok hh1 (DefM.mk ⟨#[100]⟩ 1 0 smpX) _ _ p4 (by decide) 5
  have q13 : staE (DefM.mk ⟨#[100]⟩ 1 0 smpX) 5 = 0 := by kernel_rfl
  obtain ⟨w14, c15, p16, o17, n18⟩ := p11 q13
  have q19 : staS (DefM.mk ⟨#[100]⟩ 1 0 smpX) 5 = SagaM.mk (DefM.mk ⟨#[100]⟩ 1 0 smpX) 1 0 false 0 5 0 := by kernel_rfl
  rw [q19] at p16
  subst p16
  have o20 : OwnAt h8 65 stepc smpX (.slice w14 2 c15) := o17
  have n21 : ∀ b, blk (.slice w14 2 c15) b → hh1.size ≤ b := n18
  have x22 := x6.trans x12
  have z23 : h.size ≤ hh1.size := x6.size
  have o24 : ∀ zz, blk (Value.slice w14 2 (c15)) zz → h.size ≤ zz := fun zz hz => by have := n21 zz hz; omega
  obtain ⟨b25, eb26⟩ : ∃ zq, zq = h8.size := ⟨_, rfl⟩
  obtain ⟨h27, e28⟩ : ∃ zq, zq = h8.push (.cells #[(vS .empty), (vI 0), (vI 0), (Value.slice none 0 0), (vI 0), (vI 0), (vB false), (vI 0), (vI 0), (vI 0)] 41 (0, 0)) := ⟨_, rfl⟩
  have f29 := push_new e28
  rw [← eb26] at f29
  have n30 : ∀ zz, (blk (Value.slice w14 2 (c15))) zz → ¬ zz = b25 := fun zz hz ez => by have := o20.blk_lt hz; omega
  have x31 : Ext h8 h27 := by rw [e28]; exact Ext.push _ _
  have o32 : h.size ≤ b25 := by have := x22.size; omega
  have p33 := o20.keep fun b r _ q => x31 b r q
  have x34 := x22.trans x31
  obtain ⟨h35, e36⟩ : ∃ zq, zq = h27.setIfInBounds b25 (.cells #[(vS ⟨#[100]⟩), (vI 1), (vI 0), (Value.slice w14 2 (c15)), (vI 1), (vI 0), (vB false), (vI 0), (vI 5), (vI 0)] 41 (0, 0)) := ⟨_, rfl⟩
  have f37 := set_same e36 f29
  have p38 := p33.keep fun b r hb q => (Chg.set e36).same b r q (n30 b hb)
  have x39 := Ext.setNew x34 e36 o32
  obtain ⟨v40, h41, s42, p43, p44, x45⟩ := cancel_ok h35 (SagaM.mk (DefM.mk ⟨#[100]⟩ 1 0 smpX) 1 0 false 0 5 0) _ _ (OwnAt.lat p38 stepc_size (tsz_of size65)) (by decide)
  have q46 : canE (SagaM.mk (DefM.mk ⟨#[100]⟩ 1 0 smpX) 1 0 false 0 5 0) = 0 := by kernel_rfl
  obtain ⟨w47, c48, p49, o50, n51⟩ := p44 q46
  have q52 : canS (SagaM.mk (DefM.mk ⟨#[100]⟩ 1 0 smpX) 1 0 false 0 5 0) = SagaM.mk (DefM.mk ⟨#[100]⟩ 1 0 smpX) 1 0 true 0 5 0 := by kernel_rfl
  rw [q52] at p49
  subst p49
  have o53 : OwnAt h41 65 stepc smpX (.slice w47 2 c48) := o50
  have n54 : ∀ b, blk (.slice w47 2 c48) b → h35.size ≤ b := n51
  have f55 := x45 _ _ f37
  have p56 := p38.keep fun b r _ q => x45 b r q
  have x57 := x39.trans x45
  have z58 : h.size ≤ h35.size := x39.size
  have o59 : ∀ zz, blk (Value.slice w47 2 (c48)) zz → h.size ≤ zz := fun zz hz => by have := n54 zz hz; omega
  obtain ⟨b60, eb61⟩ : ∃ zq, zq = h41.size := ⟨_, rfl⟩
  obtain ⟨h62, e63⟩ : ∃ zq, zq = h41.push (.cells #[(vS .empty), (vI 0), (vI 0), (Value.slice none 0 0), (vI 0), (vI 0), (vB false), (vI 0), (vI 0), (vI 0)] 41 (0, 0)) := ⟨_, rfl⟩
  have f65 := push_new e63
  rw [← eb61] at f65
  have n66 : b60 ≠ b25 := by have := row_lt f55; omega
  have n67 : ∀ zz, (blk (Value.slice w14 2 (c15))) zz → ¬ zz = b60 := fun zz hz ez => by have := p56.blk_lt hz; omega
  have n68 : ∀ zz, (blk (Value.slice w47 2 (c48))) zz → ¬ zz = b60 := fun zz hz ez => by have := o53.blk_lt hz; omega
  have x69 : Ext h41 h62 := by rw [e63]; exact Ext.push _ _
  have o70 : h.size ≤ b60 := by have := x57.size; omega
  have f71 := x69 _ _ f55
  have p72 := p56.keep fun b r _ q => x69 b r q
  have p73 := o53.keep fun b r _ q => x69 b r q
  have x74 := x57.trans x69
  obtain ⟨h75, e76⟩ : ∃ zq, zq = h62.setIfInBounds b60 (.cells #[(vS ⟨#[100]⟩), (vI 1), (vI 0), (Value.slice w47 2 (c48)), (vI 1), (vI 0), (vB true), (vI 0), (vI 5), (vI 0)] 41 (0, 0)) := ⟨_, rfl⟩
  have f77 := set_same e76 f65
  have f78 := set_other e76 f71 n66
  have p79 := p72.keep fun b r hb q => (Chg.set e76).same b r q (n67 b hb)
  have p80 := p73.keep fun b r hb q => (Chg.set e76).same b r q (n68 b hb)
  have x81 := Ext.setNew x74 e76 o70
  obtain ⟨v82, h83, s84, p85, p86, x87⟩ := result_ok h75 (SagaM.mk (DefM.mk ⟨#[100]⟩ 1 0 smpX) 1 0 true 0 5 0) _ _ (OwnAt.lat p80 stepc_size (tsz_of size65)) (by decide) 0 0 1 0 5 (x81 _ _ hg0) (x81 _ _ hg1)
  have q88 : resE (SagaM.mk (DefM.mk ⟨#[100]⟩ 1 0 smpX) 1 0 true 0 5 0) 0 0 1 0 5 = 0 := by kernel_rfl
  obtain ⟨w89, c90, p91, o92, n93⟩ := p86 q88
  have q94 : nxtS (SagaM.mk (DefM.mk ⟨#[100]⟩ 1 0 smpX) 1 0 true 0 5 0) 0 5 = SagaM.mk (DefM.mk ⟨#[100]⟩ 1 0 smpX) 3 0 true 0 5 9 := by kernel_rfl
  rw [q94] at p91
  subst p91
  have o95 : OwnAt h83 65 stepc smpX (.slice w89 2 c90) := o92
  have n96 : ∀ b, blk (.slice w89 2 c90) b → h75.size ≤ b := n93
  have f97 := x87 _ _ f78
  have f98 := x87 _ _ f77
  have p99 := p79.keep fun b r _ q => x87 b r q
  have x100 := x81.trans x87
  have z101 : h.size ≤ h75.size := x81.size
  have n102 : ∀ zz, blk (Value.slice w89 2 (c90)) zz → ¬ zz = b60 := fun zz hz ez => by have := n96 zz hz; have := row_lt f77; omega
  have o103 : ∀ zz, blk (Value.slice w89 2 (c90)) zz → h.size ≤ zz := fun zz hz => by have := n96 zz hz; omega
  obtain ⟨h104, e105⟩ : ∃ zq, zq = h83.setIfInBounds b60 (.cells #[(vS ⟨#[100]⟩), (vI 1), (vI 0), (Value.slice w89 2 (c90)), (vI 3), (vI 0), (vB true), (vI 0), (vI 5), (vI 9)] 41 (0, 0)) := ⟨_, rfl⟩
  have f106 := set_same e105 f98
  have f107 := set_other e105 f97 n66
  have p108 := p99.keep fun b r hb q => (Chg.set e105).same b r q (n67 b hb)
  have p109 := o95.keep fun b r hb q => (Chg.set e105).same b r q (n102 b hb)
  have x110 := Ext.setNew x100 e105 o70
  obtain ⟨_, h111, s112, rfl, x113⟩ := txtV_ok h104 (SagaM.mk (DefM.mk ⟨#[100]⟩ 1 0 smpX) 3 0 true 0 5 9) _ _ (OwnAt.lat p109 stepc_size (tsz_of size65)) (by decide)
  have q114 : txtV (SagaM.mk (DefM.mk ⟨#[100]⟩ 1 0 smpX) 3 0 true 0 5 9) = (⟨#[117, 110, 100, 111, 105, 110, 103, 32, 48, 32, 99, 97, 110, 99, 101, 108]⟩, 0) := by kernel_rfl
  have f115 := x113 _ _ f107
  have f116 := x113 _ _ f106
  have p117 := p108.keep fun b r _ q => x113 b r q
  have p118 := p109.keep fun b r _ q => x113 b r q
  have x119 := x110.trans x113
  obtain ⟨v120, h121, s122, p123, p124, x125⟩ := result_ok h111 (SagaM.mk (DefM.mk ⟨#[100]⟩ 1 0 smpX) 3 0 true 0 5 9) _ _ (OwnAt.lat p118 stepc_size (tsz_of size65)) (by decide) 0 0 2 0 5 (x119 _ _ hg0) (x119 _ _ hg1)
  have q126 : resE (SagaM.mk (DefM.mk ⟨#[100]⟩ 1 0 smpX) 3 0 true 0 5 9) 0 0 2 0 5 = 0 := by kernel_rfl
  obtain ⟨w127, c128, p129, o130, n131⟩ := p124 q126
  have q132 : nxtS (SagaM.mk (DefM.mk ⟨#[100]⟩ 1 0 smpX) 3 0 true 0 5 9) 0 5 = SagaM.mk (DefM.mk ⟨#[100]⟩ 1 0 smpX) 5 0 true 0 5 9 := by kernel_rfl
  rw [q132] at p129
  subst p129
  have o133 : OwnAt h121 65 stepc smpX (.slice w127 2 c128) := o130
  have n134 : ∀ b, blk (.slice w127 2 c128) b → h111.size ≤ b := n131
  have f135 := x125 _ _ f115
  have f136 := x125 _ _ f116
  have p137 := p117.keep fun b r _ q => x125 b r q
  have x138 := x119.trans x125
  have z139 : h.size ≤ h111.size := x119.size
  have n140 : ∀ zz, blk (Value.slice w127 2 (c128)) zz → ¬ zz = b60 := fun zz hz ez => by have := n134 zz hz; have := row_lt f116; omega
  have o141 : ∀ zz, blk (Value.slice w127 2 (c128)) zz → h.size ≤ zz := fun zz hz => by have := n134 zz hz; omega
  obtain ⟨h142, e143⟩ : ∃ zq, zq = h121.setIfInBounds b60 (.cells #[(vS ⟨#[100]⟩), (vI 1), (vI 0), (Value.slice w127 2 (c128)), (vI 5), (vI 0), (vB true), (vI 0), (vI 5), (vI 9)] 41 (0, 0)) := ⟨_, rfl⟩
  have f144 := set_same e143 f136
  have f145 := set_other e143 f135 n66
  have p146 := p137.keep fun b r hb q => (Chg.set e143).same b r q (n67 b hb)
  have p147 := o133.keep fun b r hb q => (Chg.set e143).same b r q (n140 b hb)
  have x148 := Ext.setNew x138 e143 o70
  obtain ⟨_, h149, s150, rfl, x151⟩ := txtV_ok h142 (SagaM.mk (DefM.mk ⟨#[100]⟩ 1 0 smpX) 5 0 true 0 5 9) _ _ (OwnAt.lat p147 stepc_size (tsz_of size65)) (by decide)
  have q152 : txtV (SagaM.mk (DefM.mk ⟨#[100]⟩ 1 0 smpX) 5 0 true 0 5 9) = (⟨#[97, 98, 111, 114, 116, 101, 100, 32, 57, 32, 99, 97, 110, 99, 101, 108]⟩, 0) := by kernel_rfl
  have f153 := x151 _ _ f145
  have f154 := x151 _ _ f144
  have p155 := p146.keep fun b r _ q => x151 b r q
  have p156 := p147.keep fun b r _ q => x151 b r q
  have x157 := x148.trans x151
  obtain ⟨_, hh158, sn159, b160, rfl, p161, x162⟩ := sample_ok h149
  have f163 := x162 _ _ f153
  have f164 := x162 _ _ f154
  have p165 := p155.keep fun b r _ q => x162 b r q
  have p166 := p156.keep fun b r _ q => x162 b r q
  have x167 := x157.trans x162
  obtain ⟨b168, eb169⟩ : ∃ zq, zq = hh158.size := ⟨_, rfl⟩
  obtain ⟨h170, e171⟩ : ∃ zq, zq = hh158.push (.cells #[(vS .empty), (vI 0), (vI 0), (Value.slice none 0 0)] 24 (0, 0)) := ⟨_, rfl⟩
  have f172 := push_new e171
  rw [← eb169] at f172
  have n173 : b168 ≠ b25 := by have := row_lt f163; omega
  have n174 : b168 ≠ b60 := by have := row_lt f164; omega
  have n175 : ∀ zz, (blk (Value.slice w14 2 (c15))) zz → ¬ zz = b168 := fun zz hz ez => by have := p165.blk_lt hz; omega
  have n176 : ∀ zz, (blk (Value.slice w127 2 (c128))) zz → ¬ zz = b168 := fun zz hz ez => by have := p166.blk_lt hz; omega
  have n177 : ∀ zz, (blk (Value.slice (some ⟨b160, 0, none⟩) 2 2)) zz → ¬ zz = b168 := fun zz hz ez => by have := p161.blk_lt hz; omega
  have x178 : Ext hh158 h170 := by rw [e171]; exact Ext.push _ _
  have o179 : h.size ≤ b168 := by have := x167.size; omega
  have f180 := x178 _ _ f163
  have f181 := x178 _ _ f164
  have p182 := p165.keep fun b r _ q => x178 b r q
  have p183 := p166.keep fun b r _ q => x178 b r q
  have p184 := p161.keep fun b r _ q => x178 b r q
  have x185 := x167.trans x178
  obtain ⟨h186, e187⟩ : ∃ zq, zq = h170.setIfInBounds b168 (.cells #[(vS ⟨#[100]⟩), (vI 1), (vI 0), (Value.slice (some ⟨b160, 0, none⟩) 2 2)] 24 (0, 0)) := ⟨_, rfl⟩
  have f188 := set_same e187 f172
  have f189 := set_other e187 f180 n173
  have f190 := set_other e187 f181 n174
  have p191 := p182.keep fun b r hb q => (Chg.set e187).same b r q (n175 b hb)
  have p192 := p183.keep fun b r hb q => (Chg.set e187).same b r q (n176 b hb)
  have p193 := p184.keep fun b r hb q => (Chg.set e187).same b r q (n177 b hb)
  have x194 := Ext.setNew x185 e187 o179
  obtain ⟨h195, e196⟩ : ∃ zq, zq = h186.setIfInBounds b168 (.cells #[(vS ⟨#[100]⟩), (vI 1), (vI 3), (Value.slice (some ⟨b160, 0, none⟩) 2 2)] 24 (0, 0)) := ⟨_, rfl⟩
  have f197 := set_same e196 f188
  have f198 := set_other e196 f189 n173
  have f199 := set_other e196 f190 n174
  have p200 := p191.keep fun b r hb q => (Chg.set e196).same b r q (n175 b hb)
  have p201 := p192.keep fun b r hb q => (Chg.set e196).same b r q (n176 b hb)
  have p202 := p193.keep fun b r hb q => (Chg.set e196).same b r q (n177 b hb)
  have x203 := Ext.setNew x194 e196 o179
  obtain ⟨v204, h205, s206, p207, p208, x209⟩ := sstart_ok h195 (DefM.mk ⟨#[100]⟩ 1 3 smpX) _ _ p202 (by decide) 5
  have q210 : staE (DefM.mk ⟨#[100]⟩ 1 3 smpX) 5 = 0 := by kernel_rfl
  obtain ⟨w211, c212, p213, o214, n215⟩ := p208 q210
  have q216 : staS (DefM.mk ⟨#[100]⟩ 1 3 smpX) 5 = SagaM.mk (DefM.mk ⟨#[100]⟩ 1 3 smpX) 1 0 false 0 5 0 := by kernel_rfl
  rw [q216] at p213
  subst p213
  have o217 : OwnAt h205 65 stepc smpX (.slice w211 2 c212) := o214
  have n218 : ∀ b, blk (.slice w211 2 c212) b → h195.size ≤ b := n215
  have f219 := x209 _ _ f198
  have f220 := x209 _ _ f199
  have p221 := p200.keep fun b r _ q => x209 b r q
  have p222 := p201.keep fun b r _ q => x209 b r q
  have x223 := x203.trans x209
  have z224 : h.size ≤ h195.size := x203.size
  have o225 : ∀ zz, blk (Value.slice w211 2 (c212)) zz → h.size ≤ zz := fun zz hz => by have := n218 zz hz; omega
  obtain ⟨b226, eb227⟩ : ∃ zq, zq = h205.size := ⟨_, rfl⟩
  obtain ⟨h228, e229⟩ : ∃ zq, zq = h205.push (.cells #[(vS .empty), (vI 0), (vI 0), (Value.slice none 0 0), (vI 0), (vI 0), (vB false), (vI 0), (vI 0), (vI 0)] 41 (0, 0)) := ⟨_, rfl⟩
  have f230 := push_new e229
  rw [← eb227] at f230
  have n231 : b226 ≠ b25 := by have := row_lt f219; omega
  have n232 : b226 ≠ b60 := by have := row_lt f220; omega
  have n233 : ∀ zz, (blk (Value.slice w14 2 (c15))) zz → ¬ zz = b226 := fun zz hz ez => by have := p221.blk_lt hz; omega
  have n234 : ∀ zz, (blk (Value.slice w127 2 (c128))) zz → ¬ zz = b226 := fun zz hz ez => by have := p222.blk_lt hz; omega
  have n235 : ∀ zz, (blk (Value.slice w211 2 (c212))) zz → ¬ zz = b226 := fun zz hz ez => by have := o217.blk_lt hz; omega
  have x236 : Ext h205 h228 := by rw [e229]; exact Ext.push _ _
  have o237 : h.size ≤ b226 := by have := x223.size; omega
  have f238 := x236 _ _ f219
  have f239 := x236 _ _ f220
  have p240 := p221.keep fun b r _ q => x236 b r q
  have p241 := p222.keep fun b r _ q => x236 b r q
  have p242 := o217.keep fun b r _ q => x236 b r q
  have x243 := x223.trans x236
  obtain ⟨h244, e245⟩ : ∃ zq, zq = h228.setIfInBounds b226 (.cells #[(vS ⟨#[100]⟩), (vI 1), (vI 3), (Value.slice w211 2 (c212)), (vI 1), (vI 0), (vB false), (vI 0), (vI 5), (vI 0)] 41 (0, 0)) := ⟨_, rfl⟩
  have f246 := set_same e245 f230
  have f247 := set_other e245 f238 n231
  have f248 := set_other e245 f239 n232
  have p249 := p240.keep fun b r hb q => (Chg.set e245).same b r q (n233 b hb)
  have p250 := p241.keep fun b r hb q => (Chg.set e245).same b r q (n234 b hb)
  have p251 := p242.keep fun b r hb q => (Chg.set e245).same b r q (n235 b hb)
  have x252 := Ext.setNew x243 e245 o237
  obtain ⟨v253, h254, s255, p256, p257, x258⟩ := result_ok h244 (SagaM.mk (DefM.mk ⟨#[100]⟩ 1 3 smpX) 1 0 false 0 5 0) _ _ (OwnAt.lat p251 stepc_size (tsz_of size65)) (by decide) 0 0 1 0 7 (x252 _ _ hg0) (x252 _ _ hg1)
  have q259 : resE (SagaM.mk (DefM.mk ⟨#[100]⟩ 1 3 smpX) 1 0 false 0 5 0) 0 0 1 0 7 = 0 := by kernel_rfl
  obtain ⟨w260, c261, p262, o263, n264⟩ := p257 q259
  have q265 : nxtS (SagaM.mk (DefM.mk ⟨#[100]⟩ 1 3 smpX) 1 0 false 0 5 0) 0 7 = SagaM.mk (DefM.mk ⟨#[100]⟩ 1 3 smpX) 1 1 false 0 5 0 := by kernel_rfl
  rw [q265] at p262
  subst p262
  have o266 : OwnAt h254 65 stepc smpX (.slice w260 2 c261) := o263
  have n267 : ∀ b, blk (.slice w260 2 c261) b → h244.size ≤ b := n264
  have f268 := x258 _ _ f247
  have f269 := x258 _ _ f248
  have f270 := x258 _ _ f246
  have p271 := p249.keep fun b r _ q => x258 b r q
  have p272 := p250.keep fun b r _ q => x258 b r q
  have p273 := p251.keep fun b r _ q => x258 b r q
  have x274 := x252.trans x258
  have z275 : h.size ≤ h244.size := x252.size
  have o276 : ∀ zz, blk (Value.slice w260 2 (c261)) zz → h.size ≤ zz := fun zz hz => by have := n267 zz hz; omega
  obtain ⟨b277, eb278⟩ : ∃ zq, zq = h254.size := ⟨_, rfl⟩
  obtain ⟨h279, e280⟩ : ∃ zq, zq = h254.push (.cells #[(vS .empty), (vI 0), (vI 0), (Value.slice none 0 0), (vI 0), (vI 0), (vB false), (vI 0), (vI 0), (vI 0)] 41 (0, 0)) := ⟨_, rfl⟩
  have f281 := push_new e280
  rw [← eb278] at f281
  have n282 : b277 ≠ b25 := by have := row_lt f268; omega
  have n283 : b277 ≠ b60 := by have := row_lt f269; omega
  have n284 : b277 ≠ b226 := by have := row_lt f270; omega
  have n285 : ∀ zz, (blk (Value.slice w14 2 (c15))) zz → ¬ zz = b277 := fun zz hz ez => by have := p271.blk_lt hz; omega
  have n286 : ∀ zz, (blk (Value.slice w127 2 (c128))) zz → ¬ zz = b277 := fun zz hz ez => by have := p272.blk_lt hz; omega
  have n287 : ∀ zz, (blk (Value.slice w211 2 (c212))) zz → ¬ zz = b277 := fun zz hz ez => by have := p273.blk_lt hz; omega
  have x288 : Ext h254 h279 := by rw [e280]; exact Ext.push _ _
  have o289 : h.size ≤ b277 := by have := x274.size; omega
  have f290 := x288 _ _ f268
  have f291 := x288 _ _ f269
  have f292 := x288 _ _ f270
  have p293 := p271.keep fun b r _ q => x288 b r q
  have p294 := p272.keep fun b r _ q => x288 b r q
  have p295 := p273.keep fun b r _ q => x288 b r q
  have x296 := x274.trans x288
  obtain ⟨h297, e298⟩ : ∃ zq, zq = h279.setIfInBounds b277 (.cells #[(vS ⟨#[100]⟩), (vI 1), (vI 3), (Value.slice w260 2 (c261)), (vI 1), (vI 1), (vB false), (vI 0), (vI 5), (vI 0)] 41 (0, 0)) := ⟨_, rfl⟩
  have f299 := set_same e298 f281
  have f300 := set_other e298 f290 n282
  have f301 := set_other e298 f291 n283
  have f302 := set_other e298 f292 n284
  have p303 := p293.keep fun b r hb q => (Chg.set e298).same b r q (n285 b hb)
  have p304 := p294.keep fun b r hb q => (Chg.set e298).same b r q (n286 b hb)
  have p305 := p295.keep fun b r hb q => (Chg.set e298).same b r q (n287 b hb)
  have x306 := Ext.setNew x296 e298 o289
  obtain ⟨v307, h308, s309, p310, p311, x312⟩ := result_ok h297 (SagaM.mk (DefM.mk ⟨#[100]⟩ 1 3 smpX) 1 0 false 0 5 0) _ _ (OwnAt.lat p305 stepc_size (tsz_of size65)) (by decide) 0 0 1 0 8 (x306 _ _ hg0) (x306 _ _ hg1)
  have q313 : resE (SagaM.mk (DefM.mk ⟨#[100]⟩ 1 3 smpX) 1 0 false 0 5 0) 0 0 1 0 8 = 0 := by kernel_rfl
  obtain ⟨w314, c315, p316, o317, n318⟩ := p311 q313
  have q319 : nxtS (SagaM.mk (DefM.mk ⟨#[100]⟩ 1 3 smpX) 1 0 false 0 5 0) 0 8 = SagaM.mk (DefM.mk ⟨#[100]⟩ 1 3 smpX) 3 0 false 0 5 11 := by kernel_rfl
  rw [q319] at p316
  subst p316
  have o320 : OwnAt h308 65 stepc smpX (.slice w314 2 c315) := o317
  have n321 : ∀ b, blk (.slice w314 2 c315) b → h297.size ≤ b := n318
  have f322 := x312 _ _ f300
  have f323 := x312 _ _ f301
  have f324 := x312 _ _ f299
  have p325 := p303.keep fun b r _ q => x312 b r q
  have p326 := p304.keep fun b r _ q => x312 b r q
  have x327 := x306.trans x312
  have z328 : h.size ≤ h297.size := x306.size
  have o329 : ∀ zz, blk (Value.slice w314 2 (c315)) zz → h.size ≤ zz := fun zz hz => by have := n321 zz hz; omega
  obtain ⟨b330, eb331⟩ : ∃ zq, zq = h308.size := ⟨_, rfl⟩
  obtain ⟨h332, e333⟩ : ∃ zq, zq = h308.push (.cells #[(vS .empty), (vI 0), (vI 0), (Value.slice none 0 0), (vI 0), (vI 0), (vB false), (vI 0), (vI 0), (vI 0)] 41 (0, 0)) := ⟨_, rfl⟩
  have f334 := push_new e333
  rw [← eb331] at f334
  have n335 : b330 ≠ b25 := by have := row_lt f322; omega
  have n336 : b330 ≠ b60 := by have := row_lt f323; omega
  have n337 : b330 ≠ b277 := by have := row_lt f324; omega
  have n338 : ∀ zz, (blk (Value.slice w14 2 (c15))) zz → ¬ zz = b330 := fun zz hz ez => by have := p325.blk_lt hz; omega
  have n339 : ∀ zz, (blk (Value.slice w127 2 (c128))) zz → ¬ zz = b330 := fun zz hz ez => by have := p326.blk_lt hz; omega
  have x340 : Ext h308 h332 := by rw [e333]; exact Ext.push _ _
  have o341 : h.size ≤ b330 := by have := x327.size; omega
  have f342 := x340 _ _ f322
  have f343 := x340 _ _ f323
  have f344 := x340 _ _ f324
  have p345 := p325.keep fun b r _ q => x340 b r q
  have p346 := p326.keep fun b r _ q => x340 b r q
  have x347 := x327.trans x340
  obtain ⟨h348, e349⟩ : ∃ zq, zq = h332.setIfInBounds b330 (.cells #[(vS ⟨#[100]⟩), (vI 1), (vI 3), (Value.slice w314 2 (c315)), (vI 3), (vI 0), (vB false), (vI 0), (vI 5), (vI 11)] 41 (0, 0)) := ⟨_, rfl⟩
  have f350 := set_same e349 f334
  have f351 := set_other e349 f342 n335
  have f352 := set_other e349 f343 n336
  have f353 := set_other e349 f344 n337
  have p354 := p345.keep fun b r hb q => (Chg.set e349).same b r q (n338 b hb)
  have p355 := p346.keep fun b r hb q => (Chg.set e349).same b r q (n339 b hb)
  have x356 := Ext.setNew x347 e349 o341
  obtain ⟨v357, h358, s359, p360, p361, x362⟩ := sstart_ok h348 (DefM.mk .empty 0 0 ([] : List StepM)) _ _ lat_none (by decide) (-1)
  have q363 : staE (DefM.mk .empty 0 0 ([] : List StepM)) (-1) = 15 := by kernel_rfl
  have p364 := p360 (by rw [q363]; decide)
  rw [q363] at p364
  subst p364
  have f365 := x362 _ _ f351
  have f366 := x362 _ _ f352
  have p367 := p354.keep fun b r _ q => x362 b r q
  have p368 := p355.keep fun b r _ q => x362 b r q
  have x369 := x356.trans x362
  obtain ⟨b370, eb371⟩ : ∃ zq, zq = h358.size := ⟨_, rfl⟩
  obtain ⟨h372, e373⟩ : ∃ zq, zq = h358.push (.cells #[(vS .empty), (vI 0), (vI 0), (Value.slice none 0 0), (vI 0), (vI 0), (vB false), (vI 0), (vI 0), (vI 0)] 41 (0, 0)) := ⟨_, rfl⟩
  have f374 := push_new e373
  rw [← eb371] at f374
  have n375 : b370 ≠ b25 := by have := row_lt f365; omega
  have n376 : b370 ≠ b60 := by have := row_lt f366; omega
  have n377 : ∀ zz, (blk (Value.slice w14 2 (c15))) zz → ¬ zz = b370 := fun zz hz ez => by have := p367.blk_lt hz; omega
  have n378 : ∀ zz, (blk (Value.slice w127 2 (c128))) zz → ¬ zz = b370 := fun zz hz ez => by have := p368.blk_lt hz; omega
  have x379 : Ext h358 h372 := by rw [e373]; exact Ext.push _ _
  have o380 : h.size ≤ b370 := by have := x369.size; omega
  have f381 := x379 _ _ f365
  have f382 := x379 _ _ f366
  have p383 := p367.keep fun b r _ q => x379 b r q
  have p384 := p368.keep fun b r _ q => x379 b r q
  have x385 := x369.trans x379
  obtain ⟨h386, e387⟩ : ∃ zq, zq = h372.setIfInBounds b370 (.cells #[(vS .empty), (vI 0), (vI 0), (Value.slice none 0 0), (vI 0), (vI 0), (vB false), (vI 0), (vI 0), (vI 0)] 41 (0, 0)) := ⟨_, rfl⟩
  have f388 := set_other e387 f381 n375
  have f389 := set_other e387 f382 n376
  have p390 := p383.keep fun b r hb q => (Chg.set e387).same b r q (n377 b hb)
  have p391 := p384.keep fun b r hb q => (Chg.set e387).same b r q (n378 b hb)
  have x392 := Ext.setNew x385 e387 o380
  obtain ⟨_, hh393, sn394, b395, rfl, p396, x397⟩ := sample_ok h386
  have f398 := x397 _ _ f388
  have f399 := x397 _ _ f389
  have p400 := p390.keep fun b r _ q => x397 b r q
  have p401 := p391.keep fun b r _ q => x397 b r q
  have x402 := x392.trans x397
  obtain ⟨v403, h404, s405, p406, p407, x408⟩ := sstart_ok hh393 (DefM.mk ⟨#[100]⟩ 1 0 smpX) _ _ p396 (by decide) (-1)
  have q409 : staE (DefM.mk ⟨#[100]⟩ 1 0 smpX) (-1) = 2 := by kernel_rfl
  have p410 := p406 (by rw [q409]; decide)
  rw [q409] at p410
  subst p410
  have f411 := x408 _ _ f398
  have f412 := x408 _ _ f399
  have p413 := p400.keep fun b r _ q => x408 b r q
  have p414 := p401.keep fun b r _ q => x408 b r q
  have x415 := x402.trans x408
  obtain ⟨b416, eb417⟩ : ∃ zq, zq = h404.size := ⟨_, rfl⟩
  obtain ⟨h418, e419⟩ : ∃ zq, zq = h404.push (.cells #[(vS .empty), (vI 0), (vI 0), (Value.slice none 0 0), (vI 0), (vI 0), (vB false), (vI 0), (vI 0), (vI 0)] 41 (0, 0)) := ⟨_, rfl⟩
  have f420 := push_new e419
  rw [← eb417] at f420
  have n421 : b416 ≠ b25 := by have := row_lt f411; omega
  have n422 : b416 ≠ b60 := by have := row_lt f412; omega
  have n423 : ∀ zz, (blk (Value.slice w14 2 (c15))) zz → ¬ zz = b416 := fun zz hz ez => by have := p413.blk_lt hz; omega
  have n424 : ∀ zz, (blk (Value.slice w127 2 (c128))) zz → ¬ zz = b416 := fun zz hz ez => by have := p414.blk_lt hz; omega
  have x425 : Ext h404 h418 := by rw [e419]; exact Ext.push _ _
  have o426 : h.size ≤ b416 := by have := x415.size; omega
  have f427 := x425 _ _ f411
  have f428 := x425 _ _ f412
  have p429 := p413.keep fun b r _ q => x425 b r q
  have p430 := p414.keep fun b r _ q => x425 b r q
  have x431 := x415.trans x425
  obtain ⟨h432, e433⟩ : ∃ zq, zq = h418.setIfInBounds b416 (.cells #[(vS .empty), (vI 0), (vI 0), (Value.slice none 0 0), (vI 0), (vI 0), (vB false), (vI 0), (vI 0), (vI 0)] 41 (0, 0)) := ⟨_, rfl⟩
  have f434 := set_other e433 f427 n421
  have f435 := set_other e433 f428 n422
  have p436 := p429.keep fun b r hb q => (Chg.set e433).same b r q (n423 b hb)
  have p437 := p430.keep fun b r hb q => (Chg.set e433).same b r q (n424 b hb)
  have x438 := Ext.setNew x431 e433 o426
  obtain ⟨_, hh439, sn440, b441, rfl, p442, x443⟩ := sample_ok h432
  have f444 := x443 _ _ f434
  have f445 := x443 _ _ f435
  have p446 := p436.keep fun b r _ q => x443 b r q
  have p447 := p437.keep fun b r _ q => x443 b r q
  have x448 := x438.trans x443
  obtain ⟨v449, h450, s451, p452, p453, x454⟩ := sstart_ok hh439 (DefM.mk ⟨#[100]⟩ 1 0 smpX) _ _ p442 (by decide) 2147483649
  have q455 : staE (DefM.mk ⟨#[100]⟩ 1 0 smpX) 2147483649 = 2 := by kernel_rfl
  have p456 := p452 (by rw [q455]; decide)
  rw [q455] at p456
  subst p456
  have f457 := x454 _ _ f444
  have f458 := x454 _ _ f445
  have p459 := p446.keep fun b r _ q => x454 b r q
  have p460 := p447.keep fun b r _ q => x454 b r q
  have x461 := x448.trans x454
  obtain ⟨b462, eb463⟩ : ∃ zq, zq = h450.size := ⟨_, rfl⟩
  obtain ⟨h464, e465⟩ : ∃ zq, zq = h450.push (.cells #[(vS .empty), (vI 0), (vI 0), (Value.slice none 0 0), (vI 0), (vI 0), (vB false), (vI 0), (vI 0), (vI 0)] 41 (0, 0)) := ⟨_, rfl⟩
  have f466 := push_new e465
  rw [← eb463] at f466
  have n467 : b462 ≠ b25 := by have := row_lt f457; omega
  have n468 : b462 ≠ b60 := by have := row_lt f458; omega
  have n469 : ∀ zz, (blk (Value.slice w14 2 (c15))) zz → ¬ zz = b462 := fun zz hz ez => by have := p459.blk_lt hz; omega
  have n470 : ∀ zz, (blk (Value.slice w127 2 (c128))) zz → ¬ zz = b462 := fun zz hz ez => by have := p460.blk_lt hz; omega
  have x471 : Ext h450 h464 := by rw [e465]; exact Ext.push _ _
  have o472 : h.size ≤ b462 := by have := x461.size; omega
  have f473 := x471 _ _ f457
  have f474 := x471 _ _ f458
  have p475 := p459.keep fun b r _ q => x471 b r q
  have p476 := p460.keep fun b r _ q => x471 b r q
  have x477 := x461.trans x471
  obtain ⟨h478, e479⟩ : ∃ zq, zq = h464.setIfInBounds b462 (.cells #[(vS .empty), (vI 0), (vI 0), (Value.slice none 0 0), (vI 0), (vI 0), (vB false), (vI 0), (vI 0), (vI 0)] 41 (0, 0)) := ⟨_, rfl⟩
  have f480 := set_other e479 f473 n467
  have f481 := set_other e479 f474 n468
  have p482 := p475.keep fun b r hb q => (Chg.set e479).same b r q (n469 b hb)
  have p483 := p476.keep fun b r hb q => (Chg.set e479).same b r q (n470 b hb)
  have x484 := Ext.setNew x477 e479 o472
  obtain ⟨b485, eb486⟩ : ∃ zq, zq = h478.size := ⟨_, rfl⟩
  obtain ⟨h487, e488⟩ : ∃ zq, zq = h478.push (.cells #[(vS .empty), (vI 0), (vI 0), (Value.slice none 0 0), (vI 0), (vI 0), (vB false), (vI 0), (vI 0), (vI 0)] 41 (0, 0)) := ⟨_, rfl⟩
  have f489 := push_new e488
  rw [← eb486] at f489
  have n490 : b485 ≠ b60 := by have := row_lt f481; omega
  have n491 : ∀ zz, (blk (Value.slice w14 2 (c15))) zz → ¬ zz = b485 := fun zz hz ez => by have := p482.blk_lt hz; omega
  have n492 : ∀ zz, (blk (Value.slice w127 2 (c128))) zz → ¬ zz = b485 := fun zz hz ez => by have := p483.blk_lt hz; omega
  have x493 : Ext h478 h487 := by rw [e488]; exact Ext.push _ _
  have o494 : h.size ≤ b485 := by have := x484.size; omega
  have f495 := x493 _ _ f481
  have p496 := p482.keep fun b r _ q => x493 b r q
  have p497 := p483.keep fun b r _ q => x493 b r q
  have x498 := x484.trans x493
  obtain ⟨h499, e500⟩ : ∃ zq, zq = h487.setIfInBounds b485 (.cells #[(vS ⟨#[100]⟩), (vI 1), (vI 0), (Value.slice w14 2 (c15)), (vI 1), (vI 0), (vB false), (vI 0), (vI 5), (vI 0)] 41 (0, 0)) := ⟨_, rfl⟩
  have f501 := set_same e500 f489
  have f502 := set_other e500 f495 n490
  have p503 := p496.keep fun b r hb q => (Chg.set e500).same b r q (n491 b hb)
  have p504 := p497.keep fun b r hb q => (Chg.set e500).same b r q (n492 b hb)
  have x505 := Ext.setNew x498 e500 o494
  obtain ⟨h506, e507⟩ : ∃ zq, zq = h499.setIfInBounds b485 (.cells #[(vS ⟨#[100]⟩), (vI 1), (vI 0), (Value.slice w14 2 (c15)), (vI 1), (vI 2), (vB false), (vI 0), (vI 5), (vI 0)] 41 (0, 0)) := ⟨_, rfl⟩
  have f508 := set_same e507 f501
  have f509 := set_other e507 f502 n490
  have p510 := p503.keep fun b r hb q => (Chg.set e507).same b r q (n491 b hb)
  have p511 := p504.keep fun b r hb q => (Chg.set e507).same b r q (n492 b hb)
  have x512 := Ext.setNew x505 e507 o494
  obtain ⟨v513, h514, s515, p516, p517, x518⟩ := cancel_ok h506 (SagaM.mk (DefM.mk ⟨#[100]⟩ 1 0 smpX) 1 2 false 0 5 0) _ _ (OwnAt.lat p510 stepc_size (tsz_of size65)) (by decide)
  have q519 : canE (SagaM.mk (DefM.mk ⟨#[100]⟩ 1 0 smpX) 1 2 false 0 5 0) = 2 := by kernel_rfl
  have p520 := p516 (by rw [q519]; decide)
  rw [q519] at p520
  subst p520
  have f521 := x518 _ _ f509
  have f522 := x518 _ _ f508
  have p523 := p510.keep fun b r _ q => x518 b r q
  have p524 := p511.keep fun b r _ q => x518 b r q
  have x525 := x512.trans x518
  obtain ⟨b526, eb527⟩ : ∃ zq, zq = h514.size := ⟨_, rfl⟩
  obtain ⟨h528, e529⟩ : ∃ zq, zq = h514.push (.cells #[(vS .empty), (vI 0), (vI 0), (Value.slice none 0 0), (vI 0), (vI 0), (vB false), (vI 0), (vI 0), (vI 0)] 41 (0, 0)) := ⟨_, rfl⟩
  have f530 := push_new e529
  rw [← eb527] at f530
  have n531 : b526 ≠ b60 := by have := row_lt f521; omega
  have n532 : b526 ≠ b485 := by have := row_lt f522; omega
  have n533 : ∀ zz, (blk (Value.slice w14 2 (c15))) zz → ¬ zz = b526 := fun zz hz ez => by have := p523.blk_lt hz; omega
  have n534 : ∀ zz, (blk (Value.slice w127 2 (c128))) zz → ¬ zz = b526 := fun zz hz ez => by have := p524.blk_lt hz; omega
  have x535 : Ext h514 h528 := by rw [e529]; exact Ext.push _ _
  have o536 : h.size ≤ b526 := by have := x525.size; omega
  have f537 := x535 _ _ f521
  have f538 := x535 _ _ f522
  have p539 := p523.keep fun b r _ q => x535 b r q
  have p540 := p524.keep fun b r _ q => x535 b r q
  have x541 := x525.trans x535
  obtain ⟨h542, e543⟩ : ∃ zq, zq = h528.setIfInBounds b526 (.cells #[(vS .empty), (vI 0), (vI 0), (Value.slice none 0 0), (vI 0), (vI 0), (vB false), (vI 0), (vI 0), (vI 0)] 41 (0, 0)) := ⟨_, rfl⟩
  have f544 := set_other e543 f537 n531
  have f545 := set_other e543 f538 n532
  have p546 := p539.keep fun b r hb q => (Chg.set e543).same b r q (n533 b hb)
  have p547 := p540.keep fun b r hb q => (Chg.set e543).same b r q (n534 b hb)
  have x548 := Ext.setNew x541 e543 o536
  obtain ⟨v549, h550, s551, p552, p553, x554⟩ := cancel_ok h542 (SagaM.mk (DefM.mk ⟨#[100]⟩ 1 0 smpX) 5 0 true 0 5 9) _ _ (OwnAt.lat p547 stepc_size (tsz_of size65)) (by decide)
  have q555 : canE (SagaM.mk (DefM.mk ⟨#[100]⟩ 1 0 smpX) 5 0 true 0 5 9) = 9 := by kernel_rfl
  have p556 := p552 (by rw [q555]; decide)
  rw [q555] at p556
  subst p556
  have f557 := x554 _ _ f544
  have f558 := x554 _ _ f545
  have p559 := p546.keep fun b r _ q => x554 b r q
  have p560 := p547.keep fun b r _ q => x554 b r q
  have x561 := x548.trans x554
  obtain ⟨b562, eb563⟩ : ∃ zq, zq = h550.size := ⟨_, rfl⟩
  obtain ⟨h564, e565⟩ : ∃ zq, zq = h550.push (.cells #[(vS .empty), (vI 0), (vI 0), (Value.slice none 0 0), (vI 0), (vI 0), (vB false), (vI 0), (vI 0), (vI 0)] 41 (0, 0)) := ⟨_, rfl⟩
  have f566 := push_new e565
  rw [← eb563] at f566
  have n567 : b562 ≠ b60 := by have := row_lt f557; omega
  have n568 : b562 ≠ b485 := by have := row_lt f558; omega
  have n569 : ∀ zz, (blk (Value.slice w14 2 (c15))) zz → ¬ zz = b562 := fun zz hz ez => by have := p559.blk_lt hz; omega
  have n570 : ∀ zz, (blk (Value.slice w127 2 (c128))) zz → ¬ zz = b562 := fun zz hz ez => by have := p560.blk_lt hz; omega
  have x571 : Ext h550 h564 := by rw [e565]; exact Ext.push _ _
  have o572 : h.size ≤ b562 := by have := x561.size; omega
  have f573 := x571 _ _ f557
  have f574 := x571 _ _ f558
  have p575 := p559.keep fun b r _ q => x571 b r q
  have p576 := p560.keep fun b r _ q => x571 b r q
  have x577 := x561.trans x571
  obtain ⟨h578, e579⟩ : ∃ zq, zq = h564.setIfInBounds b562 (.cells #[(vS .empty), (vI 0), (vI 0), (Value.slice none 0 0), (vI 0), (vI 0), (vB false), (vI 0), (vI 0), (vI 0)] 41 (0, 0)) := ⟨_, rfl⟩
  have f580 := set_other e579 f573 n567
  have f581 := set_other e579 f574 n568
  have p582 := p575.keep fun b r hb q => (Chg.set e579).same b r q (n569 b hb)
  have p583 := p576.keep fun b r hb q => (Chg.set e579).same b r q (n570 b hb)
  have x584 := Ext.setNew x577 e579 o572
  obtain ⟨v585, h586, s587, p588, p589, x590⟩ := result_ok h578 (SagaM.mk (DefM.mk ⟨#[100]⟩ 1 0 smpX) 1 2 false 0 5 0) _ _ (OwnAt.lat p582 stepc_size (tsz_of size65)) (by decide) 0 0 0 (-1) (-1) (x584 _ _ hg0) (x584 _ _ hg1)
  have q591 : resE (SagaM.mk (DefM.mk ⟨#[100]⟩ 1 0 smpX) 1 2 false 0 5 0) 0 0 0 (-1) (-1) = 2 := by kernel_rfl
  have p592 := p588 (by rw [q591]; decide)
  rw [q591] at p592
  subst p592
  have f593 := x590 _ _ f580
  have p594 := p583.keep fun b r _ q => x590 b r q
  have x595 := x584.trans x590
  obtain ⟨b596, eb597⟩ : ∃ zq, zq = h586.size := ⟨_, rfl⟩
  obtain ⟨h598, e599⟩ : ∃ zq, zq = h586.push (.cells #[(vS .empty), (vI 0), (vI 0), (Value.slice none 0 0), (vI 0), (vI 0), (vB false), (vI 0), (vI 0), (vI 0)] 41 (0, 0)) := ⟨_, rfl⟩
  have f600 := push_new e599
  rw [← eb597] at f600
  have n601 : b596 ≠ b60 := by have := row_lt f593; omega
  have n602 : ∀ zz, (blk (Value.slice w127 2 (c128))) zz → ¬ zz = b596 := fun zz hz ez => by have := p594.blk_lt hz; omega
  have x603 : Ext h586 h598 := by rw [e599]; exact Ext.push _ _
  have o604 : h.size ≤ b596 := by have := x595.size; omega
  have f605 := x603 _ _ f593
  have p606 := p594.keep fun b r _ q => x603 b r q
  have x607 := x595.trans x603
  obtain ⟨h608, e609⟩ : ∃ zq, zq = h598.setIfInBounds b596 (.cells #[(vS .empty), (vI 0), (vI 0), (Value.slice none 0 0), (vI 0), (vI 0), (vB false), (vI 0), (vI 0), (vI 0)] 41 (0, 0)) := ⟨_, rfl⟩
  have f610 := set_other e609 f605 n601
  have p611 := p606.keep fun b r hb q => (Chg.set e609).same b r q (n602 b hb)
  have x612 := Ext.setNew x607 e609 o604
  obtain ⟨v613, h614, s615, p616, p617, x618⟩ := result_ok h608 (SagaM.mk (DefM.mk ⟨#[100]⟩ 1 0 smpX) 5 0 true 0 5 9) _ _ (OwnAt.lat p611 stepc_size (tsz_of size65)) (by decide) 0 0 0 19 0 (x612 _ _ hg0) (x612 _ _ hg1)
  have q619 : resE (SagaM.mk (DefM.mk ⟨#[100]⟩ 1 0 smpX) 5 0 true 0 5 9) 0 0 0 19 0 = 2 := by kernel_rfl
  have p620 := p616 (by rw [q619]; decide)
  rw [q619] at p620
  subst p620
  have x621 := x612.trans x618
  obtain ⟨b622, eb623⟩ : ∃ zq, zq = h614.size := ⟨_, rfl⟩
  obtain ⟨h624, e625⟩ : ∃ zq, zq = h614.push (.cells #[(vS .empty), (vI 0), (vI 0), (Value.slice none 0 0), (vI 0), (vI 0), (vB false), (vI 0), (vI 0), (vI 0)] 41 (0, 0)) := ⟨_, rfl⟩
  have f626 := push_new e625
  rw [← eb623] at f626
  have x627 : Ext h614 h624 := by rw [e625]; exact Ext.push _ _
  have o628 : h.size ≤ b622 := by have := x621.size; omega
  have x629 := x621.trans x627
  obtain ⟨h630, e631⟩ : ∃ zq, zq = h624.setIfInBounds b622 (.cells #[(vS .empty), (vI 0), (vI 0), (Value.slice none 0 0), (vI 0), (vI 0), (vB false), (vI 0), (vI 0), (vI 0)] 41 (0, 0)) := ⟨_, rfl⟩
  have x632 := Ext.setNew x629 e631 o628
  obtain ⟨_, h633, s634, rfl, x635⟩ := scheck_ok h630 (SagaM.mk (DefM.mk .empty 0 0 ([] : List StepM)) 0 0 false 0 0 0) _ _ lat_none (by decide)
  have q636 : chkS (SagaM.mk (DefM.mk .empty 0 0 ([] : List StepM)) 0 0 false 0 0 0) = 15 := by kernel_rfl
  have x637 := x632.trans x635
  obtain ⟨_, hh638, sn639, rfl, x640⟩ := works_ok h633 (x637 _ _ hg0) (x637 _ _ hg1)
  have x641 := x637.trans x640
  refine wc_ev [evF 1 0 sn2, evF 1 1 s9, evA 1 5 eb26 e28, evUw 1 6 size41 f29 e36, evLw 2 0 agg41 size41 f37, evF 2 1 s42, evA 2 5 eb61 e63, evUw 2 6 size41 f65 e76, evLw 3 0 agg41 size41 f77, evF 3 2 s84, evUw 3 6 size41 f98 e105, evLw 4 0 agg41 size41 f106, evF 4 1 (show SoundCall Tryd.prog 31 #[(vA #[(vS ⟨#[100]⟩), (vI 1), (vI 0), (vL w89 2 c90), (vI 3), (vI 0), (vB true), (vI 0), (vI 5), (vI 9)])] h104 (vT #[(vS ⟨#[117, 110, 100, 111, 105, 110, 103, 32, 48, 32, 99, 97, 110, 99, 101, 108]⟩), (vI 0)]) h111 from (by rw [q114] at s112; exact s112)), evLw 5 0 agg41 size41 f116, evF 5 2 s122, evUw 5 6 size41 f136 e143, evLw 6 0 agg41 size41 f144, evF 6 1 (show SoundCall Tryd.prog 31 #[(vA #[(vS ⟨#[100]⟩), (vI 1), (vI 0), (vL w127 2 c128), (vI 5), (vI 0), (vB true), (vI 0), (vI 5), (vI 9)])] h142 (vT #[(vS ⟨#[97, 98, 111, 114, 116, 101, 100, 32, 57, 32, 99, 97, 110, 99, 101, 108]⟩), (vI 0)]) h149 from (by rw [q152] at s150; exact s150)), snF 7 16 9 (Eq.refl (⟨#[117, 110, 100, 111, 105, 110, 103, 32, 48, 32, 99, 97, 110, 99, 101, 108]⟩ : ByteArray)), snF 7 28 9 (Eq.refl (⟨#[97, 98, 111, 114, 116, 101, 100, 32, 57, 32, 99, 97, 110, 99, 101, 108]⟩ : ByteArray)), evF 9 0 sn159, evA 9 1 eb169 e171, evUw 9 2 size24 f172 e187, evT 10 1 2 size3 f188 e196, evLw 11 0 agg24 size24 f197, evF 11 1 s206, evA 11 5 eb227 e229, evUw 11 6 size41 f230 e245, evLw 12 0 agg41 size41 f246, evF 12 2 s255, evA 12 6 eb278 e280, evUw 12 7 size41 f281 e298, evLw 13 0 agg41 size41 f302, evF 13 2 s309, evA 13 6 eb331 e333, evUw 13 7 size41 f334 e349, evC 14 8 4 agg3 f353, evC 14 13 5 agg3 f353, evC 14 22 4 agg3 f350, evC 14 27 5 agg3 f350, evC 14 32 9 agg25 f350, evF 16 1 s359, evA 16 5 eb371 e373, evUw 16 6 size41 f374 e387, evF 17 0 sn394, evF 17 1 s405, evA 17 5 eb417 e419, evUw 17 6 size41 f420 e433, evF 18 0 sn440, evF 18 1 s451, evA 18 5 eb463 e465, evUw 18 6 size41 f466 e479, evLw 19 0 agg41 size41 f480, evA 19 1 eb486 e488, evUw 19 2 size41 f489 e500, evT 20 1 5 size3 f501 e507, evLw 21 0 agg41 size41 f508, evF 21 1 s515, evA 21 5 eb527 e529, evUw 21 6 size41 f530 e543, evLw 22 0 agg41 size41 f544, evF 22 1 s551, evA 22 5 eb563 e565, evUw 22 6 size41 f566 e579, evLw 23 0 agg41 size41 f581, evF 23 2 s587, evA 23 6 eb597 e599, evUw 23 7 size41 f600 e609, evLw 24 0 agg41 size41 f610, evF 24 2 s615, evA 24 6 eb623 e625, evUw 24 7 size41 f626 e631, evFi 25 28 q636 s634, evF 25 32 sn639] .ret hh638 [(0, (vB false)), (34, (vA #[(vS ⟨#[100]⟩), (vI 1), (vI 0), (vL (some ⟨b3, 0, none⟩) 2 2)])), (35, (vT #[(vA #[(vS ⟨#[100]⟩), (vI 1), (vI 0), (vL w14 2 c15), (vI 1), (vI 0), (vB false), (vI 0), (vI 5), (vI 0)]), (vI 0)])), (33, (vT #[(vA #[(vS ⟨#[100]⟩), (vI 1), (vI 0), (vL w14 2 c15), (vI 1), (vI 0), (vB false), (vI 0), (vI 5), (vI 0)]), (vI 0)])), (36, (vA #[(vS ⟨#[100]⟩), (vI 1), (vI 0), (vL w14 2 c15), (vI 1), (vI 0), (vB false), (vI 0), (vI 5), (vI 0)])), (37, (vI 0)), (1, (vP b25 0)), (2, (vI 0)), (39, (vA #[(vS ⟨#[100]⟩), (vI 1), (vI 0), (vL w14 2 c15), (vI 1), (vI 0), (vB false), (vI 0), (vI 5), (vI 0)])), (40, (vT #[(vA #[(vS ⟨#[100]⟩), (vI 1), (vI 0), (vL w47 2 c48), (vI 1), (vI 0), (vB true), (vI 0), (vI 5), (vI 0)]), (vI 0)])), (38, (vT #[(vA #[(vS ⟨#[100]⟩), (vI 1), (vI 0), (vL w47 2 c48), (vI 1), (vI 0), (vB true), (vI 0), (vI 5), (vI 0)]), (vI 0)])), (41, (vA #[(vS ⟨#[100]⟩), (vI 1), (vI 0), (vL w47 2 c48), (vI 1), (vI 0), (vB true), (vI 0), (vI 5), (vI 0)])), (42, (vI 0)), (3, (vP b60 0)), (4, (vI 0)), (44, (vA #[(vS ⟨#[100]⟩), (vI 1), (vI 0), (vL w47 2 c48), (vI 1), (vI 0), (vB true), (vI 0), (vI 5), (vI 0)])), (45, (vA #[(vI 0), (vI 0), (vI 1)])), (46, (vT #[(vA #[(vS ⟨#[100]⟩), (vI 1), (vI 0), (vL w89 2 c90), (vI 3), (vI 0), (vB true), (vI 0), (vI 5), (vI 9)]), (vI 0)])), (43, (vT #[(vA #[(vS ⟨#[100]⟩), (vI 1), (vI 0), (vL w89 2 c90), (vI 3), (vI 0), (vB true), (vI 0), (vI 5), (vI 9)]), (vI 0)])), (47, (vA #[(vS ⟨#[100]⟩), (vI 1), (vI 0), (vL w89 2 c90), (vI 3), (vI 0), (vB true), (vI 0), (vI 5), (vI 9)])), (48, (vI 0)), (5, (vI 0)), (50, (vA #[(vS ⟨#[100]⟩), (vI 1), (vI 0), (vL w89 2 c90), (vI 3), (vI 0), (vB true), (vI 0), (vI 5), (vI 9)])), (51, (vT #[(vS ⟨#[117, 110, 100, 111, 105, 110, 103, 32, 48, 32, 99, 97, 110, 99, 101, 108]⟩), (vI 0)])), (49, (vT #[(vS ⟨#[117, 110, 100, 111, 105, 110, 103, 32, 48, 32, 99, 97, 110, 99, 101, 108]⟩), (vI 0)])), (52, (vS ⟨#[117, 110, 100, 111, 105, 110, 103, 32, 48, 32, 99, 97, 110, 99, 101, 108]⟩)), (53, (vI 0)), (6, (vS ⟨#[117, 110, 100, 111, 105, 110, 103, 32, 48, 32, 99, 97, 110, 99, 101, 108]⟩)), (7, (vI 0)), (55, (vA #[(vS ⟨#[100]⟩), (vI 1), (vI 0), (vL w89 2 c90), (vI 3), (vI 0), (vB true), (vI 0), (vI 5), (vI 9)])), (56, (vA #[(vI 0), (vI 0), (vI 2)])), (57, (vT #[(vA #[(vS ⟨#[100]⟩), (vI 1), (vI 0), (vL w127 2 c128), (vI 5), (vI 0), (vB true), (vI 0), (vI 5), (vI 9)]), (vI 0)])), (54, (vT #[(vA #[(vS ⟨#[100]⟩), (vI 1), (vI 0), (vL w127 2 c128), (vI 5), (vI 0), (vB true), (vI 0), (vI 5), (vI 9)]), (vI 0)])), (58, (vA #[(vS ⟨#[100]⟩), (vI 1), (vI 0), (vL w127 2 c128), (vI 5), (vI 0), (vB true), (vI 0), (vI 5), (vI 9)])), (59, (vI 0)), (8, (vI 0)), (61, (vA #[(vS ⟨#[100]⟩), (vI 1), (vI 0), (vL w127 2 c128), (vI 5), (vI 0), (vB true), (vI 0), (vI 5), (vI 9)])), (62, (vT #[(vS ⟨#[97, 98, 111, 114, 116, 101, 100, 32, 57, 32, 99, 97, 110, 99, 101, 108]⟩), (vI 0)])), (60, (vT #[(vS ⟨#[97, 98, 111, 114, 116, 101, 100, 32, 57, 32, 99, 97, 110, 99, 101, 108]⟩), (vI 0)])), (63, (vS ⟨#[97, 98, 111, 114, 116, 101, 100, 32, 57, 32, 99, 97, 110, 99, 101, 108]⟩)), (64, (vI 0)), (9, (vS ⟨#[97, 98, 111, 114, 116, 101, 100, 32, 57, 32, 99, 97, 110, 99, 101, 108]⟩)), (10, (vI 0)), (65, (vI 0)), (66, (vB false)), (67, (vB false)), (68, (vI 0)), (69, (vB false)), (70, (vB false)), (71, (vB false)), (72, (vI 0)), (73, (vB false)), (74, (vB false)), (75, (vB false)), (76, (vI 0)), (77, (vB false)), (78, (vB false)), (79, (vB false)), (80, (vS ⟨#[117, 110, 100, 111, 105, 110, 103, 32, 48, 32, 99, 97, 110, 99, 101, 108]⟩)), (81, (vB false)), (82, (vB false)), (83, (vB false)), (84, (vI 0)), (85, (vB false)), (86, (vB false)), (87, (vB false)), (88, (vI 0)), (89, (vB false)), (90, (vB false)), (91, (vB false)), (92, (vS ⟨#[97, 98, 111, 114, 116, 101, 100, 32, 57, 32, 99, 97, 110, 99, 101, 108]⟩)), (93, (vB false)), (94, (vB false)), (95, (vA #[(vS ⟨#[100]⟩), (vI 1), (vI 0), (vL (some ⟨b160, 0, none⟩) 2 2)])), (11, (vP b168 0)), (96, (vP b168 2)), (98, (vA #[(vS ⟨#[100]⟩), (vI 1), (vI 3), (vL (some ⟨b160, 0, none⟩) 2 2)])), (99, (vT #[(vA #[(vS ⟨#[100]⟩), (vI 1), (vI 3), (vL w211 2 c212), (vI 1), (vI 0), (vB false), (vI 0), (vI 5), (vI 0)]), (vI 0)])), (97, (vT #[(vA #[(vS ⟨#[100]⟩), (vI 1), (vI 3), (vL w211 2 c212), (vI 1), (vI 0), (vB false), (vI 0), (vI 5), (vI 0)]), (vI 0)])), (100, (vA #[(vS ⟨#[100]⟩), (vI 1), (vI 3), (vL w211 2 c212), (vI 1), (vI 0), (vB false), (vI 0), (vI 5), (vI 0)])), (101, (vI 0)), (12, (vP b226 0)), (13, (vI 0)), (103, (vA #[(vS ⟨#[100]⟩), (vI 1), (vI 3), (vL w211 2 c212), (vI 1), (vI 0), (vB false), (vI 0), (vI 5), (vI 0)])), (104, (vA #[(vI 0), (vI 0), (vI 1)])), (105, (vT #[(vA #[(vS ⟨#[100]⟩), (vI 1), (vI 3), (vL w260 2 c261), (vI 1), (vI 1), (vB false), (vI 0), (vI 5), (vI 0)]), (vI 0)])), (102, (vT #[(vA #[(vS ⟨#[100]⟩), (vI 1), (vI 3), (vL w260 2 c261), (vI 1), (vI 1), (vB false), (vI 0), (vI 5), (vI 0)]), (vI 0)])), (106, (vA #[(vS ⟨#[100]⟩), (vI 1), (vI 3), (vL w260 2 c261), (vI 1), (vI 1), (vB false), (vI 0), (vI 5), (vI 0)])), (107, (vI 0)), (14, (vP b277 0)), (15, (vI 0)), (109, (vA #[(vS ⟨#[100]⟩), (vI 1), (vI 3), (vL w211 2 c212), (vI 1), (vI 0), (vB false), (vI 0), (vI 5), (vI 0)])), (110, (vA #[(vI 0), (vI 0), (vI 1)])), (111, (vT #[(vA #[(vS ⟨#[100]⟩), (vI 1), (vI 3), (vL w314 2 c315), (vI 3), (vI 0), (vB false), (vI 0), (vI 5), (vI 11)]), (vI 0)])), (108, (vT #[(vA #[(vS ⟨#[100]⟩), (vI 1), (vI 3), (vL w314 2 c315), (vI 3), (vI 0), (vB false), (vI 0), (vI 5), (vI 11)]), (vI 0)])), (112, (vA #[(vS ⟨#[100]⟩), (vI 1), (vI 3), (vL w314 2 c315), (vI 3), (vI 0), (vB false), (vI 0), (vI 5), (vI 11)])), (113, (vI 0)), (16, (vP b330 0)), (17, (vI 0)), (114, (vI 0)), (115, (vB false)), (116, (vB false)), (117, (vI 0)), (118, (vB false)), (119, (vB false)), (120, (vB false)), (121, (vP b277 4)), (122, (vI 1)), (123, (vB false)), (124, (vB false)), (125, (vB false)), (126, (vP b277 5)), (127, (vI 1)), (128, (vB false)), (129, (vB false)), (130, (vB false)), (131, (vI 0)), (132, (vB false)), (133, (vB false)), (134, (vB false)), (135, (vP b330 4)), (136, (vI 3)), (137, (vB false)), (138, (vB false)), (139, (vB false)), (140, (vP b330 5)), (141, (vI 0)), (142, (vB false)), (143, (vB false)), (144, (vB false)), (145, (vP b330 9)), (146, (vI 11)), (147, (vB false)), (148, (vB false)), (150, (vA #[(vS .empty), (vI 0), (vI 0), (vL none 0 0)])), (151, (vT #[(vA #[(vS .empty), (vI 0), (vI 0), (vL none 0 0), (vI 0), (vI 0), (vB false), (vI 0), (vI 0), (vI 0)]), (vI 15)])), (149, (vT #[(vA #[(vS .empty), (vI 0), (vI 0), (vL none 0 0), (vI 0), (vI 0), (vB false), (vI 0), (vI 0), (vI 0)]), (vI 15)])), (152, (vA #[(vS .empty), (vI 0), (vI 0), (vL none 0 0), (vI 0), (vI 0), (vB false), (vI 0), (vI 0), (vI 0)])), (153, (vI 15)), (18, (vP b370 0)), (19, (vI 15)), (155, (vA #[(vS ⟨#[100]⟩), (vI 1), (vI 0), (vL (some ⟨b395, 0, none⟩) 2 2)])), (156, (vT #[(vA #[(vS .empty), (vI 0), (vI 0), (vL none 0 0), (vI 0), (vI 0), (vB false), (vI 0), (vI 0), (vI 0)]), (vI 2)])), (154, (vT #[(vA #[(vS .empty), (vI 0), (vI 0), (vL none 0 0), (vI 0), (vI 0), (vB false), (vI 0), (vI 0), (vI 0)]), (vI 2)])), (157, (vA #[(vS .empty), (vI 0), (vI 0), (vL none 0 0), (vI 0), (vI 0), (vB false), (vI 0), (vI 0), (vI 0)])), (158, (vI 2)), (20, (vP b416 0)), (21, (vI 2)), (160, (vA #[(vS ⟨#[100]⟩), (vI 1), (vI 0), (vL (some ⟨b441, 0, none⟩) 2 2)])), (161, (vT #[(vA #[(vS .empty), (vI 0), (vI 0), (vL none 0 0), (vI 0), (vI 0), (vB false), (vI 0), (vI 0), (vI 0)]), (vI 2)])), (159, (vT #[(vA #[(vS .empty), (vI 0), (vI 0), (vL none 0 0), (vI 0), (vI 0), (vB false), (vI 0), (vI 0), (vI 0)]), (vI 2)])), (162, (vA #[(vS .empty), (vI 0), (vI 0), (vL none 0 0), (vI 0), (vI 0), (vB false), (vI 0), (vI 0), (vI 0)])), (163, (vI 2)), (22, (vP b462 0)), (23, (vI 2)), (164, (vA #[(vS ⟨#[100]⟩), (vI 1), (vI 0), (vL w14 2 c15), (vI 1), (vI 0), (vB false), (vI 0), (vI 5), (vI 0)])), (24, (vP b485 0)), (165, (vP b485 5)), (167, (vA #[(vS ⟨#[100]⟩), (vI 1), (vI 0), (vL w14 2 c15), (vI 1), (vI 2), (vB false), (vI 0), (vI 5), (vI 0)])), (168, (vT #[(vA #[(vS .empty), (vI 0), (vI 0), (vL none 0 0), (vI 0), (vI 0), (vB false), (vI 0), (vI 0), (vI 0)]), (vI 2)])), (166, (vT #[(vA #[(vS .empty), (vI 0), (vI 0), (vL none 0 0), (vI 0), (vI 0), (vB false), (vI 0), (vI 0), (vI 0)]), (vI 2)])), (169, (vA #[(vS .empty), (vI 0), (vI 0), (vL none 0 0), (vI 0), (vI 0), (vB false), (vI 0), (vI 0), (vI 0)])), (170, (vI 2)), (25, (vP b526 0)), (26, (vI 2)), (172, (vA #[(vS ⟨#[100]⟩), (vI 1), (vI 0), (vL w127 2 c128), (vI 5), (vI 0), (vB true), (vI 0), (vI 5), (vI 9)])), (173, (vT #[(vA #[(vS .empty), (vI 0), (vI 0), (vL none 0 0), (vI 0), (vI 0), (vB false), (vI 0), (vI 0), (vI 0)]), (vI 9)])), (171, (vT #[(vA #[(vS .empty), (vI 0), (vI 0), (vL none 0 0), (vI 0), (vI 0), (vB false), (vI 0), (vI 0), (vI 0)]), (vI 9)])), (174, (vA #[(vS .empty), (vI 0), (vI 0), (vL none 0 0), (vI 0), (vI 0), (vB false), (vI 0), (vI 0), (vI 0)])), (175, (vI 9)), (27, (vP b562 0)), (28, (vI 9)), (177, (vA #[(vS ⟨#[100]⟩), (vI 1), (vI 0), (vL w14 2 c15), (vI 1), (vI 2), (vB false), (vI 0), (vI 5), (vI 0)])), (178, (vA #[(vI 0), (vI 0), (vI 0)])), (179, (vT #[(vA #[(vS .empty), (vI 0), (vI 0), (vL none 0 0), (vI 0), (vI 0), (vB false), (vI 0), (vI 0), (vI 0)]), (vI 2)])), (176, (vT #[(vA #[(vS .empty), (vI 0), (vI 0), (vL none 0 0), (vI 0), (vI 0), (vB false), (vI 0), (vI 0), (vI 0)]), (vI 2)])), (180, (vA #[(vS .empty), (vI 0), (vI 0), (vL none 0 0), (vI 0), (vI 0), (vB false), (vI 0), (vI 0), (vI 0)])), (181, (vI 2)), (29, (vP b596 0)), (30, (vI 2)), (183, (vA #[(vS ⟨#[100]⟩), (vI 1), (vI 0), (vL w127 2 c128), (vI 5), (vI 0), (vB true), (vI 0), (vI 5), (vI 9)])), (184, (vA #[(vI 0), (vI 0), (vI 0)])), (185, (vT #[(vA #[(vS .empty), (vI 0), (vI 0), (vL none 0 0), (vI 0), (vI 0), (vB false), (vI 0), (vI 0), (vI 0)]), (vI 2)])), (182, (vT #[(vA #[(vS .empty), (vI 0), (vI 0), (vL none 0 0), (vI 0), (vI 0), (vB false), (vI 0), (vI 0), (vI 0)]), (vI 2)])), (186, (vA #[(vS .empty), (vI 0), (vI 0), (vL none 0 0), (vI 0), (vI 0), (vB false), (vI 0), (vI 0), (vI 0)])), (187, (vI 2)), (31, (vP b622 0)), (32, (vI 2)), (188, (vI 15)), (189, (vB true)), (190, (vB true)), (191, (vI 2)), (192, (vB true)), (193, (vB true)), (194, (vB true)), (195, (vI 2)), (196, (vB true)), (197, (vB true)), (198, (vB true)), (199, (vI 2)), (200, (vB true)), (201, (vB true)), (202, (vB true)), (203, (vI 9)), (204, (vB true)), (205, (vB true)), (206, (vB true)), (207, (vI 2)), (208, (vB true)), (209, (vB true)), (210, (vB true)), (211, (vI 2)), (212, (vB true)), (213, (vB true)), (214, (vB true)), (215, (vA #[(vS .empty), (vI 0), (vI 0), (vL none 0 0), (vI 0), (vI 0), (vB false), (vI 0), (vI 0), (vI 0)])), (216, (vI 15)), (217, (vB true)), (218, (vB true)), (219, (vB true)), (220, (vB true)), (221, (vB true)), (0, (vB true))] ?_
  exact end_ev [] (vB true) (hK _ _ (⟨rfl, x641⟩))
end C28
