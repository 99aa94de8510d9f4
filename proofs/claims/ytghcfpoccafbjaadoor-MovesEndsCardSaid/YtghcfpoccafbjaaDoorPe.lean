/- The run of MovesEnds. -/
import Derived.Test.YtghcfpoccafbjaaDoorNd
import Derived.Test.YtghcfpoccafbjaaDoorQd
import Derived.KernelRfl
open Go Go.AM Go.Proofs
namespace C32
set_option maxRecDepth 10000 in
set_option maxHeartbeats 4000000 in
theorem law_ends (h : Heap) (xs : List StepA) (sa : Option Addr) (cp : Nat) (hl : SliceAt h scell 7 xs (.slice sa xs.length cp)) (hlen : xs.length ≤ 9223372036854775807) (hq : ∀ x ∈ xs, I64 x.n) (key : ByteArray) : WCall Tryd.prog 6 #[(Value.slice sa (xs.length) (cp)), (vS key)] h (fun v h1 => v = .bool true ∧ Ext h h1) := by
  have II := inv_fill xs
  suffices H : ∀ K : Value → Heap → Prop, (∀ v h1, (fun v h1 => v = .bool true ∧ Ext h h1) v h1 → K v h1) → WCall Tryd.prog 6 #[(Value.slice sa (xs.length) (cp)), (vS key)] h K from H _ fun _ _ q => q
  intro K hK
  refine wcall_at { tmps := #[(vL sa xs.length cp), (vS key), vZ, vZ, vZ, vZ, vZ, vZ, vZ, vZ, vZ, vZ, vZ, vZ, vZ, vZ, vZ, vZ, vZ, vZ, vZ, vZ, vZ, vZ, vZ, vZ, vZ, vZ, vZ, vZ, vZ, vZ, vZ, vZ, vZ, vZ, vZ, vZ, vZ, vZ, vZ, vZ, vZ, vZ, vZ, vZ, vZ, vZ, vZ, vZ, vZ, vZ, vZ, vZ, vZ, vZ, vZ, vZ, vZ, vZ, vZ, vZ, vZ, vZ, vZ, vZ, vZ, vZ, vZ, vZ, vZ, vZ, vZ, vZ, vZ, vZ, vZ, vZ, vZ, vZ, vZ, vZ, vZ, vZ, vZ, vZ, vZ, vZ, vZ, vZ, vZ, vZ, vZ, vZ, vZ, vZ, vZ, vZ, vZ, vZ, vZ, vZ, vZ, vZ, vZ, vZ, vZ, vZ, vZ, vZ, vZ, vZ, vZ, vZ, vZ, vZ, vZ, vZ, vZ, vZ, vZ, vZ, vZ, vZ, vZ, vZ, vZ, vZ, vZ, vZ, vZ, vZ, vZ, vZ, vZ, vZ, vZ], defers := [] } (by kernel_rfl) ?_
  refine wc_seq' (subc (bodyOf Tryd.prog 6) [0]) (subc (bodyOf Tryd.prog 6) [1]) (by kernel_rfl) ?_
  refine wc_upd (n := 200) (T := ⟨fun r i => match r, i with | _, _ => none, fun _ => none, none⟩) (x := .normal) (h1 := h) [(4, (vB false))]
    (fun q => q) (by intro K'; as_aux_lemma => kernel_rfl) (fun _ q => q) ?_
  refine wc_seq' (subc (bodyOf Tryd.prog 6) [1, 0]) (subc (bodyOf Tryd.prog 6) [1, 1]) (by kernel_rfl) ?_
  by_cases c4689 : (60 : Int) < ((xs.length : Nat))
  · obtain ⟨_, hh4690, sn4691, rfl, x4692⟩ := works_ok h
    have x4693 := (Ext.refl h).trans x4692
    refine wc_upd (n := 200) (T := ⟨fun r i => match r, i with | 1, 2 => some ((vB true), h) | 2, 0 => some ((vB true), hh4690) | _, _ => none, fun _ => none, none⟩) (x := .ret) (h1 := hh4690) [(12, (vL sa xs.length cp)), (13, (vI ((xs.length : Nat)))), (14, (vB true)), (15, (vB true)), (16, vZ), (17, vZ), (18, vZ), (19, (vB true)), (20, (vB true)), (21, vZ), (22, vZ), (23, vZ), (24, (vB true)), (25, (vB true)), (4, (vB true))]
      (fun q => (binA Tryd.prog .gtr 3 (vI ((xs.length : Nat))) (vI 60) = some (vB true) ∧ h = h) ∧ SoundCall Tryd.prog 12 #[] h (vB true) hh4690 ∧ q) (by intro K'; as_aux_lemma => kernel_rfl) (fun _ q => ⟨⟨cmp_gtr (decide_eq_true c4689), rfl⟩, sn4691, q⟩) ?_
    refine end_at (T := ⟨fun _ _ => none, fun _ => none, none⟩) (A := K (vB true) hh4690) (by kernel_rfl) ?_
    exact hK _ _ (⟨rfl, x4693⟩)
  · obtain ⟨_, h4696, s4697, b4694, rfl, q4695, x4698⟩ := short_ok h xs _ _ (hl.keep fun b r _ q => (Ext.refl h) b r q) hlen hq
    have x4699 := (Ext.refl h).trans x4698
    rcases Bool.eq_false_or_eq_true (b4694) with c4700 | c4700
    · obtain ⟨l9xs, s9xs⟩ := q4695 c4700
      by_cases c4701 : (40 : Int) < ((key.size : Nat))
      · obtain ⟨_, hh4702, sn4703, rfl, x4704⟩ := works_ok h4696
        have x4705 := x4699.trans x4704
        refine wc_upd (n := 200) (T := ⟨fun r i => match r, i with | 1, 2 => some ((vB false), h) | 1, 5 => some ((vB true), h4696) | 1, 11 => some ((vB true), h4696) | 2, 0 => some ((vB true), hh4702) | _, _ => none, fun _ => none, none⟩) (x := .ret) (h1 := hh4702) [(12, (vL sa xs.length cp)), (13, (vI ((xs.length : Nat)))), (14, (vB false)), (15, (vB false)), (16, (vL sa xs.length cp)), (17, (vB true)), (18, (vB false)), (19, (vB false)), (20, (vB false)), (21, (vS key)), (22, (vI ((key.size : Nat)))), (23, (vB true)), (24, (vB true)), (25, (vB true)), (4, (vB true))]
          (fun q => (binA Tryd.prog .gtr 3 (vI ((xs.length : Nat))) (vI 60) = some (vB false) ∧ h = h) ∧ SoundCall Tryd.prog 11 #[(vL sa xs.length cp)] h (vB true) h4696 ∧ (binA Tryd.prog .gtr 3 (vI ((key.size : Nat))) (vI 40) = some (vB true) ∧ h4696 = h4696) ∧ SoundCall Tryd.prog 12 #[] h4696 (vB true) hh4702 ∧ q) (by intro K'; as_aux_lemma => kernel_rfl) (fun _ q => ⟨⟨cmp_gtr (decide_eq_false c4689), rfl⟩, (by rw [← c4700]; exact s4697), ⟨cmp_gtr (decide_eq_true c4701), rfl⟩, sn4703, q⟩) ?_
        refine end_at (T := ⟨fun _ _ => none, fun _ => none, none⟩) (A := K (vB true) hh4702) (by kernel_rfl) ?_
        exact hK _ _ (⟨rfl, x4705⟩)
      · refine wc_upd (n := 200) (T := ⟨fun r i => match r, i with | 1, 2 => some ((vB false), h) | 1, 5 => some ((vB true), h4696) | 1, 11 => some ((vB false), h4696) | _, _ => none, fun _ => none, none⟩) (x := .normal) (h1 := h4696) [(12, (vL sa xs.length cp)), (13, (vI ((xs.length : Nat)))), (14, (vB false)), (15, (vB false)), (16, (vL sa xs.length cp)), (17, (vB true)), (18, (vB false)), (19, (vB false)), (20, (vB false)), (21, (vS key)), (22, (vI ((key.size : Nat)))), (23, (vB false)), (24, (vB false))]
          (fun q => (binA Tryd.prog .gtr 3 (vI ((xs.length : Nat))) (vI 60) = some (vB false) ∧ h = h) ∧ SoundCall Tryd.prog 11 #[(vL sa xs.length cp)] h (vB true) h4696 ∧ (binA Tryd.prog .gtr 3 (vI ((key.size : Nat))) (vI 40) = some (vB false) ∧ h4696 = h4696) ∧ q) (by intro K'; as_aux_lemma => kernel_rfl) (fun _ q => ⟨⟨cmp_gtr (decide_eq_false c4689), rfl⟩, (by rw [← c4700]; exact s4697), ⟨cmp_gtr (decide_eq_false c4701), rfl⟩, q⟩) ?_
        refine wc_seq' (subc (bodyOf Tryd.prog 6) [1, 1, 0]) (subc (bodyOf Tryd.prog 6) [1, 1, 1]) (by kernel_rfl) ?_
        obtain ⟨_, h4708, s4709, b4706, O4707, rfl, p4710, x4711, w4712⟩ := filled_ok h4696 xs _ _ (hl.keep fun b r _ q => x4699 b r q) hlen hq
        have x4713 := x4699.trans x4711
        have z4714 : h.size ≤ h4696.size := x4699.size
        have o4716 : ∀ zz, O4707 zz → h.size ≤ zz := fun zz hz => by have := w4712 zz hz; omega
        refine wc_upd (n := 200) (T := ⟨fun r i => match r, i with | 3, 1 => some ((vP b4706 0), h4708) | _, _ => none, fun _ => none, none⟩) (x := .normal) (h1 := h4708) [(26, (vL sa xs.length cp)), (27, (vP b4706 0)), (5, (vP b4706 0))]
          (fun q => SoundCall Tryd.prog 13 #[(vL sa xs.length cp)] h4696 (vP b4706 0) h4708 ∧ q) (by intro K'; as_aux_lemma => kernel_rfl) (fun _ q => ⟨s4709, q⟩) ?_
        refine wc_seq' (subc (bodyOf Tryd.prog 6) [1, 1, 1, 0]) (subc (bodyOf Tryd.prog 6) [1, 1, 1, 1]) (by kernel_rfl) ?_
        obtain ⟨_, hh4721, sn4722, w4717, c4718, rfl, o4719, x4723, b4720⟩ := open_ok h4708 p4710 (fillM_len xs)
        have p4724 := p4710.keep fun b r _ q => x4723 b r q
        have x4725 := x4713.trans x4723
        have z4727 : h.size ≤ h4708.size := x4713.size
        have n4729 : ∀ zz, blk (Value.slice w4717 ((openL (fillM xs)).length) (c4718)) zz → ¬ O4707 zz := fun zz hz ez => by have := b4720 zz hz; have := p4710.blk_lt ez; omega
        have o4730 : ∀ zz, blk (Value.slice w4717 ((openL (fillM xs)).length) (c4718)) zz → h.size ≤ zz := fun zz hz => by have := b4720 zz hz; omega
        have lo9 := openL_len (fillM xs)
        have ok9 := (fillM_len xs)
        refine wc_upd (n := 200) (T := ⟨fun r i => match r, i with | 4, 1 => some ((Value.slice w4717 ((openL (fillM xs)).length) (c4718)), hh4721) | _, _ => none, fun _ => none, none⟩) (x := .normal) (h1 := hh4721) [(28, (vP b4706 0)), (29, (Value.slice w4717 ((openL (fillM xs)).length) (c4718))), (6, (Value.slice w4717 ((openL (fillM xs)).length) (c4718)))]
          (fun q => SoundCall Tryd.prog 14 #[(vP b4706 0)] h4708 (Value.slice w4717 ((openL (fillM xs)).length) (c4718)) hh4721 ∧ q) (by intro K'; as_aux_lemma => kernel_rfl) (fun _ q => ⟨sn4722, q⟩) ?_
        refine wc_seq' (subc (bodyOf Tryd.prog 6) [1, 1, 1, 1, 0]) (subc (bodyOf Tryd.prog 6) [1, 1, 1, 1, 1]) (by kernel_rfl) ?_
        refine wc_seq' (subc (bodyOf Tryd.prog 6) [1, 1, 1, 1, 0, 0]) (subc (bodyOf Tryd.prog 6) [1, 1, 1, 1, 0, 1]) (by kernel_rfl) ?_
        refine wc_upd (n := 200) (T := ⟨fun r i => match r, i with | _, _ => none, fun _ => none, none⟩) (x := .normal) (h1 := hh4721) [(7, (vI 0))]
          (fun q => q) (by intro K'; as_aux_lemma => kernel_rfl) (fun _ q => q) ?_
        refine wc_block' 0 (subc (bodyOf Tryd.prog 6) [1, 1, 1, 1, 0, 1, 0]) (by kernel_rfl) ?_
        refine wc_loop' (subc (bodyOf Tryd.prog 6) [1, 1, 1, 1, 0, 1, 0, 0]) (by kernel_rfl) (fun n' a' h' => ∃ (k : Int) (l9 : List MoveM) (O9 : Nat → Prop) (g0 : Nat → Value), a' = { tmps := #[(vL sa xs.length cp), (vS key), vZ, vZ, (g0 4), (vP b4706 0), (Value.slice w4717 ((openL (fillM xs)).length) (c4718)), (vI k), (g0 8), (g0 9), vZ, vZ, (vL sa xs.length cp), (vI ((xs.length : Nat))), (vB false), (vB false), (vL sa xs.length cp), (vB true), (vB false), (vB false), (vB false), (vS key), (vI ((key.size : Nat))), (vB false), (vB false), vZ, (vL sa xs.length cp), (vP b4706 0), (vP b4706 0), (Value.slice w4717 ((openL (fillM xs)).length) (c4718)), (g0 30), (g0 31), (g0 32), (g0 33), (g0 34), (g0 35), (g0 36), (g0 37), (g0 38), (g0 39), (g0 40), (g0 41), (g0 42), (g0 43), (g0 44), (g0 45), (g0 46), (g0 47), (g0 48), (g0 49), (g0 50), (g0 51), (g0 52), (g0 53), (g0 54), (g0 55), (g0 56), (g0 57), (g0 58), (g0 59), (g0 60), (g0 61), (g0 62), (g0 63), (g0 64), (g0 65), (g0 66), (g0 67), (g0 68), (g0 69), (g0 70), (g0 71), (g0 72), (g0 73), (g0 74), (g0 75), (g0 76), (g0 77), (g0 78), (g0 79), (g0 80), (g0 81), (g0 82), (g0 83), (g0 84), (g0 85), (g0 86), (g0 87), (g0 88), (g0 89), (g0 90), (g0 91), (g0 92), (g0 93), (g0 94), (g0 95), (g0 96), (g0 97), (g0 98), (g0 99), (g0 100), (g0 101), vZ, vZ, vZ, vZ, vZ, vZ, vZ, vZ, vZ, vZ, vZ, vZ, vZ, vZ, vZ, vZ, vZ, vZ, vZ, vZ, vZ, vZ, vZ, vZ, vZ, vZ, vZ, vZ, vZ, vZ, vZ, vZ, vZ, vZ, vZ], defers := [] } ∧ Ext h h' ∧ n' = (openL (fillM xs)).length - k.toNat ∧ (0 ≤ k ∧ k ≤ ((openL (fillM xs)).length : Nat)) ∧ l9.length ≤ 64 ∧ Ends (fillM xs) l9 k.toNat ∧ (∀ zz, O9 zz → h.size ≤ zz) ∧ (∀ zz, (blk (Value.slice w4717 ((openL (fillM xs)).length) (c4718))) zz → ¬ O9 zz) ∧ TabAt 56 32 h' O9 b4706 l9 ∧ OwnAt h' 3 icell (openL (fillM xs)) (Value.slice w4717 ((openL (fillM xs)).length) (c4718))) ?_ ((openL (fillM xs)).length - (0 : Int).toNat) ⟨0, (fillM xs), O4707, (fun i => ([vU, vU, vU, vU, (vB false), vU, vU, vU, vZ, vZ, vU, vU, vU, vU, vU, vU, vU, vU, vU, vU, vU, vU, vU, vU, vU, vU, vU, vU, vU, vU, vZ, vZ, vZ, vZ, vZ, vZ, vZ, vZ, vZ, vZ, vZ, vZ, vZ, vZ, vZ, vZ, vZ, vZ, vZ, vZ, vZ, vZ, vZ, vZ, vZ, vZ, vZ, vZ, vZ, vZ, vZ, vZ, vZ, vZ, vZ, vZ, vZ, vZ, vZ, vZ, vZ, vZ, vZ, vZ, vZ, vZ, vZ, vZ, vZ, vZ, vZ, vZ, vZ, vZ, vZ, vZ, vZ, vZ, vZ, vZ, vZ, vZ, vZ, vZ, vZ, vZ, vZ, vZ, vZ, vZ, vZ, vZ] : List Value).getD i undef), by as_aux_lemma => kernel_rfl, x4725, rfl, by omega, (fillM_len xs), ends_start (fillM xs), o4716, n4729, p4724, o4719⟩
        rintro n' _ h4732 ⟨k, l9, O9, g0, rfl, x4741, m4740, i4733, i4734, i4735, i4736, i4737, p4738, p4739⟩
        by_cases c4742 : ((k) : Int) < (((openL (fillM xs)).length : Nat))
        · obtain ⟨i4743, v4744, e4745, l4746, g4747⟩ := list_at (openL (fillM xs)) (e := (k)) (by omega) (by first | omega | (simp only [List.length_set, List.length_append, List.length_singleton]; omega))
          obtain ⟨b4748, o4749, q4751, a4752, k4750, u4753⟩ := p4739.store icell_size g4747
          obtain ⟨oag4747, obg4747, ocg4747, odg4747, oeg4747⟩ := open_get g4747
          obtain ⟨pag4747, pbg4747, pcg4747, pdg4747⟩ := II.ok _ odg4747
          have EE := i4735
          have w4758 := EE.same i4743 (v4744) (by omega) g4747
          have el9 := EE.len
          have e4757 : findE l9 (v4744) = 0 := findE_at (by omega) (by omega)
          obtain ⟨_, h4756, s4754, rfl, x4755⟩ := get_ok h4732 p4738 i4734 (v4744) (by omega)
          rw [e4757] at s4754
          have p4759 := p4738.keep fun b r _ q => x4755 b r q
          have p4760 := p4739.keep fun b r _ q => x4755 b r q
          have x4762 := x4741.trans x4755
          by_cases c4763 : ((getM l9 (v4744)).st : Int) = 1
          · obtain ⟨b4767, eb4768⟩ : ∃ zq, zq = h4756.size := ⟨_, rfl⟩
            obtain ⟨h4765, e4766⟩ : ∃ zq, zq = h4756.push (.cells #[(vS .empty), (vS .empty), (vI 0), (vI 0), (vI 0), (vS .empty)] 32 (0, 0)) := ⟨_, rfl⟩
            have f4769 := push_new e4766
            rw [← eb4768] at f4769
            have n4771 : ∀ zz, O9 zz → ¬ zz = b4767 := fun zz hz ez => by have := p4759.blk_lt hz; omega
            have n4772 : ∀ zz, (blk (Value.slice w4717 ((openL (fillM xs)).length) (c4718))) zz → ¬ zz = b4767 := fun zz hz ez => by have := p4760.blk_lt hz; omega
            have x4774 : Ext h4756 h4765 := by rw [e4766]; exact Ext.push _ _
            have o4775 : h.size ≤ b4767 := by have := x4762.size; omega
            have p4776 := p4759.keep fun b r _ q => x4774 b r q
            have p4777 := p4760.keep fun b r _ q => x4774 b r q
            have x4779 := x4762.trans x4774
            obtain ⟨h4780, e4781⟩ : ∃ zq, zq = h4765.setIfInBounds b4767 (.cells #[(vS (getM l9 (v4744)).rf), (vS (getM l9 (v4744)).rt), (vI ((getM l9 (v4744)).f)), (vI ((getM l9 (v4744)).t)), (vI ((getM l9 (v4744)).st)), (vS (getM l9 (v4744)).d)] 32 (0, 0)) := ⟨_, rfl⟩
            have f4782 := set_same e4781 f4769
            have p4784 := p4776.keep fun b r hb q => (Chg.set e4781).same b r q (n4771 b hb)
            have p4785 := p4777.keep fun b r hb q => (Chg.set e4781).same b r q (n4772 b hb)
            have x4786 := Ext.setNew x4779 e4781 o4775
            by_cases c4787 : (((getM l9 (v4744)).st) : Int) = 1
            · obtain ⟨b4793, o4794, q4796, a4797, k4795, u4798⟩ := p4785.store icell_size g4747
              obtain ⟨oag4747, obg4747, ocg4747, odg4747, oeg4747⟩ := open_get g4747
              obtain ⟨pag4747, pbg4747, pcg4747, pdg4747⟩ := II.ok _ odg4747
              have w4799 := t_not e4757 (by omega)
              obtain ⟨_, h4800, s4801, rfl, x4802, O4803, p4804, o4805⟩ := taken_ok h4780 p4784 i4734 (v4744) (by omega)
              have k4806 := takenL_len i4734 (v4744)
              have e4807 : takenE l9 (v4744) = 9 := w4799.1
              rw [e4807] at s4801
              have e4808 : takenL l9 (v4744) = l9 := w4799.2
              rw [e4808] at p4804 k4806
              have z4809 : h.size ≤ h4780.size := x4786.size
              have x4810 : Ext h _ := (Chg.then (O := fun _ => False) (Chg.ext x4786) x4802 (fun b hb => .inr (i4736 b hb))).toExt'
              have p4812 := p4785.keep fun b r hb q => x4802.same b r q (i4737 b hb)
              have z4813 : h.size ≤ h4780.size := x4786.size
              have n4815 : ∀ zz, O4803 zz → ¬ (blk (Value.slice w4717 ((openL (fillM xs)).length) (c4718))) zz := fun zz hz ez => by rcases o4805 zz hz with g | g; (exact i4737 _ ez g); have := p4785.blk_lt ez; omega
              have o4816 : ∀ zz, O4803 zz → h.size ≤ zz := fun zz hz => by rcases o4805 zz hz with g | g; (exact i4736 zz g); omega
              obtain ⟨b4822, o4823, q4825, a4826, k4824, u4827⟩ := p4812.store icell_size g4747
              obtain ⟨oag4747, obg4747, ocg4747, odg4747, oeg4747⟩ := open_get g4747
              obtain ⟨pag4747, pbg4747, pcg4747, pdg4747⟩ := II.ok _ odg4747
              have w4828 := g_asked (d := ⟨#[100, 97, 116, 97]⟩) e4757 (by decide) (by omega)
              obtain ⟨aw4828, bw4828, cw4828⟩ := g_next w4828
              obtain ⟨_, h4829, s4830, rfl, x4831, O4832, p4833, o4834⟩ := given_ok h4800 p4804 k4806 (v4744) (by omega) ⟨#[100, 97, 116, 97]⟩
              have k4835 := givenL_len k4806 (v4744) ⟨#[100, 97, 116, 97]⟩
              have e4836 : givenE l9 (v4744) ⟨#[100, 97, 116, 97]⟩ = 0 := w4828
              rw [e4836] at s4830
              have z4837 : h.size ≤ h4800.size := x4810.size
              have x4838 : Ext h _ := (Chg.then (O := fun _ => False) (Chg.ext x4810) x4831 (fun b hb => .inr (o4816 b hb))).toExt'
              have p4840 := p4812.keep fun b r hb q => x4831.same b r q ((fun b hb hb2 => n4815 b hb2 hb) b hb)
              have z4841 : h.size ≤ h4800.size := x4810.size
              have n4843 : ∀ zz, O4832 zz → ¬ (blk (Value.slice w4717 ((openL (fillM xs)).length) (c4718))) zz := fun zz hz ez => by rcases o4834 zz hz with g | g; (exact n4815 _ g ez); have := p4812.blk_lt ez; omega
              have o4844 : ∀ zz, O4832 zz → h.size ≤ zz := fun zz hz => by rcases o4834 zz hz with g | g; (exact o4816 zz g); omega
              obtain ⟨b4850, o4851, q4853, a4854, k4852, u4855⟩ := p4840.store icell_size g4747
              obtain ⟨oag4747, obg4747, ocg4747, odg4747, oeg4747⟩ := open_get g4747
              obtain ⟨pag4747, pbg4747, pcg4747, pdg4747⟩ := II.ok _ odg4747
              have w4856 := g_not (d := ⟨#[109, 111, 114, 101]⟩) bw4828 (by decide) (by omega)
              obtain ⟨_, h4857, s4858, rfl, x4859, O4860, p4861, o4862⟩ := given_ok h4829 p4833 k4835 (v4744) (by omega) ⟨#[109, 111, 114, 101]⟩
              have k4863 := givenL_len k4835 (v4744) ⟨#[109, 111, 114, 101]⟩
              have e4864 : givenE (givenL l9 (v4744) ⟨#[100, 97, 116, 97]⟩) (v4744) ⟨#[109, 111, 114, 101]⟩ = 9 := w4856.1
              rw [e4864] at s4858
              have e4865 : givenL (givenL l9 (v4744) ⟨#[100, 97, 116, 97]⟩) (v4744) ⟨#[109, 111, 114, 101]⟩ = (givenL l9 (v4744) ⟨#[100, 97, 116, 97]⟩) := w4856.2
              rw [e4865] at p4861 k4863
              have z4866 : h.size ≤ h4829.size := x4838.size
              have x4867 : Ext h _ := (Chg.then (O := fun _ => False) (Chg.ext x4838) x4859 (fun b hb => .inr (o4844 b hb))).toExt'
              have p4869 := p4840.keep fun b r hb q => x4859.same b r q ((fun b hb hb2 => n4843 b hb2 hb) b hb)
              have z4870 : h.size ≤ h4829.size := x4838.size
              have n4872 : ∀ zz, O4860 zz → ¬ (blk (Value.slice w4717 ((openL (fillM xs)).length) (c4718))) zz := fun zz hz ez => by rcases o4862 zz hz with g | g; (exact n4843 _ g ez); have := p4840.blk_lt ez; omega
              have o4873 : ∀ zz, O4860 zz → h.size ≤ zz := fun zz hz => by rcases o4862 zz hz with g | g; (exact o4844 zz g); omega
              obtain ⟨b4879, o4880, q4882, a4883, k4881, u4884⟩ := p4869.store icell_size g4747
              obtain ⟨oag4747, obg4747, ocg4747, odg4747, oeg4747⟩ := open_get g4747
              obtain ⟨pag4747, pbg4747, pcg4747, pdg4747⟩ := II.ok _ odg4747
              have w4885 := t_out bw4828 (by omega)
              obtain ⟨aw4885, bw4885, cw4885⟩ := t_next w4885
              obtain ⟨_, h4886, s4887, rfl, x4888, O4889, p4890, o4891⟩ := taken_ok h4857 p4861 k4863 (v4744) (by omega)
              have k4892 := takenL_len k4863 (v4744)
              have e4893 : takenE (givenL l9 (v4744) ⟨#[100, 97, 116, 97]⟩) (v4744) = 0 := w4885
              rw [e4893] at s4887
              have z4894 : h.size ≤ h4857.size := x4867.size
              have x4895 : Ext h _ := (Chg.then (O := fun _ => False) (Chg.ext x4867) x4888 (fun b hb => .inr (o4873 b hb))).toExt'
              have p4897 := p4869.keep fun b r hb q => x4888.same b r q ((fun b hb hb2 => n4872 b hb2 hb) b hb)
              have z4898 : h.size ≤ h4857.size := x4867.size
              have n4900 : ∀ zz, O4889 zz → ¬ (blk (Value.slice w4717 ((openL (fillM xs)).length) (c4718))) zz := fun zz hz ez => by rcases o4891 zz hz with g | g; (exact n4872 _ g ez); have := p4869.blk_lt ez; omega
              have o4901 : ∀ zz, O4889 zz → h.size ≤ zz := fun zz hz => by rcases o4891 zz hz with g | g; (exact o4873 zz g); omega
              obtain ⟨b4907, o4908, q4910, a4911, k4909, u4912⟩ := p4897.store icell_size g4747
              obtain ⟨oag4747, obg4747, ocg4747, odg4747, oeg4747⟩ := open_get g4747
              obtain ⟨pag4747, pbg4747, pcg4747, pdg4747⟩ := II.ok _ odg4747
              have w4913 := t_not bw4885 (by omega)
              obtain ⟨_, h4914, s4915, rfl, x4916, O4917, p4918, o4919⟩ := taken_ok h4886 p4890 k4892 (v4744) (by omega)
              have k4920 := takenL_len k4892 (v4744)
              have e4921 : takenE (takenL (givenL l9 (v4744) ⟨#[100, 97, 116, 97]⟩) (v4744)) (v4744) = 9 := w4913.1
              rw [e4921] at s4915
              have e4922 : takenL (takenL (givenL l9 (v4744) ⟨#[100, 97, 116, 97]⟩) (v4744)) (v4744) = (takenL (givenL l9 (v4744) ⟨#[100, 97, 116, 97]⟩) (v4744)) := w4913.2
              rw [e4922] at p4918 k4920
              have z4923 : h.size ≤ h4886.size := x4895.size
              have x4924 : Ext h _ := (Chg.then (O := fun _ => False) (Chg.ext x4895) x4916 (fun b hb => .inr (o4901 b hb))).toExt'
              have p4926 := p4897.keep fun b r hb q => x4916.same b r q ((fun b hb hb2 => n4900 b hb2 hb) b hb)
              have z4927 : h.size ≤ h4886.size := x4895.size
              have n4929 : ∀ zz, O4917 zz → ¬ (blk (Value.slice w4717 ((openL (fillM xs)).length) (c4718))) zz := fun zz hz ez => by rcases o4919 zz hz with g | g; (exact n4900 _ g ez); have := p4897.blk_lt ez; omega
              have o4930 : ∀ zz, O4917 zz → h.size ≤ zz := fun zz hz => by rcases o4919 zz hz with g | g; (exact o4901 zz g); omega
              obtain ⟨b4936, o4937, q4939, a4940, k4938, u4941⟩ := p4926.store icell_size g4747
              obtain ⟨oag4747, obg4747, ocg4747, odg4747, oeg4747⟩ := open_get g4747
              obtain ⟨pag4747, pbg4747, pcg4747, pdg4747⟩ := II.ok _ odg4747
              have w4942 := g_not (d := ⟨#[109, 111, 114, 101]⟩) bw4885 (by decide) (by omega)
              obtain ⟨_, h4943, s4944, rfl, x4945, O4946, p4947, o4948⟩ := given_ok h4914 p4918 k4920 (v4744) (by omega) ⟨#[109, 111, 114, 101]⟩
              have k4949 := givenL_len k4920 (v4744) ⟨#[109, 111, 114, 101]⟩
              have e4950 : givenE (takenL (givenL l9 (v4744) ⟨#[100, 97, 116, 97]⟩) (v4744)) (v4744) ⟨#[109, 111, 114, 101]⟩ = 9 := w4942.1
              rw [e4950] at s4944
              have e4951 : givenL (takenL (givenL l9 (v4744) ⟨#[100, 97, 116, 97]⟩) (v4744)) (v4744) ⟨#[109, 111, 114, 101]⟩ = (takenL (givenL l9 (v4744) ⟨#[100, 97, 116, 97]⟩) (v4744)) := w4942.2
              rw [e4951] at p4947 k4949
              have z4952 : h.size ≤ h4914.size := x4924.size
              have x4953 : Ext h _ := (Chg.then (O := fun _ => False) (Chg.ext x4924) x4945 (fun b hb => .inr (o4930 b hb))).toExt'
              have p4955 := p4926.keep fun b r hb q => x4945.same b r q ((fun b hb hb2 => n4929 b hb2 hb) b hb)
              have z4956 : h.size ≤ h4914.size := x4924.size
              have n4958 : ∀ zz, O4946 zz → ¬ (blk (Value.slice w4717 ((openL (fillM xs)).length) (c4718))) zz := fun zz hz ez => by rcases o4948 zz hz with g | g; (exact n4929 _ g ez); have := p4926.blk_lt ez; omega
              have o4959 : ∀ zz, O4946 zz → h.size ≤ zz := fun zz hz => by rcases o4948 zz hz with g | g; (exact o4930 zz g); omega
              refine wc_upd (n := 200) (T := ⟨fun r i => match r, i with | 6, 3 => some ((vB true), h4732) | 8, 3 => some ((vP b4748 o4749), h4732) | 8, 4 => some ((vI v4744), h4732) | 8, 5 => some ((vT #[(vA #[(vS (getM l9 (v4744)).rf), (vS (getM l9 (v4744)).rt), (vI ((getM l9 (v4744)).f)), (vI ((getM l9 (v4744)).t)), (vI ((getM l9 (v4744)).st)), (vS (getM l9 (v4744)).d)]), (vI 0)]), h4756) | 8, 9 => some ((vP b4767 0), h4765) | 8, 10 => some (undef, h4780) | 11, 1 => some ((vI ((getM l9 (v4744)).st)), h4780) | 11, 2 => some ((vB true), h4780) | 11, 7 => some ((vP b4793 o4794), h4780) | 11, 8 => some ((vI v4744), h4780) | 11, 9 => some ((vI 9), h4800) | 11, 15 => some ((vP b4822 o4823), h4800) | 11, 16 => some ((vI v4744), h4800) | 11, 17 => some ((vI 0), h4829) | 13, 3 => some ((vP b4850 o4851), h4829) | 13, 4 => some ((vI v4744), h4829) | 13, 5 => some ((vI 9), h4857) | 13, 11 => some ((vP b4879 o4880), h4857) | 13, 12 => some ((vI v4744), h4857) | 13, 13 => some ((vI 0), h4886) | 13, 20 => some ((vP b4907 o4908), h4886) | 13, 21 => some ((vI v4744), h4886) | 13, 22 => some ((vI 9), h4914) | 13, 29 => some ((vP b4936 o4937), h4914) | 13, 30 => some ((vI v4744), h4914) | 13, 31 => some ((vI 9), h4943) | 7, 1 => some ((vI ((k) + 1)), h4943) | _, _ => none, fun _ => none, none⟩) (x := .normal) (h1 := h4943) [(30, (vI k)), (31, (Value.slice w4717 ((openL (fillM xs)).length) (c4718))), (32, (vI (((openL (fillM xs)).length : Nat)))), (33, (vB true)), (37, (vP b4706 0)), (38, (Value.slice w4717 ((openL (fillM xs)).length) (c4718))), (39, (vI k)), (40, (vP b4748 o4749)), (41, (vI v4744)), (42, (vT #[(vA #[(vS (getM l9 (v4744)).rf), (vS (getM l9 (v4744)).rt), (vI ((getM l9 (v4744)).f)), (vI ((getM l9 (v4744)).t)), (vI ((getM l9 (v4744)).st)), (vS (getM l9 (v4744)).d)]), (vI 0)])), (36, (vT #[(vA #[(vS (getM l9 (v4744)).rf), (vS (getM l9 (v4744)).rt), (vI ((getM l9 (v4744)).f)), (vI ((getM l9 (v4744)).t)), (vI ((getM l9 (v4744)).st)), (vS (getM l9 (v4744)).d)]), (vI 0)])), (43, (vA #[(vS (getM l9 (v4744)).rf), (vS (getM l9 (v4744)).rt), (vI ((getM l9 (v4744)).f)), (vI ((getM l9 (v4744)).t)), (vI ((getM l9 (v4744)).st)), (vS (getM l9 (v4744)).d)])), (44, (vI 0)), (8, (vP b4767 0)), (9, (vI 0)), (45, (vI 0)), (46, (vB false)), (47, (vP b4767 4)), (48, (vI ((getM l9 (v4744)).st))), (49, (vB true)), (50, (vB true)), (51, (vP b4706 0)), (52, (Value.slice w4717 ((openL (fillM xs)).length) (c4718))), (53, (vI k)), (54, (vP b4793 o4794)), (55, (vI v4744)), (56, (vI 9)), (57, (vB false)), (58, (vB false)), (59, (vP b4706 0)), (60, (Value.slice w4717 ((openL (fillM xs)).length) (c4718))), (61, (vI k)), (62, (vP b4822 o4823)), (63, (vI v4744)), (64, (vI 0)), (65, (vB false)), (66, (vB false)), (67, (vB false)), (68, (vP b4706 0)), (69, (Value.slice w4717 ((openL (fillM xs)).length) (c4718))), (70, (vI k)), (71, (vP b4850 o4851)), (72, (vI v4744)), (73, (vI 9)), (74, (vB false)), (75, (vB false)), (76, (vP b4706 0)), (77, (Value.slice w4717 ((openL (fillM xs)).length) (c4718))), (78, (vI k)), (79, (vP b4879 o4880)), (80, (vI v4744)), (81, (vI 0)), (82, (vB false)), (83, (vB false)), (84, (vB false)), (85, (vP b4706 0)), (86, (Value.slice w4717 ((openL (fillM xs)).length) (c4718))), (87, (vI k)), (88, (vP b4907 o4908)), (89, (vI v4744)), (90, (vI 9)), (91, (vB false)), (92, (vB false)), (93, (vB false)), (94, (vP b4706 0)), (95, (Value.slice w4717 ((openL (fillM xs)).length) (c4718))), (96, (vI k)), (97, (vP b4936 o4937)), (98, (vI v4744)), (99, (vI 9)), (100, (vB false)), (101, (vB false)), (34, (vI k)), (35, (vI ((k) + 1))), (7, (vI ((k) + 1)))]
                (fun q => (binA Tryd.prog .lss 3 (vI k) (vI (((openL (fillM xs)).length : Nat))) = some (vB true) ∧ h4732 = h4732) ∧ (indexAddrA Tryd.prog 27 (Value.slice w4717 ((openL (fillM xs)).length) (c4718)) (vI k) = some (vP b4748 o4749) ∧ h4732 = h4732) ∧ (loadT Tryd.prog h4732 3 (vP b4748 o4749) = some (vI v4744) ∧ h4732 = h4732) ∧ SoundCall Tryd.prog 15 #[(vP b4706 0), (vI v4744)] h4732 (vT #[(vA #[(vS (getM l9 (v4744)).rf), (vS (getM l9 (v4744)).rt), (vI ((getM l9 (v4744)).f)), (vI ((getM l9 (v4744)).t)), (vI ((getM l9 (v4744)).st)), (vS (getM l9 (v4744)).d)]), (vI 0)]) h4756 ∧ ((vP b4767 0) = (Value.pointer (some ⟨h4756.size, 0, none⟩)) ∧ h4765 = h4756.push (.cells #[(vS .empty), (vS .empty), (vI 0), (vI 0), (vI 0), (vS .empty)] 32 (0, 0))) ∧ (storeT Tryd.prog h4765 32 (vP b4767 0) (vA #[(vS (getM l9 (v4744)).rf), (vS (getM l9 (v4744)).rt), (vI ((getM l9 (v4744)).f)), (vI ((getM l9 (v4744)).t)), (vI ((getM l9 (v4744)).st)), (vS (getM l9 (v4744)).d)]) = some h4780 ∧ (undef : Value) = undef) ∧ (loadT Tryd.prog h4780 3 (vP b4767 4) = some (vI ((getM l9 (v4744)).st)) ∧ h4780 = h4780) ∧ (binA Tryd.prog .eql 3 (vI ((getM l9 (v4744)).st)) (vI 1) = some (vB true) ∧ h4780 = h4780) ∧ (indexAddrA Tryd.prog 27 (Value.slice w4717 ((openL (fillM xs)).length) (c4718)) (vI k) = some (vP b4793 o4794) ∧ h4780 = h4780) ∧ (loadT Tryd.prog h4780 3 (vP b4793 o4794) = some (vI v4744) ∧ h4780 = h4780) ∧ SoundCall Tryd.prog 23 #[(vP b4706 0), (vI v4744)] h4780 (vI 9) h4800 ∧ (indexAddrA Tryd.prog 27 (Value.slice w4717 ((openL (fillM xs)).length) (c4718)) (vI k) = some (vP b4822 o4823) ∧ h4800 = h4800) ∧ (loadT Tryd.prog h4800 3 (vP b4822 o4823) = some (vI v4744) ∧ h4800 = h4800) ∧ SoundCall Tryd.prog 22 #[(vP b4706 0), (vI v4744), (vS ⟨#[100, 97, 116, 97]⟩)] h4800 (vI 0) h4829 ∧ (indexAddrA Tryd.prog 27 (Value.slice w4717 ((openL (fillM xs)).length) (c4718)) (vI k) = some (vP b4850 o4851) ∧ h4829 = h4829) ∧ (loadT Tryd.prog h4829 3 (vP b4850 o4851) = some (vI v4744) ∧ h4829 = h4829) ∧ SoundCall Tryd.prog 22 #[(vP b4706 0), (vI v4744), (vS ⟨#[109, 111, 114, 101]⟩)] h4829 (vI 9) h4857 ∧ (indexAddrA Tryd.prog 27 (Value.slice w4717 ((openL (fillM xs)).length) (c4718)) (vI k) = some (vP b4879 o4880) ∧ h4857 = h4857) ∧ (loadT Tryd.prog h4857 3 (vP b4879 o4880) = some (vI v4744) ∧ h4857 = h4857) ∧ SoundCall Tryd.prog 23 #[(vP b4706 0), (vI v4744)] h4857 (vI 0) h4886 ∧ (indexAddrA Tryd.prog 27 (Value.slice w4717 ((openL (fillM xs)).length) (c4718)) (vI k) = some (vP b4907 o4908) ∧ h4886 = h4886) ∧ (loadT Tryd.prog h4886 3 (vP b4907 o4908) = some (vI v4744) ∧ h4886 = h4886) ∧ SoundCall Tryd.prog 23 #[(vP b4706 0), (vI v4744)] h4886 (vI 9) h4914 ∧ (indexAddrA Tryd.prog 27 (Value.slice w4717 ((openL (fillM xs)).length) (c4718)) (vI k) = some (vP b4936 o4937) ∧ h4914 = h4914) ∧ (loadT Tryd.prog h4914 3 (vP b4936 o4937) = some (vI v4744) ∧ h4914 = h4914) ∧ SoundCall Tryd.prog 22 #[(vP b4706 0), (vI v4744), (vS ⟨#[109, 111, 114, 101]⟩)] h4914 (vI 9) h4943 ∧ (binA Tryd.prog .add 3 (vI k) (vI 1) = some (vI ((k) + 1)) ∧ h4943 = h4943) ∧ q) (by intro K'; as_aux_lemma => kernel_rfl) (fun _ q => ⟨⟨cmp_lss (decide_eq_true c4742), rfl⟩, ⟨a4752 und27 size3 e4745, rfl⟩, ⟨k4750.cell (j := 0) agg3 rfl, rfl⟩, s4754, ⟨by rw [eb4768], e4766⟩, ⟨by rw [e4781]; exact store_cells size32 rfl f4769 (by decide) (by simp) rfl (by kernel_rfl), rfl⟩, ⟨load_cell agg3 f4782 rfl, rfl⟩, ⟨cmp_eql (decide_eq_true c4787), rfl⟩, ⟨a4797 und27 size3 e4745, rfl⟩, ⟨k4795.cell (j := 0) agg3 rfl, rfl⟩, s4801, ⟨a4826 und27 size3 e4745, rfl⟩, ⟨k4824.cell (j := 0) agg3 rfl, rfl⟩, s4830, ⟨a4854 und27 size3 e4745, rfl⟩, ⟨k4852.cell (j := 0) agg3 rfl, rfl⟩, s4858, ⟨a4883 und27 size3 e4745, rfl⟩, ⟨k4881.cell (j := 0) agg3 rfl, rfl⟩, s4887, ⟨a4911 und27 size3 e4745, rfl⟩, ⟨k4909.cell (j := 0) agg3 rfl, rfl⟩, s4915, ⟨a4940 und27 size3 e4745, rfl⟩, ⟨k4938.cell (j := 0) agg3 rfl, rfl⟩, s4944, ⟨add_i64 (by omega) (by omega), rfl⟩, q⟩) ?_
              have EE9 : Ends (fillM xs) l9 i4743 := by have q9 := EE; rw [show k.toNat = i4743 by omega] at q9; exact q9
              exact ⟨(openL (fillM xs)).length - (k + 1).toNat, by omega, ⟨k + 1, (takenL (givenL l9 (v4744) ⟨#[100, 97, 116, 97]⟩) (v4744)), O4946, (fun i => ([vU, vU, vU, vU, (g0 4), vU, vU, vU, (vP b4767 0), (vI 0), vU, vU, vU, vU, vU, vU, vU, vU, vU, vU, vU, vU, vU, vU, vU, vU, vU, vU, vU, vU, (vI k), (Value.slice w4717 ((openL (fillM xs)).length) (c4718)), (vI (((openL (fillM xs)).length : Nat))), (vB true), (vI k), (vI ((k) + 1)), (vT #[(vA #[(vS (getM l9 (v4744)).rf), (vS (getM l9 (v4744)).rt), (vI ((getM l9 (v4744)).f)), (vI ((getM l9 (v4744)).t)), (vI ((getM l9 (v4744)).st)), (vS (getM l9 (v4744)).d)]), (vI 0)]), (vP b4706 0), (Value.slice w4717 ((openL (fillM xs)).length) (c4718)), (vI k), (vP b4748 o4749), (vI v4744), (vT #[(vA #[(vS (getM l9 (v4744)).rf), (vS (getM l9 (v4744)).rt), (vI ((getM l9 (v4744)).f)), (vI ((getM l9 (v4744)).t)), (vI ((getM l9 (v4744)).st)), (vS (getM l9 (v4744)).d)]), (vI 0)]), (vA #[(vS (getM l9 (v4744)).rf), (vS (getM l9 (v4744)).rt), (vI ((getM l9 (v4744)).f)), (vI ((getM l9 (v4744)).t)), (vI ((getM l9 (v4744)).st)), (vS (getM l9 (v4744)).d)]), (vI 0), (vI 0), (vB false), (vP b4767 4), (vI ((getM l9 (v4744)).st)), (vB true), (vB true), (vP b4706 0), (Value.slice w4717 ((openL (fillM xs)).length) (c4718)), (vI k), (vP b4793 o4794), (vI v4744), (vI 9), (vB false), (vB false), (vP b4706 0), (Value.slice w4717 ((openL (fillM xs)).length) (c4718)), (vI k), (vP b4822 o4823), (vI v4744), (vI 0), (vB false), (vB false), (vB false), (vP b4706 0), (Value.slice w4717 ((openL (fillM xs)).length) (c4718)), (vI k), (vP b4850 o4851), (vI v4744), (vI 9), (vB false), (vB false), (vP b4706 0), (Value.slice w4717 ((openL (fillM xs)).length) (c4718)), (vI k), (vP b4879 o4880), (vI v4744), (vI 0), (vB false), (vB false), (vB false), (vP b4706 0), (Value.slice w4717 ((openL (fillM xs)).length) (c4718)), (vI k), (vP b4907 o4908), (vI v4744), (vI 9), (vB false), (vB false), (vB false), (vP b4706 0), (Value.slice w4717 ((openL (fillM xs)).length) (c4718)), (vI k), (vP b4936 o4937), (vI v4744), (vI 9), (vB false), (vB false)] : List Value).getD i undef), by as_aux_lemma => kernel_rfl, x4953, rfl, by omega, k4949, by rw [show (k + 1).toNat = i4743 + 1 by omega]; exact ends_both EE9 g4747 w4828 w4885, o4959, (fun zz w1 w2 => n4958 zz w2 w1), p4947, p4955⟩⟩
            · obtain ⟨b4965, o4966, q4968, a4969, k4967, u4970⟩ := p4785.store icell_size g4747
              obtain ⟨oag4747, obg4747, ocg4747, odg4747, oeg4747⟩ := open_get g4747
              obtain ⟨pag4747, pbg4747, pcg4747, pdg4747⟩ := II.ok _ odg4747
              have w4971 := g_asked (d := ⟨#[109, 111, 114, 101]⟩) e4757 (by decide) (by omega)
              obtain ⟨aw4971, bw4971, cw4971⟩ := g_next w4971
              obtain ⟨_, h4972, s4973, rfl, x4974, O4975, p4976, o4977⟩ := given_ok h4780 p4784 i4734 (v4744) (by omega) ⟨#[109, 111, 114, 101]⟩
              have k4978 := givenL_len i4734 (v4744) ⟨#[109, 111, 114, 101]⟩
              have e4979 : givenE l9 (v4744) ⟨#[109, 111, 114, 101]⟩ = 0 := w4971
              rw [e4979] at s4973
              have z4980 : h.size ≤ h4780.size := x4786.size
              have z4984 : h.size ≤ h4780.size := x4786.size
              have o4987 : ∀ zz, O4975 zz → h.size ≤ zz := fun zz hz => by rcases o4977 zz hz with g | g; (exact i4736 zz g); omega
              refine wc_upd (n := 200) (T := ⟨fun r i => match r, i with | 6, 3 => some ((vB true), h4732) | 8, 3 => some ((vP b4748 o4749), h4732) | 8, 4 => some ((vI v4744), h4732) | 8, 5 => some ((vT #[(vA #[(vS (getM l9 (v4744)).rf), (vS (getM l9 (v4744)).rt), (vI ((getM l9 (v4744)).f)), (vI ((getM l9 (v4744)).t)), (vI ((getM l9 (v4744)).st)), (vS (getM l9 (v4744)).d)]), (vI 0)]), h4756) | 8, 9 => some ((vP b4767 0), h4765) | 8, 10 => some (undef, h4780) | 11, 1 => some ((vI ((getM l9 (v4744)).st)), h4780) | 11, 2 => some ((vB false), h4780) | 13, 3 => some ((vP b4965 o4966), h4780) | 13, 4 => some ((vI v4744), h4780) | 13, 5 => some ((vI 0), h4972) | _, _ => none, fun _ => none, none⟩) (x := .ret) (h1 := h4972) [(30, (vI k)), (31, (Value.slice w4717 ((openL (fillM xs)).length) (c4718))), (32, (vI (((openL (fillM xs)).length : Nat)))), (33, (vB true)), (37, (vP b4706 0)), (38, (Value.slice w4717 ((openL (fillM xs)).length) (c4718))), (39, (vI k)), (40, (vP b4748 o4749)), (41, (vI v4744)), (42, (vT #[(vA #[(vS (getM l9 (v4744)).rf), (vS (getM l9 (v4744)).rt), (vI ((getM l9 (v4744)).f)), (vI ((getM l9 (v4744)).t)), (vI ((getM l9 (v4744)).st)), (vS (getM l9 (v4744)).d)]), (vI 0)])), (36, (vT #[(vA #[(vS (getM l9 (v4744)).rf), (vS (getM l9 (v4744)).rt), (vI ((getM l9 (v4744)).f)), (vI ((getM l9 (v4744)).t)), (vI ((getM l9 (v4744)).st)), (vS (getM l9 (v4744)).d)]), (vI 0)])), (43, (vA #[(vS (getM l9 (v4744)).rf), (vS (getM l9 (v4744)).rt), (vI ((getM l9 (v4744)).f)), (vI ((getM l9 (v4744)).t)), (vI ((getM l9 (v4744)).st)), (vS (getM l9 (v4744)).d)])), (44, (vI 0)), (8, (vP b4767 0)), (9, (vI 0)), (45, (vI 0)), (46, (vB false)), (47, (vP b4767 4)), (48, (vI ((getM l9 (v4744)).st))), (49, (vB false)), (50, (vB false)), (51, vZ), (52, vZ), (53, vZ), (54, vZ), (55, vZ), (56, vZ), (57, vZ), (58, vZ), (59, vZ), (60, vZ), (61, vZ), (62, vZ), (63, vZ), (64, vZ), (65, vZ), (66, vZ), (67, (vB false)), (68, (vP b4706 0)), (69, (Value.slice w4717 ((openL (fillM xs)).length) (c4718))), (70, (vI k)), (71, (vP b4965 o4966)), (72, (vI v4744)), (73, (vI 0)), (74, (vB true)), (75, (vB true)), (76, vZ), (77, vZ), (78, vZ), (79, vZ), (80, vZ), (81, vZ), (82, vZ), (83, (vB true)), (84, (vB true)), (85, vZ), (86, vZ), (87, vZ), (88, vZ), (89, vZ), (90, vZ), (91, vZ), (92, (vB true)), (93, (vB true)), (94, vZ), (95, vZ), (96, vZ), (97, vZ), (98, vZ), (99, vZ), (100, vZ), (101, (vB true)), (4, (vB false))]
                (fun q => (binA Tryd.prog .lss 3 (vI k) (vI (((openL (fillM xs)).length : Nat))) = some (vB true) ∧ h4732 = h4732) ∧ (indexAddrA Tryd.prog 27 (Value.slice w4717 ((openL (fillM xs)).length) (c4718)) (vI k) = some (vP b4748 o4749) ∧ h4732 = h4732) ∧ (loadT Tryd.prog h4732 3 (vP b4748 o4749) = some (vI v4744) ∧ h4732 = h4732) ∧ SoundCall Tryd.prog 15 #[(vP b4706 0), (vI v4744)] h4732 (vT #[(vA #[(vS (getM l9 (v4744)).rf), (vS (getM l9 (v4744)).rt), (vI ((getM l9 (v4744)).f)), (vI ((getM l9 (v4744)).t)), (vI ((getM l9 (v4744)).st)), (vS (getM l9 (v4744)).d)]), (vI 0)]) h4756 ∧ ((vP b4767 0) = (Value.pointer (some ⟨h4756.size, 0, none⟩)) ∧ h4765 = h4756.push (.cells #[(vS .empty), (vS .empty), (vI 0), (vI 0), (vI 0), (vS .empty)] 32 (0, 0))) ∧ (storeT Tryd.prog h4765 32 (vP b4767 0) (vA #[(vS (getM l9 (v4744)).rf), (vS (getM l9 (v4744)).rt), (vI ((getM l9 (v4744)).f)), (vI ((getM l9 (v4744)).t)), (vI ((getM l9 (v4744)).st)), (vS (getM l9 (v4744)).d)]) = some h4780 ∧ (undef : Value) = undef) ∧ (loadT Tryd.prog h4780 3 (vP b4767 4) = some (vI ((getM l9 (v4744)).st)) ∧ h4780 = h4780) ∧ (binA Tryd.prog .eql 3 (vI ((getM l9 (v4744)).st)) (vI 1) = some (vB false) ∧ h4780 = h4780) ∧ (indexAddrA Tryd.prog 27 (Value.slice w4717 ((openL (fillM xs)).length) (c4718)) (vI k) = some (vP b4965 o4966) ∧ h4780 = h4780) ∧ (loadT Tryd.prog h4780 3 (vP b4965 o4966) = some (vI v4744) ∧ h4780 = h4780) ∧ SoundCall Tryd.prog 22 #[(vP b4706 0), (vI v4744), (vS ⟨#[109, 111, 114, 101]⟩)] h4780 (vI 0) h4972 ∧ q) (by intro K'; as_aux_lemma => kernel_rfl) (fun _ q => ⟨⟨cmp_lss (decide_eq_true c4742), rfl⟩, ⟨a4752 und27 size3 e4745, rfl⟩, ⟨k4750.cell (j := 0) agg3 rfl, rfl⟩, s4754, ⟨by rw [eb4768], e4766⟩, ⟨by rw [e4781]; exact store_cells size32 rfl f4769 (by decide) (by simp) rfl (by kernel_rfl), rfl⟩, ⟨load_cell agg3 f4782 rfl, rfl⟩, ⟨cmp_eql (decide_eq_false c4787), rfl⟩, ⟨a4969 und27 size3 e4745, rfl⟩, ⟨k4967.cell (j := 0) agg3 rfl, rfl⟩, s4973, q⟩) ?_
              exfalso
              omega
          · have w4988 : (getM l9 (v4744)).st = 2 := by rw [w4758] at *; omega
            obtain ⟨b4991, eb4992⟩ : ∃ zq, zq = h4756.size := ⟨_, rfl⟩
            obtain ⟨h4989, e4990⟩ : ∃ zq, zq = h4756.push (.cells #[(vS .empty), (vS .empty), (vI 0), (vI 0), (vI 0), (vS .empty)] 32 (0, 0)) := ⟨_, rfl⟩
            have f4993 := push_new e4990
            rw [← eb4992] at f4993
            have n4995 : ∀ zz, O9 zz → ¬ zz = b4991 := fun zz hz ez => by have := p4759.blk_lt hz; omega
            have n4996 : ∀ zz, (blk (Value.slice w4717 ((openL (fillM xs)).length) (c4718))) zz → ¬ zz = b4991 := fun zz hz ez => by have := p4760.blk_lt hz; omega
            have x4998 : Ext h4756 h4989 := by rw [e4990]; exact Ext.push _ _
            have o4999 : h.size ≤ b4991 := by have := x4762.size; omega
            have p5000 := p4759.keep fun b r _ q => x4998 b r q
            have p5001 := p4760.keep fun b r _ q => x4998 b r q
            have x5003 := x4762.trans x4998
            obtain ⟨h5004, e5005⟩ : ∃ zq, zq = h4989.setIfInBounds b4991 (.cells #[(vS (getM l9 (v4744)).rf), (vS (getM l9 (v4744)).rt), (vI ((getM l9 (v4744)).f)), (vI ((getM l9 (v4744)).t)), (vI ((getM l9 (v4744)).st)), (vS (getM l9 (v4744)).d)] 32 (0, 0)) := ⟨_, rfl⟩
            have f5006 := set_same e5005 f4993
            have p5008 := p5000.keep fun b r hb q => (Chg.set e5005).same b r q (n4995 b hb)
            have p5009 := p5001.keep fun b r hb q => (Chg.set e5005).same b r q (n4996 b hb)
            have x5010 := Ext.setNew x5003 e5005 o4999
            by_cases c5011 : (((getM l9 (v4744)).st) : Int) = 1
            · obtain ⟨b5017, o5018, q5020, a5021, k5019, u5022⟩ := p5009.store icell_size g4747
              obtain ⟨oag4747, obg4747, ocg4747, odg4747, oeg4747⟩ := open_get g4747
              obtain ⟨pag4747, pbg4747, pcg4747, pdg4747⟩ := II.ok _ odg4747
              have w5023 := t_out e4757 (by omega)
              obtain ⟨aw5023, bw5023, cw5023⟩ := t_next w5023
              obtain ⟨_, h5024, s5025, rfl, x5026, O5027, p5028, o5029⟩ := taken_ok h5004 p5008 i4734 (v4744) (by omega)
              have k5030 := takenL_len i4734 (v4744)
              have e5031 : takenE l9 (v4744) = 0 := w5023
              rw [e5031] at s5025
              have z5032 : h.size ≤ h5004.size := x5010.size
              have z5036 : h.size ≤ h5004.size := x5010.size
              have o5039 : ∀ zz, O5027 zz → h.size ≤ zz := fun zz hz => by rcases o5029 zz hz with g | g; (exact i4736 zz g); omega
              refine wc_upd (n := 200) (T := ⟨fun r i => match r, i with | 6, 3 => some ((vB true), h4732) | 8, 3 => some ((vP b4748 o4749), h4732) | 8, 4 => some ((vI v4744), h4732) | 8, 5 => some ((vT #[(vA #[(vS (getM l9 (v4744)).rf), (vS (getM l9 (v4744)).rt), (vI ((getM l9 (v4744)).f)), (vI ((getM l9 (v4744)).t)), (vI ((getM l9 (v4744)).st)), (vS (getM l9 (v4744)).d)]), (vI 0)]), h4756) | 8, 9 => some ((vP b4991 0), h4989) | 8, 10 => some (undef, h5004) | 11, 1 => some ((vI ((getM l9 (v4744)).st)), h5004) | 11, 2 => some ((vB true), h5004) | 11, 7 => some ((vP b5017 o5018), h5004) | 11, 8 => some ((vI v4744), h5004) | 11, 9 => some ((vI 0), h5024) | _, _ => none, fun _ => none, none⟩) (x := .ret) (h1 := h5024) [(30, (vI k)), (31, (Value.slice w4717 ((openL (fillM xs)).length) (c4718))), (32, (vI (((openL (fillM xs)).length : Nat)))), (33, (vB true)), (37, (vP b4706 0)), (38, (Value.slice w4717 ((openL (fillM xs)).length) (c4718))), (39, (vI k)), (40, (vP b4748 o4749)), (41, (vI v4744)), (42, (vT #[(vA #[(vS (getM l9 (v4744)).rf), (vS (getM l9 (v4744)).rt), (vI ((getM l9 (v4744)).f)), (vI ((getM l9 (v4744)).t)), (vI ((getM l9 (v4744)).st)), (vS (getM l9 (v4744)).d)]), (vI 0)])), (36, (vT #[(vA #[(vS (getM l9 (v4744)).rf), (vS (getM l9 (v4744)).rt), (vI ((getM l9 (v4744)).f)), (vI ((getM l9 (v4744)).t)), (vI ((getM l9 (v4744)).st)), (vS (getM l9 (v4744)).d)]), (vI 0)])), (43, (vA #[(vS (getM l9 (v4744)).rf), (vS (getM l9 (v4744)).rt), (vI ((getM l9 (v4744)).f)), (vI ((getM l9 (v4744)).t)), (vI ((getM l9 (v4744)).st)), (vS (getM l9 (v4744)).d)])), (44, (vI 0)), (8, (vP b4991 0)), (9, (vI 0)), (45, (vI 0)), (46, (vB false)), (47, (vP b4991 4)), (48, (vI ((getM l9 (v4744)).st))), (49, (vB true)), (50, (vB true)), (51, (vP b4706 0)), (52, (Value.slice w4717 ((openL (fillM xs)).length) (c4718))), (53, (vI k)), (54, (vP b5017 o5018)), (55, (vI v4744)), (56, (vI 0)), (57, (vB true)), (58, (vB true)), (59, vZ), (60, vZ), (61, vZ), (62, vZ), (63, vZ), (64, vZ), (65, vZ), (66, (vB true)), (67, (vB true)), (4, (vB false))]
                (fun q => (binA Tryd.prog .lss 3 (vI k) (vI (((openL (fillM xs)).length : Nat))) = some (vB true) ∧ h4732 = h4732) ∧ (indexAddrA Tryd.prog 27 (Value.slice w4717 ((openL (fillM xs)).length) (c4718)) (vI k) = some (vP b4748 o4749) ∧ h4732 = h4732) ∧ (loadT Tryd.prog h4732 3 (vP b4748 o4749) = some (vI v4744) ∧ h4732 = h4732) ∧ SoundCall Tryd.prog 15 #[(vP b4706 0), (vI v4744)] h4732 (vT #[(vA #[(vS (getM l9 (v4744)).rf), (vS (getM l9 (v4744)).rt), (vI ((getM l9 (v4744)).f)), (vI ((getM l9 (v4744)).t)), (vI ((getM l9 (v4744)).st)), (vS (getM l9 (v4744)).d)]), (vI 0)]) h4756 ∧ ((vP b4991 0) = (Value.pointer (some ⟨h4756.size, 0, none⟩)) ∧ h4989 = h4756.push (.cells #[(vS .empty), (vS .empty), (vI 0), (vI 0), (vI 0), (vS .empty)] 32 (0, 0))) ∧ (storeT Tryd.prog h4989 32 (vP b4991 0) (vA #[(vS (getM l9 (v4744)).rf), (vS (getM l9 (v4744)).rt), (vI ((getM l9 (v4744)).f)), (vI ((getM l9 (v4744)).t)), (vI ((getM l9 (v4744)).st)), (vS (getM l9 (v4744)).d)]) = some h5004 ∧ (undef : Value) = undef) ∧ (loadT Tryd.prog h5004 3 (vP b4991 4) = some (vI ((getM l9 (v4744)).st)) ∧ h5004 = h5004) ∧ (binA Tryd.prog .eql 3 (vI ((getM l9 (v4744)).st)) (vI 1) = some (vB true) ∧ h5004 = h5004) ∧ (indexAddrA Tryd.prog 27 (Value.slice w4717 ((openL (fillM xs)).length) (c4718)) (vI k) = some (vP b5017 o5018) ∧ h5004 = h5004) ∧ (loadT Tryd.prog h5004 3 (vP b5017 o5018) = some (vI v4744) ∧ h5004 = h5004) ∧ SoundCall Tryd.prog 23 #[(vP b4706 0), (vI v4744)] h5004 (vI 0) h5024 ∧ q) (by intro K'; as_aux_lemma => kernel_rfl) (fun _ q => ⟨⟨cmp_lss (decide_eq_true c4742), rfl⟩, ⟨a4752 und27 size3 e4745, rfl⟩, ⟨k4750.cell (j := 0) agg3 rfl, rfl⟩, s4754, ⟨by rw [eb4992], e4990⟩, ⟨by rw [e5005]; exact store_cells size32 rfl f4993 (by decide) (by simp) rfl (by kernel_rfl), rfl⟩, ⟨load_cell agg3 f5006 rfl, rfl⟩, ⟨cmp_eql (decide_eq_true c5011), rfl⟩, ⟨a5021 und27 size3 e4745, rfl⟩, ⟨k5019.cell (j := 0) agg3 rfl, rfl⟩, s5025, q⟩) ?_
              exfalso
              omega
            · obtain ⟨b5045, o5046, q5048, a5049, k5047, u5050⟩ := p5009.store icell_size g4747
              obtain ⟨oag4747, obg4747, ocg4747, odg4747, oeg4747⟩ := open_get g4747
              obtain ⟨pag4747, pbg4747, pcg4747, pdg4747⟩ := II.ok _ odg4747
              have w5051 := g_not (d := ⟨#[109, 111, 114, 101]⟩) e4757 (by decide) (by omega)
              obtain ⟨_, h5052, s5053, rfl, x5054, O5055, p5056, o5057⟩ := given_ok h5004 p5008 i4734 (v4744) (by omega) ⟨#[109, 111, 114, 101]⟩
              have k5058 := givenL_len i4734 (v4744) ⟨#[109, 111, 114, 101]⟩
              have e5059 : givenE l9 (v4744) ⟨#[109, 111, 114, 101]⟩ = 9 := w5051.1
              rw [e5059] at s5053
              have e5060 : givenL l9 (v4744) ⟨#[109, 111, 114, 101]⟩ = l9 := w5051.2
              rw [e5060] at p5056 k5058
              have z5061 : h.size ≤ h5004.size := x5010.size
              have x5062 : Ext h _ := (Chg.then (O := fun _ => False) (Chg.ext x5010) x5054 (fun b hb => .inr (i4736 b hb))).toExt'
              have p5064 := p5009.keep fun b r hb q => x5054.same b r q (i4737 b hb)
              have z5065 : h.size ≤ h5004.size := x5010.size
              have n5067 : ∀ zz, O5055 zz → ¬ (blk (Value.slice w4717 ((openL (fillM xs)).length) (c4718))) zz := fun zz hz ez => by rcases o5057 zz hz with g | g; (exact i4737 _ ez g); have := p5009.blk_lt ez; omega
              have o5068 : ∀ zz, O5055 zz → h.size ≤ zz := fun zz hz => by rcases o5057 zz hz with g | g; (exact i4736 zz g); omega
              obtain ⟨b5074, o5075, q5077, a5078, k5076, u5079⟩ := p5064.store icell_size g4747
              obtain ⟨oag4747, obg4747, ocg4747, odg4747, oeg4747⟩ := open_get g4747
              obtain ⟨pag4747, pbg4747, pcg4747, pdg4747⟩ := II.ok _ odg4747
              have w5080 := t_out e4757 (by omega)
              obtain ⟨aw5080, bw5080, cw5080⟩ := t_next w5080
              obtain ⟨_, h5081, s5082, rfl, x5083, O5084, p5085, o5086⟩ := taken_ok h5052 p5056 k5058 (v4744) (by omega)
              have k5087 := takenL_len k5058 (v4744)
              have e5088 : takenE l9 (v4744) = 0 := w5080
              rw [e5088] at s5082
              have z5089 : h.size ≤ h5052.size := x5062.size
              have x5090 : Ext h _ := (Chg.then (O := fun _ => False) (Chg.ext x5062) x5083 (fun b hb => .inr (o5068 b hb))).toExt'
              have p5092 := p5064.keep fun b r hb q => x5083.same b r q ((fun b hb hb2 => n5067 b hb2 hb) b hb)
              have z5093 : h.size ≤ h5052.size := x5062.size
              have n5095 : ∀ zz, O5084 zz → ¬ (blk (Value.slice w4717 ((openL (fillM xs)).length) (c4718))) zz := fun zz hz ez => by rcases o5086 zz hz with g | g; (exact n5067 _ g ez); have := p5064.blk_lt ez; omega
              have o5096 : ∀ zz, O5084 zz → h.size ≤ zz := fun zz hz => by rcases o5086 zz hz with g | g; (exact o5068 zz g); omega
              obtain ⟨b5102, o5103, q5105, a5106, k5104, u5107⟩ := p5092.store icell_size g4747
              obtain ⟨oag4747, obg4747, ocg4747, odg4747, oeg4747⟩ := open_get g4747
              obtain ⟨pag4747, pbg4747, pcg4747, pdg4747⟩ := II.ok _ odg4747
              have w5108 := t_not bw5080 (by omega)
              obtain ⟨_, h5109, s5110, rfl, x5111, O5112, p5113, o5114⟩ := taken_ok h5081 p5085 k5087 (v4744) (by omega)
              have k5115 := takenL_len k5087 (v4744)
              have e5116 : takenE (takenL l9 (v4744)) (v4744) = 9 := w5108.1
              rw [e5116] at s5110
              have e5117 : takenL (takenL l9 (v4744)) (v4744) = (takenL l9 (v4744)) := w5108.2
              rw [e5117] at p5113 k5115
              have z5118 : h.size ≤ h5081.size := x5090.size
              have x5119 : Ext h _ := (Chg.then (O := fun _ => False) (Chg.ext x5090) x5111 (fun b hb => .inr (o5096 b hb))).toExt'
              have p5121 := p5092.keep fun b r hb q => x5111.same b r q ((fun b hb hb2 => n5095 b hb2 hb) b hb)
              have z5122 : h.size ≤ h5081.size := x5090.size
              have n5124 : ∀ zz, O5112 zz → ¬ (blk (Value.slice w4717 ((openL (fillM xs)).length) (c4718))) zz := fun zz hz ez => by rcases o5114 zz hz with g | g; (exact n5095 _ g ez); have := p5092.blk_lt ez; omega
              have o5125 : ∀ zz, O5112 zz → h.size ≤ zz := fun zz hz => by rcases o5114 zz hz with g | g; (exact o5096 zz g); omega
              obtain ⟨b5131, o5132, q5134, a5135, k5133, u5136⟩ := p5121.store icell_size g4747
              obtain ⟨oag4747, obg4747, ocg4747, odg4747, oeg4747⟩ := open_get g4747
              obtain ⟨pag4747, pbg4747, pcg4747, pdg4747⟩ := II.ok _ odg4747
              have w5137 := g_not (d := ⟨#[109, 111, 114, 101]⟩) bw5080 (by decide) (by omega)
              obtain ⟨_, h5138, s5139, rfl, x5140, O5141, p5142, o5143⟩ := given_ok h5109 p5113 k5115 (v4744) (by omega) ⟨#[109, 111, 114, 101]⟩
              have k5144 := givenL_len k5115 (v4744) ⟨#[109, 111, 114, 101]⟩
              have e5145 : givenE (takenL l9 (v4744)) (v4744) ⟨#[109, 111, 114, 101]⟩ = 9 := w5137.1
              rw [e5145] at s5139
              have e5146 : givenL (takenL l9 (v4744)) (v4744) ⟨#[109, 111, 114, 101]⟩ = (takenL l9 (v4744)) := w5137.2
              rw [e5146] at p5142 k5144
              have z5147 : h.size ≤ h5109.size := x5119.size
              have x5148 : Ext h _ := (Chg.then (O := fun _ => False) (Chg.ext x5119) x5140 (fun b hb => .inr (o5125 b hb))).toExt'
              have p5150 := p5121.keep fun b r hb q => x5140.same b r q ((fun b hb hb2 => n5124 b hb2 hb) b hb)
              have z5151 : h.size ≤ h5109.size := x5119.size
              have n5153 : ∀ zz, O5141 zz → ¬ (blk (Value.slice w4717 ((openL (fillM xs)).length) (c4718))) zz := fun zz hz ez => by rcases o5143 zz hz with g | g; (exact n5124 _ g ez); have := p5121.blk_lt ez; omega
              have o5154 : ∀ zz, O5141 zz → h.size ≤ zz := fun zz hz => by rcases o5143 zz hz with g | g; (exact o5125 zz g); omega
              refine wc_upd (n := 200) (T := ⟨fun r i => match r, i with | 6, 3 => some ((vB true), h4732) | 8, 3 => some ((vP b4748 o4749), h4732) | 8, 4 => some ((vI v4744), h4732) | 8, 5 => some ((vT #[(vA #[(vS (getM l9 (v4744)).rf), (vS (getM l9 (v4744)).rt), (vI ((getM l9 (v4744)).f)), (vI ((getM l9 (v4744)).t)), (vI ((getM l9 (v4744)).st)), (vS (getM l9 (v4744)).d)]), (vI 0)]), h4756) | 8, 9 => some ((vP b4991 0), h4989) | 8, 10 => some (undef, h5004) | 11, 1 => some ((vI ((getM l9 (v4744)).st)), h5004) | 11, 2 => some ((vB false), h5004) | 13, 3 => some ((vP b5045 o5046), h5004) | 13, 4 => some ((vI v4744), h5004) | 13, 5 => some ((vI 9), h5052) | 13, 11 => some ((vP b5074 o5075), h5052) | 13, 12 => some ((vI v4744), h5052) | 13, 13 => some ((vI 0), h5081) | 13, 20 => some ((vP b5102 o5103), h5081) | 13, 21 => some ((vI v4744), h5081) | 13, 22 => some ((vI 9), h5109) | 13, 29 => some ((vP b5131 o5132), h5109) | 13, 30 => some ((vI v4744), h5109) | 13, 31 => some ((vI 9), h5138) | 7, 1 => some ((vI ((k) + 1)), h5138) | _, _ => none, fun _ => none, none⟩) (x := .normal) (h1 := h5138) [(30, (vI k)), (31, (Value.slice w4717 ((openL (fillM xs)).length) (c4718))), (32, (vI (((openL (fillM xs)).length : Nat)))), (33, (vB true)), (37, (vP b4706 0)), (38, (Value.slice w4717 ((openL (fillM xs)).length) (c4718))), (39, (vI k)), (40, (vP b4748 o4749)), (41, (vI v4744)), (42, (vT #[(vA #[(vS (getM l9 (v4744)).rf), (vS (getM l9 (v4744)).rt), (vI ((getM l9 (v4744)).f)), (vI ((getM l9 (v4744)).t)), (vI ((getM l9 (v4744)).st)), (vS (getM l9 (v4744)).d)]), (vI 0)])), (36, (vT #[(vA #[(vS (getM l9 (v4744)).rf), (vS (getM l9 (v4744)).rt), (vI ((getM l9 (v4744)).f)), (vI ((getM l9 (v4744)).t)), (vI ((getM l9 (v4744)).st)), (vS (getM l9 (v4744)).d)]), (vI 0)])), (43, (vA #[(vS (getM l9 (v4744)).rf), (vS (getM l9 (v4744)).rt), (vI ((getM l9 (v4744)).f)), (vI ((getM l9 (v4744)).t)), (vI ((getM l9 (v4744)).st)), (vS (getM l9 (v4744)).d)])), (44, (vI 0)), (8, (vP b4991 0)), (9, (vI 0)), (45, (vI 0)), (46, (vB false)), (47, (vP b4991 4)), (48, (vI ((getM l9 (v4744)).st))), (49, (vB false)), (50, (vB false)), (51, vZ), (52, vZ), (53, vZ), (54, vZ), (55, vZ), (56, vZ), (57, vZ), (58, vZ), (59, vZ), (60, vZ), (61, vZ), (62, vZ), (63, vZ), (64, vZ), (65, vZ), (66, vZ), (67, (vB false)), (68, (vP b4706 0)), (69, (Value.slice w4717 ((openL (fillM xs)).length) (c4718))), (70, (vI k)), (71, (vP b5045 o5046)), (72, (vI v4744)), (73, (vI 9)), (74, (vB false)), (75, (vB false)), (76, (vP b4706 0)), (77, (Value.slice w4717 ((openL (fillM xs)).length) (c4718))), (78, (vI k)), (79, (vP b5074 o5075)), (80, (vI v4744)), (81, (vI 0)), (82, (vB false)), (83, (vB false)), (84, (vB false)), (85, (vP b4706 0)), (86, (Value.slice w4717 ((openL (fillM xs)).length) (c4718))), (87, (vI k)), (88, (vP b5102 o5103)), (89, (vI v4744)), (90, (vI 9)), (91, (vB false)), (92, (vB false)), (93, (vB false)), (94, (vP b4706 0)), (95, (Value.slice w4717 ((openL (fillM xs)).length) (c4718))), (96, (vI k)), (97, (vP b5131 o5132)), (98, (vI v4744)), (99, (vI 9)), (100, (vB false)), (101, (vB false)), (34, (vI k)), (35, (vI ((k) + 1))), (7, (vI ((k) + 1)))]
                (fun q => (binA Tryd.prog .lss 3 (vI k) (vI (((openL (fillM xs)).length : Nat))) = some (vB true) ∧ h4732 = h4732) ∧ (indexAddrA Tryd.prog 27 (Value.slice w4717 ((openL (fillM xs)).length) (c4718)) (vI k) = some (vP b4748 o4749) ∧ h4732 = h4732) ∧ (loadT Tryd.prog h4732 3 (vP b4748 o4749) = some (vI v4744) ∧ h4732 = h4732) ∧ SoundCall Tryd.prog 15 #[(vP b4706 0), (vI v4744)] h4732 (vT #[(vA #[(vS (getM l9 (v4744)).rf), (vS (getM l9 (v4744)).rt), (vI ((getM l9 (v4744)).f)), (vI ((getM l9 (v4744)).t)), (vI ((getM l9 (v4744)).st)), (vS (getM l9 (v4744)).d)]), (vI 0)]) h4756 ∧ ((vP b4991 0) = (Value.pointer (some ⟨h4756.size, 0, none⟩)) ∧ h4989 = h4756.push (.cells #[(vS .empty), (vS .empty), (vI 0), (vI 0), (vI 0), (vS .empty)] 32 (0, 0))) ∧ (storeT Tryd.prog h4989 32 (vP b4991 0) (vA #[(vS (getM l9 (v4744)).rf), (vS (getM l9 (v4744)).rt), (vI ((getM l9 (v4744)).f)), (vI ((getM l9 (v4744)).t)), (vI ((getM l9 (v4744)).st)), (vS (getM l9 (v4744)).d)]) = some h5004 ∧ (undef : Value) = undef) ∧ (loadT Tryd.prog h5004 3 (vP b4991 4) = some (vI ((getM l9 (v4744)).st)) ∧ h5004 = h5004) ∧ (binA Tryd.prog .eql 3 (vI ((getM l9 (v4744)).st)) (vI 1) = some (vB false) ∧ h5004 = h5004) ∧ (indexAddrA Tryd.prog 27 (Value.slice w4717 ((openL (fillM xs)).length) (c4718)) (vI k) = some (vP b5045 o5046) ∧ h5004 = h5004) ∧ (loadT Tryd.prog h5004 3 (vP b5045 o5046) = some (vI v4744) ∧ h5004 = h5004) ∧ SoundCall Tryd.prog 22 #[(vP b4706 0), (vI v4744), (vS ⟨#[109, 111, 114, 101]⟩)] h5004 (vI 9) h5052 ∧ (indexAddrA Tryd.prog 27 (Value.slice w4717 ((openL (fillM xs)).length) (c4718)) (vI k) = some (vP b5074 o5075) ∧ h5052 = h5052) ∧ (loadT Tryd.prog h5052 3 (vP b5074 o5075) = some (vI v4744) ∧ h5052 = h5052) ∧ SoundCall Tryd.prog 23 #[(vP b4706 0), (vI v4744)] h5052 (vI 0) h5081 ∧ (indexAddrA Tryd.prog 27 (Value.slice w4717 ((openL (fillM xs)).length) (c4718)) (vI k) = some (vP b5102 o5103) ∧ h5081 = h5081) ∧ (loadT Tryd.prog h5081 3 (vP b5102 o5103) = some (vI v4744) ∧ h5081 = h5081) ∧ SoundCall Tryd.prog 23 #[(vP b4706 0), (vI v4744)] h5081 (vI 9) h5109 ∧ (indexAddrA Tryd.prog 27 (Value.slice w4717 ((openL (fillM xs)).length) (c4718)) (vI k) = some (vP b5131 o5132) ∧ h5109 = h5109) ∧ (loadT Tryd.prog h5109 3 (vP b5131 o5132) = some (vI v4744) ∧ h5109 = h5109) ∧ SoundCall Tryd.prog 22 #[(vP b4706 0), (vI v4744), (vS ⟨#[109, 111, 114, 101]⟩)] h5109 (vI 9) h5138 ∧ (binA Tryd.prog .add 3 (vI k) (vI 1) = some (vI ((k) + 1)) ∧ h5138 = h5138) ∧ q) (by intro K'; as_aux_lemma => kernel_rfl) (fun _ q => ⟨⟨cmp_lss (decide_eq_true c4742), rfl⟩, ⟨a4752 und27 size3 e4745, rfl⟩, ⟨k4750.cell (j := 0) agg3 rfl, rfl⟩, s4754, ⟨by rw [eb4992], e4990⟩, ⟨by rw [e5005]; exact store_cells size32 rfl f4993 (by decide) (by simp) rfl (by kernel_rfl), rfl⟩, ⟨load_cell agg3 f5006 rfl, rfl⟩, ⟨cmp_eql (decide_eq_false c5011), rfl⟩, ⟨a5049 und27 size3 e4745, rfl⟩, ⟨k5047.cell (j := 0) agg3 rfl, rfl⟩, s5053, ⟨a5078 und27 size3 e4745, rfl⟩, ⟨k5076.cell (j := 0) agg3 rfl, rfl⟩, s5082, ⟨a5106 und27 size3 e4745, rfl⟩, ⟨k5104.cell (j := 0) agg3 rfl, rfl⟩, s5110, ⟨a5135 und27 size3 e4745, rfl⟩, ⟨k5133.cell (j := 0) agg3 rfl, rfl⟩, s5139, ⟨add_i64 (by omega) (by omega), rfl⟩, q⟩) ?_
              have EE9 : Ends (fillM xs) l9 i4743 := by have q9 := EE; rw [show k.toNat = i4743 by omega] at q9; exact q9
              exact ⟨(openL (fillM xs)).length - (k + 1).toNat, by omega, ⟨k + 1, (takenL l9 (v4744)), O5141, (fun i => ([vU, vU, vU, vU, (g0 4), vU, vU, vU, (vP b4991 0), (vI 0), vU, vU, vU, vU, vU, vU, vU, vU, vU, vU, vU, vU, vU, vU, vU, vU, vU, vU, vU, vU, (vI k), (Value.slice w4717 ((openL (fillM xs)).length) (c4718)), (vI (((openL (fillM xs)).length : Nat))), (vB true), (vI k), (vI ((k) + 1)), (vT #[(vA #[(vS (getM l9 (v4744)).rf), (vS (getM l9 (v4744)).rt), (vI ((getM l9 (v4744)).f)), (vI ((getM l9 (v4744)).t)), (vI ((getM l9 (v4744)).st)), (vS (getM l9 (v4744)).d)]), (vI 0)]), (vP b4706 0), (Value.slice w4717 ((openL (fillM xs)).length) (c4718)), (vI k), (vP b4748 o4749), (vI v4744), (vT #[(vA #[(vS (getM l9 (v4744)).rf), (vS (getM l9 (v4744)).rt), (vI ((getM l9 (v4744)).f)), (vI ((getM l9 (v4744)).t)), (vI ((getM l9 (v4744)).st)), (vS (getM l9 (v4744)).d)]), (vI 0)]), (vA #[(vS (getM l9 (v4744)).rf), (vS (getM l9 (v4744)).rt), (vI ((getM l9 (v4744)).f)), (vI ((getM l9 (v4744)).t)), (vI ((getM l9 (v4744)).st)), (vS (getM l9 (v4744)).d)]), (vI 0), (vI 0), (vB false), (vP b4991 4), (vI ((getM l9 (v4744)).st)), (vB false), (vB false), vZ, vZ, vZ, vZ, vZ, vZ, vZ, vZ, vZ, vZ, vZ, vZ, vZ, vZ, vZ, vZ, (vB false), (vP b4706 0), (Value.slice w4717 ((openL (fillM xs)).length) (c4718)), (vI k), (vP b5045 o5046), (vI v4744), (vI 9), (vB false), (vB false), (vP b4706 0), (Value.slice w4717 ((openL (fillM xs)).length) (c4718)), (vI k), (vP b5074 o5075), (vI v4744), (vI 0), (vB false), (vB false), (vB false), (vP b4706 0), (Value.slice w4717 ((openL (fillM xs)).length) (c4718)), (vI k), (vP b5102 o5103), (vI v4744), (vI 9), (vB false), (vB false), (vB false), (vP b4706 0), (Value.slice w4717 ((openL (fillM xs)).length) (c4718)), (vI k), (vP b5131 o5132), (vI v4744), (vI 9), (vB false), (vB false)] : List Value).getD i undef), by as_aux_lemma => kernel_rfl, x5148, rfl, by omega, k5144, by rw [show (k + 1).toNat = i4743 + 1 by omega]; exact ends_taken EE9 g4747 w5080, o5154, (fun zz w1 w2 => n5153 zz w2 w1), p5142, p5150⟩⟩
        · refine wc_upd (n := 200) (T := ⟨fun r i => match r, i with | 6, 3 => some ((vB false), h4732) | _, _ => none, fun _ => none, none⟩) (x := (.exit 0)) (h1 := h4732) [(30, (vI k)), (31, (Value.slice w4717 ((openL (fillM xs)).length) (c4718))), (32, (vI (((openL (fillM xs)).length : Nat)))), (33, (vB false))]
            (fun q => (binA Tryd.prog .lss 3 (vI k) (vI (((openL (fillM xs)).length : Nat))) = some (vB false) ∧ h4732 = h4732) ∧ q) (by intro K'; as_aux_lemma => kernel_rfl) (fun _ q => ⟨⟨cmp_lss (decide_eq_false c4742), rfl⟩, q⟩) ?_
          have EA := i4735
          rw [show k.toNat = (openL (fillM xs)).length by omega] at EA
          have no9 := ends_all EA
          obtain ⟨on9, _⟩ := none_open no9 key
          have ol9 : (openL l9).length = 0 := by rw [on9]; rfl
          have le9 := EA.len
          have fl9 := fillM_le xs
          obtain ⟨_, hh5159, sn5160, w5155, c5156, rfl, o5157, x5161, b5158⟩ := open_ok h4732 p4738 i4734
          have p5162 := p4738.keep fun b r _ q => x5161 b r q
          have x5164 := x4741.trans x5161
          have z5166 : h.size ≤ h4732.size := x4741.size
          have o5170 : ∀ zz, blk (Value.slice w5155 ((openL l9).length) (c5156)) zz → h.size ≤ zz := fun zz hz => by have := b5158 zz hz; omega
          by_cases c5171 : ((((openL l9).length : Nat)) : Int) = 0
          · obtain ⟨_, h5174, s5172, rfl, x5173⟩ := busy_ok hh5159 p5162 i4734 key
            rw [show busyB l9 key = false from (none_open no9 key).2] at s5172
            have p5175 := p5162.keep fun b r _ q => x5173 b r q
            have x5178 := x5164.trans x5173
            obtain ⟨aw5179, bw5179, cw5179⟩ := start_empty (l := l9) no9 (by omega)
            obtain ⟨_, h5180, s5181, rfl, x5182, O5183, p5184, o5185⟩ := start_ok h5174 p5175 i4734 .empty .empty 1 2
            have k5186 := startL_len i4734 .empty .empty 1 2
            have e5187 : startN l9 .empty .empty 1 2 = (l9.length : Int) + 1 := bw5179
            rw [e5187] at s5181
            have e5188 : startE l9 .empty .empty 1 2 = 0 := aw5179
            rw [e5188] at s5181
            have e5189 : startL l9 .empty .empty 1 2 = (l9 ++ [MoveM.mk .empty .empty 1 2 1 .empty]) := cw5179
            rw [e5189] at p5184 k5186
            have z5190 : h.size ≤ h5174.size := x5178.size
            have x5191 : Ext h _ := (Chg.then (O := fun _ => False) (Chg.ext x5178) x5182 (fun b hb => .inr (i4736 b hb))).toExt'
            have z5194 : h.size ≤ h5174.size := x5178.size
            have o5197 : ∀ zz, O5183 zz → h.size ≤ zz := fun zz hz => by rcases o5185 zz hz with g | g; (exact i4736 zz g); omega
            have q5198 : (((l9 ++ [MoveM.mk .empty .empty 1 2 1 .empty])).length : Int) = (l9.length : Nat) + 1 := by simp
            have q5199 := k5186
            obtain ⟨_, _, sn5201, rfl, rfl⟩ := len_ok h5180 p5184
            by_cases c5203 : (((l9.length : Int) + 1) : Int) = (((l9 ++ [MoveM.mk .empty .empty 1 2 1 .empty]).length : Nat))
            · obtain ⟨_, h5206, s5204, rfl, x5205⟩ := busy_ok h5180 p5184 k5186 key
              rw [show busyB (l9 ++ [MoveM.mk .empty .empty 1 2 1 .empty]) key = (rhas .empty .empty key) from busy_app no9 (MoveM.mk .empty .empty 1 2 1 .empty) (by decide) key] at s5204
              have x5210 := x5191.trans x5205
              rcases Bool.eq_false_or_eq_true ((rhas .empty .empty key)) with c5211 | c5211
              · obtain ⟨_, hh5212, sn5213, rfl, x5214⟩ := rhas_ok h5206 .empty .empty key 
                have x5218 := x5210.trans x5214
                obtain ⟨_, hh5219, sn5220, rfl, x5221⟩ := works_ok hh5212
                have x5225 := x5218.trans x5221
                refine wc_upd (n := 200) (T := ⟨fun r i => match r, i with | 15, 1 => some ((vL w5155 ((openL l9).length) c5156), hh5159) | 15, 3 => some ((vB false), hh5159) | 15, 7 => some ((vB false), h5174) | 17, 2 => some ((vT #[(vI ((l9.length : Int) + 1)), (vI 0)]), h5180) | 18, 5 => some ((vI (((l9 ++ [MoveM.mk .empty .empty 1 2 1 .empty]).length : Nat))), h5180) | 18, 6 => some ((vB true), h5180) | 18, 11 => some ((vB true), h5206) | 18, 14 => some ((vB true), hh5212) | 18, 18 => some ((vB true), hh5219) | _, _ => none, fun _ => none, none⟩) (x := .ret) (h1 := hh5219) [(102, (vP b4706 0)), (103, (vL w5155 ((openL l9).length) c5156)), (104, (vI (((openL l9).length : Nat)))), (105, (vB false)), (106, (vB false)), (107, (vP b4706 0)), (108, (vS key)), (109, (vB false)), (110, (vB false)), (112, (vP b4706 0)), (113, (vA #[(vS .empty), (vS .empty)])), (114, (vT #[(vI ((l9.length : Int) + 1)), (vI 0)])), (111, (vT #[(vI ((l9.length : Int) + 1)), (vI 0)])), (115, (vI ((l9.length : Int) + 1))), (116, (vI 0)), (10, (vI ((l9.length : Int) + 1))), (11, (vI 0)), (117, (vI 0)), (118, (vB true)), (119, (vB true)), (120, (vI ((l9.length : Int) + 1))), (121, (vP b4706 0)), (122, (vI (((l9 ++ [MoveM.mk .empty .empty 1 2 1 .empty]).length : Nat)))), (123, (vB true)), (124, (vB true)), (125, (vB true)), (126, (vP b4706 0)), (127, (vS key)), (128, (vB true)), (129, (vA #[(vS .empty), (vS .empty)])), (130, (vS key)), (131, (vB true)), (132, (vB true)), (133, (vB true)), (134, (vB true)), (135, (vB true)), (136, (vB true)), (4, (vB true))]
                  (fun q => SoundCall Tryd.prog 14 #[(vP b4706 0)] h4732 (vL w5155 ((openL l9).length) c5156) hh5159 ∧ (binA Tryd.prog .neq 3 (vI (((openL l9).length : Nat))) (vI 0) = some (vB false) ∧ hh5159 = hh5159) ∧ SoundCall Tryd.prog 19 #[(vP b4706 0), (vS key)] hh5159 (vB false) h5174 ∧ SoundCall Tryd.prog 21 #[(vP b4706 0), (vA #[(vS .empty), (vS .empty)]), (vI 1), (vI 2)] h5174 (vT #[(vI ((l9.length : Int) + 1)), (vI 0)]) h5180 ∧ SoundCall Tryd.prog 24 #[(vP b4706 0)] h5180 (vI (((l9 ++ [MoveM.mk .empty .empty 1 2 1 .empty]).length : Nat))) h5180 ∧ (binA Tryd.prog .eql 3 (vI ((l9.length : Int) + 1)) (vI (((l9 ++ [MoveM.mk .empty .empty 1 2 1 .empty]).length : Nat))) = some (vB true) ∧ h5180 = h5180) ∧ SoundCall Tryd.prog 19 #[(vP b4706 0), (vS key)] h5180 (vB true) h5206 ∧ SoundCall Tryd.prog 17 #[(vA #[(vS .empty), (vS .empty)]), (vS key)] h5206 (vB true) hh5212 ∧ SoundCall Tryd.prog 12 #[] hh5212 (vB true) hh5219 ∧ q) (by intro K'; as_aux_lemma => kernel_rfl) (fun _ q => ⟨sn5160, ⟨cmp_neq (decide_eq_false (not_not_intro c5171)), rfl⟩, s5172, s5181, sn5201, ⟨cmp_eql (decide_eq_true c5203), rfl⟩, (by rw [← c5211]; exact s5204), (by rw [← c5211]; exact sn5213), sn5220, q⟩) ?_
                refine end_at (T := ⟨fun _ _ => none, fun _ => none, none⟩) (A := K (vB true) hh5219) (by kernel_rfl) ?_
                exact hK _ _ (⟨rfl, x5225⟩)
              · obtain ⟨_, hh5226, sn5227, rfl, x5228⟩ := rhas_ok h5206 .empty .empty key 
                have x5232 := x5210.trans x5228
                obtain ⟨_, hh5233, sn5234, rfl, x5235⟩ := works_ok hh5226
                have x5239 := x5232.trans x5235
                refine wc_upd (n := 200) (T := ⟨fun r i => match r, i with | 15, 1 => some ((vL w5155 ((openL l9).length) c5156), hh5159) | 15, 3 => some ((vB false), hh5159) | 15, 7 => some ((vB false), h5174) | 17, 2 => some ((vT #[(vI ((l9.length : Int) + 1)), (vI 0)]), h5180) | 18, 5 => some ((vI (((l9 ++ [MoveM.mk .empty .empty 1 2 1 .empty]).length : Nat))), h5180) | 18, 6 => some ((vB true), h5180) | 18, 11 => some ((vB false), h5206) | 18, 14 => some ((vB false), hh5226) | 18, 18 => some ((vB true), hh5233) | _, _ => none, fun _ => none, none⟩) (x := .ret) (h1 := hh5233) [(102, (vP b4706 0)), (103, (vL w5155 ((openL l9).length) c5156)), (104, (vI (((openL l9).length : Nat)))), (105, (vB false)), (106, (vB false)), (107, (vP b4706 0)), (108, (vS key)), (109, (vB false)), (110, (vB false)), (112, (vP b4706 0)), (113, (vA #[(vS .empty), (vS .empty)])), (114, (vT #[(vI ((l9.length : Int) + 1)), (vI 0)])), (111, (vT #[(vI ((l9.length : Int) + 1)), (vI 0)])), (115, (vI ((l9.length : Int) + 1))), (116, (vI 0)), (10, (vI ((l9.length : Int) + 1))), (11, (vI 0)), (117, (vI 0)), (118, (vB true)), (119, (vB true)), (120, (vI ((l9.length : Int) + 1))), (121, (vP b4706 0)), (122, (vI (((l9 ++ [MoveM.mk .empty .empty 1 2 1 .empty]).length : Nat)))), (123, (vB true)), (124, (vB true)), (125, (vB true)), (126, (vP b4706 0)), (127, (vS key)), (128, (vB false)), (129, (vA #[(vS .empty), (vS .empty)])), (130, (vS key)), (131, (vB false)), (132, (vB true)), (133, (vB true)), (134, (vB true)), (135, (vB true)), (136, (vB true)), (4, (vB true))]
                  (fun q => SoundCall Tryd.prog 14 #[(vP b4706 0)] h4732 (vL w5155 ((openL l9).length) c5156) hh5159 ∧ (binA Tryd.prog .neq 3 (vI (((openL l9).length : Nat))) (vI 0) = some (vB false) ∧ hh5159 = hh5159) ∧ SoundCall Tryd.prog 19 #[(vP b4706 0), (vS key)] hh5159 (vB false) h5174 ∧ SoundCall Tryd.prog 21 #[(vP b4706 0), (vA #[(vS .empty), (vS .empty)]), (vI 1), (vI 2)] h5174 (vT #[(vI ((l9.length : Int) + 1)), (vI 0)]) h5180 ∧ SoundCall Tryd.prog 24 #[(vP b4706 0)] h5180 (vI (((l9 ++ [MoveM.mk .empty .empty 1 2 1 .empty]).length : Nat))) h5180 ∧ (binA Tryd.prog .eql 3 (vI ((l9.length : Int) + 1)) (vI (((l9 ++ [MoveM.mk .empty .empty 1 2 1 .empty]).length : Nat))) = some (vB true) ∧ h5180 = h5180) ∧ SoundCall Tryd.prog 19 #[(vP b4706 0), (vS key)] h5180 (vB false) h5206 ∧ SoundCall Tryd.prog 17 #[(vA #[(vS .empty), (vS .empty)]), (vS key)] h5206 (vB false) hh5226 ∧ SoundCall Tryd.prog 12 #[] hh5226 (vB true) hh5233 ∧ q) (by intro K'; as_aux_lemma => kernel_rfl) (fun _ q => ⟨sn5160, ⟨cmp_neq (decide_eq_false (not_not_intro c5171)), rfl⟩, s5172, s5181, sn5201, ⟨cmp_eql (decide_eq_true c5203), rfl⟩, (by rw [← c5211]; exact s5204), (by rw [← c5211]; exact sn5227), sn5234, q⟩) ?_
                refine end_at (T := ⟨fun _ _ => none, fun _ => none, none⟩) (A := K (vB true) hh5233) (by kernel_rfl) ?_
                exact hK _ _ (⟨rfl, x5239⟩)
            · refine wc_upd (n := 200) (T := ⟨fun r i => match r, i with | 15, 1 => some ((vL w5155 ((openL l9).length) c5156), hh5159) | 15, 3 => some ((vB false), hh5159) | 15, 7 => some ((vB false), h5174) | 17, 2 => some ((vT #[(vI ((l9.length : Int) + 1)), (vI 0)]), h5180) | 18, 5 => some ((vI (((l9 ++ [MoveM.mk .empty .empty 1 2 1 .empty]).length : Nat))), h5180) | 18, 6 => some ((vB false), h5180) | _, _ => none, fun _ => none, none⟩) (x := .ret) (h1 := h5180) [(102, (vP b4706 0)), (103, (vL w5155 ((openL l9).length) c5156)), (104, (vI (((openL l9).length : Nat)))), (105, (vB false)), (106, (vB false)), (107, (vP b4706 0)), (108, (vS key)), (109, (vB false)), (110, (vB false)), (112, (vP b4706 0)), (113, (vA #[(vS .empty), (vS .empty)])), (114, (vT #[(vI ((l9.length : Int) + 1)), (vI 0)])), (111, (vT #[(vI ((l9.length : Int) + 1)), (vI 0)])), (115, (vI ((l9.length : Int) + 1))), (116, (vI 0)), (10, (vI ((l9.length : Int) + 1))), (11, (vI 0)), (117, (vI 0)), (118, (vB true)), (119, (vB true)), (120, (vI ((l9.length : Int) + 1))), (121, (vP b4706 0)), (122, (vI (((l9 ++ [MoveM.mk .empty .empty 1 2 1 .empty]).length : Nat)))), (123, (vB false)), (124, (vB false)), (125, (vB false)), (126, vZ), (127, vZ), (128, vZ), (129, vZ), (130, vZ), (131, vZ), (132, vZ), (133, (vB false)), (134, (vB false)), (135, vZ), (136, (vB false)), (4, (vB false))]
                (fun q => SoundCall Tryd.prog 14 #[(vP b4706 0)] h4732 (vL w5155 ((openL l9).length) c5156) hh5159 ∧ (binA Tryd.prog .neq 3 (vI (((openL l9).length : Nat))) (vI 0) = some (vB false) ∧ hh5159 = hh5159) ∧ SoundCall Tryd.prog 19 #[(vP b4706 0), (vS key)] hh5159 (vB false) h5174 ∧ SoundCall Tryd.prog 21 #[(vP b4706 0), (vA #[(vS .empty), (vS .empty)]), (vI 1), (vI 2)] h5174 (vT #[(vI ((l9.length : Int) + 1)), (vI 0)]) h5180 ∧ SoundCall Tryd.prog 24 #[(vP b4706 0)] h5180 (vI (((l9 ++ [MoveM.mk .empty .empty 1 2 1 .empty]).length : Nat))) h5180 ∧ (binA Tryd.prog .eql 3 (vI ((l9.length : Int) + 1)) (vI (((l9 ++ [MoveM.mk .empty .empty 1 2 1 .empty]).length : Nat))) = some (vB false) ∧ h5180 = h5180) ∧ q) (by intro K'; as_aux_lemma => kernel_rfl) (fun _ q => ⟨sn5160, ⟨cmp_neq (decide_eq_false (not_not_intro c5171)), rfl⟩, s5172, s5181, sn5201, ⟨cmp_eql (decide_eq_false c5203), rfl⟩, q⟩) ?_
              exfalso
              omega
          · refine wc_upd (n := 200) (T := ⟨fun r i => match r, i with | 15, 1 => some ((vL w5155 ((openL l9).length) c5156), hh5159) | 15, 3 => some ((vB true), hh5159) | _, _ => none, fun _ => none, none⟩) (x := .ret) (h1 := hh5159) [(102, (vP b4706 0)), (103, (vL w5155 ((openL l9).length) c5156)), (104, (vI (((openL l9).length : Nat)))), (105, (vB true)), (106, (vB true)), (107, vZ), (108, vZ), (109, vZ), (110, (vB true)), (4, (vB false))]
              (fun q => SoundCall Tryd.prog 14 #[(vP b4706 0)] h4732 (vL w5155 ((openL l9).length) c5156) hh5159 ∧ (binA Tryd.prog .neq 3 (vI (((openL l9).length : Nat))) (vI 0) = some (vB true) ∧ hh5159 = hh5159) ∧ q) (by intro K'; as_aux_lemma => kernel_rfl) (fun _ q => ⟨sn5160, ⟨cmp_neq (decide_eq_true c5171), rfl⟩, q⟩) ?_
            exfalso
            omega
    · obtain ⟨_, hh5240, sn5241, rfl, x5242⟩ := works_ok h4696
      have x5243 := x4699.trans x5242
      refine wc_upd (n := 200) (T := ⟨fun r i => match r, i with | 1, 2 => some ((vB false), h) | 1, 5 => some ((vB false), h4696) | 2, 0 => some ((vB true), hh5240) | _, _ => none, fun _ => none, none⟩) (x := .ret) (h1 := hh5240) [(12, (vL sa xs.length cp)), (13, (vI ((xs.length : Nat)))), (14, (vB false)), (15, (vB false)), (16, (vL sa xs.length cp)), (17, (vB false)), (18, (vB true)), (19, (vB true)), (20, (vB true)), (21, vZ), (22, vZ), (23, vZ), (24, (vB true)), (25, (vB true)), (4, (vB true))]
        (fun q => (binA Tryd.prog .gtr 3 (vI ((xs.length : Nat))) (vI 60) = some (vB false) ∧ h = h) ∧ SoundCall Tryd.prog 11 #[(vL sa xs.length cp)] h (vB false) h4696 ∧ SoundCall Tryd.prog 12 #[] h4696 (vB true) hh5240 ∧ q) (by intro K'; as_aux_lemma => kernel_rfl) (fun _ q => ⟨⟨cmp_gtr (decide_eq_false c4689), rfl⟩, (by rw [← c4700]; exact s4697), sn5241, q⟩) ?_
      refine end_at (T := ⟨fun _ _ => none, fun _ => none, none⟩) (A := K (vB true) hh5240) (by kernel_rfl) ?_
      exact hK _ _ (⟨rfl, x5243⟩)
end C32
