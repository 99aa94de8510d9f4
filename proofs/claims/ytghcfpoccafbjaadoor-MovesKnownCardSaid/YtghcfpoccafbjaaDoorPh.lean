/- The run of MovesKnown. -/
import Derived.Test.YtghcfpoccafbjaaDoorNd
import Derived.Test.YtghcfpoccafbjaaDoorQe
import Derived.KernelRfl
open Go Go.AM Go.Proofs
namespace C32
set_option maxRecDepth 10000 in
set_option maxHeartbeats 4000000 in
theorem law_known (h : Heap)  : WCall Tryd.prog 4 #[] h (fun v h1 => v = .bool true ∧ Ext h h1) := by
  suffices H : ∀ K : Value → Heap → Prop, (∀ v h1, (fun v h1 => v = .bool true ∧ Ext h h1) v h1 → K v h1) → WCall Tryd.prog 4 #[] h K from H _ fun _ _ q => q
  intro K hK
  refine wcall_at { tmps := #[vZ, vZ, vZ, vZ, vZ, vZ, vZ, vZ, vZ, vZ, vZ, vZ, vZ, vZ, vZ, vZ, vZ, vZ, vZ, vZ, vZ, vZ, vZ, vZ, vZ, vZ, vZ, vZ, vZ, vZ, vZ, vZ, vZ, vZ, vZ, vZ, vZ, vZ, vZ, vZ, vZ, vZ, vZ, vZ, vZ, vZ, vZ, vZ, vZ, vZ, vZ, vZ, vZ, vZ, vZ, vZ, vZ, vZ, vZ, vZ, vZ, vZ, vZ, vZ, vZ, vZ, vZ, vZ, vZ, vZ, vZ, vZ, vZ, vZ, vZ, vZ, vZ, vZ, vZ, vZ, vZ, vZ, vZ, vZ, vZ, vZ, vZ, vZ, vZ, vZ, vZ, vZ, vZ, vZ, vZ, vZ, vZ, vZ, vZ, vZ, vZ, vZ, vZ, vZ, vZ, vZ, vZ, vZ, vZ, vZ, vZ, vZ, vZ, vZ, vZ, vZ, vZ, vZ, vZ, vZ, vZ, vZ, vZ, vZ, vZ, vZ, vZ, vZ, vZ, vZ, vZ], defers := [] } (by kernel_rfl) ?_
  refine wc_seq' (subc (bodyOf Tryd.prog 4) [0]) (subc (bodyOf Tryd.prog 4) [1]) (by kernel_rfl) ?_
  refine wc_upd (n := 200) (T := ⟨fun r i => match r, i with | _, _ => none, fun _ => none, none⟩) (x := .normal) (h1 := h) [(0, (vB false))]
    (fun q => q) (by intro K'; as_aux_lemma => kernel_rfl) (fun _ q => q) ?_
  refine wc_seq' (subc (bodyOf Tryd.prog 4) [1, 0]) (subc (bodyOf Tryd.prog 4) [1, 1]) (by kernel_rfl) ?_
  obtain ⟨_, h6622, s6623, b6621, O6625, rfl, p6626, x6624, w6627⟩ := new_ok h
  have x6628 := (Ext.refl h).trans x6624
  have z6629 : h.size ≤ h.size := (Ext.refl h).size
  have o6630 : ∀ zz, O6625 zz → h.size ≤ zz := fun zz hz => by have := w6627 zz hz; omega
  refine wc_upd (n := 200) (T := ⟨fun r i => match r, i with | 1, 0 => some ((vP b6621 0), h6622) | _, _ => none, fun _ => none, none⟩) (x := .normal) (h1 := h6622) [(17, (vP b6621 0)), (1, (vP b6621 0))]
    (fun q => SoundCall Tryd.prog 20 #[] h (vP b6621 0) h6622 ∧ q) (by intro K'; as_aux_lemma => kernel_rfl) (fun _ q => ⟨s6623, q⟩) ?_
  refine wc_seq' (subc (bodyOf Tryd.prog 4) [1, 1, 0]) (subc (bodyOf Tryd.prog 4) [1, 1, 1]) (by kernel_rfl) ?_
  refine wc_seq' (subc (bodyOf Tryd.prog 4) [1, 1, 0, 0]) (subc (bodyOf Tryd.prog 4) [1, 1, 0, 1]) (by kernel_rfl) ?_
  refine wc_upd (n := 200) (T := ⟨fun r i => match r, i with | _, _ => none, fun _ => none, none⟩) (x := .normal) (h1 := h6622) [(2, (vI 1))]
    (fun q => q) (by intro K'; as_aux_lemma => kernel_rfl) (fun _ q => q) ?_
  refine wc_block' 0 (subc (bodyOf Tryd.prog 4) [1, 1, 0, 1, 0]) (by kernel_rfl) ?_
  refine wc_loop' (subc (bodyOf Tryd.prog 4) [1, 1, 0, 1, 0, 0]) (by kernel_rfl) (fun n' a' h' => ∃ (k : Int) (O9 : Nat → Prop) (g0 : Nat → Value), a' = { tmps := #[(g0 0), (vP b6621 0), (vI k), (g0 3), (g0 4), vZ, vZ, vZ, vZ, vZ, vZ, vZ, vZ, vZ, vZ, vZ, vZ, (vP b6621 0), (g0 18), (g0 19), (g0 20), (g0 21), (g0 22), (g0 23), (g0 24), (g0 25), (g0 26), (g0 27), (g0 28), (g0 29), (g0 30), (g0 31), (g0 32), (g0 33), (g0 34), (g0 35), (g0 36), (g0 37), (g0 38), (g0 39), (g0 40), (g0 41), (g0 42), (g0 43), (g0 44), (g0 45), (g0 46), vZ, vZ, vZ, vZ, vZ, vZ, vZ, vZ, vZ, vZ, vZ, vZ, vZ, vZ, vZ, vZ, vZ, vZ, vZ, vZ, vZ, vZ, vZ, vZ, vZ, vZ, vZ, vZ, vZ, vZ, vZ, vZ, vZ, vZ, vZ, vZ, vZ, vZ, vZ, vZ, vZ, vZ, vZ, vZ, vZ, vZ, vZ, vZ, vZ, vZ, vZ, vZ, vZ, vZ, vZ, vZ, vZ, vZ, vZ, vZ, vZ, vZ, vZ, vZ, vZ, vZ, vZ, vZ, vZ, vZ, vZ, vZ, vZ, vZ, vZ, vZ, vZ, vZ, vZ, vZ, vZ, vZ, vZ, vZ], defers := [] } ∧ Ext h h' ∧ n' = 65 - k.toNat ∧ (1 ≤ k ∧ k ≤ 65) ∧ (repM (k - 1).toNat).length ≤ 64 ∧ (∀ zz, O9 zz → h.size ≤ zz) ∧ TabAt 56 32 h' O9 b6621 (repM (k - 1).toNat)) ?_ (65 - (1 : Int).toNat) ⟨1, O6625, (fun i => ([(vB false), vU, vU, vZ, vZ, vU, vU, vU, vU, vU, vU, vU, vU, vU, vU, vU, vU, vU, vZ, vZ, vZ, vZ, vZ, vZ, vZ, vZ, vZ, vZ, vZ, vZ, vZ, vZ, vZ, vZ, vZ, vZ, vZ, vZ, vZ, vZ, vZ, vZ, vZ, vZ, vZ, vZ, vZ] : List Value).getD i undef), by as_aux_lemma => kernel_rfl, x6628, rfl, by omega, by decide, o6630, (by have q9 := p6626; exact q9)⟩
  rintro n' _ h6632 ⟨k, O9, g0, rfl, x6638, m6637, i6633, i6634, i6635, p6636⟩
  by_cases c6639 : ((k) : Int) ≤ 64
  · obtain ⟨ak1, bk1, ck1⟩ := rep_start (k := k) (by omega)
    obtain ⟨_, h6640, s6641, rfl, x6642, O6643, p6644, o6645⟩ := start_ok h6632 p6636 i6634 .empty .empty 1 2
    have k6646 := startL_len i6634 .empty .empty 1 2
    have e6647 : startN (repM (k - 1).toNat) .empty .empty 1 2 = k := bk1
    rw [e6647] at s6641
    have e6648 : startE (repM (k - 1).toNat) .empty .empty 1 2 = 0 := ak1
    rw [e6648] at s6641
    have e6649 : startL (repM (k - 1).toNat) .empty .empty 1 2 = ((repM (k - 1).toNat) ++ [askedM]) := ck1
    rw [e6649] at p6644 k6646
    have z6650 : h.size ≤ h6632.size := x6638.size
    have x6651 : Ext h _ := (Chg.then (O := fun _ => False) (Chg.ext x6638) x6642 (fun b hb => .inr (i6635 b hb))).toExt'
    have z6652 : h.size ≤ h6632.size := x6638.size
    have o6653 : ∀ zz, O6643 zz → h.size ≤ zz := fun zz hz => by rcases o6645 zz hz with g | g; (exact i6635 zz g); omega
    obtain ⟨ak2, bk2⟩ := rep_given (k := k) (by omega)
    obtain ⟨_, h6654, s6655, rfl, x6656, O6657, p6658, o6659⟩ := given_ok h6640 p6644 k6646 (k) (by omega) .empty
    have k6660 := givenL_len k6646 (k) .empty
    have e6661 : givenE ((repM (k - 1).toNat) ++ [askedM]) (k) .empty = 0 := ak2
    rw [e6661] at s6655
    have e6662 : givenL ((repM (k - 1).toNat) ++ [askedM]) (k) .empty = ((repM (k - 1).toNat) ++ [outM]) := bk2
    rw [e6662] at p6658 k6660
    have z6663 : h.size ≤ h6640.size := x6651.size
    have x6664 : Ext h _ := (Chg.then (O := fun _ => False) (Chg.ext x6651) x6656 (fun b hb => .inr (o6653 b hb))).toExt'
    have z6665 : h.size ≤ h6640.size := x6651.size
    have o6666 : ∀ zz, O6657 zz → h.size ≤ zz := fun zz hz => by rcases o6659 zz hz with g | g; (exact o6653 zz g); omega
    obtain ⟨ak3, bk3⟩ := rep_taken (k := k) (by omega)
    obtain ⟨_, h6667, s6668, rfl, x6669, O6670, p6671, o6672⟩ := taken_ok h6654 p6658 k6660 (k) (by omega)
    have k6673 := takenL_len k6660 (k)
    have e6674 : takenE ((repM (k - 1).toNat) ++ [outM]) (k) = 0 := ak3
    rw [e6674] at s6668
    have e6675 : takenL ((repM (k - 1).toNat) ++ [outM]) (k) = (repM (k + 1 - 1).toNat) := bk3
    rw [e6675] at p6671 k6673
    have z6676 : h.size ≤ h6654.size := x6664.size
    have x6677 : Ext h _ := (Chg.then (O := fun _ => False) (Chg.ext x6664) x6669 (fun b hb => .inr (o6666 b hb))).toExt'
    have z6678 : h.size ≤ h6654.size := x6664.size
    have o6679 : ∀ zz, O6670 zz → h.size ≤ zz := fun zz hz => by rcases o6672 zz hz with g | g; (exact o6666 zz g); omega
    refine wc_upd (n := 200) (T := ⟨fun r i => match r, i with | 3, 1 => some ((vB true), h6632) | 5, 2 => some ((vT #[(vI k), (vI 0)]), h6640) | 6, 5 => some ((vB false), h6640) | 6, 10 => some ((vI 0), h6654) | 6, 16 => some ((vI 0), h6667) | 4, 1 => some ((vI ((k) + 1)), h6667) | _, _ => none, fun _ => none, none⟩) (x := .normal) (h1 := h6667) [(18, (vI k)), (19, (vB true)), (23, (vP b6621 0)), (24, (vA #[(vS .empty), (vS .empty)])), (25, (vT #[(vI k), (vI 0)])), (22, (vT #[(vI k), (vI 0)])), (26, (vI k)), (27, (vI 0)), (3, (vI k)), (4, (vI 0)), (28, (vI 0)), (29, (vB false)), (30, (vB false)), (31, (vI k)), (32, (vI k)), (33, (vB false)), (34, (vB false)), (35, (vB false)), (36, (vP b6621 0)), (37, (vI k)), (38, (vI 0)), (39, (vB false)), (40, (vB false)), (41, (vB false)), (42, (vP b6621 0)), (43, (vI k)), (44, (vI 0)), (45, (vB false)), (46, (vB false)), (20, (vI k)), (21, (vI ((k) + 1))), (2, (vI ((k) + 1)))]
      (fun q => (binA Tryd.prog .leq 3 (vI k) (vI 64) = some (vB true) ∧ h6632 = h6632) ∧ SoundCall Tryd.prog 21 #[(vP b6621 0), (vA #[(vS .empty), (vS .empty)]), (vI 1), (vI 2)] h6632 (vT #[(vI k), (vI 0)]) h6640 ∧ (binA Tryd.prog .neq 3 (vI k) (vI k) = some (vB false) ∧ h6640 = h6640) ∧ SoundCall Tryd.prog 22 #[(vP b6621 0), (vI k), (vS .empty)] h6640 (vI 0) h6654 ∧ SoundCall Tryd.prog 23 #[(vP b6621 0), (vI k)] h6654 (vI 0) h6667 ∧ (binA Tryd.prog .add 3 (vI k) (vI 1) = some (vI ((k) + 1)) ∧ h6667 = h6667) ∧ q) (by intro K'; as_aux_lemma => kernel_rfl) (fun _ q => ⟨⟨cmp_leq (decide_eq_true c6639), rfl⟩, s6641, ⟨cmp_neq (decide_eq_false (not_not_intro rfl)), rfl⟩, s6655, s6668, ⟨add_i64 (by omega) (by omega), rfl⟩, q⟩) ?_
    exact ⟨65 - (k + 1).toNat, by omega, ⟨k + 1, O6670, (fun i => ([(g0 0), vU, vU, (vI k), (vI 0), vU, vU, vU, vU, vU, vU, vU, vU, vU, vU, vU, vU, vU, (vI k), (vB true), (vI k), (vI ((k) + 1)), (vT #[(vI k), (vI 0)]), (vP b6621 0), (vA #[(vS .empty), (vS .empty)]), (vT #[(vI k), (vI 0)]), (vI k), (vI 0), (vI 0), (vB false), (vB false), (vI k), (vI k), (vB false), (vB false), (vB false), (vP b6621 0), (vI k), (vI 0), (vB false), (vB false), (vB false), (vP b6621 0), (vI k), (vI 0), (vB false), (vB false)] : List Value).getD i undef), by as_aux_lemma => kernel_rfl, x6677, rfl, by omega, k6673, o6679, p6671⟩⟩
  · refine wc_upd (n := 200) (T := ⟨fun r i => match r, i with | 3, 1 => some ((vB false), h6632) | _, _ => none, fun _ => none, none⟩) (x := (.exit 0)) (h1 := h6632) [(18, (vI k)), (19, (vB false))]
      (fun q => (binA Tryd.prog .leq 3 (vI k) (vI 64) = some (vB false) ∧ h6632 = h6632) ∧ q) (by intro K'; as_aux_lemma => kernel_rfl) (fun _ q => ⟨⟨cmp_leq (decide_eq_false c6639), rfl⟩, q⟩) ?_
    have rl9 := rep_length (k - 1).toNat
    obtain ⟨ak4, bk4, ck4⟩ := start_full (rep_none (k - 1).toNat) (by omega)
    have fz1 : findE (repM (k - 1).toNat) 1 = 0 := findE_at (by omega) (by omega)
    obtain ⟨_, h6680, s6681, rfl, x6682, O6683, p6684, o6685⟩ := start_ok h6632 p6636 i6634 .empty .empty 1 2
    have k6686 := startL_len i6634 .empty .empty 1 2
    have e6687 : startN (repM (k - 1).toNat) .empty .empty 1 2 = 0 := bk4
    rw [e6687] at s6681
    have e6688 : startE (repM (k - 1).toNat) .empty .empty 1 2 = 4 := ak4
    rw [e6688] at s6681
    have e6689 : startL (repM (k - 1).toNat) .empty .empty 1 2 = (repM (k - 1).toNat) := ck4
    rw [e6689] at p6684 k6686
    have z6690 : h.size ≤ h6632.size := x6638.size
    have x6691 : Ext h _ := (Chg.then (O := fun _ => False) (Chg.ext x6638) x6682 (fun b hb => .inr (i6635 b hb))).toExt'
    have z6692 : h.size ≤ h6632.size := x6638.size
    have o6693 : ∀ zz, O6683 zz → h.size ≤ zz := fun zz hz => by rcases o6685 zz hz with g | g; (exact i6635 zz g); omega
    obtain ⟨ak5, bk5, ck5⟩ := start_bad (l := (repM (k - 1).toNat)) (r0 := ⟨#[98]⟩) (r1 := ⟨#[97]⟩) (f := 1) (t := 2) (fun w => by rw [rchk_ba] at w; exact absurd w.1 (by decide))
    obtain ⟨_, h6694, s6695, rfl, x6696, O6697, p6698, o6699⟩ := start_ok h6680 p6684 k6686 ⟨#[98]⟩ ⟨#[97]⟩ 1 2
    have k6700 := startL_len k6686 ⟨#[98]⟩ ⟨#[97]⟩ 1 2
    have e6701 : startN (repM (k - 1).toNat) ⟨#[98]⟩ ⟨#[97]⟩ 1 2 = 0 := bk5
    rw [e6701] at s6695
    have e6702 : startE (repM (k - 1).toNat) ⟨#[98]⟩ ⟨#[97]⟩ 1 2 = 2 := ak5
    rw [e6702] at s6695
    have e6703 : startL (repM (k - 1).toNat) ⟨#[98]⟩ ⟨#[97]⟩ 1 2 = (repM (k - 1).toNat) := ck5
    rw [e6703] at p6698 k6700
    have z6704 : h.size ≤ h6680.size := x6691.size
    have x6705 : Ext h _ := (Chg.then (O := fun _ => False) (Chg.ext x6691) x6696 (fun b hb => .inr (o6693 b hb))).toExt'
    have z6706 : h.size ≤ h6680.size := x6691.size
    have o6707 : ∀ zz, O6697 zz → h.size ≤ zz := fun zz hz => by rcases o6699 zz hz with g | g; (exact o6693 zz g); omega
    obtain ⟨ak6, bk6, ck6⟩ := start_bad (l := (repM (k - 1).toNat)) (r0 := .empty) (r1 := .empty) (f := 0) (t := 2) (fun w => absurd w.2.1.1 (by decide))
    obtain ⟨_, h6708, s6709, rfl, x6710, O6711, p6712, o6713⟩ := start_ok h6694 p6698 k6700 .empty .empty 0 2
    have k6714 := startL_len k6700 .empty .empty 0 2
    have e6715 : startN (repM (k - 1).toNat) .empty .empty 0 2 = 0 := bk6
    rw [e6715] at s6709
    have e6716 : startE (repM (k - 1).toNat) .empty .empty 0 2 = 2 := ak6
    rw [e6716] at s6709
    have e6717 : startL (repM (k - 1).toNat) .empty .empty 0 2 = (repM (k - 1).toNat) := ck6
    rw [e6717] at p6712 k6714
    have z6718 : h.size ≤ h6694.size := x6705.size
    have x6719 : Ext h _ := (Chg.then (O := fun _ => False) (Chg.ext x6705) x6710 (fun b hb => .inr (o6707 b hb))).toExt'
    have z6720 : h.size ≤ h6694.size := x6705.size
    have o6721 : ∀ zz, O6711 zz → h.size ≤ zz := fun zz hz => by rcases o6713 zz hz with g | g; (exact o6707 zz g); omega
    obtain ⟨ak7, bk7, ck7⟩ := start_bad (l := (repM (k - 1).toNat)) (r0 := .empty) (r1 := .empty) (f := 7) (t := 8) (fun w => absurd w.2.2.1.2 (by decide))
    obtain ⟨_, h6722, s6723, rfl, x6724, O6725, p6726, o6727⟩ := start_ok h6708 p6712 k6714 .empty .empty 7 8
    have k6728 := startL_len k6714 .empty .empty 7 8
    have e6729 : startN (repM (k - 1).toNat) .empty .empty 7 8 = 0 := bk7
    rw [e6729] at s6723
    have e6730 : startE (repM (k - 1).toNat) .empty .empty 7 8 = 2 := ak7
    rw [e6730] at s6723
    have e6731 : startL (repM (k - 1).toNat) .empty .empty 7 8 = (repM (k - 1).toNat) := ck7
    rw [e6731] at p6726 k6728
    have z6732 : h.size ≤ h6708.size := x6719.size
    have x6733 : Ext h _ := (Chg.then (O := fun _ => False) (Chg.ext x6719) x6724 (fun b hb => .inr (o6721 b hb))).toExt'
    have z6734 : h.size ≤ h6708.size := x6719.size
    have o6735 : ∀ zz, O6725 zz → h.size ≤ zz := fun zz hz => by rcases o6727 zz hz with g | g; (exact o6721 zz g); omega
    obtain ⟨b6738, eb6739⟩ : ∃ zq, zq = h6722.size := ⟨_, rfl⟩
    obtain ⟨h6736, e6737⟩ : ∃ zq, zq = h6722.push (.cells (zrow 65537) 5 (0, 0)) := ⟨_, rfl⟩
    have f6740 := push_new e6737
    rw [← eb6739] at f6740
    have x6741 : Ext h6722 h6736 := by rw [e6737]; exact Ext.push _ _
    have p6742 := p6726.keep fun b r _ q => x6741 b r q
    have x6743 := x6733.trans x6741
    obtain ⟨t6744, q6745, z6746⟩ := zero_text 65537 f6740
    obtain ⟨_, h6748, s6749, b6747, O6751, rfl, p6752, x6750, w6753⟩ := new_ok h6736
    have p6754 := p6742.keep fun b r _ q => x6750 b r q
    have x6755 := x6743.trans x6750
    have z6756 : h.size ≤ h6736.size := x6743.size
    have n6757 : ∀ zz, O6751 zz → ¬ O6725 zz := fun zz hz ez => by have := w6753 zz hz; have := p6742.blk_lt ez; omega
    have o6758 : ∀ zz, O6751 zz → h.size ≤ zz := fun zz hz => by have := w6753 zz hz; omega
    obtain ⟨_, h6759, s6760, rfl, x6761, O6762, p6763, o6764⟩ := start_ok h6748 p6752 (show ([] : List MoveM).length ≤ 64 by decide) .empty .empty 7 1
    have k6765 := startL_len (show ([] : List MoveM).length ≤ 64 by decide) .empty .empty 7 1
    have e6766 : startN ([] : List MoveM) .empty .empty 7 1 = 1 := by kernel_rfl
    rw [e6766] at s6760
    have e6767 : startE ([] : List MoveM) .empty .empty 7 1 = 0 := by kernel_rfl
    rw [e6767] at s6760
    have e6768 : startL ([] : List MoveM) .empty .empty 7 1 = ([MoveM.mk .empty .empty 7 1 1 .empty] : List MoveM) := by kernel_rfl
    rw [e6768] at p6763 k6765
    have z6769 : h.size ≤ h6748.size := x6755.size
    have x6770 : Ext h _ := (Chg.then (O := fun _ => False) (Chg.ext x6755) x6761 (fun b hb => .inr (o6758 b hb))).toExt'
    have p6771 := p6754.keep fun b r hb q => x6761.same b r q ((fun b hb hb2 => n6757 b hb2 hb) b hb)
    have z6772 : h.size ≤ h6748.size := x6755.size
    have n6773 : ∀ zz, O6762 zz → ¬ O6725 zz := fun zz hz ez => by rcases o6764 zz hz with g | g; (exact n6757 _ g ez); have := p6754.blk_lt ez; omega
    have o6774 : ∀ zz, O6762 zz → h.size ≤ zz := fun zz hz => by rcases o6764 zz hz with g | g; (exact o6758 zz g); omega
    obtain ⟨ak8, bk8⟩ := given_long (d := t6744) fz1 (by omega)
    obtain ⟨_, h6775, s6776, rfl, x6777, O6778, p6779, o6780⟩ := given_ok h6759 p6771 k6728 1 (by omega) t6744
    have k6781 := givenL_len k6728 1 t6744
    have e6782 : givenE (repM (k - 1).toNat) 1 t6744 = 11 := ak8
    rw [e6782] at s6776
    have e6783 : givenL (repM (k - 1).toNat) 1 t6744 = (repM (k - 1).toNat) := bk8
    rw [e6783] at p6779 k6781
    have z6784 : h.size ≤ h6759.size := x6770.size
    have x6785 : Ext h _ := (Chg.then (O := fun _ => False) (Chg.ext x6770) x6777 (fun b hb => .inr (o6735 b hb))).toExt'
    have p6786 := p6763.keep fun b r hb q => x6777.same b r q (n6773 b hb)
    have z6787 : h.size ≤ h6759.size := x6770.size
    have n6788 : ∀ zz, O6778 zz → ¬ O6762 zz := fun zz hz ez => by rcases o6780 zz hz with g | g; (exact n6773 _ ez g); have := p6763.blk_lt ez; omega
    have o6789 : ∀ zz, O6778 zz → h.size ≤ zz := fun zz hz => by rcases o6780 zz hz with g | g; (exact o6735 zz g); omega
    obtain ⟨ak9, bk9⟩ := given_none (l := (repM (k - 1).toNat)) (n := 65) (d := t6744) (findE_out (by omega))
    obtain ⟨_, h6790, s6791, rfl, x6792, O6793, p6794, o6795⟩ := given_ok h6775 p6779 k6781 65 (by omega) t6744
    have k6796 := givenL_len k6781 65 t6744
    have e6797 : givenE (repM (k - 1).toNat) 65 t6744 = 3 := ak9
    rw [e6797] at s6791
    have e6798 : givenL (repM (k - 1).toNat) 65 t6744 = (repM (k - 1).toNat) := bk9
    rw [e6798] at p6794 k6796
    have z6799 : h.size ≤ h6775.size := x6785.size
    have x6800 : Ext h _ := (Chg.then (O := fun _ => False) (Chg.ext x6785) x6792 (fun b hb => .inr (o6789 b hb))).toExt'
    have p6801 := p6786.keep fun b r hb q => x6792.same b r q ((fun b hb hb2 => n6788 b hb2 hb) b hb)
    have z6802 : h.size ≤ h6775.size := x6785.size
    have n6803 : ∀ zz, O6793 zz → ¬ O6762 zz := fun zz hz ez => by rcases o6795 zz hz with g | g; (exact n6788 _ g ez); have := p6786.blk_lt ez; omega
    have o6804 : ∀ zz, O6793 zz → h.size ≤ zz := fun zz hz => by rcases o6795 zz hz with g | g; (exact o6789 zz g); omega
    obtain ⟨am1, bm1⟩ := taken_none (l := (repM (k - 1).toNat)) (n := 0) (findE_out (by omega))
    obtain ⟨_, h6805, s6806, rfl, x6807, O6808, p6809, o6810⟩ := taken_ok h6790 p6794 k6796 0 (by omega)
    have k6811 := takenL_len k6796 0
    have e6812 : takenE (repM (k - 1).toNat) 0 = 3 := am1
    rw [e6812] at s6806
    have e6813 : takenL (repM (k - 1).toNat) 0 = (repM (k - 1).toNat) := bm1
    rw [e6813] at p6809 k6811
    have z6814 : h.size ≤ h6790.size := x6800.size
    have x6815 : Ext h _ := (Chg.then (O := fun _ => False) (Chg.ext x6800) x6807 (fun b hb => .inr (o6804 b hb))).toExt'
    have p6816 := p6801.keep fun b r hb q => x6807.same b r q ((fun b hb hb2 => n6803 b hb2 hb) b hb)
    have z6817 : h.size ≤ h6790.size := x6800.size
    have o6819 : ∀ zz, O6808 zz → h.size ≤ zz := fun zz hz => by rcases o6810 zz hz with g | g; (exact o6804 zz g); omega
    have fu1 : findE ([MoveM.mk .empty .empty 7 1 1 .empty] : List MoveM) 1 = 0 := by kernel_rfl
    obtain ⟨am2, bm2⟩ := given_long (d := t6744) fu1 (by omega)
    obtain ⟨_, h6820, s6821, rfl, x6822, O6823, p6824, o6825⟩ := given_ok h6805 p6816 k6765 1 (by omega) t6744
    have k6826 := givenL_len k6765 1 t6744
    have e6827 : givenE ([MoveM.mk .empty .empty 7 1 1 .empty] : List MoveM) 1 t6744 = 11 := am2
    rw [e6827] at s6821
    have e6828 : givenL ([MoveM.mk .empty .empty 7 1 1 .empty] : List MoveM) 1 t6744 = ([MoveM.mk .empty .empty 7 1 1 .empty] : List MoveM) := bm2
    rw [e6828] at p6824 k6826
    have z6829 : h.size ≤ h6805.size := x6815.size
    have x6830 : Ext h _ := (Chg.then (O := fun _ => False) (Chg.ext x6815) x6822 (fun b hb => .inr (o6774 b hb))).toExt'
    have z6832 : h.size ≤ h6805.size := x6815.size
    have o6834 : ∀ zz, O6823 zz → h.size ≤ zz := fun zz hz => by rcases o6825 zz hz with g | g; (exact o6774 zz g); omega
    have z6835 := ext_size t6744 1 t6744.size
    have am3 := g_asked (d := (t6744.extract 1 t6744.size)) fu1 (by omega) (by kernel_rfl)
    obtain ⟨_, h6836, s6837, rfl, x6838, O6839, p6840, o6841⟩ := given_ok h6820 p6824 k6826 1 (by omega) (t6744.extract 1 t6744.size)
    have k6842 := givenL_len k6826 1 (t6744.extract 1 t6744.size)
    have e6843 : givenE ([MoveM.mk .empty .empty 7 1 1 .empty] : List MoveM) 1 (t6744.extract 1 t6744.size) = 0 := am3
    rw [e6843] at s6837
    have z6844 : h.size ≤ h6820.size := x6830.size
    have x6845 : Ext h _ := (Chg.then (O := fun _ => False) (Chg.ext x6830) x6838 (fun b hb => .inr (o6834 b hb))).toExt'
    have z6847 : h.size ≤ h6820.size := x6830.size
    have o6849 : ∀ zz, O6839 zz → h.size ≤ zz := fun zz hz => by rcases o6841 zz hz with g | g; (exact o6834 zz g); omega
    obtain ⟨_, hh6850, sn6851, rfl, x6852⟩ := works_ok h6836
    have x6855 := x6845.trans x6852
    refine wc_upd (n := 200) (T := ⟨fun r i => match r, i with | 8, 2 => some ((vT #[(vI 0), (vI 4)]), h6680) | 9, 2 => some ((vT #[(vI 0), (vI 2)]), h6694) | 10, 2 => some ((vT #[(vI 0), (vI 2)]), h6708) | 11, 2 => some ((vT #[(vI 0), (vI 2)]), h6722) | 12, 0 => some ((vL (some ⟨b6738, 0, none⟩) 65537 65537), h6736) | 12, 1 => some ((vS t6744), h6736) | 13, 0 => some ((vP b6747 0), h6748) | 14, 2 => some ((vT #[(vI 1), (vI 0)]), h6759) | 15, 17 => some ((vI 11), h6775) | 15, 23 => some ((vI 3), h6790) | 15, 28 => some ((vI 3), h6805) | 15, 38 => some ((vI 11), h6820) | 15, 44 => some ((vS (t6744.extract 1 t6744.size)), h6820) | 15, 45 => some ((vI 0), h6836) | 15, 49 => some ((vB true), hh6850) | _, _ => none, fun _ => none, none⟩) (x := .ret) (h1 := hh6850) [(48, (vP b6621 0)), (49, (vA #[(vS .empty), (vS .empty)])), (50, (vT #[(vI 0), (vI 4)])), (47, (vT #[(vI 0), (vI 4)])), (51, (vI 0)), (52, (vI 4)), (5, (vI 0)), (6, (vI 4)), (54, (vP b6621 0)), (55, (vA #[(vS ⟨#[98]⟩), (vS ⟨#[97]⟩)])), (56, (vT #[(vI 0), (vI 2)])), (53, (vT #[(vI 0), (vI 2)])), (57, (vI 0)), (58, (vI 2)), (7, (vI 0)), (8, (vI 2)), (60, (vP b6621 0)), (61, (vA #[(vS .empty), (vS .empty)])), (62, (vT #[(vI 0), (vI 2)])), (59, (vT #[(vI 0), (vI 2)])), (63, (vI 0)), (64, (vI 2)), (9, (vI 0)), (10, (vI 2)), (66, (vP b6621 0)), (67, (vA #[(vS .empty), (vS .empty)])), (68, (vT #[(vI 0), (vI 2)])), (65, (vT #[(vI 0), (vI 2)])), (69, (vI 0)), (70, (vI 2)), (11, (vI 0)), (12, (vI 2)), (71, (vL (some ⟨b6738, 0, none⟩) 65537 65537)), (72, (vS t6744)), (13, (vS t6744)), (73, (vP b6747 0)), (14, (vP b6747 0)), (75, (vP b6747 0)), (76, (vA #[(vS .empty), (vS .empty)])), (77, (vT #[(vI 1), (vI 0)])), (74, (vT #[(vI 1), (vI 0)])), (78, (vI 1)), (79, (vI 0)), (15, (vI 1)), (16, (vI 0)), (80, (vI 4)), (81, (vB true)), (82, (vB true)), (83, (vI 2)), (84, (vB true)), (85, (vB true)), (86, (vB true)), (87, (vI 2)), (88, (vB true)), (89, (vB true)), (90, (vB true)), (91, (vI 2)), (92, (vB true)), (93, (vB true)), (94, (vB true)), (95, (vP b6621 0)), (96, (vS t6744)), (97, (vI 11)), (98, (vB true)), (99, (vB true)), (100, (vB true)), (101, (vP b6621 0)), (102, (vS t6744)), (103, (vI 3)), (104, (vB true)), (105, (vB true)), (106, (vB true)), (107, (vP b6621 0)), (108, (vI 3)), (109, (vB true)), (110, (vB true)), (111, (vB true)), (112, (vI 0)), (113, (vB true)), (114, (vB true)), (115, (vB true)), (116, (vP b6747 0)), (117, (vS t6744)), (118, (vI 11)), (119, (vB true)), (120, (vB true)), (121, (vB true)), (122, (vP b6747 0)), (123, (vS t6744)), (124, (vS (t6744.extract 1 t6744.size))), (125, (vI 0)), (126, (vB true)), (127, (vB true)), (128, (vB true)), (129, (vB true)), (130, (vB true)), (0, (vB true))]
      (fun q => SoundCall Tryd.prog 21 #[(vP b6621 0), (vA #[(vS .empty), (vS .empty)]), (vI 1), (vI 2)] h6632 (vT #[(vI 0), (vI 4)]) h6680 ∧ SoundCall Tryd.prog 21 #[(vP b6621 0), (vA #[(vS ⟨#[98]⟩), (vS ⟨#[97]⟩)]), (vI 1), (vI 2)] h6680 (vT #[(vI 0), (vI 2)]) h6694 ∧ SoundCall Tryd.prog 21 #[(vP b6621 0), (vA #[(vS .empty), (vS .empty)]), (vI 0), (vI 2)] h6694 (vT #[(vI 0), (vI 2)]) h6708 ∧ SoundCall Tryd.prog 21 #[(vP b6621 0), (vA #[(vS .empty), (vS .empty)]), (vI 7), (vI 8)] h6708 (vT #[(vI 0), (vI 2)]) h6722 ∧ ((vL (some ⟨b6738, 0, none⟩) 65537 65537) = (vL (some ⟨h6722.size, 0, none⟩) 65537 65537) ∧ h6736 = h6722.push (.cells (zrow 65537) 5 (0, 0))) ∧ (convObl Tryd.prog h6736 47 9 (vL (some ⟨b6738, 0, none⟩) 65537 65537) (vS t6744) h6736) ∧ SoundCall Tryd.prog 20 #[] h6736 (vP b6747 0) h6748 ∧ SoundCall Tryd.prog 21 #[(vP b6747 0), (vA #[(vS .empty), (vS .empty)]), (vI 7), (vI 1)] h6748 (vT #[(vI 1), (vI 0)]) h6759 ∧ SoundCall Tryd.prog 22 #[(vP b6621 0), (vI 1), (vS t6744)] h6759 (vI 11) h6775 ∧ SoundCall Tryd.prog 22 #[(vP b6621 0), (vI 65), (vS t6744)] h6775 (vI 3) h6790 ∧ SoundCall Tryd.prog 23 #[(vP b6621 0), (vI 0)] h6790 (vI 3) h6805 ∧ SoundCall Tryd.prog 22 #[(vP b6747 0), (vI 1), (vS t6744)] h6805 (vI 11) h6820 ∧ (sliceA Tryd.prog h6820 9 (vS t6744) (some (vI 1)) none none = some (vS (t6744.extract 1 t6744.size)) ∧ h6820 = h6820) ∧ SoundCall Tryd.prog 22 #[(vP b6747 0), (vI 1), (vS (t6744.extract 1 t6744.size))] h6820 (vI 0) h6836 ∧ SoundCall Tryd.prog 12 #[] h6836 (vB true) hh6850 ∧ q) (by intro K'; as_aux_lemma => kernel_rfl) (fun _ q => ⟨s6681, s6695, s6709, s6723, ⟨by rw [eb6739], e6737⟩, q6745, s6749, s6760, s6776, s6791, s6806, s6821, ⟨slice_lo (by omega) (by omega), rfl⟩, s6837, sn6851, q⟩) ?_
    refine end_at (T := ⟨fun _ _ => none, fun _ => none, none⟩) (A := K (vB true) hh6850) (by kernel_rfl) ?_
    exact hK _ _ (⟨rfl, x6855⟩)
end C32
