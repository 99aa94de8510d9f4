/- What has to be proposed. -/
import Derived.Test.YtpagkfbpgppeiaaMf
import Derived.Test.YtpagkfbpgppeiaaMg
import Derived.KernelRfl
open Go Go.AM Go.Proofs
namespace C14
theorem size3 : (Try.prog.info? 3).map (·.size) = some 1 := by kernel_rfl
theorem size34 : (Try.prog.info? 34).map (·.size) = some 1 := by kernel_rfl
set_option maxHeartbeats 4000000 in
theorem values_ok (h : Heap) {F : Nat → Prop} {t : Nat} {m : PropM} (hT : PropAt h F t m) (hm : m.ok) : WCall Try.prog 13 #[(vP t 0)] h (fun v h1 => (readyB m = false → v = .tuple #[.slice none 0 0, .int .i64 9]) ∧ Ext h h1 ∧ (readyB m = true → ∃ oa oc, v = .tuple #[.slice oa (valuesM m).length oc, .int .i64 0] ∧ OwnAt h1 38 entc (valuesM m) (.slice oa (valuesM m).length oc) ∧ ∀ b, blk (.slice oa (valuesM m).length oc) b → h.size ≤ b)) := by
  have hT' := hT
  obtain ⟨ra, T⟩ := hT
  have hrow : h[t]? = some (.cells #[(vI (m.n)), (vI (m.frm)), (vI (m.rd)), (vI (m.nd)), (Value.slice (ra 0).1 ((m.ps 0).list.length) ((ra 0).2)), (vI ((m.ps 0).upto)), (vB (m.ps 0).made), (Value.slice (ra 1).1 ((m.ps 1).list.length) ((ra 1).2)), (vI ((m.ps 1).upto)), (vB (m.ps 1).made), (Value.slice (ra 2).1 ((m.ps 2).list.length) ((ra 2).2)), (vI ((m.ps 2).upto)), (vB (m.ps 2).made), (Value.slice (ra 3).1 ((m.ps 3).list.length) ((ra 3).2)), (vI ((m.ps 3).upto)), (vB (m.ps 3).made), (Value.slice (ra 4).1 ((m.ps 4).list.length) ((ra 4).2)), (vI ((m.ps 4).upto)), (vB (m.ps 4).made), (Value.slice (ra 5).1 ((m.ps 5).list.length) ((ra 5).2)), (vI ((m.ps 5).upto)), (vB (m.ps 5).made), (Value.slice (ra 6).1 ((m.ps 6).list.length) ((ra 6).2)), (vI ((m.ps 6).upto)), (vB (m.ps 6).made)] 69 (0, 0)) := T.row
  have k1 := hm.n1
  have k2 := hm.n7
  have k3 := hm.f0
  have k4 := hm.f1
  have eb : begM m = max (m.frm) (upM m 7) := rfl
  refine wcall_by fun K hK => ?_
  refine wcall_at { tmps := #[(vP t 0), vZ, vZ, vZ, vZ, vZ, vZ, vZ, vZ, vZ, vZ, vZ, vZ, vZ, vZ, vZ, vZ, vZ, vZ, vZ, vZ, vZ, vZ, vZ, vZ, vZ, vZ, vZ, vZ, vZ, vZ, vZ, vZ, vZ, vZ, vZ, vZ, vZ, vZ, vZ, vZ, vZ, vZ, vZ, vZ, vZ, vZ, vZ, vZ, vZ, vZ, vZ, vZ, vZ, vZ, vZ, vZ, vZ, vZ, vZ, vZ, vZ, vZ, vZ, vZ, vZ, vZ, vZ, vZ, vZ, vZ, vZ, vZ, vZ, vZ, vZ, vZ, vZ, vZ, vZ, vZ, vZ, vZ, vZ], defers := [] } (by kernel_rfl) ?_
  refine wc_seq' (subc (bodyOf Try.prog 13) [0]) (subc (bodyOf Try.prog 13) [1]) (by kernel_rfl) ?_
  refine wc_ev [] .normal h [(2, (vL none 0 0)), (3, (vI 0))] ?_
  refine wc_seq' (subc (bodyOf Try.prog 13) [1, 0]) (subc (bodyOf Try.prog 13) [1, 1]) (by kernel_rfl) ?_
  obtain ⟨_, _, sn651, rfl, rfl⟩ := valid_ok h (hT'.keep fun b r _ q => (Ext.refl h) b r q) hm
  obtain ⟨_, hh653, sn654, rfl, x655⟩ := ready_ok h (hT'.keep fun b r _ q => (Ext.refl h) b r q) hm
  have f656 := x655 _ _ hrow
  have x657 := (Ext.refl h).trans x655
  rcases Bool.eq_false_or_eq_true ((readyB m)) with c658 | c658
  · refine wc_ev [evF 1 1 sn651, evFb 3 1 c658 sn654] .normal hh653 [(9, (vP t 0)), (10, (vB true)), (11, (vB false)), (8, (vB false)), (13, (vP t 0)), (14, (vB true)), (15, (vB false)), (12, (vB false))] ?_
    refine wc_seq' (subc (bodyOf Try.prog 13) [1, 1, 0]) (subc (bodyOf Try.prog 13) [1, 1, 1]) (by kernel_rfl) ?_
    obtain ⟨b661, eb662⟩ : ∃ zq, zq = hh653.size := ⟨_, rfl⟩
    obtain ⟨h659, e660⟩ : ∃ zq, zq = hh653.push (.cells #[(vI 0)] 3 (0, 0)) := ⟨_, rfl⟩
    have f663 := push_new e660
    rw [← eb662] at f663
    have x665 : Ext hh653 h659 := by rw [e660]; exact Ext.push _ _
    have o666 : h.size ≤ b661 := by have := x657.size; omega
    have f667 := x665 _ _ f656
    have x668 := x657.trans x665
    obtain ⟨_, hh669, sn670, rfl, x671⟩ := upto_ok h659 (hT'.keep fun b r _ q => x668 b r q) hm
    have f672 := x671 _ _ f667
    have f673 := x671 _ _ f663
    have x674 := x668.trans x671
    have ux671 := upM_range hm 7
    obtain ⟨h675, e676⟩ : ∃ zq, zq = hh669.setIfInBounds b661 (.cells #[(vI (max (m.frm) (upM m 7)))] 3 (0, 0)) := ⟨_, rfl⟩
    have f677 := set_same e676 f673
    have x680 := Ext.setNew x674 e676 o666
    refine wc_ev [evC 5 3 1 agg3 f656, evA 5 7 eb662 e660, evF 5 5 sn670, evC 99 0 1 agg3 f672, evV 5 6 (vI (max (m.frm) (upM m 7))) (show (vI (max (m.frm) (upM m 7))) = (vI (if (upM m 7) > (m.frm) then (upM m 7) else (m.frm))) from by rw [max_ite]), evT 5 8 0 size3 f673 e676] .normal h675 [(16, (vP t 0)), (17, (vP t 0)), (18, (vP t 1)), (19, (vI m.frm)), (20, (vP t 0)), (4, (vP b661 0)), (21, (vI (upM m 7))), (22, (vI (max (m.frm) (upM m 7))))] ?_
    refine wc_seq' (subc (bodyOf Try.prog 13) [1, 1, 1, 0]) (subc (bodyOf Try.prog 13) [1, 1, 1, 1]) (by kernel_rfl) ?_
    obtain ⟨b683, eb684⟩ : ∃ zq, zq = h675.size := ⟨_, rfl⟩
    obtain ⟨h681, e682⟩ : ∃ zq, zq = h675.push (.cells #[(Value.slice none 0 0)] 34 (0, 0)) := ⟨_, rfl⟩
    have f685 := push_new e682
    rw [← eb684] at f685
    have x688 : Ext h675 h681 := by rw [e682]; exact Ext.push _ _
    have o689 : h.size ≤ b683 := by have := x680.size; omega
    have f691 := x688 _ _ f677
    have x692 := x680.trans x688
    refine wc_ev [evA 6 0 eb684 e682] .normal h681 [(5, (vP b683 0))] ?_
    refine wc_seq' (subc (bodyOf Try.prog 13) [1, 1, 1, 1, 0]) (subc (bodyOf Try.prog 13) [1, 1, 1, 1, 1]) (by kernel_rfl) ?_
    refine wc_seq' (subc (bodyOf Try.prog 13) [1, 1, 1, 1, 0, 0]) (subc (bodyOf Try.prog 13) [1, 1, 1, 1, 0, 1]) (by kernel_rfl) ?_
    obtain ⟨_, h694, s695, b693, rfl, f696, x697, o698⟩ := entries_fn h681 t
    have n701 : b693 ≠ b683 := by have := row_lt f685; omega
    have oo698 : h.size ≤ b693 := by have := x692.size; omega
    have f703 := x697 _ _ f691
    have f704 := x697 _ _ f685
    have x705 := x692.trans x697
    refine wc_ev [evF 7 1 s695] .normal h694 [(23, (vP t 0)), (24, (Value.func (.func 46) #[] #[(vP b693 0)]))] ?_
    refine wc_block' 1 (subc (bodyOf Try.prog 13) [1, 1, 1, 1, 0, 1, 0]) (by kernel_rfl) ?_
    refine wc_act { tmps := #[(vP t 0), vZ, (vL none 0 0), (vI 0), (vP b661 0), (vP b683 0), vZ, vZ, (vB false), (vP t 0), (vB true), (vB false), (vB false), (vP t 0), (vB true), (vB false), (vP t 0), (vP t 0), (vP t 1), (vI m.frm), (vP t 0), (vI (upM m 7)), (vI (max (m.frm) (upM m 7))), (vP t 0), (Value.func (.func 46) #[] #[(vP b693 0)]), vZ, vZ, vZ, vZ, vZ, vZ, vZ, vZ, vZ, vZ, vZ, vZ, vZ, vZ, vZ, vZ, vZ, vZ, vZ, vZ, vZ, vZ, vZ, vZ, vZ, vZ, vZ, vZ, vZ, vZ, vZ, vZ, vZ, vZ, vZ, vZ, vZ, vZ, vZ, vZ, vZ, vZ, vZ, vZ, vZ, vZ, vZ, vZ, vZ, vZ, vZ, vZ, vZ, vZ, vZ, vZ, vZ, vZ, vZ], defers := [] } (by kernel_rfl) ?_
    obtain ⟨dv706, edv706⟩ : ∃ zq, zq = h694.size := ⟨_, rfl⟩
    obtain ⟨lp707, elp707⟩ : ∃ zq, zq = h694.size + 1 := ⟨_, rfl⟩
    obtain ⟨tm708, etm708⟩ : ∃ zq : Array Value, zq = #[(vP t 0), (Value.tuple #[]), (Value.slice none 0 0), (vI 0), (vP b661 0), (vP b683 0), (Value.tuple #[]), (Value.tuple #[]), (vB false), (vP t 0), (vB true), (vB false), (vB false), (vP t 0), (vB true), (vB false), (vP t 0), (vP t 0), (vP t 1), (vI (m.frm)), (vP t 0), (vI (upM m 7)), (vI (max (m.frm) (upM m 7))), (vP t 0), (Value.func (.func 46) #[] #[(vP b693 0)]), (Value.tuple #[]), (Value.tuple #[]), (Value.tuple #[]), (Value.tuple #[]), (Value.tuple #[]), (Value.tuple #[]), (Value.tuple #[]), (Value.tuple #[]), (Value.tuple #[]), (Value.tuple #[]), (Value.tuple #[]), (Value.tuple #[]), (Value.tuple #[]), (Value.tuple #[]), (Value.tuple #[]), (Value.tuple #[]), (Value.tuple #[]), (Value.tuple #[]), (Value.tuple #[]), (Value.tuple #[]), (Value.tuple #[]), (Value.tuple #[]), (Value.tuple #[]), (Value.tuple #[]), (Value.tuple #[]), (Value.tuple #[]), (Value.tuple #[]), (Value.tuple #[]), (Value.tuple #[]), (Value.tuple #[]), (Value.tuple #[]), (Value.tuple #[]), (Value.tuple #[]), (Value.tuple #[]), (Value.tuple #[]), (Value.tuple #[]), (Value.tuple #[]), (Value.tuple #[]), (Value.tuple #[]), (Value.tuple #[]), (Value.tuple #[]), (Value.tuple #[]), (Value.tuple #[]), (Value.tuple #[]), (Value.tuple #[]), (Value.tuple #[]), (Value.tuple #[]), (Value.tuple #[]), (Value.tuple #[]), (Value.tuple #[]), (Value.tuple #[]), (Value.tuple #[]), (Value.tuple #[]), (Value.tuple #[]), (Value.tuple #[]), (Value.tuple #[]), (Value.tuple #[]), (Value.tuple #[]), (Value.tuple #[])] := ⟨_, rfl⟩
    obtain ⟨L709, eL709⟩ : ∃ zq : Loop, zq = { state := .ready, pending := none, fn := 0, tmps := tm708, params := #[25], assign := (subc (bodyOf Try.prog 13) [1, 1, 1, 1, 0, 1, 0, 0]), body := (subc (bodyOf Try.prog 13) [1, 1, 1, 1, 0, 1, 0, 1]), defers := dv706 } := ⟨_, rfl⟩
    have hs711 : L709.state = .ready := by rw [eL709]
    have hp712 : L709.pending = none := by rw [eL709]
    obtain ⟨h710, eh710⟩ : ∃ zq, zq = (h694.push (.deferred (some []))).push (.loop L709) := ⟨_, rfl⟩
    have x713 : Ext h694 h710 := by rw [eh710]; exact (Ext.push _ _).trans (Ext.push _ _)
    have p714 : At h710 lp707 (.loop L709) := by rw [eh710, elp707, show h694.size + 1 = (h694.push (.deferred (some []))).size by simp]; exact push_new rfl
    have p715 : At h710 dv706 (.deferred (some [])) := by rw [eh710, edv706]; exact push_old (b := h694.size) rfl (push_new rfl)
    have sh710 : lp707 < h710.size := p714.blk_lt rfl
    have z722 : h.size ≤ h694.size := x705.size
    have f724 := x713 _ _ f703
    have f725 := x713 _ _ f704
    have f726 := x713 _ _ f696
    have x727 := x705.trans x713
    have z728 : h.size ≤ h710.size := x727.size
    obtain ⟨D720, eD721⟩ : ∃ zq : Nat → Prop, zq = (fun (best : List EntM) (oa : Option Addr) (oc : Nat) => (fun b => b = lp707 ∨ b = b683 ∨ (blk (Value.slice oa (best.length) (oc))) b ∨ False)) ([]) (none) (0) := ⟨_, rfl⟩
    have hD729 : ∀ b, D720 b → h.size ≤ b := by
      rw [eD721]; rintro b (w | w | w | w)
      · have w1 : b = lp707 := w; omega
      · have w1 : b = b683 := w; have := o689; omega
      · exact w.elim
      · exact w.elim
    have hd730 : ¬ D720 dv706 := by
      rw [eD721]; rintro (w | w | w | w)
      · have w1 : dv706 = lp707 := w; omega
      · have w1 : dv706 = b683 := w; have := row_lt f704; omega
      · exact w.elim
      · exact w.elim
    obtain ⟨I717, eI716⟩ : ∃ zq : Nat → (Nat → Prop) → Heap → Prop, zq = fun (kk : Nat) (Dv : Nat → Prop) (h' : Heap) => ∃ (best : List EntM), ∃ (oa : Option Addr), ∃ (oc : Nat), Dv = (fun b => b = lp707 ∨ b = b683 ∨ (blk (Value.slice oa (best.length) (oc))) b ∨ False) ∧ At h' lp707 (.loop L709) ∧ Chg D720 h710 h' ∧ (∀ z, Dv z → D720 z ∨ h710.size ≤ z) ∧ h'[b661]? = some (.cells #[(vI (max (m.frm) (upM m 7)))] 3 (0, 0)) ∧ h'[b683]? = some (.cells #[(Value.slice oa (best.length) (oc))] 34 (0, 0)) ∧ best = grid (begM m) ((entM m 7).take kk) (lenOf (begM m) ((entM m 7).take kk)) ∧ OwnAt h' 38 entc best (Value.slice oa (best.length) (oc)) := ⟨_, rfl⟩
    obtain ⟨E718, eE719⟩ : ∃ zq : Heap → Prop, zq = fun _ => False := ⟨_, rfl⟩
    have hX738 : ∀ k D h' h'', I717 k D h' → Ext h' h'' → I717 k D h'' := by
      rw [eI716]
      rintro k _ h' h'' ⟨best, oa, oc, rfl, p735, c736, d737, f731, f732, i733, p734⟩ xx
      exact ⟨best, oa, oc, rfl, xx _ _ p735, c736.trans (Chg.ext xx), d737, xx _ _ f731, xx _ _ f732, i733, p734.keep fun b r _ q => xx b r q⟩
    have hy739 : ∀ k y D h', (entM m 7)[k]? = some y → I717 k D h' → ∃ b h'' D', SoundYield Try.prog lp707 #[(Value.agg #[(vI (y.slot)), (vI (y.rd)), (vI (y.nd)), (vS y.val)])] h' (.bool b) h'' ∧ Chg D h' h'' ∧ (∀ z, D' z → D z ∨ h'.size ≤ z) ∧ (if b = true then I717 (k + 1) D' h'' else E718 h'') := by
      rw [eI716]
      rintro k y _ hr hk ⟨best, oa, oc, rfl, p735, c736, d737, f731, f732, i733, p734⟩
      obtain ⟨Dc, eDc⟩ : ∃ zq : Nat → Prop, zq = (fun b => b = lp707 ∨ b = b683 ∨ (blk (Value.slice oa (best.length) (oc))) b ∨ False) := ⟨_, rfl⟩
      rw [← eDc] at d737
      rw [← eI716]
      rw [← eDc]
      have yb := ent_bound hm hk
      have lb1 := lenOf_bound hm k
      have bl : best.length = lenOf (begM m) ((entM m 7).take k) := (congrArg List.length i733).trans (grid_len _ _ _)
      suffices hw : ∃ b h'', SoundYield Try.prog lp707 #[(Value.agg #[(vI (y.slot)), (vI (y.rd)), (vI (y.nd)), (vS y.val)])] hr (.bool b) h'' ∧ (fun b h'' => ∃ D', Chg Dc hr h'' ∧ (∀ z, D' z → Dc z ∨ hr.size ≤ z) ∧ (if b = true then I717 (k + 1) D' h'' else E718 h'')) b h'' from by
        obtain ⟨b, h'', q1, D', q2, q3, q4⟩ := hw
        exact ⟨b, h'', D', q1, q2, q3, q4⟩
      refine w_round (args := #[(Value.agg #[(vI (y.slot)), (vI (y.rd)), (vI (y.nd)), (vS y.val)])]) (K := (fun b h'' => ∃ D', Chg Dc hr h'' ∧ (∀ z, D' z → Dc z ∨ hr.size ≤ z) ∧ (if b = true then I717 (k + 1) D' h'' else E718 h''))) p735 hs711 (by rw [eL709]; rfl) { tmps := #[(vP t 0), (Value.tuple #[]), (Value.slice none 0 0), (vI 0), (vP b661 0), (vP b683 0), (Value.tuple #[]), (Value.tuple #[]), (vB false), (vP t 0), (vB true), (vB false), (vB false), (vP t 0), (vB true), (vB false), (vP t 0), (vP t 0), (vP t 1), (vI (m.frm)), (vP t 0), (vI (upM m 7)), (vI (max (m.frm) (upM m 7))), (vP t 0), (Value.func (.func 46) #[] #[(vP b693 0)]), (Value.agg #[(vI (y.slot)), (vI (y.rd)), (vI (y.nd)), (vS y.val)]), (Value.tuple #[]), (Value.tuple #[]), (Value.tuple #[]), (Value.tuple #[]), (Value.tuple #[]), (Value.tuple #[]), (Value.tuple #[]), (Value.tuple #[]), (Value.tuple #[]), (Value.tuple #[]), (Value.tuple #[]), (Value.tuple #[]), (Value.tuple #[]), (Value.tuple #[]), (Value.tuple #[]), (Value.tuple #[]), (Value.tuple #[]), (Value.tuple #[]), (Value.tuple #[]), (Value.tuple #[]), (Value.tuple #[]), (Value.tuple #[]), (Value.tuple #[]), (Value.tuple #[]), (Value.tuple #[]), (Value.tuple #[]), (Value.tuple #[]), (Value.tuple #[]), (Value.tuple #[]), (Value.tuple #[]), (Value.tuple #[]), (Value.tuple #[]), (Value.tuple #[]), (Value.tuple #[]), (Value.tuple #[]), (Value.tuple #[]), (Value.tuple #[]), (Value.tuple #[]), (Value.tuple #[]), (Value.tuple #[]), (Value.tuple #[]), (Value.tuple #[]), (Value.tuple #[]), (Value.tuple #[]), (Value.tuple #[]), (Value.tuple #[]), (Value.tuple #[]), (Value.tuple #[]), (Value.tuple #[]), (Value.tuple #[]), (Value.tuple #[]), (Value.tuple #[]), (Value.tuple #[]), (Value.tuple #[]), (Value.tuple #[]), (Value.tuple #[]), (Value.tuple #[]), (Value.tuple #[])], defers := [] } (by rw [eL709, etm708]; kernel_rfl) (subc (bodyOf Try.prog 13) [1, 1, 1, 1, 0, 1, 0, 0]) (subc (bodyOf Try.prog 13) [1, 1, 1, 1, 0, 1, 0, 1]) (by rw [eL709]) (by rw [eL709]) ?_
      obtain ⟨b742, eb743⟩ : ∃ zq, zq = hr.size := ⟨_, rfl⟩
      obtain ⟨h740, e741⟩ : ∃ zq, zq = hr.push (.cells #[(vI 0), (vI 0), (vI 0), (vS .empty)] 38 (0, 0)) := ⟨_, rfl⟩
      have f744 := push_new e741
      rw [← eb743] at f744
      have n745 : b742 ≠ b661 := by have := row_lt f731; omega
      have n746 : b742 ≠ b683 := by have := row_lt f732; omega
      have n747 : ∀ zz, (blk (Value.slice oa (best.length) (oc))) zz → ¬ zz = b742 := fun zz hz ez => by have := p734.blk_lt hz; omega
      have n748 : ∀ zz, (fun q => q = lp707) zz → ¬ zz = b742 := fun zz hz ez => by have := p735.blk_lt hz; omega
      have x749 : Ext hr h740 := by rw [e741]; exact Ext.push _ _
      have o750 : hr.size ≤ b742 := by have := (Chg.refl (O := Dc) hr).size; omega
      have f751 := x749 _ _ f731
      have f752 := x749 _ _ f732
      have p753 := p734.keep fun b r _ q => x749 b r q
      have p754 := p735.keep fun b r _ q => x749 b r q
      have x755 := (Chg.refl (O := Dc) hr).trans (Chg.ext x749)
      obtain ⟨h756, e757⟩ : ∃ zq, zq = h740.setIfInBounds b742 (.cells #[(vI (y.slot)), (vI (y.rd)), (vI (y.nd)), (vS y.val)] 38 (0, 0)) := ⟨_, rfl⟩
      have f758 := set_same e757 f744
      have f759 := set_other e757 f751 n745
      have f760 := set_other e757 f752 n746
      have p762 := p753.keep fun b r hb q => (Chg.set e757).same b r q (n747 b hb)
      have p763 := p754.keep fun b r hb q => (Chg.set e757).same b r q (n748 b hb)
      have x764 := x755.then (Chg.set e757) (fun b hb => by subst hb; exact (.inr o750))
      refine wc_ev [evA 8 0 eb743 e741, evUw 8 1 size38 f744 e757] .normal h756 [(6, (vP b742 0))] ?_
      refine ⟨rfl, L709, p763, hs711, ?_⟩
      obtain ⟨h765, e766⟩ : ∃ zq, zq = h756.setIfInBounds lp707 (.loop { L709 with state := .busy }) := ⟨_, rfl⟩
      have p767 : At h765 lp707 (.loop { L709 with state := .busy }) := set_same e766 p763
      have f768 := set_other e766 f759 (loop_ne p763 f759 rfl)
      have f769 := set_other e766 f760 (loop_ne p763 f760 rfl)
      have f770 := set_other e766 f758 (loop_ne p763 f758 rfl)
      have p771 := p762.keep fun b r hb q => (Chg.set e766).same b r q ((fun b hb hb2 => (p762).celled.loop p763 b hb hb2) b hb)
      have x772 := x764.then (Chg.set e766) (fun b hb => .inl ((fun b hb => by rw [eDc]; exact .inl hb) b hb))
      rw [← e766]
      refine wc_block' 2 (subc (bodyOf Try.prog 13) [1, 1, 1, 1, 0, 1, 0, 1, 0]) (by kernel_rfl) ?_
      refine wc_seq' (subc (bodyOf Try.prog 13) [1, 1, 1, 1, 0, 1, 0, 1, 0, 0]) (subc (bodyOf Try.prog 13) [1, 1, 1, 1, 0, 1, 0, 1, 0, 1]) (by kernel_rfl) ?_
      refine wc_block' 3 (subc (bodyOf Try.prog 13) [1, 1, 1, 1, 0, 1, 0, 1, 0, 0, 0]) (by kernel_rfl) ?_
      refine wc_loop' (subc (bodyOf Try.prog 13) [1, 1, 1, 1, 0, 1, 0, 1, 0, 0, 0, 0]) (by kernel_rfl) (fun n' a' h' => ∃ (best2 : List EntM) (oa2 : Option Addr) (oc2 : Nat) (g0 : Nat → Value), a' = { tmps := #[(vP t 0), vZ, (vL none 0 0), (vI 0), (vP b661 0), (vP b683 0), (vP b742 0), vZ, (vB false), (vP t 0), (vB true), (vB false), (vB false), (vP t 0), (vB true), (vB false), (vP t 0), (vP t 0), (vP t 1), (vI m.frm), (vP t 0), (vI (upM m 7)), (vI (max (m.frm) (upM m 7))), (vP t 0), (Value.func (.func 46) #[] #[(vP b693 0)]), (vA #[(vI y.slot), (vI y.rd), (vI y.nd), (vS y.val)]), (g0 26), (g0 27), (g0 28), (g0 29), (g0 30), (g0 31), (g0 32), (g0 33), (g0 34), (g0 35), (g0 36), vZ, vZ, vZ, vZ, vZ, vZ, vZ, vZ, vZ, vZ, vZ, vZ, vZ, vZ, vZ, vZ, vZ, vZ, vZ, vZ, vZ, vZ, vZ, vZ, vZ, vZ, vZ, vZ, vZ, vZ, vZ, vZ, vZ, vZ, vZ, vZ, vZ, vZ, vZ, vZ, vZ, vZ, vZ, vZ, vZ, vZ, vZ], defers := [] } ∧ Chg Dc hr h' ∧ n' = (y.slot - begM m + 1 - best2.length).toNat ∧ h'[b661]? = some (.cells #[(vI (max (m.frm) (upM m 7)))] 3 (0, 0)) ∧ h'[b742]? = some (.cells #[(vI y.slot), (vI y.rd), (vI y.nd), (vS y.val)] 38 (0, 0)) ∧ h'[b683]? = some (.cells #[(vL oa2 best2.length oc2)] 34 (0, 0)) ∧ best2 = grid (begM m) ((entM m 7).take k) best2.length ∧ lenOf (begM m) ((entM m 7).take k) ≤ best2.length ∧ (best2.length = lenOf (begM m) ((entM m 7).take k) ∨ (best2.length : Int) ≤ y.slot - begM m + 1) ∧ (∀ zz, blk (vL oa2 best2.length oc2) zz → Dc zz ∨ hr.size ≤ zz) ∧ (∀ zz, blk (vL oa2 best2.length oc2) zz → ¬ zz = b742) ∧ OwnAt h' 38 entc best2 (vL oa2 best2.length oc2) ∧ At h' lp707 (.loop { L709 with state := .busy })) ?_ ((y.slot - begM m + 1 - best.length).toNat) ⟨best, oa, oc, (fun i => ([vU, vU, vU, vU, vU, vU, vU, vU, vU, vU, vU, vU, vU, vU, vU, vU, vU, vU, vU, vU, vU, vU, vU, vU, vU, vU, vZ, vZ, vZ, vZ, vZ, vZ, vZ, vZ, vZ, vZ, vZ] : List Value).getD i undef), by as_aux_lemma => kernel_rfl, x772, rfl, f768, f770, f769, by rw [bl]; exact i733, by omega, .inl bl, fun zz hz => .inl ((show ∀ b, (blk (vL oa best.length oc)) b → Dc b from fun b hb => by rw [eDc]; exact .inr (.inr (.inl hb))) zz hz), n747, p771, p767⟩
      rintro n' _ h774 ⟨best2, oa2, oc2, g0, rfl, x786, m785, f775, f776, i777, i778, i779, i780, i781, i782, p783, p784⟩
      by_cases c787 : (((best2.length : Nat)) : Int) ≤ ((y.slot) - (max (m.frm) (upM m 7)))
      · obtain ⟨b790, eb791⟩ : ∃ zq, zq = h774.size := ⟨_, rfl⟩
        obtain ⟨h788, e789⟩ : ∃ zq, zq = h774.push (.cells #[(vI 0), (vI 0), (vI 0), (vS .empty)] 38 (0, 0)) := ⟨_, rfl⟩
        have f792 := push_new e789
        rw [← eb791] at f792
        have x798 : Ext h774 h788 := by rw [e789]; exact Ext.push _ _
        have o799 : hr.size ≤ b790 := by have := x786.size; omega
        have f800 := x798 _ _ f775
        have f801 := x798 _ _ f776
        have f802 := x798 _ _ i777
        have p803 := p783.keep fun b r _ q => x798 b r q
        have p804 := p784.keep fun b r _ q => x798 b r q
        have x805 := x786.trans (Chg.ext x798)
        obtain ⟨w806, h807, e808, p809, c810, n811, z812⟩ := own_append und34 sizeb38 zero38 rfl (by decide) entc_size (x := (EntM.mk 0 0 0 .empty)) p803 f792 rfl (by omega) (by unfold maxLen; omega)
        obtain ⟨a813, c814, rfl⟩ := (p809.slice entc_size).len
        have z815 : hr.size ≤ h788.size := x805.size
        have x816 := x805.then c810 i781
        have f817 := c810.same _ _ f800 (fun hb => p803.ne f800 (by decide) hb rfl)
        have f818 := c810.same _ _ f801 (fun hb => i782 _ hb rfl)
        have f819 := c810.same _ _ f802 (fun hb => p803.ne f802 (by decide) hb rfl)
        have p821 := p804.keep fun b r hb q => c810.same b r q ((fun b hb hb2 => (p803).celled.loop p804 b hb2 hb) b hb)
        have n824 : ∀ zz, blk (Value.slice a813 ((best2 ++ [(EntM.mk 0 0 0 .empty)]).length) (c814)) zz → ¬ zz = b742 := fun zz hz ez => by have := n811 zz hz; have := row_lt f801; omega
        have n825 : ∀ zz, blk (Value.slice a813 ((best2 ++ [(EntM.mk 0 0 0 .empty)]).length) (c814)) zz → ¬ zz = b683 := fun zz hz ez => by have := n811 zz hz; have := row_lt f802; omega
        have o828 : ∀ zz, blk (Value.slice a813 ((best2 ++ [(EntM.mk 0 0 0 .empty)]).length) (c814)) zz → hr.size ≤ zz := fun zz hz => by have := n811 zz hz; have := z815; omega
        obtain ⟨h829, e830⟩ : ∃ zq, zq = h807.setIfInBounds b683 (.cells #[(Value.slice a813 ((best2 ++ [(EntM.mk 0 0 0 .empty)]).length) (c814))] 34 (0, 0)) := ⟨_, rfl⟩
        have f831 := set_same e830 f819
        have f832 := set_other e830 f817 (row_ne f819 f817 (by decide))
        have f833 := set_other e830 f818 n746.symm
        have p836 := p821.keep fun b r hb q => (Chg.set e830).same b r q ((fun (b : Nat) hb => loop_ne p821 f819 hb) b hb)
        have p837 := p809.keep fun b r hb q => (Chg.set e830).same b r q (n825 b hb)
        have x838 := x816.then (Chg.set e830) (fun b hb => by subst hb; exact (.inl (by rw [eDc]; exact .inr (.inl rfl))))
        refine wc_ev [evC 9 1 0 agg3 f776, evC 9 2 0 agg3 f775, evV 9 3 (vI ((y.slot) - (max (m.frm) (upM m 7)))) (show binA Try.prog .sub 3 (vI y.slot) (vI (max (m.frm) (upM m 7))) = some (vI ((y.slot) - (max (m.frm) (upM m 7)))) from sub_i64 (by omega) (by omega)), evC 9 4 0 agg34 i777, geT 9 6 3 c787, evC 10 0 0 agg34 i777, evS 10 2 1 eb791 e789, evP 10 3 e808, evT 10 4 0 size34 f819 e830] .normal h829 [(26, (vP b742 0)), (27, (vI y.slot)), (28, (vI (max (m.frm) (upM m 7)))), (29, (vI ((y.slot) - (max (m.frm) (upM m 7))))), (30, (vL oa2 best2.length oc2)), (31, (vI ((best2.length : Nat)))), (32, (vB true)), (33, (vL oa2 best2.length oc2)), (34, (vA #[(vI 0), (vI 0), (vI 0), (vS .empty)])), (35, (vL (some ⟨b790, 0, none⟩) 1 1)), (36, (Value.slice a813 ((best2 ++ [(EntM.mk 0 0 0 .empty)]).length) (c814)))] ?_
        exact ⟨_, (by simp only [List.length_append, List.length_singleton]; omega), ⟨(best2 ++ [(EntM.mk 0 0 0 .empty)]), a813, c814, (fun i => ([vU, vU, vU, vU, vU, vU, vU, vU, vU, vU, vU, vU, vU, vU, vU, vU, vU, vU, vU, vU, vU, vU, vU, vU, vU, vU, (vP b742 0), (vI y.slot), (vI (max (m.frm) (upM m 7))), (vI ((y.slot) - (max (m.frm) (upM m 7)))), (vL oa2 best2.length oc2), (vI ((best2.length : Nat))), (vB true), (vL oa2 best2.length oc2), (vA #[(vI 0), (vI 0), (vI 0), (vS .empty)]), (vL (some ⟨b790, 0, none⟩) 1 1), (Value.slice a813 ((best2 ++ [(EntM.mk 0 0 0 .empty)]).length) (c814))] : List Value).getD i undef), by as_aux_lemma => kernel_rfl, x838, rfl, f832, f833, f831, by rw [List.length_append, List.length_singleton, ← grid_more (by omega), ← i778]; rfl, by simp; omega, by simp; omega, fun zz hz => .inr (o828 zz hz), n824, p837, p836⟩⟩
      · refine wc_ev [evC 9 1 0 agg3 f776, evC 9 2 0 agg3 f775, evV 9 3 (vI ((y.slot) - (max (m.frm) (upM m 7)))) (show binA Try.prog .sub 3 (vI y.slot) (vI (max (m.frm) (upM m 7))) = some (vI ((y.slot) - (max (m.frm) (upM m 7)))) from sub_i64 (by omega) (by omega)), evC 9 4 0 agg34 i777, geF 9 6 3 c787] (.exit 3) h774 [(26, (vP b742 0)), (27, (vI y.slot)), (28, (vI (max (m.frm) (upM m 7)))), (29, (vI ((y.slot) - (max (m.frm) (upM m 7))))), (30, (vL oa2 best2.length oc2)), (31, (vI ((best2.length : Nat)))), (32, (vB false))] ?_
        by_cases c839 : ((max (m.frm) (upM m 7)) : Int) ≤ (y.slot)
        · obtain ⟨i840, v841, e842, l843, g844⟩ := list_at best2 (e := ((y.slot) - (max (m.frm) (upM m 7)))) (by omega) (by first | omega | (simp only [List.length_set, List.length_append, List.length_singleton]; omega))
          obtain ⟨b845, o846, q848, a849, k847, u850⟩ := p783.store entc_size g844
          obtain ⟨_, hh851, sn852, rfl, x853⟩ := order_ok h774 (y.rd) (y.nd) (v841.rd) (v841.nd)
          have f854 := x853 _ _ f775
          have f855 := x853 _ _ f776
          have f856 := x853 _ _ i777
          have p857 := p783.keep fun b r _ q => x853 b r q
          have p858 := p784.keep fun b r _ q => x853 b r q
          have x860 := x786.trans (Chg.ext x853)
          by_cases c861 : (0 : Int) < (ordB (y.rd) (y.nd) (v841.rd) (v841.nd))
          · obtain ⟨b867, o868, q870, a871, k869, u872⟩ := p857.store entc_size g844
            obtain ⟨h873, e874, p875, c876, z877⟩ := u872 (j := 0) (y := y) (u := (Value.agg #[(vI (y.slot)), (vI (y.rd)), (vI (y.nd)), (vS y.val)])) size38 rfl rfl (by decide) (by kernel_rfl)
            have c878 : Chg (blk (Value.slice oa2 (best2.length) (oc2))) hh851 h873 := c876.weak fun q hq => by subst hq; exact q870
            have z879 : hr.size ≤ hh851.size := x860.size
            have x880 := x860.then c878 i781
            have f881 := c878.same _ _ f854 (fun hb => p857.ne f854 (by decide) hb rfl)
            have f883 := c878.same _ _ f856 (fun hb => p857.ne f856 (by decide) hb rfl)
            have p884 := p858.keep fun b r hb q => c878.same b r q ((fun b hb hb2 => (p857).celled.loop p858 b hb2 hb) b hb)
            refine wc_ev [evC 11 1 0 agg3 f776, evC 11 2 0 agg3 f775, geT 11 3 3 c839, evL 11 6 1 agg29 size29 f776, evC 11 7 0 agg34 i777, evC 11 9 0 agg3 f776, evC 11 10 0 agg3 f775, evV 11 11 (vI ((y.slot) - (max (m.frm) (upM m 7)))) (show binA Try.prog .sub 3 (vI y.slot) (vI (max (m.frm) (upM m 7))) = some (vI ((y.slot) - (max (m.frm) (upM m 7)))) from sub_i64 (by omega) (by omega)), evV 11 12 (vP b845 o846) (show indexAddrA Try.prog 34 (vL oa2 best2.length oc2) (vI ((y.slot) - (max (m.frm) (upM m 7)))) = some (vP b845 o846) from a849 und34 size38 e842), evV 11 14 (vA #[(vI v841.rd), (vI v841.nd)]) (show loadT Try.prog h774 29 (vP b845 (o846 + 1)) = some (vA #[(vI v841.rd), (vI v841.nd)]) from k847.agg (j := 1) agg29 size29 (show 1 + 2 ≤ 4 by decide) (by kernel_rfl)), evF 11 15 sn852, gtT 11 16 3 c861, evC 12 0 0 agg34 f856, evC 12 2 0 agg3 f855, evC 12 3 0 agg3 f854, evV 12 4 (vI ((y.slot) - (max (m.frm) (upM m 7)))) (show binA Try.prog .sub 3 (vI y.slot) (vI (max (m.frm) (upM m 7))) = some (vI ((y.slot) - (max (m.frm) (upM m 7)))) from sub_i64 (by omega) (by omega)), evLw 12 5 agg38 size38 f855, evV 12 6 (vP b867 o868) (show indexAddrA Try.prog 34 (vL oa2 best2.length oc2) (vI ((y.slot) - (max (m.frm) (upM m 7)))) = some (vP b867 o868) from a871 und34 size38 e842), evH 12 7 undef h873 (show (storeT Try.prog hh851 38 (vP b867 o868) (vA #[(vI y.slot), (vI y.rd), (vI y.nd), (vS y.val)]) = some h873 ∧ (undef : Value) = undef) from ⟨e874, rfl⟩)] .normal h873 [(37, (vP b742 0)), (38, (vI y.slot)), (39, (vI (max (m.frm) (upM m 7)))), (40, (vB true)), (41, (vB true)), (42, (vP b742 1)), (43, (vA #[(vI y.rd), (vI y.nd)])), (44, (vL oa2 best2.length oc2)), (45, (vP b742 0)), (46, (vI y.slot)), (47, (vI (max (m.frm) (upM m 7)))), (48, (vI ((y.slot) - (max (m.frm) (upM m 7))))), (49, (vP b845 o846)), (50, (vP b845 (o846 + 1))), (51, (vA #[(vI v841.rd), (vI v841.nd)])), (52, (vI (ordB (y.rd) (y.nd) (v841.rd) (v841.nd)))), (53, (vB true)), (54, (vB true)), (55, (vL oa2 best2.length oc2)), (56, (vP b742 0)), (57, (vI y.slot)), (58, (vI (max (m.frm) (upM m 7)))), (59, (vI ((y.slot) - (max (m.frm) (upM m 7))))), (60, (vA #[(vI y.slot), (vI y.rd), (vI y.nd), (vS y.val)])), (61, (vP b867 o868))] ?_
            refine ⟨_, p884, ?_⟩
            obtain ⟨h885, e886⟩ : ∃ zq, zq = h873.setIfInBounds lp707 (.loop { ({ L709 with state := .busy } : Loop) with state := .ready, pending := none }) := ⟨_, rfl⟩
            have p887 : At h885 lp707 (.loop { ({ L709 with state := .busy } : Loop) with state := .ready, pending := none }) := set_same e886 p884
            have f888 := set_other e886 f881 (loop_ne p884 f881 rfl)
            have f890 := set_other e886 f883 (loop_ne p884 f883 rfl)
            have p891 := p875.keep fun b r hb q => (Chg.set e886).same b r q ((fun b hb hb2 => (p875).celled.loop p884 b hb hb2) b hb)
            have x892 := x880.then (Chg.set e886) (fun b hb => .inl ((fun b hb => by rw [eDc]; exact .inl hb) b hb))
            have tn := take_next hk
            have bn : best2.length = lenOf (begM m) ((entM m 7).take (k + 1)) := by rw [tn, lenOf_add]; omega
            obtain ⟨ge, gj⟩ := grid_at (by rw [← i778]; exact g844)
            have es : (begM m) + (i840 : Int) = y.slot := by omega
            have gs := grid_set (bg := (begM m)) (E := ((entM m 7).take k)) (N := best2.length) (j := i840) (y := y) (by omega) (by rw [← ge]; assumption)
            rw [← i778, ← tn] at gs
            have dnew : ∀ z, ((fun (best : List EntM) (oa : Option Addr) (oc : Nat) => (fun b => b = lp707 ∨ b = b683 ∨ (blk (Value.slice oa (best.length) (oc))) b ∨ False)) ((best2.set i840 y)) (oa2) (oc2)) z → Dc z ∨ hr.size ≤ z := by
              intro z hz; rcases hz with w | w | w | w
              · exact .inl (by rw [eDc]; exact .inl w)
              · exact .inl (by rw [eDc]; exact .inr (.inl w))
              · exact (by rw [List.length_set] at w; exact i781 z w)
              · exact w.elim
            refine (show ∃ D', Chg Dc hr (h885) ∧ (∀ z, D' z → Dc z ∨ hr.size ≤ z) ∧ (if true = true then I717 (k + 1) D' h885 else E718 h885) from ?_) |> (fun w => by rw [e886] at w; exact w)
            refine ⟨(fun (best : List EntM) (oa : Option Addr) (oc : Nat) => (fun b => b = lp707 ∨ b = b683 ∨ (blk (Value.slice oa (best.length) (oc))) b ∨ False)) ((best2.set i840 y)) (oa2) (oc2), x892, dnew, ?_⟩
            rw [if_pos rfl]
            rw [eI716]
            exact ⟨(best2.set i840 y), oa2, oc2, rfl, (by have q := p887; rw [loop_back hs711 hp712] at q; exact q), c736.then (x892) d737, fun z hz => (dnew z hz).elim (d737 z) (fun w => .inr (by have := c736.size; omega)), f888, (by rw [List.length_set]; exact f890), (by rw [← bn]; exact gs), (by rw [List.length_set]; exact p891)⟩
          · refine wc_ev [evC 11 1 0 agg3 f776, evC 11 2 0 agg3 f775, geT 11 3 3 c839, evL 11 6 1 agg29 size29 f776, evC 11 7 0 agg34 i777, evC 11 9 0 agg3 f776, evC 11 10 0 agg3 f775, evV 11 11 (vI ((y.slot) - (max (m.frm) (upM m 7)))) (show binA Try.prog .sub 3 (vI y.slot) (vI (max (m.frm) (upM m 7))) = some (vI ((y.slot) - (max (m.frm) (upM m 7)))) from sub_i64 (by omega) (by omega)), evV 11 12 (vP b845 o846) (show indexAddrA Try.prog 34 (vL oa2 best2.length oc2) (vI ((y.slot) - (max (m.frm) (upM m 7)))) = some (vP b845 o846) from a849 und34 size38 e842), evV 11 14 (vA #[(vI v841.rd), (vI v841.nd)]) (show loadT Try.prog h774 29 (vP b845 (o846 + 1)) = some (vA #[(vI v841.rd), (vI v841.nd)]) from k847.agg (j := 1) agg29 size29 (show 1 + 2 ≤ 4 by decide) (by kernel_rfl)), evF 11 15 sn852, gtF 11 16 3 c861] .normal hh851 [(37, (vP b742 0)), (38, (vI y.slot)), (39, (vI (max (m.frm) (upM m 7)))), (40, (vB true)), (41, (vB true)), (42, (vP b742 1)), (43, (vA #[(vI y.rd), (vI y.nd)])), (44, (vL oa2 best2.length oc2)), (45, (vP b742 0)), (46, (vI y.slot)), (47, (vI (max (m.frm) (upM m 7)))), (48, (vI ((y.slot) - (max (m.frm) (upM m 7))))), (49, (vP b845 o846)), (50, (vP b845 (o846 + 1))), (51, (vA #[(vI v841.rd), (vI v841.nd)])), (52, (vI (ordB (y.rd) (y.nd) (v841.rd) (v841.nd)))), (53, (vB false)), (54, (vB false))] ?_
            refine ⟨_, p858, ?_⟩
            obtain ⟨h893, e894⟩ : ∃ zq, zq = hh851.setIfInBounds lp707 (.loop { ({ L709 with state := .busy } : Loop) with state := .ready, pending := none }) := ⟨_, rfl⟩
            have p895 : At h893 lp707 (.loop { ({ L709 with state := .busy } : Loop) with state := .ready, pending := none }) := set_same e894 p858
            have f896 := set_other e894 f854 (loop_ne p858 f854 rfl)
            have f898 := set_other e894 f856 (loop_ne p858 f856 rfl)
            have p899 := p857.keep fun b r hb q => (Chg.set e894).same b r q ((fun b hb hb2 => (p857).celled.loop p858 b hb hb2) b hb)
            have x900 := x860.then (Chg.set e894) (fun b hb => .inl ((fun b hb => by rw [eDc]; exact .inl hb) b hb))
            have tn := take_next hk
            have bn : best2.length = lenOf (begM m) ((entM m 7).take (k + 1)) := by rw [tn, lenOf_add]; omega
            obtain ⟨ge, gj⟩ := grid_at (by rw [← i778]; exact g844)
            have es : (begM m) + (i840 : Int) = y.slot := by omega
            have gs := grid_same (bg := (begM m)) (E := ((entM m 7).take k)) (N := best2.length) (y := y) (.inr (by rw [← es, ← ge]; assumption))
            rw [← i778, ← tn] at gs
            have dnew : ∀ z, ((fun (best : List EntM) (oa : Option Addr) (oc : Nat) => (fun b => b = lp707 ∨ b = b683 ∨ (blk (Value.slice oa (best.length) (oc))) b ∨ False)) (best2) (oa2) (oc2)) z → Dc z ∨ hr.size ≤ z := by
              intro z hz; rcases hz with w | w | w | w
              · exact .inl (by rw [eDc]; exact .inl w)
              · exact .inl (by rw [eDc]; exact .inr (.inl w))
              · exact i781 z w
              · exact w.elim
            refine (show ∃ D', Chg Dc hr (h893) ∧ (∀ z, D' z → Dc z ∨ hr.size ≤ z) ∧ (if true = true then I717 (k + 1) D' h893 else E718 h893) from ?_) |> (fun w => by rw [e894] at w; exact w)
            refine ⟨(fun (best : List EntM) (oa : Option Addr) (oc : Nat) => (fun b => b = lp707 ∨ b = b683 ∨ (blk (Value.slice oa (best.length) (oc))) b ∨ False)) (best2) (oa2) (oc2), x900, dnew, ?_⟩
            rw [if_pos rfl]
            rw [eI716]
            exact ⟨best2, oa2, oc2, rfl, (by have q := p895; rw [loop_back hs711 hp712] at q; exact q), c736.then (x900) d737, fun z hz => (dnew z hz).elim (d737 z) (fun w => .inr (by have := c736.size; omega)), f896, f898, (by rw [← bn]; exact gs), p899⟩
        · refine wc_ev [evC 11 1 0 agg3 f776, evC 11 2 0 agg3 f775, geF 11 3 3 c839] .normal h774 [(37, (vP b742 0)), (38, (vI y.slot)), (39, (vI (max (m.frm) (upM m 7)))), (40, (vB false)), (41, (vB false)), (42, vZ), (43, vZ), (44, vZ), (45, vZ), (46, vZ), (47, vZ), (48, vZ), (49, vZ), (50, vZ), (51, vZ), (52, vZ), (53, vZ), (54, (vB false))] ?_
          refine ⟨_, p784, ?_⟩
          obtain ⟨h901, e902⟩ : ∃ zq, zq = h774.setIfInBounds lp707 (.loop { ({ L709 with state := .busy } : Loop) with state := .ready, pending := none }) := ⟨_, rfl⟩
          have p903 : At h901 lp707 (.loop { ({ L709 with state := .busy } : Loop) with state := .ready, pending := none }) := set_same e902 p784
          have f904 := set_other e902 f775 (loop_ne p784 f775 rfl)
          have f906 := set_other e902 i777 (loop_ne p784 i777 rfl)
          have p907 := p783.keep fun b r hb q => (Chg.set e902).same b r q ((fun b hb hb2 => (p783).celled.loop p784 b hb hb2) b hb)
          have x908 := x786.then (Chg.set e902) (fun b hb => .inl ((fun b hb => by rw [eDc]; exact .inl hb) b hb))
          have tn := take_next hk
          have bn : best2.length = lenOf (begM m) ((entM m 7).take (k + 1)) := by rw [tn, lenOf_add]; omega
          have gs := grid_same (bg := (begM m)) (E := ((entM m 7).take k)) (N := best2.length) (y := y) (.inl (by omega))
          rw [← i778, ← tn] at gs
          have dnew : ∀ z, ((fun (best : List EntM) (oa : Option Addr) (oc : Nat) => (fun b => b = lp707 ∨ b = b683 ∨ (blk (Value.slice oa (best.length) (oc))) b ∨ False)) (best2) (oa2) (oc2)) z → Dc z ∨ hr.size ≤ z := by
            intro z hz; rcases hz with w | w | w | w
            · exact .inl (by rw [eDc]; exact .inl w)
            · exact .inl (by rw [eDc]; exact .inr (.inl w))
            · exact i781 z w
            · exact w.elim
          refine (show ∃ D', Chg Dc hr (h901) ∧ (∀ z, D' z → Dc z ∨ hr.size ≤ z) ∧ (if true = true then I717 (k + 1) D' h901 else E718 h901) from ?_) |> (fun w => by rw [e902] at w; exact w)
          refine ⟨(fun (best : List EntM) (oa : Option Addr) (oc : Nat) => (fun b => b = lp707 ∨ b = b683 ∨ (blk (Value.slice oa (best.length) (oc))) b ∨ False)) (best2) (oa2) (oc2), x908, dnew, ?_⟩
          rw [if_pos rfl]
          rw [eI716]
          exact ⟨best2, oa2, oc2, rfl, (by have q := p903; rw [loop_back hs711 hp712] at q; exact q), c736.then (x908) d737, fun z hz => (dnew z hz).elim (d737 z) (fun w => .inr (by have := c736.size; omega)), f904, f906, (by rw [← bn]; exact gs), p907⟩
    have h0909 : I717 0 D720 h710 := by rw [eI716]; exact ⟨[], none, 0, eD721, p714, Chg.refl h710, fun z hz => .inl hz, f724, f725, rfl, .inl ⟨rfl, rfl⟩⟩
    refine wc_range_any (h1 := h710) (c := (subc (bodyOf Try.prog 13) [1, 1, 1, 1, 0, 1, 0])) (g := .tmp 24) (params := #[25]) (assign := (subc (bodyOf Try.prog 13) [1, 1, 1, 1, 0, 1, 0, 0])) (body := (subc (bodyOf Try.prog 13) [1, 1, 1, 1, 0, 1, 0, 1])) (by kernel_rfl) 46 #[] #[(vP b693 0)] lp707 [{ target := .collected dv706, args := #[] }] #[(Value.func (.yield lp707) #[] #[]), (vP b693 0)] (by rfl) rfl rfl (by kernel_rfl) (by rw [eh710, elp707, eL709, etm708, edv706]; rfl) ?_
    have hB : ¬ D720 b693 := by
      rw [eD721]; rintro (w | w | w | w)
      · have w1 : b693 = lp707 := w; have := row_lt f696; omega
      · exact n701 w
      · exact w.elim
      · exact w.elim
    refine (entries_it h710 (hT'.keep fun b r _ q => x727 b r q) hm b693 f726 lp707 I717 E718 D720 (fun b hb w => by have := hT'.blk_lt hb; have := hD729 b w; omega) hB hX738 hy739 h0909).mono fun _ h8 q => ?_
    obtain ⟨q0, q⟩ := q
    rcases q with ⟨Dv, q, qD⟩ | q
    · rw [eI716] at q
      obtain ⟨best, oa, oc, eDv, p914, cgN, hdN, f910, f911, i912, p913⟩ := q
      refine ⟨_, p914, ?_, leftBy_none hp712 ?_⟩
      · exact fun w => by rw [hs711] at w; cases w
      have p915 : At h8 dv706 (.deferred (some [])) := q0.same _ _ p715 hd730
      obtain ⟨h916, e917⟩ : ∃ zq, zq = h8.setIfInBounds lp707 (.loop { L709 with state := .exhausted }) := ⟨_, rfl⟩
      have f919 := set_other e917 f910 (loop_ne p914 f910 rfl)
      have f920 := set_other e917 f911 (loop_ne p914 f911 rfl)
      have p921 := p913.keep fun b r hb q => (Chg.set e917).same b r q ((fun b hb hb2 => (p913).celled.loop p914 b hb hb2) b hb)
      have p922 := p915.keep fun b r hb q => (Chg.set e917).same b r q ((fun b hb hb2 => (show ∀ b : Nat, b = lp707 → b = dv706 → False from fun b w1 w2 => by omega) b hb2 hb) b hb)
      rw [← e917]
      have c923 := q0.then (Chg.set e917) (fun b hb => .inl (by rw [eD721]; exact .inl hb))
      have x924 : Ext h h916 := (Chg.then (O := fun _ => False) (Chg.ext x727) c923 (fun b hb => .inr (hD729 b hb))).toExt'
      have nb : ∀ zz, blk (Value.slice oa (best.length) (oc)) zz → h.size ≤ zz := fun zz hz => (qD zz (by rw [eDv]; exact .inr (.inr (.inl hz)))).elim (hD729 zz) (fun g => by omega)
      have eb9 := i912
      rw [List.take_length] at eb9
      have bl9 : best.length = lenOf (begM m) (entM m 7) := by rw [eb9, grid_len]
      have lb9 := lenOf_bound hm (entM m 7).length
      rw [List.take_length] at lb9
      refine wc_seq' (subc (bodyOf Try.prog 13) [1, 1, 1, 1, 1, 0]) (subc (bodyOf Try.prog 13) [1, 1, 1, 1, 1, 1]) (by kernel_rfl) ?_
      refine wc_seq' (subc (bodyOf Try.prog 13) [1, 1, 1, 1, 1, 0, 0]) (subc (bodyOf Try.prog 13) [1, 1, 1, 1, 1, 0, 1]) (by kernel_rfl) ?_
      refine wc_ev [evC 13 0 0 agg34 f920] .normal h916 [(62, (vL oa best.length oc)), (63, (vI ((best.length : Nat)))), (64, (vI 0))] ?_
      refine wc_block' 5 (subc (bodyOf Try.prog 13) [1, 1, 1, 1, 1, 0, 1, 0]) (by kernel_rfl) ?_
      refine wc_loop' (subc (bodyOf Try.prog 13) [1, 1, 1, 1, 1, 0, 1, 0, 0]) (by kernel_rfl) (fun n' a' h' => ∃ (j : Int) (cur : List EntM) (g1 : Nat → Value), a' = { tmps := #[(vP t 0), vZ, (vL none 0 0), (vI 0), (vP b661 0), (vP b683 0), vZ, (g1 7), (vB false), (vP t 0), (vB true), (vB false), (vB false), (vP t 0), (vB true), (vB false), (vP t 0), (vP t 0), (vP t 1), (vI m.frm), (vP t 0), (vI (upM m 7)), (vI (max (m.frm) (upM m 7))), (vP t 0), (Value.func (.func 46) #[] #[(vP b693 0)]), vZ, vZ, vZ, vZ, vZ, vZ, vZ, vZ, vZ, vZ, vZ, vZ, vZ, vZ, vZ, vZ, vZ, vZ, vZ, vZ, vZ, vZ, vZ, vZ, vZ, vZ, vZ, vZ, vZ, vZ, vZ, vZ, vZ, vZ, vZ, vZ, vZ, (vL oa best.length oc), (vI ((best.length : Nat))), (vI j), (g1 65), (g1 66), (g1 67), (g1 68), (g1 69), (g1 70), (g1 71), (g1 72), (g1 73), (g1 74), (g1 75), (g1 76), (g1 77), (g1 78), (g1 79), (g1 80), (g1 81), (g1 82), vZ], defers := ([{ target := .collected dv706, args := #[] }] ++ []) } ∧ Ext h h' ∧ n' = best.length - j.toNat ∧ h'[b661]? = some (.cells #[(vI (max (m.frm) (upM m 7)))] 3 (0, 0)) ∧ h'[b683]? = some (.cells #[(vL oa best.length oc)] 34 (0, 0)) ∧ h'[t]? = some (.cells #[(vI m.n), (vI m.frm), (vI m.rd), (vI m.nd), (Value.slice (ra 0).1 ((m.ps 0).list.length) ((ra 0).2)), (vI ((m.ps 0).upto)), (vB (m.ps 0).made), (Value.slice (ra 1).1 ((m.ps 1).list.length) ((ra 1).2)), (vI ((m.ps 1).upto)), (vB (m.ps 1).made), (Value.slice (ra 2).1 ((m.ps 2).list.length) ((ra 2).2)), (vI ((m.ps 2).upto)), (vB (m.ps 2).made), (Value.slice (ra 3).1 ((m.ps 3).list.length) ((ra 3).2)), (vI ((m.ps 3).upto)), (vB (m.ps 3).made), (Value.slice (ra 4).1 ((m.ps 4).list.length) ((ra 4).2)), (vI ((m.ps 4).upto)), (vB (m.ps 4).made), (Value.slice (ra 5).1 ((m.ps 5).list.length) ((ra 5).2)), (vI ((m.ps 5).upto)), (vB (m.ps 5).made), (Value.slice (ra 6).1 ((m.ps 6).list.length) ((ra 6).2)), (vI ((m.ps 6).upto)), (vB (m.ps 6).made)] 69 (0, 0)) ∧ (0 ≤ j ∧ j ≤ best.length) ∧ cur = finL m j.toNat ∧ cur.length = best.length ∧ OwnAt h' 38 entc cur (vL oa best.length oc) ∧ At h' dv706 (.deferred (some []))) ?_ (best.length - (0 : Int).toNat) ⟨0, best, (fun i => ([vU, vU, vU, vU, vU, vU, vU, vZ, vU, vU, vU, vU, vU, vU, vU, vU, vU, vU, vU, vU, vU, vU, vU, vU, vU, vU, vU, vU, vU, vU, vU, vU, vU, vU, vU, vU, vU, vU, vU, vU, vU, vU, vU, vU, vU, vU, vU, vU, vU, vU, vU, vU, vU, vU, vU, vU, vU, vU, vU, vU, vU, vU, vU, vU, vU, vZ, vZ, vZ, vZ, vZ, vZ, vZ, vZ, vZ, vZ, vZ, vZ, vZ, vZ, vZ, vZ, vZ, vZ] : List Value).getD i undef), by as_aux_lemma => kernel_rfl, x924, rfl, f919, f920, (x924 _ _ hrow), by omega, by rw [show (0 : Int).toNat = 0 from rfl, finL_zero, ← eb9], rfl, p921, p922⟩
      rintro n' _ h926 ⟨j, cur, g1, rfl, x936, m935, f927, f928, f929, i930, i931, i932, p933, p934⟩
      by_cases c937 : ((j) : Int) < ((best.length : Nat))
      · obtain ⟨i938, v939, e940, l941, g942⟩ := list_at cur (e := (j)) (by omega) (by first | omega | (simp only [List.length_set, List.length_append, List.length_singleton]; omega))
        obtain ⟨b943, o944, q946, a947, k945, u948⟩ := p933.store entc_size g942
        obtain ⟨h949, e950, p951, c952, z953⟩ := u948 (j := 0) (y := (EntM.mk ((max (m.frm) (upM m 7)) + (j)) v939.rd v939.nd v939.val)) (u := (vI ((max (m.frm) (upM m 7)) + (j)))) size3 rfl rfl (by decide) (by kernel_rfl)
        have c954 : Chg (blk (Value.slice oa (best.length) (oc))) h926 h949 := c952.weak fun q hq => by subst hq; exact q946
        have z955 : h.size ≤ h926.size := x936.size
        have x956 : Ext h _ := (Chg.then (O := fun _ => False) (Chg.ext x936) c954 (fun b hb => .inr (nb b hb))).toExt'
        have f957 := c954.same _ _ f927 (fun hb => p933.ne f927 (by decide) hb rfl)
        have f958 := c954.same _ _ f928 (fun hb => p933.ne f928 (by decide) hb rfl)
        have f959 := c954.same _ _ f929 (fun hb => p933.ne f929 (by decide) hb rfl)
        have p960 := p934.keep fun b r hb q => c954.same b r q ((fun b hb hb2 => (p933).celled.defer p934 b hb2 hb) b hb)
        obtain ⟨i961, v962, e963, l964, g965⟩ := list_at (cur.set i938 (EntM.mk ((max (m.frm) (upM m 7)) + (j)) v939.rd v939.nd v939.val)) (e := (j)) (by omega) (by first | omega | (simp only [List.length_set, List.length_append, List.length_singleton]; omega))
        obtain ⟨b966, o967, q969, a970, k968, u971⟩ := p951.store entc_size g965
        obtain ⟨h972, e973, p974, c975, z976⟩ := u971 (j := 1) (y := (EntM.mk v962.slot (m.rd) (m.nd) v962.val)) (u := (Value.agg #[(vI (m.rd)), (vI (m.nd))])) size29 rfl rfl (by decide) (by kernel_rfl)
        have c977 : Chg (blk (Value.slice oa (best.length) (oc))) h949 h972 := c975.weak fun q hq => by subst hq; exact q969
        have z978 : h.size ≤ h949.size := x956.size
        have x979 : Ext h _ := (Chg.then (O := fun _ => False) (Chg.ext x956) c977 (fun b hb => .inr (nb b hb))).toExt'
        have f980 := c977.same _ _ f957 (fun hb => p951.ne f957 (by decide) hb rfl)
        have f981 := c977.same _ _ f958 (fun hb => p951.ne f958 (by decide) hb rfl)
        have f982 := c977.same _ _ f959 (fun hb => p951.ne f959 (by decide) hb rfl)
        have p983 := p960.keep fun b r hb q => c977.same b r q ((fun b hb hb2 => (p951).celled.defer p960 b hb2 hb) b hb)
        refine wc_ev [ltT 14 0 3 c937, evC 16 0 0 agg34 f928, evC 16 2 0 agg34 f928, evC 16 4 0 agg3 f927, evV 16 6 (vI ((max (m.frm) (upM m 7)) + (j))) (show binA Try.prog .add 3 (vI (max (m.frm) (upM m 7))) (vI j) = some (vI ((max (m.frm) (upM m 7)) + (j))) from add_i64 (by omega) (by omega)), evV 16 10 (vA #[(vI m.rd), (vI m.nd)]) (show loadT Try.prog h926 29 (vP t 2) = some (vA #[(vI m.rd), (vI m.nd)]) from load_agg agg29 size29 f929 (by simp) (by kernel_rfl)), evV 16 11 (vP b943 o944) (show indexAddrA Try.prog 34 (vL oa best.length oc) (vI j) = some (vP b943 o944) from a947 und34 size38 e940), evH 16 13 undef h949 (show (storeT Try.prog h926 3 (vP b943 o944) (vI ((max (m.frm) (upM m 7)) + (j))) = some h949 ∧ (undef : Value) = undef) from ⟨e950, rfl⟩), evC 99 0 0 agg34 f958, evV 16 14 (vP b966 o967) (show indexAddrA Try.prog 34 (vL oa best.length oc) (vI j) = some (vP b966 o967) from a970 und34 size38 e963), evH 16 16 undef h972 (show (storeT Try.prog h949 29 (vP b966 (o967 + 1)) (vA #[(vI m.rd), (vI m.nd)]) = some h972 ∧ (undef : Value) = undef) from ⟨e973, rfl⟩), evV 17 0 (vI ((j) + 1)) (show binA Try.prog .add 3 (vI j) (vI 1) = some (vI ((j) + 1)) from add_i64 (by omega) (by omega))] .normal h972 [(65, (vB true)), (66, (vI j)), (7, (vI j)), (67, (vL oa best.length oc)), (68, (vI j)), (69, (vL oa best.length oc)), (70, (vI j)), (71, (vI (max (m.frm) (upM m 7)))), (72, (vI j)), (73, (vI ((max (m.frm) (upM m 7)) + (j)))), (74, (vP t 0)), (75, (vP t 0)), (76, (vP t 2)), (77, (vA #[(vI m.rd), (vI m.nd)])), (78, (vP b943 o944)), (79, (vP b943 o944)), (80, (vP b966 o967)), (81, (vP b966 (o967 + 1))), (82, (vI ((j) + 1))), (64, (vI ((j) + 1)))] ?_
        have ej : i961 = i938 := by omega
        have hx2 := g965
        rw [ej, List.getElem?_set_self (by omega)] at hx2
        have ey : EntM.mk v962.slot m.rd m.nd v962.val = EntM.mk ((begM m) + (i938 : Int)) m.rd m.nd v939.val := by cases hx2; show EntM.mk _ _ _ _ = _; rw [show begM m + (i938 : Int) = max (m.frm) (upM m 7) + j by omega]
        have fs := finL_step (m := m) (k := i938) (by have q := g942; rw [i931, show j.toNat = i938 by omega] at q; exact q)
        exact ⟨best.length - (j + 1).toNat, by omega, ⟨j + 1, ((cur.set i938 (EntM.mk ((max (m.frm) (upM m 7)) + (j)) v939.rd v939.nd v939.val)).set i961 (EntM.mk v962.slot (m.rd) (m.nd) v962.val)), (fun i => ([vU, vU, vU, vU, vU, vU, vU, (vI j), vU, vU, vU, vU, vU, vU, vU, vU, vU, vU, vU, vU, vU, vU, vU, vU, vU, vU, vU, vU, vU, vU, vU, vU, vU, vU, vU, vU, vU, vU, vU, vU, vU, vU, vU, vU, vU, vU, vU, vU, vU, vU, vU, vU, vU, vU, vU, vU, vU, vU, vU, vU, vU, vU, vU, vU, vU, (vB true), (vI j), (vL oa best.length oc), (vI j), (vL oa best.length oc), (vI j), (vI (max (m.frm) (upM m 7))), (vI j), (vI ((max (m.frm) (upM m 7)) + (j))), (vP t 0), (vP t 0), (vP t 2), (vA #[(vI m.rd), (vI m.nd)]), (vP b943 o944), (vP b943 o944), (vP b966 o967), (vP b966 (o967 + 1)), (vI ((j) + 1))] : List Value).getD i undef), by as_aux_lemma => kernel_rfl, x979, rfl, f980, f981, f982, by omega, by rw [ej, List.set_set, show (j + 1).toNat = i938 + 1 by omega, ← fs, i931, show j.toNat = i938 by omega]; congr 1, by rw [List.length_set, List.length_set]; omega, p974, p983⟩⟩
      · refine wc_ev [ltF 14 0 3 c937] (.exit 5) h926 [(65, (vB false))] ?_
        refine wc_ev [evC 18 0 0 agg34 f928] .ret h926 [(83, (vL oa best.length oc)), (2, (vL oa best.length oc)), (3, (vI 0))] ?_
        obtain ⟨h984, e985⟩ : ∃ zq, zq = h926.setIfInBounds dv706 (.deferred none) := ⟨_, rfl⟩
        have p990 := p933.keep fun b r hb q => (Chg.set e985).same b r q ((fun b hb hb2 => (p933).celled.defer p934 b hb hb2) b hb)
        have x986 : Ext h h984 := Ext.setNew x936 e985 (by omega)
        have ev : cur = valuesM m := by rw [i931]; exact finL_end m (by omega)
        have el9 : best.length = (valuesM m).length := by rw [← ev]; omega
        refine end_mark3 (T := hintsOf [] []) (dv := dv706) { tmps := #[(vP t 0), (Value.tuple #[]), (Value.slice oa (best.length) (oc)), (vI 0), (vP b661 0), (vP b683 0), (Value.tuple #[]), (g1 7), (vB false), (vP t 0), (vB true), (vB false), (vB false), (vP t 0), (vB true), (vB false), (vP t 0), (vP t 0), (vP t 1), (vI (m.frm)), (vP t 0), (vI (upM m 7)), (vI (max (m.frm) (upM m 7))), (vP t 0), (Value.func (.func 46) #[] #[(vP b693 0)]), (Value.tuple #[]), (Value.tuple #[]), (Value.tuple #[]), (Value.tuple #[]), (Value.tuple #[]), (Value.tuple #[]), (Value.tuple #[]), (Value.tuple #[]), (Value.tuple #[]), (Value.tuple #[]), (Value.tuple #[]), (Value.tuple #[]), (Value.tuple #[]), (Value.tuple #[]), (Value.tuple #[]), (Value.tuple #[]), (Value.tuple #[]), (Value.tuple #[]), (Value.tuple #[]), (Value.tuple #[]), (Value.tuple #[]), (Value.tuple #[]), (Value.tuple #[]), (Value.tuple #[]), (Value.tuple #[]), (Value.tuple #[]), (Value.tuple #[]), (Value.tuple #[]), (Value.tuple #[]), (Value.tuple #[]), (Value.tuple #[]), (Value.tuple #[]), (Value.tuple #[]), (Value.tuple #[]), (Value.tuple #[]), (Value.tuple #[]), (Value.tuple #[]), (Value.slice oa (best.length) (oc)), (vI ((best.length : Nat))), (vI (j)), (vB false), (g1 66), (g1 67), (g1 68), (g1 69), (g1 70), (g1 71), (g1 72), (g1 73), (g1 74), (g1 75), (g1 76), (g1 77), (g1 78), (g1 79), (g1 80), (g1 81), (g1 82), (Value.slice oa (best.length) (oc))], defers := ([{ target := .collected dv706, args := #[] }] ++ []) } (by kernel_rfl) (.inr rfl) rfl p934 e985 (A := resQ [] (K (Value.tuple #[(Value.slice oa (best.length) (oc)), (vI 0)]) h984)) (by kernel_rfl) ?_
        exact resQ_of _ (hK _ _ (⟨fun w => (by rw [c658] at w; cases w), x986, fun _ => ⟨oa, oc, by rw [← el9], by rw [← el9, ← ev]; exact p990, by rw [← el9]; exact nb⟩⟩))
    · rw [eE719] at q; exact q.elim
  · refine wc_ev [evF 1 1 sn651, evFb 3 1 c658 sn654] .ret hh653 [(9, (vP t 0)), (10, (vB true)), (11, (vB false)), (8, (vB false)), (13, (vP t 0)), (14, (vB false)), (15, (vB true)), (12, (vB true)), (2, (vL none 0 0)), (3, (vI 9))] ?_
    exact end_ev [] (vT #[(vL none 0 0), (vI 9)]) (hK _ _ (⟨fun _ => rfl, x657, fun w => by rw [c658] at w; cases w⟩))
end C14
