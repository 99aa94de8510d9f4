/- A move is added. -/
import Derived.Test.YtghcfpoccafbjaaDoorMb
import Derived.KernelRfl
open Go Go.AM Go.Proofs
namespace C32
theorem agg33 : isAggA Tryd.prog 33 = some false := by kernel_rfl
theorem size3 : (Tryd.prog.info? 3).map (·.size) = some 1 := by kernel_rfl
theorem size33 : (Tryd.prog.info? 33).map (·.size) = some 1 := by kernel_rfl
theorem size48 : (Tryd.prog.info? 48).map (·.size) = some 1 := by kernel_rfl
theorem sizeb32 : (Tryd.prog.info? 32).map (fun i => (i.size, i.bytes)) = some (6, 72) := by kernel_rfl
theorem zero32 : zeroA Tryd.prog 32 = some (Value.agg #[(Value.string .empty), (Value.string .empty), (Value.int .i64 0), (Value.int .i64 0), (Value.int .i64 0), (Value.string .empty)]) := by kernel_rfl
theorem grp_of {n : Int} (h : grpB n = true) : 1 ≤ n ∧ n < 8 := by
  unfold grpB at h
  split at h
  · split at h
    · omega
    · cases h
  · cases h
set_option maxHeartbeats 4000000 in
theorem start_ok (h : Heap) {O : Nat → Prop} {t : Nat} {ms : List MoveM} (hT : TabAt 56 32 h O t ms) (h64 : ms.length ≤ 64) (r0 r1 : ByteArray) (f g : Int) : WCall Tryd.prog 21 #[(vP t 0), (Value.agg #[(vS r0), (vS r1)]), (vI (f)), (vI (g))] h (fun v h1 => v = .tuple #[.int .i64 (startN ms r0 r1 f g), .int .i64 (startE ms r0 r1 f g)] ∧ Chg O h h1 ∧ ∃ O', TabAt 56 32 h1 O' t (startL ms r0 r1 f g) ∧ ∀ b, O' b → O b ∨ h.size ≤ b) := by
  have hT' := hT
  obtain ⟨a775, cc776, T⟩ := hT
  suffices H : ∀ K : Value → Heap → Prop, (∀ v h1, (fun v h1 => v = .tuple #[.int .i64 (startN ms r0 r1 f g), .int .i64 (startE ms r0 r1 f g)] ∧ Chg O h h1 ∧ ∃ O', TabAt 56 32 h1 O' t (startL ms r0 r1 f g) ∧ ∀ b, O' b → O b ∨ h.size ≤ b) v h1 → K v h1) → WCall Tryd.prog 21 #[(vP t 0), (Value.agg #[(vS r0), (vS r1)]), (vI (f)), (vI (g))] h K from H _ fun _ _ q => q
  intro K hK
  refine wcall_at { tmps := #[(vP t 0), (vA #[(vS r0), (vS r1)]), (vI f), (vI g), vZ, vZ, vZ, vZ, vZ, vZ, vZ, vZ, vZ, vZ, vZ, vZ, vZ, vZ, vZ, vZ, vZ, vZ, vZ, vZ, vZ, vZ, vZ, vZ, vZ, vZ, vZ, vZ, vZ, vZ, vZ, vZ, vZ, vZ, vZ, vZ, vZ, vZ, vZ, vZ, vZ, vZ, vZ, vZ, vZ, vZ, vZ, vZ, vZ, vZ, vZ, vZ, vZ, vZ, vZ, vZ, vZ, vZ, vZ, vZ, vZ, vZ, vZ, vZ, vZ, vZ, vZ, vZ, vZ, vZ, vZ], defers := [] } (by kernel_rfl) ?_
  refine wc_seq' (subc (bodyOf Tryd.prog 21) [0]) (subc (bodyOf Tryd.prog 21) [1]) (by kernel_rfl) ?_
  obtain ⟨b779, eb780⟩ : ∃ zq, zq = h.size := ⟨_, rfl⟩
  obtain ⟨h777, e778⟩ : ∃ zq, zq = h.push (.cells #[(vS r0), (vS r1)] 30 (0, 0)) := ⟨_, rfl⟩
  have f781 := push_new e778
  rw [← eb780] at f781
  have x784 : Ext h h777 := by rw [e778]; exact Ext.push _ _
  have o785 : h.size ≤ b779 := by have := (Ext.refl h).size; omega
  have x786 := (Ext.refl h).trans x784
  obtain ⟨b789, eb790⟩ : ∃ zq, zq = h777.size := ⟨_, rfl⟩
  obtain ⟨h787, e788⟩ : ∃ zq, zq = h777.push (.cells #[(vI 0)] 3 (0, 0)) := ⟨_, rfl⟩
  have f791 := push_new e788
  rw [← eb790] at f791
  have x795 : Ext h777 h787 := by rw [e788]; exact Ext.push _ _
  have o796 : h.size ≤ b789 := by have := x786.size; omega
  have f797 := x795 _ _ f781
  have x798 := x786.trans x795
  obtain ⟨b801, eb802⟩ : ∃ zq, zq = h787.size := ⟨_, rfl⟩
  obtain ⟨h799, e800⟩ : ∃ zq, zq = h787.push (.cells #[(vI 0)] 33 (0, 0)) := ⟨_, rfl⟩
  have f803 := push_new e800
  rw [← eb802] at f803
  have n806 : b801 ≠ b789 := by have := row_lt f791; omega
  have x808 : Ext h787 h799 := by rw [e800]; exact Ext.push _ _
  have o809 : h.size ≤ b801 := by have := x798.size; omega
  have f810 := x808 _ _ f797
  have f811 := x808 _ _ f791
  have x812 := x798.trans x808
  refine wc_upd (n := 200) (T := ⟨fun r i => match r, i with | 0, 0 => some ((vP b779 0), h777) | 0, 1 => some ((vP b789 0), h787) | 0, 2 => some ((vP b801 0), h799) | _, _ => none, fun _ => none, none⟩) (x := .normal) (h1 := h799) [(5, (vP b779 0)), (8, (vP b789 0)), (9, (vP b801 0))]
    (fun q => ((vP b779 0) = (Value.pointer (some ⟨h.size, 0, none⟩)) ∧ h777 = h.push (.cells #[(vS r0), (vS r1)] 30 (0, 0))) ∧ ((vP b789 0) = (Value.pointer (some ⟨h777.size, 0, none⟩)) ∧ h787 = h777.push (.cells #[(vI 0)] 3 (0, 0))) ∧ ((vP b801 0) = (Value.pointer (some ⟨h787.size, 0, none⟩)) ∧ h799 = h787.push (.cells #[(vI 0)] 33 (0, 0))) ∧ q) (by intro K'; as_aux_lemma => kernel_rfl) (fun _ q => ⟨⟨by rw [eb780], e778⟩, ⟨by rw [eb790], e788⟩, ⟨by rw [eb802], e800⟩, q⟩) ?_
  refine wc_seq' (subc (bodyOf Tryd.prog 21) [1, 0]) (subc (bodyOf Tryd.prog 21) [1, 1]) (by kernel_rfl) ?_
  obtain ⟨_, _, sn814, rfl, rfl⟩ := valid_ok h799 (x812 _ _ T.row)
  obtain ⟨_, hh816, sn817, rfl, x818⟩ := rchk_ok h799 r0 r1 
  have f819 := x818 _ _ f810
  have f820 := x818 _ _ f811
  have f821 := x818 _ _ f803
  have x822 := x812.trans x818
  by_cases c823 : (((rchk r0 r1)) : Int) = 0
  · obtain ⟨_, _, sn825, rfl, rfl⟩ := grpB_ok hh816 (f) 
    rcases Bool.eq_false_or_eq_true ((grpB (f))) with c827 | c827
    · obtain ⟨_, _, sn829, rfl, rfl⟩ := grpB_ok hh816 (g) 
      rcases Bool.eq_false_or_eq_true ((grpB (g))) with c831 | c831
      · by_cases c832 : ((f) : Int) = (g)
        · obtain ⟨h833, e834⟩ : ∃ zq, zq = hh816.setIfInBounds b789 (.cells #[(vI 0)] 3 (0, 0)) := ⟨_, rfl⟩
          have f835 := set_same e834 f820
          have f838 := set_other e834 f821 n806.symm
          have x839 := Ext.setNew x822 e834 o796
          obtain ⟨h840, e841⟩ : ∃ zq, zq = h833.setIfInBounds b801 (.cells #[(vI 2)] 33 (0, 0)) := ⟨_, rfl⟩
          have f842 := set_same e841 f838
          have f844 := set_other e841 f835 n806
          have x846 := Ext.setNew x839 e841 o809
          refine wc_upd (n := 200) (T := ⟨fun r i => match r, i with | 1, 1 => some ((vB true), h799) | 3, 0 => some ((vA #[(vS r0), (vS r1)]), h799) | 3, 1 => some ((vI ((rchk r0 r1))), hh816) | 3, 2 => some ((vB false), hh816) | 3, 5 => some ((vB true), hh816) | 3, 10 => some ((vB true), hh816) | 3, 16 => some ((vB true), hh816) | 4, 0 => some (undef, h833) | 4, 1 => some (undef, h840) | _, _ => none, fun _ => none, none⟩) (x := .ret) (h1 := h840) [(16, (vP t 0)), (17, (vB true)), (18, (vB false)), (15, (vB false)), (20, (vA #[(vS r0), (vS r1)])), (21, (vI ((rchk r0 r1)))), (22, (vB false)), (23, (vB false)), (24, (vI f)), (25, (vB true)), (26, (vB false)), (27, (vB false)), (28, (vB false)), (29, (vI g)), (30, (vB true)), (31, (vB false)), (32, (vB false)), (33, (vB false)), (34, (vI f)), (35, (vI g)), (36, (vB true)), (37, (vB true)), (19, (vB true))]
            (fun q => SoundCall Tryd.prog 39 #[(vP t 0)] h799 (vB true) h799 ∧ (loadT Tryd.prog h799 30 (vP b779 0) = some (vA #[(vS r0), (vS r1)]) ∧ h799 = h799) ∧ SoundCall Tryd.prog 16 #[(vA #[(vS r0), (vS r1)])] h799 (vI ((rchk r0 r1))) hh816 ∧ (binA Tryd.prog .neq 33 (vI ((rchk r0 r1))) (vI 0) = some (vB false) ∧ hh816 = hh816) ∧ SoundCall Tryd.prog 40 #[(vI f)] hh816 (vB true) hh816 ∧ SoundCall Tryd.prog 40 #[(vI g)] hh816 (vB true) hh816 ∧ (binA Tryd.prog .eql 3 (vI f) (vI g) = some (vB true) ∧ hh816 = hh816) ∧ (storeT Tryd.prog hh816 3 (vP b789 0) (vI 0) = some h833 ∧ (undef : Value) = undef) ∧ (storeT Tryd.prog h833 33 (vP b801 0) (vI 2) = some h840 ∧ (undef : Value) = undef) ∧ q) (by intro K'; as_aux_lemma => kernel_rfl) (fun _ q => ⟨sn814, ⟨load_agg agg30 size30 f810 (by simp) (by kernel_rfl), rfl⟩, sn817, ⟨cmp_neq (decide_eq_false (not_not_intro c823)), rfl⟩, (by rw [← c827]; exact sn825), (by rw [← c831]; exact sn829), ⟨cmp_eql (decide_eq_true c832), rfl⟩, ⟨by rw [e834]; exact store_cells size3 rfl f820 (by decide) (by simp) rfl (by kernel_rfl), rfl⟩, ⟨by rw [e841]; exact store_cells size33 rfl f838 (by decide) (by simp) rfl (by kernel_rfl), rfl⟩, q⟩) ?_
          have ee : startE ms r0 r1 f g = 2 := by unfold startE; rw [if_neg]; rintro ⟨w1, w2, w3, w4⟩; first | omega | (simp only [grpB] at *; simp_all) | contradiction
          refine end_at (T := ⟨fun _ _ => none, fun _ => none, some [(vI 0), (vI 2)]⟩) (A := (loadT Tryd.prog h840 3 (vP b789 0) = some (vI 0) ∧ loadT Tryd.prog h840 33 (vP b801 0) = some (vI 2) ∧ True) ∧ K (vT #[(vI 0), (vI 2)]) h840) (by kernel_rfl) ?_
          exact ⟨⟨load_cell agg3 f844 rfl, load_cell agg33 f842 rfl, trivial⟩, hK _ _ (⟨by rw [show startN ms r0 r1 f g = 0 from by unfold startN; rw [ee]; rfl, ee], Chg.ext x846, O, by unfold startL; rw [ee, if_neg (by decide)]; exact hT'.keep fun b r _ q => x846 b r q, fun b hb => .inl hb⟩)⟩
        · refine wc_upd (n := 200) (T := ⟨fun r i => match r, i with | 1, 1 => some ((vB true), h799) | 3, 0 => some ((vA #[(vS r0), (vS r1)]), h799) | 3, 1 => some ((vI ((rchk r0 r1))), hh816) | 3, 2 => some ((vB false), hh816) | 3, 5 => some ((vB true), hh816) | 3, 10 => some ((vB true), hh816) | 3, 16 => some ((vB false), hh816) | _, _ => none, fun _ => none, none⟩) (x := .normal) (h1 := hh816) [(16, (vP t 0)), (17, (vB true)), (18, (vB false)), (15, (vB false)), (20, (vA #[(vS r0), (vS r1)])), (21, (vI ((rchk r0 r1)))), (22, (vB false)), (23, (vB false)), (24, (vI f)), (25, (vB true)), (26, (vB false)), (27, (vB false)), (28, (vB false)), (29, (vI g)), (30, (vB true)), (31, (vB false)), (32, (vB false)), (33, (vB false)), (34, (vI f)), (35, (vI g)), (36, (vB false)), (37, (vB false)), (19, (vB false))]
            (fun q => SoundCall Tryd.prog 39 #[(vP t 0)] h799 (vB true) h799 ∧ (loadT Tryd.prog h799 30 (vP b779 0) = some (vA #[(vS r0), (vS r1)]) ∧ h799 = h799) ∧ SoundCall Tryd.prog 16 #[(vA #[(vS r0), (vS r1)])] h799 (vI ((rchk r0 r1))) hh816 ∧ (binA Tryd.prog .neq 33 (vI ((rchk r0 r1))) (vI 0) = some (vB false) ∧ hh816 = hh816) ∧ SoundCall Tryd.prog 40 #[(vI f)] hh816 (vB true) hh816 ∧ SoundCall Tryd.prog 40 #[(vI g)] hh816 (vB true) hh816 ∧ (binA Tryd.prog .eql 3 (vI f) (vI g) = some (vB false) ∧ hh816 = hh816) ∧ q) (by intro K'; as_aux_lemma => kernel_rfl) (fun _ q => ⟨sn814, ⟨load_agg agg30 size30 f810 (by simp) (by kernel_rfl), rfl⟩, sn817, ⟨cmp_neq (decide_eq_false (not_not_intro c823)), rfl⟩, (by rw [← c827]; exact sn825), (by rw [← c831]; exact sn829), ⟨cmp_eql (decide_eq_false c832), rfl⟩, q⟩) ?_
          refine wc_act { tmps := #[(vP t 0), (vA #[(vS r0), (vS r1)]), (vI f), (vI g), vZ, (vP b779 0), vZ, vZ, (vP b789 0), (vP b801 0), vZ, vZ, vZ, vZ, vZ, (vB false), (vP t 0), (vB true), (vB false), (vB false), (vA #[(vS r0), (vS r1)]), (vI ((rchk r0 r1))), (vB false), (vB false), (vI f), (vB true), (vB false), (vB false), (vB false), (vI g), (vB true), (vB false), (vB false), (vB false), (vI f), (vI g), (vB false), (vB false), vZ, vZ, vZ, vZ, vZ, vZ, vZ, vZ, vZ, vZ, vZ, vZ, vZ, vZ, vZ, vZ, vZ, vZ, vZ, vZ, vZ, vZ, vZ, vZ, vZ, vZ, vZ, vZ, vZ, vZ, vZ, vZ, vZ, vZ, vZ, vZ, vZ], defers := [] } (by as_aux_lemma => kernel_rfl) ?_
          refine wc_seq' (subc (bodyOf Tryd.prog 21) [1, 1, 0]) (subc (bodyOf Tryd.prog 21) [1, 1, 1]) (by kernel_rfl) ?_
          refine wc_seq' (subc (bodyOf Tryd.prog 21) [1, 1, 0, 0]) (subc (bodyOf Tryd.prog 21) [1, 1, 0, 1]) (by kernel_rfl) ?_
          obtain ⟨_, h848, s849, b847, rfl, f850, x851, o852⟩ := open_fn hh816 t
          have oo852 : h.size ≤ b847 := by have := x822.size; omega
          have f858 := x851 _ _ f819
          have f859 := x851 _ _ f820
          have f860 := x851 _ _ f821
          have x861 := x822.trans x851
          refine wc_upd (n := 200) (T := ⟨fun r i => match r, i with | 5, 1 => some ((Value.func (.func 51) #[] #[(vP b847 0)]), h848) | _, _ => none, fun _ => none, none⟩) (x := .normal) (h1 := h848) [(38, (vP t 0)), (39, (Value.func (.func 51) #[] #[(vP b847 0)]))]
            (fun q => SoundCall Tryd.prog 35 #[(vP t 0)] hh816 (Value.func (.func 51) #[] #[(vP b847 0)]) h848 ∧ q) (by intro K'; as_aux_lemma => kernel_rfl) (fun _ q => ⟨s849, q⟩) ?_
          refine wc_block' 1 (subc (bodyOf Tryd.prog 21) [1, 1, 0, 1, 0]) (by kernel_rfl) ?_
          refine wc_act { tmps := #[(vP t 0), (vA #[(vS r0), (vS r1)]), (vI f), (vI g), vZ, (vP b779 0), vZ, vZ, (vP b789 0), (vP b801 0), vZ, vZ, vZ, vZ, vZ, (vB false), (vP t 0), (vB true), (vB false), (vB false), (vA #[(vS r0), (vS r1)]), (vI ((rchk r0 r1))), (vB false), (vB false), (vI f), (vB true), (vB false), (vB false), (vB false), (vI g), (vB true), (vB false), (vB false), (vB false), (vI f), (vI g), (vB false), (vB false), (vP t 0), (Value.func (.func 51) #[] #[(vP b847 0)]), vZ, vZ, vZ, vZ, vZ, vZ, vZ, vZ, vZ, vZ, vZ, vZ, vZ, vZ, vZ, vZ, vZ, vZ, vZ, vZ, vZ, vZ, vZ, vZ, vZ, vZ, vZ, vZ, vZ, vZ, vZ, vZ, vZ, vZ, vZ], defers := [] } (by kernel_rfl) ?_
          obtain ⟨dv862, edv862⟩ : ∃ zq, zq = h848.size := ⟨_, rfl⟩
          obtain ⟨lp863, elp863⟩ : ∃ zq, zq = h848.size + 1 := ⟨_, rfl⟩
          obtain ⟨tm864, etm864⟩ : ∃ zq : Array Value, zq = #[(vP t 0), (Value.agg #[(vS r0), (vS r1)]), (vI (f)), (vI (g)), (Value.tuple #[]), (vP b779 0), (Value.tuple #[]), (Value.tuple #[]), (vP b789 0), (vP b801 0), (Value.tuple #[]), (Value.tuple #[]), (Value.tuple #[]), (Value.tuple #[]), (Value.tuple #[]), (vB false), (vP t 0), (vB true), (vB false), (vB false), (Value.agg #[(vS r0), (vS r1)]), (vI ((rchk r0 r1))), (vB false), (vB false), (vI (f)), (vB true), (vB false), (vB false), (vB false), (vI (g)), (vB true), (vB false), (vB false), (vB false), (vI (f)), (vI (g)), (vB false), (vB false), (vP t 0), (Value.func (.func 51) #[] #[(vP b847 0)]), (Value.tuple #[]), (Value.tuple #[]), (Value.tuple #[]), (Value.tuple #[]), (Value.tuple #[]), (Value.tuple #[]), (Value.tuple #[]), (Value.tuple #[]), (Value.tuple #[]), (Value.tuple #[]), (Value.tuple #[]), (Value.tuple #[]), (Value.tuple #[]), (Value.tuple #[]), (Value.tuple #[]), (Value.tuple #[]), (Value.tuple #[]), (Value.tuple #[]), (Value.tuple #[]), (Value.tuple #[]), (Value.tuple #[]), (Value.tuple #[]), (Value.tuple #[]), (Value.tuple #[]), (Value.tuple #[]), (Value.tuple #[]), (Value.tuple #[]), (Value.tuple #[]), (Value.tuple #[]), (Value.tuple #[]), (Value.tuple #[]), (Value.tuple #[]), (Value.tuple #[]), (Value.tuple #[]), (Value.tuple #[])] := ⟨_, rfl⟩
          obtain ⟨L865, eL865⟩ : ∃ zq : Loop, zq = { state := .ready, pending := none, fn := 0, tmps := tm864, params := #[40, 41], assign := (subc (bodyOf Tryd.prog 21) [1, 1, 0, 1, 0, 0]), body := (subc (bodyOf Tryd.prog 21) [1, 1, 0, 1, 0, 1]), defers := dv862 } := ⟨_, rfl⟩
          have hs867 : L865.state = .ready := by rw [eL865]
          have hp868 : L865.pending = none := by rw [eL865]
          obtain ⟨h866, eh866⟩ : ∃ zq, zq = (h848.push (.deferred (some []))).push (.loop L865) := ⟨_, rfl⟩
          have x869 : Ext h848 h866 := by rw [eh866]; exact (Ext.push _ _).trans (Ext.push _ _)
          have p870 : At h866 lp863 (.loop L865) := by rw [eh866, elp863, show h848.size + 1 = (h848.push (.deferred (some []))).size by simp]; exact push_new rfl
          have p871 : At h866 dv862 (.deferred (some [])) := by rw [eh866, edv862]; exact push_old (b := h848.size) rfl (push_new rfl)
          have sh866 : lp863 < h866.size := p870.blk_lt rfl
          have z878 : h.size ≤ h848.size := x861.size
          have f879 := x869 _ _ f858
          have f880 := x869 _ _ f859
          have f881 := x869 _ _ f860
          have f882 := x869 _ _ f850
          have x883 := x861.trans x869
          have z884 : h.size ≤ h866.size := x883.size
          obtain ⟨D876, eD877⟩ : ∃ zq : Nat → Prop, zq = (fun b => b = lp863 ∨ b = b789 ∨ b = b801 ∨ False) := ⟨_, rfl⟩
          have hD885 : ∀ b, D876 b → h.size ≤ b := by
            rw [eD877]; rintro b (w | w | w | w)
            · have w1 : b = lp863 := w; omega
            · have w1 : b = b789 := w; have := o796; omega
            · have w1 : b = b801 := w; have := o809; omega
            · exact w.elim
          have hd886 : ¬ D876 dv862 := by
            rw [eD877]; rintro (w | w | w | w)
            · have w1 : dv862 = lp863 := w; omega
            · have w1 : dv862 = b789 := w; have := row_lt f859; omega
            · have w1 : dv862 = b801 := w; have := row_lt f860; omega
            · exact w.elim
          obtain ⟨I873, eI872⟩ : ∃ zq : Nat → (Nat → Prop) → Heap → Prop, zq = fun (kk : Nat) (Dv : Nat → Prop) (h' : Heap) => Dv = (fun b => b = lp863 ∨ b = b789 ∨ b = b801 ∨ False) ∧ At h' lp863 (.loop L865) ∧ Chg D876 h866 h' ∧ (∀ z, Dv z → D876 z ∨ h866.size ≤ z) ∧ h'[b779]? = some (.cells #[(vS r0), (vS r1)] 30 (0, 0)) ∧ h'[b789]? = some (.cells #[(vI 0)] 3 (0, 0)) ∧ h'[b801]? = some (.cells #[(vI 0)] 33 (0, 0)) ∧ (((opn ms ms.length).take kk).any fun y => (rmeet y.2.rf y.2.rt r0 r1).2.2.1) = false := ⟨_, rfl⟩
          obtain ⟨E874, eE875⟩ : ∃ zq : Heap → Prop, zq = fun (h' : Heap) => At h' lp863 (.loop { ({ L865 with state := .busy } : Loop) with state := .done, pending := some .ret }) ∧ Chg D876 h866 h' ∧ h'[b789]? = some (.cells #[(vI 0)] 3 (0, 0)) ∧ h'[b801]? = some (.cells #[(vI 17)] 33 (0, 0)) ∧ ((opn ms ms.length).any fun y => (rmeet y.2.rf y.2.rt r0 r1).2.2.1) = true := ⟨_, rfl⟩
          have hX894 : ∀ k D h' h'', I873 k D h' → Ext h' h'' → I873 k D h'' := by
            rw [eI872]
            rintro k _ h' h'' ⟨rfl, p891, c892, d893, f887, f888, f889, i890⟩ xx
            exact ⟨rfl, xx _ _ p891, c892.trans (Chg.ext xx), d893, xx _ _ f887, xx _ _ f888, xx _ _ f889, i890⟩
          have hy895 : ∀ k y D h', ((opn ms ms.length))[k]? = some y → I873 k D h' → ∃ b h'' D', SoundYield Tryd.prog lp863 #[(vI (y.1)), (Value.agg #[(vS y.2.rf), (vS y.2.rt), (vI (y.2.f)), (vI (y.2.t)), (vI (y.2.st)), (vS y.2.d)])] h' (.bool b) h'' ∧ Chg D h' h'' ∧ (∀ z, D' z → D z ∨ h'.size ≤ z) ∧ (if b = true then I873 (k + 1) D' h'' else E874 h'') := by
            rw [eI872]
            rintro k y _ hr hk ⟨rfl, p891, c892, d893, f887, f888, f889, i890⟩
            obtain ⟨Dc, eDc⟩ : ∃ zq : Nat → Prop, zq = (fun b => b = lp863 ∨ b = b789 ∨ b = b801 ∨ False) := ⟨_, rfl⟩
            rw [← eDc] at d893
            rw [← eI872]
            rw [← eDc]
            suffices hw : ∃ b h'', SoundYield Tryd.prog lp863 #[(vI (y.1)), (Value.agg #[(vS y.2.rf), (vS y.2.rt), (vI (y.2.f)), (vI (y.2.t)), (vI (y.2.st)), (vS y.2.d)])] hr (.bool b) h'' ∧ (fun b h'' => ∃ D', Chg Dc hr h'' ∧ (∀ z, D' z → Dc z ∨ hr.size ≤ z) ∧ (if b = true then I873 (k + 1) D' h'' else E874 h'')) b h'' from by
              obtain ⟨b, h'', q1, D', q2, q3, q4⟩ := hw
              exact ⟨b, h'', D', q1, q2, q3, q4⟩
            refine w_round (args := #[(vI (y.1)), (Value.agg #[(vS y.2.rf), (vS y.2.rt), (vI (y.2.f)), (vI (y.2.t)), (vI (y.2.st)), (vS y.2.d)])]) (K := (fun b h'' => ∃ D', Chg Dc hr h'' ∧ (∀ z, D' z → Dc z ∨ hr.size ≤ z) ∧ (if b = true then I873 (k + 1) D' h'' else E874 h''))) p891 hs867 (by rw [eL865]; rfl) { tmps := #[(vP t 0), (Value.agg #[(vS r0), (vS r1)]), (vI (f)), (vI (g)), (Value.tuple #[]), (vP b779 0), (Value.tuple #[]), (Value.tuple #[]), (vP b789 0), (vP b801 0), (Value.tuple #[]), (Value.tuple #[]), (Value.tuple #[]), (Value.tuple #[]), (Value.tuple #[]), (vB false), (vP t 0), (vB true), (vB false), (vB false), (Value.agg #[(vS r0), (vS r1)]), (vI ((rchk r0 r1))), (vB false), (vB false), (vI (f)), (vB true), (vB false), (vB false), (vB false), (vI (g)), (vB true), (vB false), (vB false), (vB false), (vI (f)), (vI (g)), (vB false), (vB false), (vP t 0), (Value.func (.func 51) #[] #[(vP b847 0)]), (vI (y.1)), (Value.agg #[(vS y.2.rf), (vS y.2.rt), (vI (y.2.f)), (vI (y.2.t)), (vI (y.2.st)), (vS y.2.d)]), (Value.tuple #[]), (Value.tuple #[]), (Value.tuple #[]), (Value.tuple #[]), (Value.tuple #[]), (Value.tuple #[]), (Value.tuple #[]), (Value.tuple #[]), (Value.tuple #[]), (Value.tuple #[]), (Value.tuple #[]), (Value.tuple #[]), (Value.tuple #[]), (Value.tuple #[]), (Value.tuple #[]), (Value.tuple #[]), (Value.tuple #[]), (Value.tuple #[]), (Value.tuple #[]), (Value.tuple #[]), (Value.tuple #[]), (Value.tuple #[]), (Value.tuple #[]), (Value.tuple #[]), (Value.tuple #[]), (Value.tuple #[]), (Value.tuple #[]), (Value.tuple #[]), (Value.tuple #[]), (Value.tuple #[]), (Value.tuple #[]), (Value.tuple #[]), (Value.tuple #[])], defers := [] } (by rw [eL865, etm864]; kernel_rfl) (subc (bodyOf Tryd.prog 21) [1, 1, 0, 1, 0, 0]) (subc (bodyOf Tryd.prog 21) [1, 1, 0, 1, 0, 1]) (by rw [eL865]) (by rw [eL865]) ?_
            obtain ⟨b898, eb899⟩ : ∃ zq, zq = hr.size := ⟨_, rfl⟩
            obtain ⟨h896, e897⟩ : ∃ zq, zq = hr.push (.cells #[(vS .empty), (vS .empty), (vI 0), (vI 0), (vI 0), (vS .empty)] 32 (0, 0)) := ⟨_, rfl⟩
            have f900 := push_new e897
            rw [← eb899] at f900
            have n901 : b898 ≠ b779 := by have := row_lt f887; omega
            have n902 : b898 ≠ b789 := by have := row_lt f888; omega
            have n903 : b898 ≠ b801 := by have := row_lt f889; omega
            have n905 : ∀ zz, (fun q => q = lp863) zz → ¬ zz = b898 := fun zz hz ez => by have := p891.blk_lt hz; omega
            have x906 : Ext hr h896 := by rw [e897]; exact Ext.push _ _
            have o907 : hr.size ≤ b898 := by have := (Chg.refl (O := Dc) hr).size; omega
            have f908 := x906 _ _ f887
            have f909 := x906 _ _ f888
            have f910 := x906 _ _ f889
            have p911 := p891.keep fun b r _ q => x906 b r q
            have x912 := (Chg.refl (O := Dc) hr).trans (Chg.ext x906)
            obtain ⟨h913, e914⟩ : ∃ zq, zq = h896.setIfInBounds b898 (.cells #[(vS y.2.rf), (vS y.2.rt), (vI (y.2.f)), (vI (y.2.t)), (vI (y.2.st)), (vS y.2.d)] 32 (0, 0)) := ⟨_, rfl⟩
            have f915 := set_same e914 f900
            have f916 := set_other e914 f908 n901
            have f917 := set_other e914 f909 n902
            have f918 := set_other e914 f910 n903
            have p920 := p911.keep fun b r hb q => (Chg.set e914).same b r q (n905 b hb)
            have x921 := x912.then (Chg.set e914) (fun b hb => by subst hb; exact (.inr o907))
            refine wc_upd (n := 200) (T := ⟨fun r i => match r, i with | 6, 0 => some ((vP b898 0), h896) | 6, 1 => some (undef, h913) | _, _ => none, fun _ => none, none⟩) (x := .normal) (h1 := h913) [(11, (vP b898 0))]
              (fun q => ((vP b898 0) = (Value.pointer (some ⟨hr.size, 0, none⟩)) ∧ h896 = hr.push (.cells #[(vS .empty), (vS .empty), (vI 0), (vI 0), (vI 0), (vS .empty)] 32 (0, 0))) ∧ (storeT Tryd.prog h896 32 (vP b898 0) (vA #[(vS y.2.rf), (vS y.2.rt), (vI y.2.f), (vI y.2.t), (vI y.2.st), (vS y.2.d)]) = some h913 ∧ (undef : Value) = undef) ∧ q) (by intro K'; as_aux_lemma => kernel_rfl) (fun _ q => ⟨⟨by rw [eb899], e897⟩, ⟨by rw [e914]; exact store_cells size32 rfl f900 (by decide) (by simp) rfl (by kernel_rfl), rfl⟩, q⟩) ?_
            refine ⟨rfl, L865, p920, hs867, ?_⟩
            obtain ⟨h922, e923⟩ : ∃ zq, zq = h913.setIfInBounds lp863 (.loop { L865 with state := .busy }) := ⟨_, rfl⟩
            have p924 : At h922 lp863 (.loop { L865 with state := .busy }) := set_same e923 p920
            have f925 := set_other e923 f916 (loop_ne p920 f916 rfl)
            have f926 := set_other e923 f917 (loop_ne p920 f917 rfl)
            have f927 := set_other e923 f918 (loop_ne p920 f918 rfl)
            have f928 := set_other e923 f915 (loop_ne p920 f915 rfl)
            have x929 := x921.then (Chg.set e923) (fun b hb => .inl ((fun b hb => by rw [eDc]; exact .inl hb) b hb))
            rw [← e923]
            obtain ⟨_, hh930, sn931, rfl, x932⟩ := rmeet_ok h922 y.2.rf y.2.rt r0 r1 
            have f933 := x932 _ _ f925
            have f934 := x932 _ _ f926
            have f935 := x932 _ _ f927
            have p937 := p924.keep fun b r _ q => x932 b r q
            have x938 := x929.trans (Chg.ext x932)
            obtain ⟨b941, eb942⟩ : ∃ zq, zq = hh930.size := ⟨_, rfl⟩
            obtain ⟨h939, e940⟩ : ∃ zq, zq = hh930.push (.cells #[(vS .empty), (vS .empty)] 30 (0, 0)) := ⟨_, rfl⟩
            have f943 := push_new e940
            rw [← eb942] at f943
            have n944 : b941 ≠ b779 := by have := row_lt f933; omega
            have n945 : b941 ≠ b789 := by have := row_lt f934; omega
            have n946 : b941 ≠ b801 := by have := row_lt f935; omega
            have n949 : ∀ zz, (fun q => q = lp863) zz → ¬ zz = b941 := fun zz hz ez => by have := p937.blk_lt hz; omega
            have x950 : Ext hh930 h939 := by rw [e940]; exact Ext.push _ _
            have o951 : hr.size ≤ b941 := by have := x938.size; omega
            have f952 := x950 _ _ f933
            have f953 := x950 _ _ f934
            have f954 := x950 _ _ f935
            have p956 := p937.keep fun b r _ q => x950 b r q
            have x957 := x938.trans (Chg.ext x950)
            obtain ⟨h958, e959⟩ : ∃ zq, zq = h939.setIfInBounds b941 (.cells #[(vS (rmeet y.2.rf y.2.rt r0 r1).1), (vS (rmeet y.2.rf y.2.rt r0 r1).2.1)] 30 (0, 0)) := ⟨_, rfl⟩
            have f961 := set_other e959 f952 n944
            have f962 := set_other e959 f953 n945
            have f963 := set_other e959 f954 n946
            have p966 := p956.keep fun b r hb q => (Chg.set e959).same b r q (n949 b hb)
            have x967 := x957.then (Chg.set e959) (fun b hb => by subst hb; exact (.inr o951))
            rcases Bool.eq_false_or_eq_true ((rmeet y.2.rf y.2.rt r0 r1).2.2.1) with c968 | c968
            · obtain ⟨h969, e970⟩ : ∃ zq, zq = h958.setIfInBounds b789 (.cells #[(vI 0)] 3 (0, 0)) := ⟨_, rfl⟩
              have f971 := set_same e970 f962
              have f974 := set_other e970 f963 (row_ne f962 f963 (by decide))
              have p977 := p966.keep fun b r hb q => (Chg.set e970).same b r q ((fun (b : Nat) hb => loop_ne p966 f962 hb) b hb)
              have x978 := x967.then (Chg.set e970) (fun b hb => by subst hb; exact (.inl (by rw [eDc]; exact .inr (.inl rfl))))
              obtain ⟨h979, e980⟩ : ∃ zq, zq = h969.setIfInBounds b801 (.cells #[(vI 17)] 33 (0, 0)) := ⟨_, rfl⟩
              have f981 := set_same e980 f974
              have f983 := set_other e980 f971 (row_ne f974 f971 (by decide))
              have p987 := p977.keep fun b r hb q => (Chg.set e980).same b r q ((fun (b : Nat) hb => loop_ne p977 f974 hb) b hb)
              have x988 := x978.then (Chg.set e980) (fun b hb => by subst hb; exact (.inl (by rw [eDc]; exact .inr (.inr (.inl rfl)))))
              refine wc_upd (n := 200) (T := ⟨fun r i => match r, i with | 7, 1 => some ((vA #[(vS y.2.rf), (vS y.2.rt)]), h922) | 7, 2 => some ((vA #[(vS r0), (vS r1)]), h922) | 7, 3 => some ((vT #[(vA #[(vS (rmeet y.2.rf y.2.rt r0 r1).1), (vS (rmeet y.2.rf y.2.rt r0 r1).2.1)]), (vB (rmeet y.2.rf y.2.rt r0 r1).2.2.1), (vI ((rmeet y.2.rf y.2.rt r0 r1).2.2.2))]), hh930) | 7, 8 => some ((vP b941 0), h939) | 7, 9 => some (undef, h958) | 8, 0 => some ((vB true), h958) | 9, 0 => some (undef, h969) | 9, 1 => some (undef, h979) | _, _ => none, fun _ => none, none⟩) (x := .ret) (h1 := h979) [(43, (vP b898 0)), (44, (vA #[(vS y.2.rf), (vS y.2.rt)])), (45, (vA #[(vS r0), (vS r1)])), (46, (vT #[(vA #[(vS (rmeet y.2.rf y.2.rt r0 r1).1), (vS (rmeet y.2.rf y.2.rt r0 r1).2.1)]), (vB (rmeet y.2.rf y.2.rt r0 r1).2.2.1), (vI ((rmeet y.2.rf y.2.rt r0 r1).2.2.2))])), (42, (vT #[(vA #[(vS (rmeet y.2.rf y.2.rt r0 r1).1), (vS (rmeet y.2.rf y.2.rt r0 r1).2.1)]), (vB (rmeet y.2.rf y.2.rt r0 r1).2.2.1), (vI ((rmeet y.2.rf y.2.rt r0 r1).2.2.2))])), (47, (vA #[(vS (rmeet y.2.rf y.2.rt r0 r1).1), (vS (rmeet y.2.rf y.2.rt r0 r1).2.1)])), (48, (vB (rmeet y.2.rf y.2.rt r0 r1).2.2.1)), (49, (vI ((rmeet y.2.rf y.2.rt r0 r1).2.2.2))), (12, (vP b941 0)), (13, (vB (rmeet y.2.rf y.2.rt r0 r1).2.2.1)), (14, (vI ((rmeet y.2.rf y.2.rt r0 r1).2.2.2))), (50, (vB true))]
                (fun q => (loadT Tryd.prog h922 30 (vP b898 0) = some (vA #[(vS y.2.rf), (vS y.2.rt)]) ∧ h922 = h922) ∧ (loadT Tryd.prog h922 30 (vP b779 0) = some (vA #[(vS r0), (vS r1)]) ∧ h922 = h922) ∧ SoundCall Tryd.prog 18 #[(vA #[(vS y.2.rf), (vS y.2.rt)]), (vA #[(vS r0), (vS r1)])] h922 (vT #[(vA #[(vS (rmeet y.2.rf y.2.rt r0 r1).1), (vS (rmeet y.2.rf y.2.rt r0 r1).2.1)]), (vB (rmeet y.2.rf y.2.rt r0 r1).2.2.1), (vI ((rmeet y.2.rf y.2.rt r0 r1).2.2.2))]) hh930 ∧ ((vP b941 0) = (Value.pointer (some ⟨hh930.size, 0, none⟩)) ∧ h939 = hh930.push (.cells #[(vS .empty), (vS .empty)] 30 (0, 0))) ∧ (storeT Tryd.prog h939 30 (vP b941 0) (vA #[(vS (rmeet y.2.rf y.2.rt r0 r1).1), (vS (rmeet y.2.rf y.2.rt r0 r1).2.1)]) = some h958 ∧ (undef : Value) = undef) ∧ ((vB true) = (vB (rmeet y.2.rf y.2.rt r0 r1).2.2.1) ∧ h958 = h958) ∧ (storeT Tryd.prog h958 3 (vP b789 0) (vI 0) = some h969 ∧ (undef : Value) = undef) ∧ (storeT Tryd.prog h969 33 (vP b801 0) (vI 17) = some h979 ∧ (undef : Value) = undef) ∧ q) (by intro K'; as_aux_lemma => kernel_rfl) (fun _ q => ⟨⟨load_agg agg30 size30 f928 (by simp) (by kernel_rfl), rfl⟩, ⟨load_agg agg30 size30 f925 (by simp) (by kernel_rfl), rfl⟩, sn931, ⟨by rw [eb942], e940⟩, ⟨by rw [e959]; exact store_cells size30 rfl f943 (by decide) (by simp) rfl (by kernel_rfl), rfl⟩, ⟨by rw [c968], rfl⟩, ⟨by rw [e970]; exact store_cells size3 rfl f962 (by decide) (by simp) rfl (by kernel_rfl), rfl⟩, ⟨by rw [e980]; exact store_cells size33 rfl f974 (by decide) (by simp) rfl (by kernel_rfl), rfl⟩, q⟩) ?_
              refine ⟨_, p987, ?_⟩
              obtain ⟨h989, e990⟩ : ∃ zq, zq = h979.setIfInBounds lp863 (.loop { ({ L865 with state := .busy } : Loop) with state := .done, pending := some .ret }) := ⟨_, rfl⟩
              have p991 : At h989 lp863 (.loop { ({ L865 with state := .busy } : Loop) with state := .done, pending := some .ret }) := set_same e990 p987
              have f993 := set_other e990 f983 (loop_ne p987 f983 rfl)
              have f994 := set_other e990 f981 (loop_ne p987 f981 rfl)
              have x997 := x988.then (Chg.set e990) (fun b hb => .inl ((fun b hb => by rw [eDc]; exact .inl hb) b hb))
              refine (show ∃ D', Chg Dc hr (h989) ∧ (∀ z, D' z → Dc z ∨ hr.size ≤ z) ∧ (if false = true then I873 (k + 1) D' h989 else E874 h989) from ?_) |> (fun w => by rw [e990] at w; exact w)
              refine ⟨fun _ => False, x997, fun z hz => hz.elim, ?_⟩
              rw [if_neg (by decide)]
              rw [eE875]
              exact ⟨p991, c892.then (x997) d893, f993, f994, List.any_eq_true.2 ⟨y, List.mem_of_getElem? hk, c968⟩⟩
            · refine wc_upd (n := 200) (T := ⟨fun r i => match r, i with | 7, 1 => some ((vA #[(vS y.2.rf), (vS y.2.rt)]), h922) | 7, 2 => some ((vA #[(vS r0), (vS r1)]), h922) | 7, 3 => some ((vT #[(vA #[(vS (rmeet y.2.rf y.2.rt r0 r1).1), (vS (rmeet y.2.rf y.2.rt r0 r1).2.1)]), (vB (rmeet y.2.rf y.2.rt r0 r1).2.2.1), (vI ((rmeet y.2.rf y.2.rt r0 r1).2.2.2))]), hh930) | 7, 8 => some ((vP b941 0), h939) | 7, 9 => some (undef, h958) | 8, 0 => some ((vB false), h958) | _, _ => none, fun _ => none, none⟩) (x := .normal) (h1 := h958) [(43, (vP b898 0)), (44, (vA #[(vS y.2.rf), (vS y.2.rt)])), (45, (vA #[(vS r0), (vS r1)])), (46, (vT #[(vA #[(vS (rmeet y.2.rf y.2.rt r0 r1).1), (vS (rmeet y.2.rf y.2.rt r0 r1).2.1)]), (vB (rmeet y.2.rf y.2.rt r0 r1).2.2.1), (vI ((rmeet y.2.rf y.2.rt r0 r1).2.2.2))])), (42, (vT #[(vA #[(vS (rmeet y.2.rf y.2.rt r0 r1).1), (vS (rmeet y.2.rf y.2.rt r0 r1).2.1)]), (vB (rmeet y.2.rf y.2.rt r0 r1).2.2.1), (vI ((rmeet y.2.rf y.2.rt r0 r1).2.2.2))])), (47, (vA #[(vS (rmeet y.2.rf y.2.rt r0 r1).1), (vS (rmeet y.2.rf y.2.rt r0 r1).2.1)])), (48, (vB (rmeet y.2.rf y.2.rt r0 r1).2.2.1)), (49, (vI ((rmeet y.2.rf y.2.rt r0 r1).2.2.2))), (12, (vP b941 0)), (13, (vB (rmeet y.2.rf y.2.rt r0 r1).2.2.1)), (14, (vI ((rmeet y.2.rf y.2.rt r0 r1).2.2.2))), (50, (vB false))]
                (fun q => (loadT Tryd.prog h922 30 (vP b898 0) = some (vA #[(vS y.2.rf), (vS y.2.rt)]) ∧ h922 = h922) ∧ (loadT Tryd.prog h922 30 (vP b779 0) = some (vA #[(vS r0), (vS r1)]) ∧ h922 = h922) ∧ SoundCall Tryd.prog 18 #[(vA #[(vS y.2.rf), (vS y.2.rt)]), (vA #[(vS r0), (vS r1)])] h922 (vT #[(vA #[(vS (rmeet y.2.rf y.2.rt r0 r1).1), (vS (rmeet y.2.rf y.2.rt r0 r1).2.1)]), (vB (rmeet y.2.rf y.2.rt r0 r1).2.2.1), (vI ((rmeet y.2.rf y.2.rt r0 r1).2.2.2))]) hh930 ∧ ((vP b941 0) = (Value.pointer (some ⟨hh930.size, 0, none⟩)) ∧ h939 = hh930.push (.cells #[(vS .empty), (vS .empty)] 30 (0, 0))) ∧ (storeT Tryd.prog h939 30 (vP b941 0) (vA #[(vS (rmeet y.2.rf y.2.rt r0 r1).1), (vS (rmeet y.2.rf y.2.rt r0 r1).2.1)]) = some h958 ∧ (undef : Value) = undef) ∧ ((vB false) = (vB (rmeet y.2.rf y.2.rt r0 r1).2.2.1) ∧ h958 = h958) ∧ q) (by intro K'; as_aux_lemma => kernel_rfl) (fun _ q => ⟨⟨load_agg agg30 size30 f928 (by simp) (by kernel_rfl), rfl⟩, ⟨load_agg agg30 size30 f925 (by simp) (by kernel_rfl), rfl⟩, sn931, ⟨by rw [eb942], e940⟩, ⟨by rw [e959]; exact store_cells size30 rfl f943 (by decide) (by simp) rfl (by kernel_rfl), rfl⟩, ⟨by rw [c968], rfl⟩, q⟩) ?_
              refine ⟨_, p966, ?_⟩
              obtain ⟨h998, e999⟩ : ∃ zq, zq = h958.setIfInBounds lp863 (.loop { ({ L865 with state := .busy } : Loop) with state := .ready, pending := none }) := ⟨_, rfl⟩
              have p1000 : At h998 lp863 (.loop { ({ L865 with state := .busy } : Loop) with state := .ready, pending := none }) := set_same e999 p966
              have f1001 := set_other e999 f961 (loop_ne p966 f961 rfl)
              have f1002 := set_other e999 f962 (loop_ne p966 f962 rfl)
              have f1003 := set_other e999 f963 (loop_ne p966 f963 rfl)
              have x1006 := x967.then (Chg.set e999) (fun b hb => .inl ((fun b hb => by rw [eDc]; exact .inl hb) b hb))
              have dnew : ∀ z, ((fun b => b = lp863 ∨ b = b789 ∨ b = b801 ∨ False)) z → Dc z ∨ hr.size ≤ z := by
                intro z hz; rcases hz with w | w | w | w
                · exact .inl (by rw [eDc]; exact .inl w)
                · exact .inl (by rw [eDc]; exact .inr (.inl w))
                · exact .inl (by rw [eDc]; exact .inr (.inr (.inl w)))
                · exact w.elim
              refine (show ∃ D', Chg Dc hr (h998) ∧ (∀ z, D' z → Dc z ∨ hr.size ≤ z) ∧ (if true = true then I873 (k + 1) D' h998 else E874 h998) from ?_) |> (fun w => by rw [e999] at w; exact w)
              refine ⟨(fun b => b = lp863 ∨ b = b789 ∨ b = b801 ∨ False), x1006, dnew, ?_⟩
              rw [if_pos rfl]
              rw [eI872]
              exact ⟨rfl, (by have q := p1000; rw [loop_back hs867 hp868] at q; exact q), c892.then (x1006) d893, fun z hz => (dnew z hz).elim (d893 z) (fun w => .inr (by have := c892.size; omega)), f1001, f1002, f1003, any_next hk i890 c968⟩
          have h01007 : I873 0 D876 h866 := by rw [eI872]; exact ⟨eD877, p870, Chg.refl h866, fun z hz => .inl hz, f879, f880, f881, rfl⟩
          refine wc_range_any (h1 := h866) (c := (subc (bodyOf Tryd.prog 21) [1, 1, 0, 1, 0])) (g := .tmp 39) (params := #[40, 41]) (assign := (subc (bodyOf Tryd.prog 21) [1, 1, 0, 1, 0, 0])) (body := (subc (bodyOf Tryd.prog 21) [1, 1, 0, 1, 0, 1])) (by kernel_rfl) 51 #[] #[(vP b847 0)] lp863 [{ target := .collected dv862, args := #[] }] #[(Value.func (.yield lp863) #[] #[]), (vP b847 0)] (by rfl) rfl rfl (by kernel_rfl) (by rw [eh866, elp863, eL865, etm864, edv862]; rfl) ?_
          refine (open_it h866 (hT'.keep fun b r _ q => x883 b r q) h64 b847 f882 lp863 I873 E874 D876 (fun b hb w => by have := hT'.blk_lt hb; have := hD885 b w; omega) hX894 hy895 h01007).mono fun _ h8 q => ?_
          obtain ⟨q0, q⟩ := q
          rcases q with ⟨Dv, q, qD⟩ | q
          · rw [eI872] at q
            obtain ⟨eDv, p1012, cgN, hdN, f1008, f1009, f1010, i1011⟩ := q
            refine ⟨_, p1012, ?_, leftBy_none hp868 ?_⟩
            · exact fun w => by rw [hs867] at w; cases w
            have p1013 : At h8 dv862 (.deferred (some [])) := q0.same _ _ p871 hd886
            obtain ⟨h1014, e1015⟩ : ∃ zq, zq = h8.setIfInBounds lp863 (.loop { L865 with state := .exhausted }) := ⟨_, rfl⟩
            have f1017 := set_other e1015 f1008 (loop_ne p1012 f1008 rfl)
            have f1018 := set_other e1015 f1009 (loop_ne p1012 f1009 rfl)
            have f1019 := set_other e1015 f1010 (loop_ne p1012 f1010 rfl)
            have p1020 := p1013.keep fun b r hb q => (Chg.set e1015).same b r q ((fun b hb hb2 => (show ∀ b : Nat, b = lp863 → b = dv862 → False from fun b w1 w2 => by omega) b hb2 hb) b hb)
            rw [← e1015]
            have c1021 := q0.then (Chg.set e1015) (fun b hb => .inl (by rw [eD877]; exact .inl hb))
            have x1022 : Ext h h1014 := (Chg.then (O := fun _ => False) (Chg.ext x883) c1021 (fun b hb => .inr (hD885 b hb))).toExt'
            rw [List.take_length] at i1011
            by_cases c1023 : (64 : Int) ≤ ((ms.length : Nat))
            · obtain ⟨h1024, e1025⟩ : ∃ zq, zq = h1014.setIfInBounds b789 (.cells #[(vI 0)] 3 (0, 0)) := ⟨_, rfl⟩
              have f1026 := set_same e1025 f1018
              have f1029 := set_other e1025 f1019 (row_ne f1018 f1019 (by decide))
              have p1031 := p1020.keep fun b r hb q => (Chg.set e1025).same b r q ((fun (b : Nat) hb => defer_ne p1020 f1018 hb) b hb)
              have x1032 := Ext.setNew x1022 e1025 o796
              obtain ⟨h1033, e1034⟩ : ∃ zq, zq = h1024.setIfInBounds b801 (.cells #[(vI 4)] 33 (0, 0)) := ⟨_, rfl⟩
              have f1035 := set_same e1034 f1029
              have f1037 := set_other e1034 f1026 (row_ne f1029 f1026 (by decide))
              have p1040 := p1031.keep fun b r hb q => (Chg.set e1034).same b r q ((fun (b : Nat) hb => defer_ne p1031 f1029 hb) b hb)
              have x1041 := Ext.setNew x1032 e1034 o809
              refine wc_upd (n := 200) (T := ⟨fun r i => match r, i with | 10, 3 => some ((vL a775 ms.length cc776), h1014) | 10, 5 => some ((vB true), h1014) | 11, 0 => some (undef, h1024) | 11, 1 => some (undef, h1033) | _, _ => none, fun _ => none, none⟩) (x := .ret) (h1 := h1033) [(51, (vP t 0)), (52, (vP t 0)), (53, (vP t 1)), (54, (vL a775 ms.length cc776)), (55, (vI ((ms.length : Nat)))), (56, (vB true))]
                (fun q => (loadT Tryd.prog h1014 48 (vP t 1) = some (vL a775 ms.length cc776) ∧ h1014 = h1014) ∧ (binA Tryd.prog .geq 3 (vI ((ms.length : Nat))) (vI 64) = some (vB true) ∧ h1014 = h1014) ∧ (storeT Tryd.prog h1014 3 (vP b789 0) (vI 0) = some h1024 ∧ (undef : Value) = undef) ∧ (storeT Tryd.prog h1024 33 (vP b801 0) (vI 4) = some h1033 ∧ (undef : Value) = undef) ∧ q) (by intro K'; as_aux_lemma => kernel_rfl) (fun _ q => ⟨⟨load_cell agg48 (x1022 _ _ T.row) rfl, rfl⟩, ⟨cmp_geq (decide_eq_true c1023), rfl⟩, ⟨by rw [e1025]; exact store_cells size3 rfl f1018 (by decide) (by simp) rfl (by kernel_rfl), rfl⟩, ⟨by rw [e1034]; exact store_cells size33 rfl f1029 (by decide) (by simp) rfl (by kernel_rfl), rfl⟩, q⟩) ?_
              obtain ⟨h1042, e1043⟩ : ∃ zq, zq = h1033.setIfInBounds dv862 (.deferred none) := ⟨_, rfl⟩
              have f1046 := set_other e1043 f1037 (defer_ne p1040 f1037 rfl)
              have f1047 := set_other e1043 f1035 (defer_ne p1040 f1035 rfl)
              have x1044 : Ext h h1042 := Ext.setNew x1041 e1043 (by omega)
              have ee : startE ms r0 r1 f g = 4 := by unfold startE; rw [if_pos ⟨c823, grp_of c827, grp_of c831, by omega⟩, if_neg (by rw [show shareB ms r0 r1 = false from i1011]; decide), if_pos (by omega)]
              refine end_mark3 (T := ⟨fun _ _ => none, fun _ => none, some [(vI 0), (vI 4)]⟩) (dv := dv862) { tmps := #[(vP t 0), (Value.agg #[(vS r0), (vS r1)]), (vI (f)), (vI (g)), (Value.tuple #[]), (vP b779 0), (Value.tuple #[]), (Value.tuple #[]), (vP b789 0), (vP b801 0), (Value.tuple #[]), (Value.tuple #[]), (Value.tuple #[]), (Value.tuple #[]), (Value.tuple #[]), (vB false), (vP t 0), (vB true), (vB false), (vB false), (Value.agg #[(vS r0), (vS r1)]), (vI ((rchk r0 r1))), (vB false), (vB false), (vI (f)), (vB true), (vB false), (vB false), (vB false), (vI (g)), (vB true), (vB false), (vB false), (vB false), (vI (f)), (vI (g)), (vB false), (vB false), (vP t 0), (Value.func (.func 51) #[] #[(vP b847 0)]), (Value.tuple #[]), (Value.tuple #[]), (Value.tuple #[]), (Value.tuple #[]), (Value.tuple #[]), (Value.tuple #[]), (Value.tuple #[]), (Value.tuple #[]), (Value.tuple #[]), (Value.tuple #[]), (Value.tuple #[]), (vP t 0), (vP t 0), (vP t 1), (Value.slice a775 (ms.length) (cc776)), (vI ((ms.length : Nat))), (vB true), (Value.tuple #[]), (Value.tuple #[]), (Value.tuple #[]), (Value.tuple #[]), (Value.tuple #[]), (Value.tuple #[]), (Value.tuple #[]), (Value.tuple #[]), (Value.tuple #[]), (Value.tuple #[]), (Value.tuple #[]), (Value.tuple #[]), (Value.tuple #[]), (Value.tuple #[]), (Value.tuple #[]), (Value.tuple #[]), (Value.tuple #[]), (Value.tuple #[])], defers := ([{ target := .collected dv862, args := #[] }] ++ []) } (by kernel_rfl) (.inr rfl) rfl p1040 e1043 (A := (loadT Tryd.prog h1042 3 (vP b789 0) = some (vI 0) ∧ loadT Tryd.prog h1042 33 (vP b801 0) = some (vI 4) ∧ True) ∧ K (Value.tuple #[(vI 0), (vI 4)]) h1042) (by kernel_rfl) ?_
              exact ⟨⟨load_cell agg3 f1046 rfl, load_cell agg33 f1047 rfl, trivial⟩, hK _ _ (⟨by rw [show startN ms r0 r1 f g = 0 from by unfold startN; rw [ee]; rfl, ee], Chg.ext x1044, O, by unfold startL; rw [ee, if_neg (by decide)]; exact hT'.keep fun b r _ q => x1044 b r q, fun b hb => .inl hb⟩)⟩
            · obtain ⟨b1051, eb1052⟩ : ∃ zq, zq = h1014.size := ⟨_, rfl⟩
              obtain ⟨h1049, e1050⟩ : ∃ zq, zq = h1014.push (.cells #[(vS r0), (vS r1), (vI (f)), (vI (g)), (vI 1), (vS .empty)] 32 (0, 0)) := ⟨_, rfl⟩
              have f1053 := push_new e1050
              rw [← eb1052] at f1053
              have x1061 : Ext h1014 h1049 := by rw [e1050]; exact Ext.push _ _
              have o1062 : h.size ≤ b1051 := by have := x1022.size; omega
              have f1064 := x1061 _ _ f1018
              have f1065 := x1061 _ _ f1019
              have p1067 := p1020.keep fun b r _ q => x1061 b r q
              have x1068 := x1022.trans x1061
              obtain ⟨w1069, h1070, e1071, p1072, c1073, n1074, z1075⟩ := own_append und48 sizeb32 zero32 rfl (by decide) movec_size (x := (MoveM.mk r0 r1 (f) (g) 1 .empty)) (T.own.keep fun b r _ q => x1068 b r q) f1053 rfl (by omega) (by unfold maxLen; omega)
              obtain ⟨a1076, c1077, rfl⟩ := (p1072.slice movec_size).len
              have z1078 : h.size ≤ h1049.size := (Chg.ext (O := O) x1068).size
              have x1079 := (Chg.ext (O := O) x1068).then c1073 (fun b hb => .inl ((fun b hb => (T.foot b).2 (.inr hb)) b hb))
              have f1081 := c1073.same _ _ f1064 (fun hb => (T.own.keep fun b r _ q => x1068 b r q).ne f1064 (by decide) hb rfl)
              have f1082 := c1073.same _ _ f1065 (fun hb => (T.own.keep fun b r _ q => x1068 b r q).ne f1065 (by decide) hb rfl)
              have f1083 := c1073.same _ _ (x1068 _ _ T.row) (fun hb => (T.own.keep fun b r _ q => x1068 b r q).ne (x1068 _ _ T.row) (by decide) hb rfl)
              have p1086 := p1067.keep fun b r hb q => c1073.same b r q ((fun b hb hb2 => ((T.own.keep fun b r _ q => x1068 b r q)).celled.defer p1067 b hb2 hb) b hb)
              have n1089 : ∀ zz, blk (Value.slice a1076 ((ms ++ [(MoveM.mk r0 r1 (f) (g) 1 .empty)]).length) (c1077)) zz → ¬ zz = b789 := fun zz hz ez => by have := n1074 zz hz; have := row_lt f1064; omega
              have n1090 : ∀ zz, blk (Value.slice a1076 ((ms ++ [(MoveM.mk r0 r1 (f) (g) 1 .empty)]).length) (c1077)) zz → ¬ zz = b801 := fun zz hz ez => by have := n1074 zz hz; have := row_lt f1065; omega
              have n1091 : ∀ zz, blk (Value.slice a1076 ((ms ++ [(MoveM.mk r0 r1 (f) (g) 1 .empty)]).length) (c1077)) zz → ¬ zz = t := fun zz hz ez => by have := n1074 zz hz; have := row_lt (x1068 _ _ T.row); omega
              have n1094 : ∀ zz, blk (Value.slice a1076 ((ms ++ [(MoveM.mk r0 r1 (f) (g) 1 .empty)]).length) (c1077)) zz → ¬ (fun q => q = dv862) zz := fun zz hz ez => by have := n1074 zz hz; have := p1067.blk_lt ez; omega
              have o1095 : ∀ zz, blk (Value.slice a1076 ((ms ++ [(MoveM.mk r0 r1 (f) (g) 1 .empty)]).length) (c1077)) zz → h.size ≤ zz := fun zz hz => by have := n1074 zz hz; have := z1078; omega
              obtain ⟨h1096, e1097⟩ : ∃ zq, zq = h1070.setIfInBounds t (.cells #[(vB true), (Value.slice a1076 ((ms ++ [(MoveM.mk r0 r1 (f) (g) 1 .empty)]).length) (c1077))] 56 (0, 0)) := ⟨_, rfl⟩
              have f1098 := set_same e1097 f1083
              have f1100 := set_other e1097 f1081 (row_ne f1083 f1081 (by decide))
              have f1101 := set_other e1097 f1082 (row_ne f1083 f1082 (by decide))
              have p1105 := p1086.keep fun b r hb q => (Chg.set e1097).same b r q ((fun (b : Nat) hb => defer_ne p1086 f1083 hb) b hb)
              have p1106 := p1072.keep fun b r hb q => (Chg.set e1097).same b r q (n1091 b hb)
              have x1107 := x1079.then (Chg.set e1097) (fun b hb => by subst hb; exact (.inl ((T.foot _).2 (.inl rfl))))
              obtain ⟨h1108, e1109⟩ : ∃ zq, zq = h1096.setIfInBounds b789 (.cells #[(vI (((ms ++ [(MoveM.mk r0 r1 (f) (g) 1 .empty)]).length : Nat)))] 3 (0, 0)) := ⟨_, rfl⟩
              have f1110 := set_same e1109 f1100
              have f1113 := set_other e1109 f1101 (row_ne f1100 f1101 (by decide))
              have f1114 := set_other e1109 f1098 (row_ne f1100 f1098 (by decide))
              have p1117 := p1105.keep fun b r hb q => (Chg.set e1109).same b r q ((fun (b : Nat) hb => defer_ne p1105 f1100 hb) b hb)
              have p1118 := p1106.keep fun b r hb q => (Chg.set e1109).same b r q (n1089 b hb)
              have x1119 := x1107.then (Chg.set e1109) (fun b hb => by subst hb; exact (.inr o796))
              obtain ⟨h1120, e1121⟩ : ∃ zq, zq = h1108.setIfInBounds b801 (.cells #[(vI 0)] 33 (0, 0)) := ⟨_, rfl⟩
              have f1122 := set_same e1121 f1113
              have f1124 := set_other e1121 f1110 (row_ne f1113 f1110 (by decide))
              have f1126 := set_other e1121 f1114 (row_ne f1113 f1114 (by decide))
              have p1129 := p1117.keep fun b r hb q => (Chg.set e1121).same b r q ((fun (b : Nat) hb => defer_ne p1117 f1113 hb) b hb)
              have p1130 := p1118.keep fun b r hb q => (Chg.set e1121).same b r q (n1090 b hb)
              have x1131 := x1119.then (Chg.set e1121) (fun b hb => by subst hb; exact (.inr o809))
              refine wc_upd (n := 200) (T := ⟨fun r i => match r, i with | 10, 3 => some ((vL a775 ms.length cc776), h1014) | 10, 5 => some ((vB false), h1014) | 12, 4 => some ((vL a775 ms.length cc776), h1014) | 12, 5 => some ((vA #[(vS r0), (vS r1)]), h1014) | 12, 9 => some ((vL (some ⟨b1051, 0, none⟩) 1 1), h1049) | 12, 10 => some ((Value.slice a1076 ((ms ++ [(MoveM.mk r0 r1 (f) (g) 1 .empty)]).length) (c1077)), h1070) | 12, 13 => some (undef, h1096) | 13, 3 => some ((Value.slice a1076 ((ms ++ [(MoveM.mk r0 r1 (f) (g) 1 .empty)]).length) (c1077)), h1096) | 13, 5 => some (undef, h1108) | 13, 6 => some (undef, h1120) | _, _ => none, fun _ => none, none⟩) (x := .ret) (h1 := h1120) [(51, (vP t 0)), (52, (vP t 0)), (53, (vP t 1)), (54, (vL a775 ms.length cc776)), (55, (vI ((ms.length : Nat)))), (56, (vB false)), (57, (vP t 0)), (58, (vP t 0)), (59, (vP t 0)), (60, (vP t 1)), (61, (vL a775 ms.length cc776)), (62, (vA #[(vS r0), (vS r1)])), (63, (vI f)), (64, (vI g)), (65, (vA #[(vS r0), (vS r1), (vI f), (vI g), (vI 1), (vS .empty)])), (66, (vL (some ⟨b1051, 0, none⟩) 1 1)), (67, (Value.slice a1076 ((ms ++ [(MoveM.mk r0 r1 (f) (g) 1 .empty)]).length) (c1077))), (68, (vP t 0)), (69, (vP t 1)), (70, (vP t 0)), (71, (vP t 0)), (72, (vP t 1)), (73, (Value.slice a1076 ((ms ++ [(MoveM.mk r0 r1 (f) (g) 1 .empty)]).length) (c1077))), (74, (vI (((ms ++ [(MoveM.mk r0 r1 (f) (g) 1 .empty)]).length : Nat))))]
                (fun q => (loadT Tryd.prog h1014 48 (vP t 1) = some (vL a775 ms.length cc776) ∧ h1014 = h1014) ∧ (binA Tryd.prog .geq 3 (vI ((ms.length : Nat))) (vI 64) = some (vB false) ∧ h1014 = h1014) ∧ (loadT Tryd.prog h1014 48 (vP t 1) = some (vL a775 ms.length cc776) ∧ h1014 = h1014) ∧ (loadT Tryd.prog h1014 30 (vP b779 0) = some (vA #[(vS r0), (vS r1)]) ∧ h1014 = h1014) ∧ ((vL (some ⟨b1051, 0, none⟩) 1 1) = (vL (some ⟨h1014.size, 0, none⟩) 1 1) ∧ h1049 = h1014.push (.cells #[(vS r0), (vS r1), (vI f), (vI g), (vI 1), (vS .empty)] 32 (0, 0))) ∧ appendA Tryd.prog h1049 #[48, 48] #[(vL a775 ms.length cc776), (vL (some ⟨b1051, 0, none⟩) 1 1)] = some ((Value.slice a1076 ((ms ++ [(MoveM.mk r0 r1 (f) (g) 1 .empty)]).length) (c1077)), h1070) ∧ (storeT Tryd.prog h1070 48 (vP t 1) (Value.slice a1076 ((ms ++ [(MoveM.mk r0 r1 (f) (g) 1 .empty)]).length) (c1077)) = some h1096 ∧ (undef : Value) = undef) ∧ (loadT Tryd.prog h1096 48 (vP t 1) = some (Value.slice a1076 ((ms ++ [(MoveM.mk r0 r1 (f) (g) 1 .empty)]).length) (c1077)) ∧ h1096 = h1096) ∧ (storeT Tryd.prog h1096 3 (vP b789 0) (vI (((ms ++ [(MoveM.mk r0 r1 (f) (g) 1 .empty)]).length : Nat))) = some h1108 ∧ (undef : Value) = undef) ∧ (storeT Tryd.prog h1108 33 (vP b801 0) (vI 0) = some h1120 ∧ (undef : Value) = undef) ∧ q) (by intro K'; as_aux_lemma => kernel_rfl) (fun _ q => ⟨⟨load_cell agg48 (x1022 _ _ T.row) rfl, rfl⟩, ⟨cmp_geq (decide_eq_false c1023), rfl⟩, ⟨load_cell agg48 (x1022 _ _ T.row) rfl, rfl⟩, ⟨load_agg agg30 size30 f1017 (by simp) (by kernel_rfl), rfl⟩, ⟨by rw [eb1052], e1050⟩, e1071, ⟨by rw [e1097]; exact store_cells size48 rfl f1083 (by decide) (by simp) rfl (by kernel_rfl), rfl⟩, ⟨load_cell agg48 f1098 rfl, rfl⟩, ⟨by rw [e1109]; exact store_cells size3 rfl f1100 (by decide) (by simp) rfl (by kernel_rfl), rfl⟩, ⟨by rw [e1121]; exact store_cells size33 rfl f1113 (by decide) (by simp) rfl (by kernel_rfl), rfl⟩, q⟩) ?_
              obtain ⟨h1132, e1133⟩ : ∃ zq, zq = h1120.setIfInBounds dv862 (.deferred none) := ⟨_, rfl⟩
              have f1136 := set_other e1133 f1124 (defer_ne p1129 f1124 rfl)
              have f1137 := set_other e1133 f1122 (defer_ne p1129 f1122 rfl)
              have f1138 := set_other e1133 f1126 (defer_ne p1129 f1126 rfl)
              have p1140 := p1130.keep fun b r hb q => (Chg.set e1133).same b r q (n1094 b hb)
              have x1134 := x1131.then (Chg.set e1133) (fun b hb => .inr (by subst hb; omega))
              have ee : startE ms r0 r1 f g = 0 := by unfold startE; rw [if_pos ⟨c823, grp_of c827, grp_of c831, by omega⟩, if_neg (by rw [show shareB ms r0 r1 = false from i1011]; decide), if_neg (by omega)]
              have ell : startL ms r0 r1 f g = (ms ++ [(MoveM.mk r0 r1 (f) (g) 1 .empty)]) := by unfold startL; rw [if_pos ee]
              refine end_mark3 (T := ⟨fun _ _ => none, fun _ => none, some [(vI (((ms ++ [(MoveM.mk r0 r1 (f) (g) 1 .empty)]).length : Nat))), (vI 0)]⟩) (dv := dv862) { tmps := #[(vP t 0), (Value.agg #[(vS r0), (vS r1)]), (vI (f)), (vI (g)), (Value.tuple #[]), (vP b779 0), (Value.tuple #[]), (Value.tuple #[]), (vP b789 0), (vP b801 0), (Value.tuple #[]), (Value.tuple #[]), (Value.tuple #[]), (Value.tuple #[]), (Value.tuple #[]), (vB false), (vP t 0), (vB true), (vB false), (vB false), (Value.agg #[(vS r0), (vS r1)]), (vI ((rchk r0 r1))), (vB false), (vB false), (vI (f)), (vB true), (vB false), (vB false), (vB false), (vI (g)), (vB true), (vB false), (vB false), (vB false), (vI (f)), (vI (g)), (vB false), (vB false), (vP t 0), (Value.func (.func 51) #[] #[(vP b847 0)]), (Value.tuple #[]), (Value.tuple #[]), (Value.tuple #[]), (Value.tuple #[]), (Value.tuple #[]), (Value.tuple #[]), (Value.tuple #[]), (Value.tuple #[]), (Value.tuple #[]), (Value.tuple #[]), (Value.tuple #[]), (vP t 0), (vP t 0), (vP t 1), (Value.slice a775 (ms.length) (cc776)), (vI ((ms.length : Nat))), (vB false), (vP t 0), (vP t 0), (vP t 0), (vP t 1), (Value.slice a775 (ms.length) (cc776)), (Value.agg #[(vS r0), (vS r1)]), (vI (f)), (vI (g)), (Value.agg #[(vS r0), (vS r1), (vI (f)), (vI (g)), (vI 1), (vS .empty)]), (Value.slice (some ⟨b1051, 0, none⟩) 1 1), (Value.slice a1076 ((ms ++ [(MoveM.mk r0 r1 (f) (g) 1 .empty)]).length) (c1077)), (vP t 0), (vP t 1), (vP t 0), (vP t 0), (vP t 1), (Value.slice a1076 ((ms ++ [(MoveM.mk r0 r1 (f) (g) 1 .empty)]).length) (c1077)), (vI (((ms ++ [(MoveM.mk r0 r1 (f) (g) 1 .empty)]).length : Nat)))], defers := ([{ target := .collected dv862, args := #[] }] ++ []) } (by kernel_rfl) (.inr rfl) rfl p1129 e1133 (A := (loadT Tryd.prog h1132 3 (vP b789 0) = some (vI (((ms ++ [(MoveM.mk r0 r1 (f) (g) 1 .empty)]).length : Nat))) ∧ loadT Tryd.prog h1132 33 (vP b801 0) = some (vI 0) ∧ True) ∧ K (Value.tuple #[(vI (((ms ++ [(MoveM.mk r0 r1 (f) (g) 1 .empty)]).length : Nat))), (vI 0)]) h1132) (by kernel_rfl) ?_
              exact ⟨⟨load_cell agg3 f1136 rfl, load_cell agg33 f1137 rfl, trivial⟩, hK _ _ (⟨by rw [show startN ms r0 r1 f g = (ms.length : Int) + 1 from by unfold startN; rw [if_pos ee], ee]; simp, x1134, (fun b => b = t ∨ (blk (Value.slice a1076 ((ms ++ [(MoveM.mk r0 r1 (f) (g) 1 .empty)]).length) (c1077))) b), by rw [ell]; exact tab_new f1138 p1140, fun b hb => hb.elim (fun w => .inl ((T.foot b).2 (.inl w))) (fun w => .inr (o1095 b w))⟩)⟩
          · rw [eE875] at q
            obtain ⟨p1144, cgN, f1142, f1143, i1141⟩ := q
            refine ⟨_, p1144, ?_, leftBy_ret rfl ?_⟩
            · exact fun w => by cases w
            have p1145 : At h8 dv862 (.deferred (some [])) := q0.same _ _ p871 hd886
            obtain ⟨h1146, e1147⟩ : ∃ zq, zq = h8.setIfInBounds lp863 (.loop { ({ ({ L865 with state := .busy } : Loop) with state := .done, pending := some .ret } : Loop) with state := .exhausted }) := ⟨_, rfl⟩
            have f1149 := set_other e1147 f1142 (loop_ne p1144 f1142 rfl)
            have f1150 := set_other e1147 f1143 (loop_ne p1144 f1143 rfl)
            have p1151 := p1145.keep fun b r hb q => (Chg.set e1147).same b r q ((fun b hb hb2 => (show ∀ b : Nat, b = lp863 → b = dv862 → False from fun b w1 w2 => by omega) b hb2 hb) b hb)
            rw [← e1147]
            have c1152 := q0.then (Chg.set e1147) (fun b hb => .inl (by rw [eD877]; exact .inl hb))
            have x1153 : Ext h h1146 := (Chg.then (O := fun _ => False) (Chg.ext x883) c1152 (fun b hb => .inr (hD885 b hb))).toExt'
            obtain ⟨h1154, e1155⟩ : ∃ zq, zq = h1146.setIfInBounds dv862 (.deferred none) := ⟨_, rfl⟩
            have f1157 := set_other e1155 f1149 (defer_ne p1151 f1149 rfl)
            have f1158 := set_other e1155 f1150 (defer_ne p1151 f1150 rfl)
            have x1156 : Ext h h1154 := Ext.setNew x1153 e1155 (by omega)
            have ee : startE ms r0 r1 f g = 17 := by unfold startE; rw [if_pos ⟨c823, grp_of c827, grp_of c831, by omega⟩, if_pos (show shareB ms r0 r1 = true from i1141)]
            refine end_mark3 (T := ⟨fun _ _ => none, fun _ => none, some [(vI 0), (vI 17)]⟩) (dv := dv862) { tmps := #[(vP t 0), (Value.agg #[(vS r0), (vS r1)]), (vI (f)), (vI (g)), (Value.tuple #[]), (vP b779 0), (Value.tuple #[]), (Value.tuple #[]), (vP b789 0), (vP b801 0), (Value.tuple #[]), (Value.tuple #[]), (Value.tuple #[]), (Value.tuple #[]), (Value.tuple #[]), (vB false), (vP t 0), (vB true), (vB false), (vB false), (Value.agg #[(vS r0), (vS r1)]), (vI ((rchk r0 r1))), (vB false), (vB false), (vI (f)), (vB true), (vB false), (vB false), (vB false), (vI (g)), (vB true), (vB false), (vB false), (vB false), (vI (f)), (vI (g)), (vB false), (vB false), (vP t 0), (Value.func (.func 51) #[] #[(vP b847 0)]), (Value.tuple #[]), (Value.tuple #[]), (Value.tuple #[]), (Value.tuple #[]), (Value.tuple #[]), (Value.tuple #[]), (Value.tuple #[]), (Value.tuple #[]), (Value.tuple #[]), (Value.tuple #[]), (Value.tuple #[]), (Value.tuple #[]), (Value.tuple #[]), (Value.tuple #[]), (Value.tuple #[]), (Value.tuple #[]), (Value.tuple #[]), (Value.tuple #[]), (Value.tuple #[]), (Value.tuple #[]), (Value.tuple #[]), (Value.tuple #[]), (Value.tuple #[]), (Value.tuple #[]), (Value.tuple #[]), (Value.tuple #[]), (Value.tuple #[]), (Value.tuple #[]), (Value.tuple #[]), (Value.tuple #[]), (Value.tuple #[]), (Value.tuple #[]), (Value.tuple #[]), (Value.tuple #[]), (Value.tuple #[])], defers := ([{ target := .collected dv862, args := #[] }] ++ []) } (by kernel_rfl) (.inr rfl) rfl p1151 e1155 (A := (loadT Tryd.prog h1154 3 (vP b789 0) = some (vI 0) ∧ loadT Tryd.prog h1154 33 (vP b801 0) = some (vI 17) ∧ True) ∧ K (Value.tuple #[(vI 0), (vI 17)]) h1154) (by kernel_rfl) ?_
            exact ⟨⟨load_cell agg3 f1157 rfl, load_cell agg33 f1158 rfl, trivial⟩, hK _ _ (⟨by rw [show startN ms r0 r1 f g = 0 from by unfold startN; rw [ee]; rfl, ee], Chg.ext x1156, O, by unfold startL; rw [ee, if_neg (by decide)]; exact hT'.keep fun b r _ q => x1156 b r q, fun b hb => .inl hb⟩)⟩
      · obtain ⟨h1160, e1161⟩ : ∃ zq, zq = hh816.setIfInBounds b789 (.cells #[(vI 0)] 3 (0, 0)) := ⟨_, rfl⟩
        have f1162 := set_same e1161 f820
        have f1165 := set_other e1161 f821 n806.symm
        have x1166 := Ext.setNew x822 e1161 o796
        obtain ⟨h1167, e1168⟩ : ∃ zq, zq = h1160.setIfInBounds b801 (.cells #[(vI 2)] 33 (0, 0)) := ⟨_, rfl⟩
        have f1169 := set_same e1168 f1165
        have f1171 := set_other e1168 f1162 n806
        have x1173 := Ext.setNew x1166 e1168 o809
        refine wc_upd (n := 200) (T := ⟨fun r i => match r, i with | 1, 1 => some ((vB true), h799) | 3, 0 => some ((vA #[(vS r0), (vS r1)]), h799) | 3, 1 => some ((vI ((rchk r0 r1))), hh816) | 3, 2 => some ((vB false), hh816) | 3, 5 => some ((vB true), hh816) | 3, 10 => some ((vB false), hh816) | 4, 0 => some (undef, h1160) | 4, 1 => some (undef, h1167) | _, _ => none, fun _ => none, none⟩) (x := .ret) (h1 := h1167) [(16, (vP t 0)), (17, (vB true)), (18, (vB false)), (15, (vB false)), (20, (vA #[(vS r0), (vS r1)])), (21, (vI ((rchk r0 r1)))), (22, (vB false)), (23, (vB false)), (24, (vI f)), (25, (vB true)), (26, (vB false)), (27, (vB false)), (28, (vB false)), (29, (vI g)), (30, (vB false)), (31, (vB true)), (32, (vB true)), (33, (vB true)), (34, vZ), (35, vZ), (36, vZ), (37, (vB true)), (19, (vB true))]
          (fun q => SoundCall Tryd.prog 39 #[(vP t 0)] h799 (vB true) h799 ∧ (loadT Tryd.prog h799 30 (vP b779 0) = some (vA #[(vS r0), (vS r1)]) ∧ h799 = h799) ∧ SoundCall Tryd.prog 16 #[(vA #[(vS r0), (vS r1)])] h799 (vI ((rchk r0 r1))) hh816 ∧ (binA Tryd.prog .neq 33 (vI ((rchk r0 r1))) (vI 0) = some (vB false) ∧ hh816 = hh816) ∧ SoundCall Tryd.prog 40 #[(vI f)] hh816 (vB true) hh816 ∧ SoundCall Tryd.prog 40 #[(vI g)] hh816 (vB false) hh816 ∧ (storeT Tryd.prog hh816 3 (vP b789 0) (vI 0) = some h1160 ∧ (undef : Value) = undef) ∧ (storeT Tryd.prog h1160 33 (vP b801 0) (vI 2) = some h1167 ∧ (undef : Value) = undef) ∧ q) (by intro K'; as_aux_lemma => kernel_rfl) (fun _ q => ⟨sn814, ⟨load_agg agg30 size30 f810 (by simp) (by kernel_rfl), rfl⟩, sn817, ⟨cmp_neq (decide_eq_false (not_not_intro c823)), rfl⟩, (by rw [← c827]; exact sn825), (by rw [← c831]; exact sn829), ⟨by rw [e1161]; exact store_cells size3 rfl f820 (by decide) (by simp) rfl (by kernel_rfl), rfl⟩, ⟨by rw [e1168]; exact store_cells size33 rfl f1165 (by decide) (by simp) rfl (by kernel_rfl), rfl⟩, q⟩) ?_
        have ee : startE ms r0 r1 f g = 2 := by unfold startE; rw [if_neg]; rintro ⟨w1, w2, w3, w4⟩; first | omega | (simp only [grpB] at *; simp_all) | contradiction
        refine end_at (T := ⟨fun _ _ => none, fun _ => none, some [(vI 0), (vI 2)]⟩) (A := (loadT Tryd.prog h1167 3 (vP b789 0) = some (vI 0) ∧ loadT Tryd.prog h1167 33 (vP b801 0) = some (vI 2) ∧ True) ∧ K (vT #[(vI 0), (vI 2)]) h1167) (by kernel_rfl) ?_
        exact ⟨⟨load_cell agg3 f1171 rfl, load_cell agg33 f1169 rfl, trivial⟩, hK _ _ (⟨by rw [show startN ms r0 r1 f g = 0 from by unfold startN; rw [ee]; rfl, ee], Chg.ext x1173, O, by unfold startL; rw [ee, if_neg (by decide)]; exact hT'.keep fun b r _ q => x1173 b r q, fun b hb => .inl hb⟩)⟩
    · obtain ⟨h1174, e1175⟩ : ∃ zq, zq = hh816.setIfInBounds b789 (.cells #[(vI 0)] 3 (0, 0)) := ⟨_, rfl⟩
      have f1176 := set_same e1175 f820
      have f1179 := set_other e1175 f821 n806.symm
      have x1180 := Ext.setNew x822 e1175 o796
      obtain ⟨h1181, e1182⟩ : ∃ zq, zq = h1174.setIfInBounds b801 (.cells #[(vI 2)] 33 (0, 0)) := ⟨_, rfl⟩
      have f1183 := set_same e1182 f1179
      have f1185 := set_other e1182 f1176 n806
      have x1187 := Ext.setNew x1180 e1182 o809
      refine wc_upd (n := 200) (T := ⟨fun r i => match r, i with | 1, 1 => some ((vB true), h799) | 3, 0 => some ((vA #[(vS r0), (vS r1)]), h799) | 3, 1 => some ((vI ((rchk r0 r1))), hh816) | 3, 2 => some ((vB false), hh816) | 3, 5 => some ((vB false), hh816) | 4, 0 => some (undef, h1174) | 4, 1 => some (undef, h1181) | _, _ => none, fun _ => none, none⟩) (x := .ret) (h1 := h1181) [(16, (vP t 0)), (17, (vB true)), (18, (vB false)), (15, (vB false)), (20, (vA #[(vS r0), (vS r1)])), (21, (vI ((rchk r0 r1)))), (22, (vB false)), (23, (vB false)), (24, (vI f)), (25, (vB false)), (26, (vB true)), (27, (vB true)), (28, (vB true)), (29, vZ), (30, vZ), (31, vZ), (32, (vB true)), (33, (vB true)), (34, vZ), (35, vZ), (36, vZ), (37, (vB true)), (19, (vB true))]
        (fun q => SoundCall Tryd.prog 39 #[(vP t 0)] h799 (vB true) h799 ∧ (loadT Tryd.prog h799 30 (vP b779 0) = some (vA #[(vS r0), (vS r1)]) ∧ h799 = h799) ∧ SoundCall Tryd.prog 16 #[(vA #[(vS r0), (vS r1)])] h799 (vI ((rchk r0 r1))) hh816 ∧ (binA Tryd.prog .neq 33 (vI ((rchk r0 r1))) (vI 0) = some (vB false) ∧ hh816 = hh816) ∧ SoundCall Tryd.prog 40 #[(vI f)] hh816 (vB false) hh816 ∧ (storeT Tryd.prog hh816 3 (vP b789 0) (vI 0) = some h1174 ∧ (undef : Value) = undef) ∧ (storeT Tryd.prog h1174 33 (vP b801 0) (vI 2) = some h1181 ∧ (undef : Value) = undef) ∧ q) (by intro K'; as_aux_lemma => kernel_rfl) (fun _ q => ⟨sn814, ⟨load_agg agg30 size30 f810 (by simp) (by kernel_rfl), rfl⟩, sn817, ⟨cmp_neq (decide_eq_false (not_not_intro c823)), rfl⟩, (by rw [← c827]; exact sn825), ⟨by rw [e1175]; exact store_cells size3 rfl f820 (by decide) (by simp) rfl (by kernel_rfl), rfl⟩, ⟨by rw [e1182]; exact store_cells size33 rfl f1179 (by decide) (by simp) rfl (by kernel_rfl), rfl⟩, q⟩) ?_
      have ee : startE ms r0 r1 f g = 2 := by unfold startE; rw [if_neg]; rintro ⟨w1, w2, w3, w4⟩; first | omega | (simp only [grpB] at *; simp_all) | contradiction
      refine end_at (T := ⟨fun _ _ => none, fun _ => none, some [(vI 0), (vI 2)]⟩) (A := (loadT Tryd.prog h1181 3 (vP b789 0) = some (vI 0) ∧ loadT Tryd.prog h1181 33 (vP b801 0) = some (vI 2) ∧ True) ∧ K (vT #[(vI 0), (vI 2)]) h1181) (by kernel_rfl) ?_
      exact ⟨⟨load_cell agg3 f1185 rfl, load_cell agg33 f1183 rfl, trivial⟩, hK _ _ (⟨by rw [show startN ms r0 r1 f g = 0 from by unfold startN; rw [ee]; rfl, ee], Chg.ext x1187, O, by unfold startL; rw [ee, if_neg (by decide)]; exact hT'.keep fun b r _ q => x1187 b r q, fun b hb => .inl hb⟩)⟩
  · obtain ⟨h1188, e1189⟩ : ∃ zq, zq = hh816.setIfInBounds b789 (.cells #[(vI 0)] 3 (0, 0)) := ⟨_, rfl⟩
    have f1190 := set_same e1189 f820
    have f1193 := set_other e1189 f821 n806.symm
    have x1194 := Ext.setNew x822 e1189 o796
    obtain ⟨h1195, e1196⟩ : ∃ zq, zq = h1188.setIfInBounds b801 (.cells #[(vI 2)] 33 (0, 0)) := ⟨_, rfl⟩
    have f1197 := set_same e1196 f1193
    have f1199 := set_other e1196 f1190 n806
    have x1201 := Ext.setNew x1194 e1196 o809
    refine wc_upd (n := 200) (T := ⟨fun r i => match r, i with | 1, 1 => some ((vB true), h799) | 3, 0 => some ((vA #[(vS r0), (vS r1)]), h799) | 3, 1 => some ((vI ((rchk r0 r1))), hh816) | 3, 2 => some ((vB true), hh816) | 4, 0 => some (undef, h1188) | 4, 1 => some (undef, h1195) | _, _ => none, fun _ => none, none⟩) (x := .ret) (h1 := h1195) [(16, (vP t 0)), (17, (vB true)), (18, (vB false)), (15, (vB false)), (20, (vA #[(vS r0), (vS r1)])), (21, (vI ((rchk r0 r1)))), (22, (vB true)), (23, (vB true)), (24, vZ), (25, vZ), (26, vZ), (27, (vB true)), (28, (vB true)), (29, vZ), (30, vZ), (31, vZ), (32, (vB true)), (33, (vB true)), (34, vZ), (35, vZ), (36, vZ), (37, (vB true)), (19, (vB true))]
      (fun q => SoundCall Tryd.prog 39 #[(vP t 0)] h799 (vB true) h799 ∧ (loadT Tryd.prog h799 30 (vP b779 0) = some (vA #[(vS r0), (vS r1)]) ∧ h799 = h799) ∧ SoundCall Tryd.prog 16 #[(vA #[(vS r0), (vS r1)])] h799 (vI ((rchk r0 r1))) hh816 ∧ (binA Tryd.prog .neq 33 (vI ((rchk r0 r1))) (vI 0) = some (vB true) ∧ hh816 = hh816) ∧ (storeT Tryd.prog hh816 3 (vP b789 0) (vI 0) = some h1188 ∧ (undef : Value) = undef) ∧ (storeT Tryd.prog h1188 33 (vP b801 0) (vI 2) = some h1195 ∧ (undef : Value) = undef) ∧ q) (by intro K'; as_aux_lemma => kernel_rfl) (fun _ q => ⟨sn814, ⟨load_agg agg30 size30 f810 (by simp) (by kernel_rfl), rfl⟩, sn817, ⟨cmp_neq (decide_eq_true c823), rfl⟩, ⟨by rw [e1189]; exact store_cells size3 rfl f820 (by decide) (by simp) rfl (by kernel_rfl), rfl⟩, ⟨by rw [e1196]; exact store_cells size33 rfl f1193 (by decide) (by simp) rfl (by kernel_rfl), rfl⟩, q⟩) ?_
    have ee : startE ms r0 r1 f g = 2 := by unfold startE; rw [if_neg]; rintro ⟨w1, w2, w3, w4⟩; first | omega | (simp only [grpB] at *; simp_all) | contradiction
    refine end_at (T := ⟨fun _ _ => none, fun _ => none, some [(vI 0), (vI 2)]⟩) (A := (loadT Tryd.prog h1195 3 (vP b789 0) = some (vI 0) ∧ loadT Tryd.prog h1195 33 (vP b801 0) = some (vI 2) ∧ True) ∧ K (vT #[(vI 0), (vI 2)]) h1195) (by kernel_rfl) ?_
    exact ⟨⟨load_cell agg3 f1199 rfl, load_cell agg33 f1197 rfl, trivial⟩, hK _ _ (⟨by rw [show startN ms r0 r1 f g = 0 from by unfold startN; rw [ee]; rfl, ee], Chg.ext x1201, O, by unfold startL; rw [ee, if_neg (by decide)]; exact hT'.keep fun b r _ q => x1201 b r q, fun b hb => .inl hb⟩)⟩
end C32
