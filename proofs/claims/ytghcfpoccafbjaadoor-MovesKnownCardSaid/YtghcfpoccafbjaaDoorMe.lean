/- Copies; the open moves. -/
import Derived.Test.YtghcfpoccafbjaaDoorMb
import Derived.KernelRfl
open Go Go.AM Go.Proofs
namespace C32
theorem agg27 : isAggA Tryd.prog 27 = some false := by kernel_rfl
theorem agg33 : isAggA Tryd.prog 33 = some false := by kernel_rfl
theorem size3 : (Tryd.prog.info? 3).map (·.size) = some 1 := by kernel_rfl
theorem size4 : (Tryd.prog.info? 4).map (·.size) = some 1 := by kernel_rfl
theorem size27 : (Tryd.prog.info? 27).map (·.size) = some 1 := by kernel_rfl
theorem size33 : (Tryd.prog.info? 33).map (·.size) = some 1 := by kernel_rfl
theorem size48 : (Tryd.prog.info? 48).map (·.size) = some 1 := by kernel_rfl
theorem sizeb3 : (Tryd.prog.info? 3).map (fun i => (i.size, i.bytes)) = some (1, 8) := by kernel_rfl
theorem sizeb32 : (Tryd.prog.info? 32).map (fun i => (i.size, i.bytes)) = some (6, 72) := by kernel_rfl
theorem und27 : Tryd.prog.underlying 27 = some (.slice 3) := by kernel_rfl
theorem zero3 : zeroA Tryd.prog 3 = some (Value.int .i64 0) := by kernel_rfl
theorem zero32 : zeroA Tryd.prog 32 = some (Value.agg #[(Value.string .empty), (Value.string .empty), (Value.int .i64 0), (Value.int .i64 0), (Value.int .i64 0), (Value.string .empty)]) := by kernel_rfl
theorem grp_of {n : Int} (h : grpB n = true) : 1 ≤ n ∧ n < 8 := by
  unfold grpB at h
  split at h
  · split at h
    · omega
    · cases h
  · cases h
set_option maxHeartbeats 4000000 in
theorem start_ok (h : Heap) {O : Nat → Prop} {t : Nat} {ms : List MoveM} (hT : TabAt 56 32 h O t ms) (h64 : ms.length ≤ 64) (r0 r1 : ByteArray) (f g : Int) : WCall Tryd.prog 21 #[(vP t 0), (Value.agg #[(vS r0), (vS r1)]), (vI (f)), (vI (g))] h (fun v h1 => v = .tuple #[.int .i64 (startN ms r0 r1 f g), .int .i64 (startE ms r0 r1 f g)] ∧ Chg O h h1 ∧ ∃ O', TabAt 56 32 h1 O' t (startL ms r0 r1 f g) ∧ ∀ b, O' b → O b ∨ h.size ≤ b) := by
  have hT' := hT
  obtain ⟨a775, cc776, T⟩ := hT
  suffices H : ∀ K : Value → Heap → Prop, (∀ v h1, (fun v h1 => v = .tuple #[.int .i64 (startN ms r0 r1 f g), .int .i64 (startE ms r0 r1 f g)] ∧ Chg O h h1 ∧ ∃ O', TabAt 56 32 h1 O' t (startL ms r0 r1 f g) ∧ ∀ b, O' b → O b ∨ h.size ≤ b) v h1 → K v h1) → WCall Tryd.prog 21 #[(vP t 0), (Value.agg #[(vS r0), (vS r1)]), (vI (f)), (vI (g))] h K from H _ fun _ _ q => q
  intro K hK
  refine wcall_at { tmps := #[(vP t 0), (vA #[(vS r0), (vS r1)]), (vI f), (vI g), vZ, vZ, vZ, vZ, vZ, vZ, vZ, vZ, vZ, vZ, vZ, vZ, vZ, vZ, vZ, vZ, vZ, vZ, vZ, vZ, vZ, vZ, vZ, vZ, vZ, vZ, vZ, vZ, vZ, vZ, vZ, vZ, vZ, vZ, vZ, vZ, vZ, vZ, vZ, vZ, vZ, vZ, vZ, vZ, vZ, vZ, vZ, vZ, vZ, vZ, vZ, vZ, vZ, vZ, vZ, vZ, vZ, vZ, vZ, vZ, vZ, vZ, vZ, vZ, vZ, vZ, vZ, vZ, vZ, vZ, vZ], defers := [] } (by kernel_rfl) ?_
  refine wc_seq' (subc (bodyOf Tryd.prog 21) [0]) (subc (bodyOf Tryd.prog 21) [1]) (by kernel_rfl) ?_
  obtain ⟨b779, eb780⟩ : ∃ zq, zq = h.size := ⟨_, rfl⟩
  obtain ⟨h777, e778⟩ : ∃ zq, zq = h.push (.cells #[(vS r0), (vS r1)] 30 (0, 0)) := ⟨_, rfl⟩
  have f781 := push_new e778
  rw [← eb780] at f781
  have x784 : Ext h h777 := by rw [e778]; exact Ext.push _ _
  have o785 : h.size ≤ b779 := by have := (Ext.refl h).size; omega
  have x786 := (Ext.refl h).trans x784
  obtain ⟨b789, eb790⟩ : ∃ zq, zq = h777.size := ⟨_, rfl⟩
  obtain ⟨h787, e788⟩ : ∃ zq, zq = h777.push (.cells #[(vI 0)] 3 (0, 0)) := ⟨_, rfl⟩
  have f791 := push_new e788
  rw [← eb790] at f791
  have x795 : Ext h777 h787 := by rw [e788]; exact Ext.push _ _
  have o796 : h.size ≤ b789 := by have := x786.size; omega
  have f797 := x795 _ _ f781
  have x798 := x786.trans x795
  obtain ⟨b801, eb802⟩ : ∃ zq, zq = h787.size := ⟨_, rfl⟩
  obtain ⟨h799, e800⟩ : ∃ zq, zq = h787.push (.cells #[(vI 0)] 33 (0, 0)) := ⟨_, rfl⟩
  have f803 := push_new e800
  rw [← eb802] at f803
  have n806 : b801 ≠ b789 := by have := row_lt f791; omega
  have x808 : Ext h787 h799 := by rw [e800]; exact Ext.push _ _
  have o809 : h.size ≤ b801 := by have := x798.size; omega
  have f810 := x808 _ _ f797
  have f811 := x808 _ _ f791
  have x812 := x798.trans x808
  refine wc_upd (n := 200) (T := ⟨fun r i => match r, i with | 0, 0 => some ((vP b779 0), h777) | 0, 1 => some ((vP b789 0), h787) | 0, 2 => some ((vP b801 0), h799) | _, _ => none, fun _ => none, none⟩) (x := .normal) (h1 := h799) [(5, (vP b779 0)), (8, (vP b789 0)), (9, (vP b801 0))]
    (fun q => ((vP b779 0) = (Value.pointer (some ⟨h.size, 0, none⟩)) ∧ h777 = h.push (.cells #[(vS r0), (vS r1)] 30 (0, 0))) ∧ ((vP b789 0) = (Value.pointer (some ⟨h777.size, 0, none⟩)) ∧ h787 = h777.push (.cells #[(vI 0)] 3 (0, 0))) ∧ ((vP b801 0) = (Value.pointer (some ⟨h787.size, 0, none⟩)) ∧ h799 = h787.push (.cells #[(vI 0)] 33 (0, 0))) ∧ q) (by intro K'; as_aux_lemma => kernel_rfl) (fun _ q => ⟨⟨by rw [eb780], e778⟩, ⟨by rw [eb790], e788⟩, ⟨by rw [eb802], e800⟩, q⟩) ?_
  refine wc_seq' (subc (bodyOf Tryd.prog 21) [1, 0]) (subc (bodyOf Tryd.prog 21) [1, 1]) (by kernel_rfl) ?_
  obtain ⟨_, _, sn814, rfl, rfl⟩ := valid_ok h799 (x812 _ _ T.row)
  obtain ⟨_, hh816, sn817, rfl, x818⟩ := rchk_ok h799 r0 r1 
  have f819 := x818 _ _ f810
  have f820 := x818 _ _ f811
  have f821 := x818 _ _ f803
  have x822 := x812.trans x818
  by_cases c823 : (((rchk r0 r1)) : Int) = 0
  · obtain ⟨_, _, sn825, rfl, rfl⟩ := grpB_ok hh816 (f) 
    rcases Bool.eq_false_or_eq_true ((grpB (f))) with c827 | c827
    · obtain ⟨_, _, sn829, rfl, rfl⟩ := grpB_ok hh816 (g) 
      rcases Bool.eq_false_or_eq_true ((grpB (g))) with c831 | c831
      · by_cases c832 : ((f) : Int) = (g)
        · obtain ⟨h833, e834⟩ : ∃ zq, zq = hh816.setIfInBounds b789 (.cells #[(vI 0)] 3 (0, 0)) := ⟨_, rfl⟩
          have f835 := set_same e834 f820
          have f838 := set_other e834 f821 n806.symm
          have x839 := Ext.setNew x822 e834 o796
          obtain ⟨h840, e841⟩ : ∃ zq, zq = h833.setIfInBounds b801 (.cells #[(vI 2)] 33 (0, 0)) := ⟨_, rfl⟩
          have f842 := set_same e841 f838
          have f844 := set_other e841 f835 n806
          have x846 := Ext.setNew x839 e841 o809
          refine wc_upd (n := 200) (T := ⟨fun r i => match r, i with | 1, 1 => some ((vB true), h799) | 3, 0 => some ((vA #[(vS r0), (vS r1)]), h799) | 3, 1 => some ((vI ((rchk r0 r1))), hh816) | 3, 2 => some ((vB false), hh816) | 3, 5 => some ((vB true), hh816) | 3, 10 => some ((vB true), hh816) | 3, 16 => some ((vB true), hh816) | 4, 0 => some (undef, h833) | 4, 1 => some (undef, h840) | _, _ => none, fun _ => none, none⟩) (x := .ret) (h1 := h840) [(16, (vP t 0)), (17, (vB true)), (18, (vB false)), (15, (vB false)), (20, (vA #[(vS r0), (vS r1)])), (21, (vI ((rchk r0 r1)))), (22, (vB false)), (23, (vB false)), (24, (vI f)), (25, (vB true)), (26, (vB false)), (27, (vB false)), (28, (vB false)), (29, (vI g)), (30, (vB true)), (31, (vB false)), (32, (vB false)), (33, (vB false)), (34, (vI f)), (35, (vI g)), (36, (vB true)), (37, (vB true)), (19, (vB true))]
            (fun q => SoundCall Tryd.prog 39 #[(vP t 0)] h799 (vB true) h799 ∧ (loadT Tryd.prog h799 30 (vP b779 0) = some (vA #[(vS r0), (vS r1)]) ∧ h799 = h799) ∧ SoundCall Tryd.prog 16 #[(vA #[(vS r0), (vS r1)])] h799 (vI ((rchk r0 r1))) hh816 ∧ (binA Tryd.prog .neq 33 (vI ((rchk r0 r1))) (vI 0) = some (vB false) ∧ hh816 = hh816) ∧ SoundCall Tryd.prog 40 #[(vI f)] hh816 (vB true) hh816 ∧ SoundCall Tryd.prog 40 #[(vI g)] hh816 (vB true) hh816 ∧ (binA Tryd.prog .eql 3 (vI f) (vI g) = some (vB true) ∧ hh816 = hh816) ∧ (storeT Tryd.prog hh816 3 (vP b789 0) (vI 0) = some h833 ∧ (undef : Value) = undef) ∧ (storeT Tryd.prog h833 33 (vP b801 0) (vI 2) = some h840 ∧ (undef : Value) = undef) ∧ q) (by intro K'; as_aux_lemma => kernel_rfl) (fun _ q => ⟨sn814, ⟨load_agg agg30 size30 f810 (by simp) (by kernel_rfl), rfl⟩, sn817, ⟨cmp_neq (decide_eq_false (not_not_intro c823)), rfl⟩, (by rw [← c827]; exact sn825), (by rw [← c831]; exact sn829), ⟨cmp_eql (decide_eq_true c832), rfl⟩, ⟨by rw [e834]; exact store_cells size3 rfl f820 (by decide) (by simp) rfl (by kernel_rfl), rfl⟩, ⟨by rw [e841]; exact store_cells size33 rfl f838 (by decide) (by simp) rfl (by kernel_rfl), rfl⟩, q⟩) ?_
          have ee : startE ms r0 r1 f g = 2 := by unfold startE; rw [if_neg]; rintro ⟨w1, w2, w3, w4⟩; first | omega | (simp only [grpB] at *; simp_all) | contradiction
          refine end_at (T := ⟨fun _ _ => none, fun _ => none, some [(vI 0), (vI 2)]⟩) (A := (loadT Tryd.prog h840 3 (vP b789 0) = some (vI 0) ∧ loadT Tryd.prog h840 33 (vP b801 0) = some (vI 2) ∧ True) ∧ K (vT #[(vI 0), (vI 2)]) h840) (by kernel_rfl) ?_
          exact ⟨⟨load_cell agg3 f844 rfl, load_cell agg33 f842 rfl, trivial⟩, hK _ _ (⟨by rw [show startN ms r0 r1 f g = 0 from by unfold startN; rw [ee]; rfl, ee], Chg.ext x846, O, by unfold startL; rw [ee, if_neg (by decide)]; exact hT'.keep fun b r _ q => x846 b r q, fun b hb => .inl hb⟩)⟩
        · refine wc_upd (n := 200) (T := ⟨fun r i => match r, i with | 1, 1 => some ((vB true), h799) | 3, 0 => some ((vA #[(vS r0), (vS r1)]), h799) | 3, 1 => some ((vI ((rchk r0 r1))), hh816) | 3, 2 => some ((vB false), hh816) | 3, 5 => some ((vB true), hh816) | 3, 10 => some ((vB true), hh816) | 3, 16 => some ((vB false), hh816) | _, _ => none, fun _ => none, none⟩) (x := .normal) (h1 := hh816) [(16, (vP t 0)), (17, (vB true)), (18, (vB false)), (15, (vB false)), (20, (vA #[(vS r0), (vS r1)])), (21, (vI ((rchk r0 r1)))), (22, (vB false)), (23, (vB false)), (24, (vI f)), (25, (vB true)), (26, (vB false)), (27, (vB false)), (28, (vB false)), (29, (vI g)), (30, (vB true)), (31, (vB false)), (32, (vB false)), (33, (vB false)), (34, (vI f)), (35, (vI g)), (36, (vB false)), (37, (vB false)), (19, (vB false))]
            (fun q => SoundCall Tryd.prog 39 #[(vP t 0)] h799 (vB true) h799 ∧ (loadT Tryd.prog h799 30 (vP b779 0) = some (vA #[(vS r0), (vS r1)]) ∧ h799 = h799) ∧ SoundCall Tryd.prog 16 #[(vA #[(vS r0), (vS r1)])] h799 (vI ((rchk r0 r1))) hh816 ∧ (binA Tryd.prog .neq 33 (vI ((rchk r0 r1))) (vI 0) = some (vB false) ∧ hh816 = hh816) ∧ SoundCall Tryd.prog 40 #[(vI f)] hh816 (vB true) hh816 ∧ SoundCall Tryd.prog 40 #[(vI g)] hh816 (vB true) hh816 ∧ (binA Tryd.prog .eql 3 (vI f) (vI g) = some (vB false) ∧ hh816 = hh816) ∧ q) (by intro K'; as_aux_lemma => kernel_rfl) (fun _ q => ⟨sn814, ⟨load_agg agg30 size30 f810 (by simp) (by kernel_rfl), rfl⟩, sn817, ⟨cmp_neq (decide_eq_false (not_not_intro c823)), rfl⟩, (by rw [← c827]; exact sn825), (by rw [← c831]; exact sn829), ⟨cmp_eql (decide_eq_false c832), rfl⟩, q⟩) ?_
          refine wc_act { tmps := #[(vP t 0), (vA #[(vS r0), (vS r1)]), (vI f), (vI g), vZ, (vP b779 0), vZ, vZ, (vP b789 0), (vP b801 0), vZ, vZ, vZ, vZ, vZ, (vB false), (vP t 0), (vB true), (vB false), (vB false), (vA #[(vS r0), (vS r1)]), (vI ((rchk r0 r1))), (vB false), (vB false), (vI f), (vB true), (vB false), (vB false), (vB false), (vI g), (vB true), (vB false), (vB false), (vB false), (vI f), (vI g), (vB false), (vB false), vZ, vZ, vZ, vZ, vZ, vZ, vZ, vZ, vZ, vZ, vZ, vZ, vZ, vZ, vZ, vZ, vZ, vZ, vZ, vZ, vZ, vZ, vZ, vZ, vZ, vZ, vZ, vZ, vZ, vZ, vZ, vZ, vZ, vZ, vZ, vZ, vZ], defers := [] } (by as_aux_lemma => kernel_rfl) ?_
          refine wc_seq' (subc (bodyOf Tryd.prog 21) [1, 1, 0]) (subc (bodyOf Tryd.prog 21) [1, 1, 1]) (by kernel_rfl) ?_
          refine wc_seq' (subc (bodyOf Tryd.prog 21) [1, 1, 0, 0]) (subc (bodyOf Tryd.prog 21) [1, 1, 0, 1]) (by kernel_rfl) ?_
          obtain ⟨_, h848, s849, b847, rfl, f850, x851, o852⟩ := open_fn hh816 t
          have oo852 : h.size ≤ b847 := by have := x822.size; omega
          have f858 := x851 _ _ f819
          have f859 := x851 _ _ f820
          have f860 := x851 _ _ f821
          have x861 := x822.trans x851
          refine wc_upd (n := 200) (T := ⟨fun r i => match r, i with | 5, 1 => some ((Value.func (.func 51) #[] #[(vP b847 0)]), h848) | _, _ => none, fun _ => none, none⟩) (x := .normal) (h1 := h848) [(38, (vP t 0)), (39, (Value.func (.func 51) #[] #[(vP b847 0)]))]
            (fun q => SoundCall Tryd.prog 35 #[(vP t 0)] hh816 (Value.func (.func 51) #[] #[(vP b847 0)]) h848 ∧ q) (by intro K'; as_aux_lemma => kernel_rfl) (fun _ q => ⟨s849, q⟩) ?_
          refine wc_block' 1 (subc (bodyOf Tryd.prog 21) [1, 1, 0, 1, 0]) (by kernel_rfl) ?_
          refine wc_act { tmps := #[(vP t 0), (vA #[(vS r0), (vS r1)]), (vI f), (vI g), vZ, (vP b779 0), vZ, vZ, (vP b789 0), (vP b801 0), vZ, vZ, vZ, vZ, vZ, (vB false), (vP t 0), (vB true), (vB false), (vB false), (vA #[(vS r0), (vS r1)]), (vI ((rchk r0 r1))), (vB false), (vB false), (vI f), (vB true), (vB false), (vB false), (vB false), (vI g), (vB true), (vB false), (vB false), (vB false), (vI f), (vI g), (vB false), (vB false), (vP t 0), (Value.func (.func 51) #[] #[(vP b847 0)]), vZ, vZ, vZ, vZ, vZ, vZ, vZ, vZ, vZ, vZ, vZ, vZ, vZ, vZ, vZ, vZ, vZ, vZ, vZ, vZ, vZ, vZ, vZ, vZ, vZ, vZ, vZ, vZ, vZ, vZ, vZ, vZ, vZ, vZ, vZ], defers := [] } (by kernel_rfl) ?_
          obtain ⟨dv862, edv862⟩ : ∃ zq, zq = h848.size := ⟨_, rfl⟩
          obtain ⟨lp863, elp863⟩ : ∃ zq, zq = h848.size + 1 := ⟨_, rfl⟩
          obtain ⟨tm864, etm864⟩ : ∃ zq : Array Value, zq = #[(vP t 0), (Value.agg #[(vS r0), (vS r1)]), (vI (f)), (vI (g)), (Value.tuple #[]), (vP b779 0), (Value.tuple #[]), (Value.tuple #[]), (vP b789 0), (vP b801 0), (Value.tuple #[]), (Value.tuple #[]), (Value.tuple #[]), (Value.tuple #[]), (Value.tuple #[]), (vB false), (vP t 0), (vB true), (vB false), (vB false), (Value.agg #[(vS r0), (vS r1)]), (vI ((rchk r0 r1))), (vB false), (vB false), (vI (f)), (vB true), (vB false), (vB false), (vB false), (vI (g)), (vB true), (vB false), (vB false), (vB false), (vI (f)), (vI (g)), (vB false), (vB false), (vP t 0), (Value.func (.func 51) #[] #[(vP b847 0)]), (Value.tuple #[]), (Value.tuple #[]), (Value.tuple #[]), (Value.tuple #[]), (Value.tuple #[]), (Value.tuple #[]), (Value.tuple #[]), (Value.tuple #[]), (Value.tuple #[]), (Value.tuple #[]), (Value.tuple #[]), (Value.tuple #[]), (Value.tuple #[]), (Value.tuple #[]), (Value.tuple #[]), (Value.tuple #[]), (Value.tuple #[]), (Value.tuple #[]), (Value.tuple #[]), (Value.tuple #[]), (Value.tuple #[]), (Value.tuple #[]), (Value.tuple #[]), (Value.tuple #[]), (Value.tuple #[]), (Value.tuple #[]), (Value.tuple #[]), (Value.tuple #[]), (Value.tuple #[]), (Value.tuple #[]), (Value.tuple #[]), (Value.tuple #[]), (Value.tuple #[]), (Value.tuple #[]), (Value.tuple #[])] := ⟨_, rfl⟩
          obtain ⟨L865, eL865⟩ : ∃ zq : Loop, zq = { state := .ready, pending := none, fn := 0, tmps := tm864, params := #[40, 41], assign := (subc (bodyOf Tryd.prog 21) [1, 1, 0, 1, 0, 0]), body := (subc (bodyOf Tryd.prog 21) [1, 1, 0, 1, 0, 1]), defers := dv862 } := ⟨_, rfl⟩
          have hs867 : L865.state = .ready := by rw [eL865]
          have hp868 : L865.pending = none := by rw [eL865]
          obtain ⟨h866, eh866⟩ : ∃ zq, zq = (h848.push (.deferred (some []))).push (.loop L865) := ⟨_, rfl⟩
          have x869 : Ext h848 h866 := by rw [eh866]; exact (Ext.push _ _).trans (Ext.push _ _)
          have p870 : At h866 lp863 (.loop L865) := by rw [eh866, elp863, show h848.size + 1 = (h848.push (.deferred (some []))).size by simp]; exact push_new rfl
          have p871 : At h866 dv862 (.deferred (some [])) := by rw [eh866, edv862]; exact push_old (b := h848.size) rfl (push_new rfl)
          have sh866 : lp863 < h866.size := p870.blk_lt rfl
          have z878 : h.size ≤ h848.size := x861.size
          have f879 := x869 _ _ f858
          have f880 := x869 _ _ f859
          have f881 := x869 _ _ f860
          have f882 := x869 _ _ f850
          have x883 := x861.trans x869
          have z884 : h.size ≤ h866.size := x883.size
          obtain ⟨D876, eD877⟩ : ∃ zq : Nat → Prop, zq = (fun b => b = lp863 ∨ b = b789 ∨ b = b801 ∨ False) := ⟨_, rfl⟩
          have hD885 : ∀ b, D876 b → h.size ≤ b := by
            rw [eD877]; rintro b (w | w | w | w)
            · have w1 : b = lp863 := w; omega
            · have w1 : b = b789 := w; have := o796; omega
            · have w1 : b = b801 := w; have := o809; omega
            · exact w.elim
          have hd886 : ¬ D876 dv862 := by
            rw [eD877]; rintro (w | w | w | w)
            · have w1 : dv862 = lp863 := w; omega
            · have w1 : dv862 = b789 := w; have := row_lt f859; omega
            · have w1 : dv862 = b801 := w; have := row_lt f860; omega
            · exact w.elim
          obtain ⟨I873, eI872⟩ : ∃ zq : Nat → (Nat → Prop) → Heap → Prop, zq = fun (kk : Nat) (Dv : Nat → Prop) (h' : Heap) => Dv = (fun b => b = lp863 ∨ b = b789 ∨ b = b801 ∨ False) ∧ At h' lp863 (.loop L865) ∧ Chg D876 h866 h' ∧ (∀ z, Dv z → D876 z ∨ h866.size ≤ z) ∧ h'[b779]? = some (.cells #[(vS r0), (vS r1)] 30 (0, 0)) ∧ h'[b789]? = some (.cells #[(vI 0)] 3 (0, 0)) ∧ h'[b801]? = some (.cells #[(vI 0)] 33 (0, 0)) ∧ (((opn ms ms.length).take kk).any fun y => (rmeet y.2.rf y.2.rt r0 r1).2.2.1) = false := ⟨_, rfl⟩
          obtain ⟨E874, eE875⟩ : ∃ zq : Heap → Prop, zq = fun (h' : Heap) => At h' lp863 (.loop { ({ L865 with state := .busy } : Loop) with state := .done, pending := some .ret }) ∧ Chg D876 h866 h' ∧ h'[b789]? = some (.cells #[(vI 0)] 3 (0, 0)) ∧ h'[b801]? = some (.cells #[(vI 17)] 33 (0, 0)) ∧ ((opn ms ms.length).any fun y => (rmeet y.2.rf y.2.rt r0 r1).2.2.1) = true := ⟨_, rfl⟩
          have hX894 : ∀ k D h' h'', I873 k D h' → Ext h' h'' → I873 k D h'' := by
            rw [eI872]
            rintro k _ h' h'' ⟨rfl, p891, c892, d893, f887, f888, f889, i890⟩ xx
            exact ⟨rfl, xx _ _ p891, c892.trans (Chg.ext xx), d893, xx _ _ f887, xx _ _ f888, xx _ _ f889, i890⟩
          have hy895 : ∀ k y D h', ((opn ms ms.length))[k]? = some y → I873 k D h' → ∃ b h'' D', SoundYield Tryd.prog lp863 #[(vI (y.1)), (Value.agg #[(vS y.2.rf), (vS y.2.rt), (vI (y.2.f)), (vI (y.2.t)), (vI (y.2.st)), (vS y.2.d)])] h' (.bool b) h'' ∧ Chg D h' h'' ∧ (∀ z, D' z → D z ∨ h'.size ≤ z) ∧ (if b = true then I873 (k + 1) D' h'' else E874 h'') := by
            rw [eI872]
            rintro k y _ hr hk ⟨rfl, p891, c892, d893, f887, f888, f889, i890⟩
            obtain ⟨Dc, eDc⟩ : ∃ zq : Nat → Prop, zq = (fun b => b = lp863 ∨ b = b789 ∨ b = b801 ∨ False) := ⟨_, rfl⟩
            rw [← eDc] at d893
            rw [← eI872]
            rw [← eDc]
            suffices hw : ∃ b h'', SoundYield Tryd.prog lp863 #[(vI (y.1)), (Value.agg #[(vS y.2.rf), (vS y.2.rt), (vI (y.2.f)), (vI (y.2.t)), (vI (y.2.st)), (vS y.2.d)])] hr (.bool b) h'' ∧ (fun b h'' => ∃ D', Chg Dc hr h'' ∧ (∀ z, D' z → Dc z ∨ hr.size ≤ z) ∧ (if b = true then I873 (k + 1) D' h'' else E874 h'')) b h'' from by
              obtain ⟨b, h'', q1, D', q2, q3, q4⟩ := hw
              exact ⟨b, h'', D', q1, q2, q3, q4⟩
            refine w_round (args := #[(vI (y.1)), (Value.agg #[(vS y.2.rf), (vS y.2.rt), (vI (y.2.f)), (vI (y.2.t)), (vI (y.2.st)), (vS y.2.d)])]) (K := (fun b h'' => ∃ D', Chg Dc hr h'' ∧ (∀ z, D' z → Dc z ∨ hr.size ≤ z) ∧ (if b = true then I873 (k + 1) D' h'' else E874 h''))) p891 hs867 (by rw [eL865]; rfl) { tmps := #[(vP t 0), (Value.agg #[(vS r0), (vS r1)]), (vI (f)), (vI (g)), (Value.tuple #[]), (vP b779 0), (Value.tuple #[]), (Value.tuple #[]), (vP b789 0), (vP b801 0), (Value.tuple #[]), (Value.tuple #[]), (Value.tuple #[]), (Value.tuple #[]), (Value.tuple #[]), (vB false), (vP t 0), (vB true), (vB false), (vB false), (Value.agg #[(vS r0), (vS r1)]), (vI ((rchk r0 r1))), (vB false), (vB false), (vI (f)), (vB true), (vB false), (vB false), (vB false), (vI (g)), (vB true), (vB false), (vB false), (vB false), (vI (f)), (vI (g)), (vB false), (vB false), (vP t 0), (Value.func (.func 51) #[] #[(vP b847 0)]), (vI (y.1)), (Value.agg #[(vS y.2.rf), (vS y.2.rt), (vI (y.2.f)), (vI (y.2.t)), (vI (y.2.st)), (vS y.2.d)]), (Value.tuple #[]), (Value.tuple #[]), (Value.tuple #[]), (Value.tuple #[]), (Value.tuple #[]), (Value.tuple #[]), (Value.tuple #[]), (Value.tuple #[]), (Value.tuple #[]), (Value.tuple #[]), (Value.tuple #[]), (Value.tuple #[]), (Value.tuple #[]), (Value.tuple #[]), (Value.tuple #[]), (Value.tuple #[]), (Value.tuple #[]), (Value.tuple #[]), (Value.tuple #[]), (Value.tuple #[]), (Value.tuple #[]), (Value.tuple #[]), (Value.tuple #[]), (Value.tuple #[]), (Value.tuple #[]), (Value.tuple #[]), (Value.tuple #[]), (Value.tuple #[]), (Value.tuple #[]), (Value.tuple #[]), (Value.tuple #[]), (Value.tuple #[]), (Value.tuple #[])], defers := [] } (by rw [eL865, etm864]; kernel_rfl) (subc (bodyOf Tryd.prog 21) [1, 1, 0, 1, 0, 0]) (subc (bodyOf Tryd.prog 21) [1, 1, 0, 1, 0, 1]) (by rw [eL865]) (by rw [eL865]) ?_
            obtain ⟨b898, eb899⟩ : ∃ zq, zq = hr.size := ⟨_, rfl⟩
            obtain ⟨h896, e897⟩ : ∃ zq, zq = hr.push (.cells #[(vS .empty), (vS .empty), (vI 0), (vI 0), (vI 0), (vS .empty)] 32 (0, 0)) := ⟨_, rfl⟩
            have f900 := push_new e897
            rw [← eb899] at f900
            have n901 : b898 ≠ b779 := by have := row_lt f887; omega
            have n902 : b898 ≠ b789 := by have := row_lt f888; omega
            have n903 : b898 ≠ b801 := by have := row_lt f889; omega
            have n905 : ∀ zz, (fun q => q = lp863) zz → ¬ zz = b898 := fun zz hz ez => by have := p891.blk_lt hz; omega
            have x906 : Ext hr h896 := by rw [e897]; exact Ext.push _ _
            have o907 : hr.size ≤ b898 := by have := (Chg.refl (O := Dc) hr).size; omega
            have f908 := x906 _ _ f887
            have f909 := x906 _ _ f888
            have f910 := x906 _ _ f889
            have p911 := p891.keep fun b r _ q => x906 b r q
            have x912 := (Chg.refl (O := Dc) hr).trans (Chg.ext x906)
            obtain ⟨h913, e914⟩ : ∃ zq, zq = h896.setIfInBounds b898 (.cells #[(vS y.2.rf), (vS y.2.rt), (vI (y.2.f)), (vI (y.2.t)), (vI (y.2.st)), (vS y.2.d)] 32 (0, 0)) := ⟨_, rfl⟩
            have f915 := set_same e914 f900
            have f916 := set_other e914 f908 n901
            have f917 := set_other e914 f909 n902
            have f918 := set_other e914 f910 n903
            have p920 := p911.keep fun b r hb q => (Chg.set e914).same b r q (n905 b hb)
            have x921 := x912.then (Chg.set e914) (fun b hb => by subst hb; exact (.inr o907))
            refine wc_upd (n := 200) (T := ⟨fun r i => match r, i with | 6, 0 => some ((vP b898 0), h896) | 6, 1 => some (undef, h913) | _, _ => none, fun _ => none, none⟩) (x := .normal) (h1 := h913) [(11, (vP b898 0))]
              (fun q => ((vP b898 0) = (Value.pointer (some ⟨hr.size, 0, none⟩)) ∧ h896 = hr.push (.cells #[(vS .empty), (vS .empty), (vI 0), (vI 0), (vI 0), (vS .empty)] 32 (0, 0))) ∧ (storeT Tryd.prog h896 32 (vP b898 0) (vA #[(vS y.2.rf), (vS y.2.rt), (vI y.2.f), (vI y.2.t), (vI y.2.st), (vS y.2.d)]) = some h913 ∧ (undef : Value) = undef) ∧ q) (by intro K'; as_aux_lemma => kernel_rfl) (fun _ q => ⟨⟨by rw [eb899], e897⟩, ⟨by rw [e914]; exact store_cells size32 rfl f900 (by decide) (by simp) rfl (by kernel_rfl), rfl⟩, q⟩) ?_
            refine ⟨rfl, L865, p920, hs867, ?_⟩
            obtain ⟨h922, e923⟩ : ∃ zq, zq = h913.setIfInBounds lp863 (.loop { L865 with state := .busy }) := ⟨_, rfl⟩
            have p924 : At h922 lp863 (.loop { L865 with state := .busy }) := set_same e923 p920
            have f925 := set_other e923 f916 (loop_ne p920 f916 rfl)
            have f926 := set_other e923 f917 (loop_ne p920 f917 rfl)
            have f927 := set_other e923 f918 (loop_ne p920 f918 rfl)
            have f928 := set_other e923 f915 (loop_ne p920 f915 rfl)
            have x929 := x921.then (Chg.set e923) (fun b hb => .inl ((fun b hb => by rw [eDc]; exact .inl hb) b hb))
            rw [← e923]
            obtain ⟨_, hh930, sn931, rfl, x932⟩ := rmeet_ok h922 y.2.rf y.2.rt r0 r1 
            have f933 := x932 _ _ f925
            have f934 := x932 _ _ f926
            have f935 := x932 _ _ f927
            have p937 := p924.keep fun b r _ q => x932 b r q
            have x938 := x929.trans (Chg.ext x932)
            obtain ⟨b941, eb942⟩ : ∃ zq, zq = hh930.size := ⟨_, rfl⟩
            obtain ⟨h939, e940⟩ : ∃ zq, zq = hh930.push (.cells #[(vS .empty), (vS .empty)] 30 (0, 0)) := ⟨_, rfl⟩
            have f943 := push_new e940
            rw [← eb942] at f943
            have n944 : b941 ≠ b779 := by have := row_lt f933; omega
            have n945 : b941 ≠ b789 := by have := row_lt f934; omega
            have n946 : b941 ≠ b801 := by have := row_lt f935; omega
            have n949 : ∀ zz, (fun q => q = lp863) zz → ¬ zz = b941 := fun zz hz ez => by have := p937.blk_lt hz; omega
            have x950 : Ext hh930 h939 := by rw [e940]; exact Ext.push _ _
            have o951 : hr.size ≤ b941 := by have := x938.size; omega
            have f952 := x950 _ _ f933
            have f953 := x950 _ _ f934
            have f954 := x950 _ _ f935
            have p956 := p937.keep fun b r _ q => x950 b r q
            have x957 := x938.trans (Chg.ext x950)
            obtain ⟨h958, e959⟩ : ∃ zq, zq = h939.setIfInBounds b941 (.cells #[(vS (rmeet y.2.rf y.2.rt r0 r1).1), (vS (rmeet y.2.rf y.2.rt r0 r1).2.1)] 30 (0, 0)) := ⟨_, rfl⟩
            have f961 := set_other e959 f952 n944
            have f962 := set_other e959 f953 n945
            have f963 := set_other e959 f954 n946
            have p966 := p956.keep fun b r hb q => (Chg.set e959).same b r q (n949 b hb)
            have x967 := x957.then (Chg.set e959) (fun b hb => by subst hb; exact (.inr o951))
            rcases Bool.eq_false_or_eq_true ((rmeet y.2.rf y.2.rt r0 r1).2.2.1) with c968 | c968
            · obtain ⟨h969, e970⟩ : ∃ zq, zq = h958.setIfInBounds b789 (.cells #[(vI 0)] 3 (0, 0)) := ⟨_, rfl⟩
              have f971 := set_same e970 f962
              have f974 := set_other e970 f963 (row_ne f962 f963 (by decide))
              have p977 := p966.keep fun b r hb q => (Chg.set e970).same b r q ((fun (b : Nat) hb => loop_ne p966 f962 hb) b hb)
              have x978 := x967.then (Chg.set e970) (fun b hb => by subst hb; exact (.inl (by rw [eDc]; exact .inr (.inl rfl))))
              obtain ⟨h979, e980⟩ : ∃ zq, zq = h969.setIfInBounds b801 (.cells #[(vI 17)] 33 (0, 0)) := ⟨_, rfl⟩
              have f981 := set_same e980 f974
              have f983 := set_other e980 f971 (row_ne f974 f971 (by decide))
              have p987 := p977.keep fun b r hb q => (Chg.set e980).same b r q ((fun (b : Nat) hb => loop_ne p977 f974 hb) b hb)
              have x988 := x978.then (Chg.set e980) (fun b hb => by subst hb; exact (.inl (by rw [eDc]; exact .inr (.inr (.inl rfl)))))
              refine wc_upd (n := 200) (T := ⟨fun r i => match r, i with | 7, 1 => some ((vA #[(vS y.2.rf), (vS y.2.rt)]), h922) | 7, 2 => some ((vA #[(vS r0), (vS r1)]), h922) | 7, 3 => some ((vT #[(vA #[(vS (rmeet y.2.rf y.2.rt r0 r1).1), (vS (rmeet y.2.rf y.2.rt r0 r1).2.1)]), (vB (rmeet y.2.rf y.2.rt r0 r1).2.2.1), (vI ((rmeet y.2.rf y.2.rt r0 r1).2.2.2))]), hh930) | 7, 8 => some ((vP b941 0), h939) | 7, 9 => some (undef, h958) | 8, 0 => some ((vB true), h958) | 9, 0 => some (undef, h969) | 9, 1 => some (undef, h979) | _, _ => none, fun _ => none, none⟩) (x := .ret) (h1 := h979) [(43, (vP b898 0)), (44, (vA #[(vS y.2.rf), (vS y.2.rt)])), (45, (vA #[(vS r0), (vS r1)])), (46, (vT #[(vA #[(vS (rmeet y.2.rf y.2.rt r0 r1).1), (vS (rmeet y.2.rf y.2.rt r0 r1).2.1)]), (vB (rmeet y.2.rf y.2.rt r0 r1).2.2.1), (vI ((rmeet y.2.rf y.2.rt r0 r1).2.2.2))])), (42, (vT #[(vA #[(vS (rmeet y.2.rf y.2.rt r0 r1).1), (vS (rmeet y.2.rf y.2.rt r0 r1).2.1)]), (vB (rmeet y.2.rf y.2.rt r0 r1).2.2.1), (vI ((rmeet y.2.rf y.2.rt r0 r1).2.2.2))])), (47, (vA #[(vS (rmeet y.2.rf y.2.rt r0 r1).1), (vS (rmeet y.2.rf y.2.rt r0 r1).2.1)])), (48, (vB (rmeet y.2.rf y.2.rt r0 r1).2.2.1)), (49, (vI ((rmeet y.2.rf y.2.rt r0 r1).2.2.2))), (12, (vP b941 0)), (13, (vB (rmeet y.2.rf y.2.rt r0 r1).2.2.1)), (14, (vI ((rmeet y.2.rf y.2.rt r0 r1).2.2.2))), (50, (vB true))]
                (fun q => (loadT Tryd.prog h922 30 (vP b898 0) = some (vA #[(vS y.2.rf), (vS y.2.rt)]) ∧ h922 = h922) ∧ (loadT Tryd.prog h922 30 (vP b779 0) = some (vA #[(vS r0), (vS r1)]) ∧ h922 = h922) ∧ SoundCall Tryd.prog 18 #[(vA #[(vS y.2.rf), (vS y.2.rt)]), (vA #[(vS r0), (vS r1)])] h922 (vT #[(vA #[(vS (rmeet y.2.rf y.2.rt r0 r1).1), (vS (rmeet y.2.rf y.2.rt r0 r1).2.1)]), (vB (rmeet y.2.rf y.2.rt r0 r1).2.2.1), (vI ((rmeet y.2.rf y.2.rt r0 r1).2.2.2))]) hh930 ∧ ((vP b941 0) = (Value.pointer (some ⟨hh930.size, 0, none⟩)) ∧ h939 = hh930.push (.cells #[(vS .empty), (vS .empty)] 30 (0, 0))) ∧ (storeT Tryd.prog h939 30 (vP b941 0) (vA #[(vS (rmeet y.2.rf y.2.rt r0 r1).1), (vS (rmeet y.2.rf y.2.rt r0 r1).2.1)]) = some h958 ∧ (undef : Value) = undef) ∧ ((vB true) = (vB (rmeet y.2.rf y.2.rt r0 r1).2.2.1) ∧ h958 = h958) ∧ (storeT Tryd.prog h958 3 (vP b789 0) (vI 0) = some h969 ∧ (undef : Value) = undef) ∧ (storeT Tryd.prog h969 33 (vP b801 0) (vI 17) = some h979 ∧ (undef : Value) = undef) ∧ q) (by intro K'; as_aux_lemma => kernel_rfl) (fun _ q => ⟨⟨load_agg agg30 size30 f928 (by simp) (by kernel_rfl), rfl⟩, ⟨load_agg agg30 size30 f925 (by simp) (by kernel_rfl), rfl⟩, sn931, ⟨by rw [eb942], e940⟩, ⟨by rw [e959]; exact store_cells size30 rfl f943 (by decide) (by simp) rfl (by kernel_rfl), rfl⟩, ⟨by rw [c968], rfl⟩, ⟨by rw [e970]; exact store_cells size3 rfl f962 (by decide) (by simp) rfl (by kernel_rfl), rfl⟩, ⟨by rw [e980]; exact store_cells size33 rfl f974 (by decide) (by simp) rfl (by kernel_rfl), rfl⟩, q⟩) ?_
              refine ⟨_, p987, ?_⟩
              obtain ⟨h989, e990⟩ : ∃ zq, zq = h979.setIfInBounds lp863 (.loop { ({ L865 with state := .busy } : Loop) with state := .done, pending := some .ret }) := ⟨_, rfl⟩
              have p991 : At h989 lp863 (.loop { ({ L865 with state := .busy } : Loop) with state := .done, pending := some .ret }) := set_same e990 p987
              have f993 := set_other e990 f983 (loop_ne p987 f983 rfl)
              have f994 := set_other e990 f981 (loop_ne p987 f981 rfl)
              have x997 := x988.then (Chg.set e990) (fun b hb => .inl ((fun b hb => by rw [eDc]; exact .inl hb) b hb))
              refine (show ∃ D', Chg Dc hr (h989) ∧ (∀ z, D' z → Dc z ∨ hr.size ≤ z) ∧ (if false = true then I873 (k + 1) D' h989 else E874 h989) from ?_) |> (fun w => by rw [e990] at w; exact w)
              refine ⟨fun _ => False, x997, fun z hz => hz.elim, ?_⟩
              rw [if_neg (by decide)]
              rw [eE875]
              exact ⟨p991, c892.then (x997) d893, f993, f994, List.any_eq_true.2 ⟨y, List.mem_of_getElem? hk, c968⟩⟩
            · refine wc_upd (n := 200) (T := ⟨fun r i => match r, i with | 7, 1 => some ((vA #[(vS y.2.rf), (vS y.2.rt)]), h922) | 7, 2 => some ((vA #[(vS r0), (vS r1)]), h922) | 7, 3 => some ((vT #[(vA #[(vS (rmeet y.2.rf y.2.rt r0 r1).1), (vS (rmeet y.2.rf y.2.rt r0 r1).2.1)]), (vB (rmeet y.2.rf y.2.rt r0 r1).2.2.1), (vI ((rmeet y.2.rf y.2.rt r0 r1).2.2.2))]), hh930) | 7, 8 => some ((vP b941 0), h939) | 7, 9 => some (undef, h958) | 8, 0 => some ((vB false), h958) | _, _ => none, fun _ => none, none⟩) (x := .normal) (h1 := h958) [(43, (vP b898 0)), (44, (vA #[(vS y.2.rf), (vS y.2.rt)])), (45, (vA #[(vS r0), (vS r1)])), (46, (vT #[(vA #[(vS (rmeet y.2.rf y.2.rt r0 r1).1), (vS (rmeet y.2.rf y.2.rt r0 r1).2.1)]), (vB (rmeet y.2.rf y.2.rt r0 r1).2.2.1), (vI ((rmeet y.2.rf y.2.rt r0 r1).2.2.2))])), (42, (vT #[(vA #[(vS (rmeet y.2.rf y.2.rt r0 r1).1), (vS (rmeet y.2.rf y.2.rt r0 r1).2.1)]), (vB (rmeet y.2.rf y.2.rt r0 r1).2.2.1), (vI ((rmeet y.2.rf y.2.rt r0 r1).2.2.2))])), (47, (vA #[(vS (rmeet y.2.rf y.2.rt r0 r1).1), (vS (rmeet y.2.rf y.2.rt r0 r1).2.1)])), (48, (vB (rmeet y.2.rf y.2.rt r0 r1).2.2.1)), (49, (vI ((rmeet y.2.rf y.2.rt r0 r1).2.2.2))), (12, (vP b941 0)), (13, (vB (rmeet y.2.rf y.2.rt r0 r1).2.2.1)), (14, (vI ((rmeet y.2.rf y.2.rt r0 r1).2.2.2))), (50, (vB false))]
                (fun q => (loadT Tryd.prog h922 30 (vP b898 0) = some (vA #[(vS y.2.rf), (vS y.2.rt)]) ∧ h922 = h922) ∧ (loadT Tryd.prog h922 30 (vP b779 0) = some (vA #[(vS r0), (vS r1)]) ∧ h922 = h922) ∧ SoundCall Tryd.prog 18 #[(vA #[(vS y.2.rf), (vS y.2.rt)]), (vA #[(vS r0), (vS r1)])] h922 (vT #[(vA #[(vS (rmeet y.2.rf y.2.rt r0 r1).1), (vS (rmeet y.2.rf y.2.rt r0 r1).2.1)]), (vB (rmeet y.2.rf y.2.rt r0 r1).2.2.1), (vI ((rmeet y.2.rf y.2.rt r0 r1).2.2.2))]) hh930 ∧ ((vP b941 0) = (Value.pointer (some ⟨hh930.size, 0, none⟩)) ∧ h939 = hh930.push (.cells #[(vS .empty), (vS .empty)] 30 (0, 0))) ∧ (storeT Tryd.prog h939 30 (vP b941 0) (vA #[(vS (rmeet y.2.rf y.2.rt r0 r1).1), (vS (rmeet y.2.rf y.2.rt r0 r1).2.1)]) = some h958 ∧ (undef : Value) = undef) ∧ ((vB false) = (vB (rmeet y.2.rf y.2.rt r0 r1).2.2.1) ∧ h958 = h958) ∧ q) (by intro K'; as_aux_lemma => kernel_rfl) (fun _ q => ⟨⟨load_agg agg30 size30 f928 (by simp) (by kernel_rfl), rfl⟩, ⟨load_agg agg30 size30 f925 (by simp) (by kernel_rfl), rfl⟩, sn931, ⟨by rw [eb942], e940⟩, ⟨by rw [e959]; exact store_cells size30 rfl f943 (by decide) (by simp) rfl (by kernel_rfl), rfl⟩, ⟨by rw [c968], rfl⟩, q⟩) ?_
              refine ⟨_, p966, ?_⟩
              obtain ⟨h998, e999⟩ : ∃ zq, zq = h958.setIfInBounds lp863 (.loop { ({ L865 with state := .busy } : Loop) with state := .ready, pending := none }) := ⟨_, rfl⟩
              have p1000 : At h998 lp863 (.loop { ({ L865 with state := .busy } : Loop) with state := .ready, pending := none }) := set_same e999 p966
              have f1001 := set_other e999 f961 (loop_ne p966 f961 rfl)
              have f1002 := set_other e999 f962 (loop_ne p966 f962 rfl)
              have f1003 := set_other e999 f963 (loop_ne p966 f963 rfl)
              have x1006 := x967.then (Chg.set e999) (fun b hb => .inl ((fun b hb => by rw [eDc]; exact .inl hb) b hb))
              have dnew : ∀ z, ((fun b => b = lp863 ∨ b = b789 ∨ b = b801 ∨ False)) z → Dc z ∨ hr.size ≤ z := by
                intro z hz; rcases hz with w | w | w | w
                · exact .inl (by rw [eDc]; exact .inl w)
                · exact .inl (by rw [eDc]; exact .inr (.inl w))
                · exact .inl (by rw [eDc]; exact .inr (.inr (.inl w)))
                · exact w.elim
              refine (show ∃ D', Chg Dc hr (h998) ∧ (∀ z, D' z → Dc z ∨ hr.size ≤ z) ∧ (if true = true then I873 (k + 1) D' h998 else E874 h998) from ?_) |> (fun w => by rw [e999] at w; exact w)
              refine ⟨(fun b => b = lp863 ∨ b = b789 ∨ b = b801 ∨ False), x1006, dnew, ?_⟩
              rw [if_pos rfl]
              rw [eI872]
              exact ⟨rfl, (by have q := p1000; rw [loop_back hs867 hp868] at q; exact q), c892.then (x1006) d893, fun z hz => (dnew z hz).elim (d893 z) (fun w => .inr (by have := c892.size; omega)), f1001, f1002, f1003, any_next hk i890 c968⟩
          have h01007 : I873 0 D876 h866 := by rw [eI872]; exact ⟨eD877, p870, Chg.refl h866, fun z hz => .inl hz, f879, f880, f881, rfl⟩
          refine wc_range_any (h1 := h866) (c := (subc (bodyOf Tryd.prog 21) [1, 1, 0, 1, 0])) (g := .tmp 39) (params := #[40, 41]) (assign := (subc (bodyOf Tryd.prog 21) [1, 1, 0, 1, 0, 0])) (body := (subc (bodyOf Tryd.prog 21) [1, 1, 0, 1, 0, 1])) (by kernel_rfl) 51 #[] #[(vP b847 0)] lp863 [{ target := .collected dv862, args := #[] }] #[(Value.func (.yield lp863) #[] #[]), (vP b847 0)] (by rfl) rfl rfl (by kernel_rfl) (by rw [eh866, elp863, eL865, etm864, edv862]; rfl) ?_
          refine (open_it h866 (hT'.keep fun b r _ q => x883 b r q) h64 b847 f882 lp863 I873 E874 D876 (fun b hb w => by have := hT'.blk_lt hb; have := hD885 b w; omega) hX894 hy895 h01007).mono fun _ h8 q => ?_
          obtain ⟨q0, q⟩ := q
          rcases q with ⟨Dv, q, qD⟩ | q
          · rw [eI872] at q
            obtain ⟨eDv, p1012, cgN, hdN, f1008, f1009, f1010, i1011⟩ := q
            refine ⟨_, p1012, ?_, leftBy_none hp868 ?_⟩
            · exact fun w => by rw [hs867] at w; cases w
            have p1013 : At h8 dv862 (.deferred (some [])) := q0.same _ _ p871 hd886
            obtain ⟨h1014, e1015⟩ : ∃ zq, zq = h8.setIfInBounds lp863 (.loop { L865 with state := .exhausted }) := ⟨_, rfl⟩
            have f1017 := set_other e1015 f1008 (loop_ne p1012 f1008 rfl)
            have f1018 := set_other e1015 f1009 (loop_ne p1012 f1009 rfl)
            have f1019 := set_other e1015 f1010 (loop_ne p1012 f1010 rfl)
            have p1020 := p1013.keep fun b r hb q => (Chg.set e1015).same b r q ((fun b hb hb2 => (show ∀ b : Nat, b = lp863 → b = dv862 → False from fun b w1 w2 => by omega) b hb2 hb) b hb)
            rw [← e1015]
            have c1021 := q0.then (Chg.set e1015) (fun b hb => .inl (by rw [eD877]; exact .inl hb))
            have x1022 : Ext h h1014 := (Chg.then (O := fun _ => False) (Chg.ext x883) c1021 (fun b hb => .inr (hD885 b hb))).toExt'
            rw [List.take_length] at i1011
            by_cases c1023 : (64 : Int) ≤ ((ms.length : Nat))
            · obtain ⟨h1024, e1025⟩ : ∃ zq, zq = h1014.setIfInBounds b789 (.cells #[(vI 0)] 3 (0, 0)) := ⟨_, rfl⟩
              have f1026 := set_same e1025 f1018
              have f1029 := set_other e1025 f1019 (row_ne f1018 f1019 (by decide))
              have p1031 := p1020.keep fun b r hb q => (Chg.set e1025).same b r q ((fun (b : Nat) hb => defer_ne p1020 f1018 hb) b hb)
              have x1032 := Ext.setNew x1022 e1025 o796
              obtain ⟨h1033, e1034⟩ : ∃ zq, zq = h1024.setIfInBounds b801 (.cells #[(vI 4)] 33 (0, 0)) := ⟨_, rfl⟩
              have f1035 := set_same e1034 f1029
              have f1037 := set_other e1034 f1026 (row_ne f1029 f1026 (by decide))
              have p1040 := p1031.keep fun b r hb q => (Chg.set e1034).same b r q ((fun (b : Nat) hb => defer_ne p1031 f1029 hb) b hb)
              have x1041 := Ext.setNew x1032 e1034 o809
              refine wc_upd (n := 200) (T := ⟨fun r i => match r, i with | 10, 3 => some ((vL a775 ms.length cc776), h1014) | 10, 5 => some ((vB true), h1014) | 11, 0 => some (undef, h1024) | 11, 1 => some (undef, h1033) | _, _ => none, fun _ => none, none⟩) (x := .ret) (h1 := h1033) [(51, (vP t 0)), (52, (vP t 0)), (53, (vP t 1)), (54, (vL a775 ms.length cc776)), (55, (vI ((ms.length : Nat)))), (56, (vB true))]
                (fun q => (loadT Tryd.prog h1014 48 (vP t 1) = some (vL a775 ms.length cc776) ∧ h1014 = h1014) ∧ (binA Tryd.prog .geq 3 (vI ((ms.length : Nat))) (vI 64) = some (vB true) ∧ h1014 = h1014) ∧ (storeT Tryd.prog h1014 3 (vP b789 0) (vI 0) = some h1024 ∧ (undef : Value) = undef) ∧ (storeT Tryd.prog h1024 33 (vP b801 0) (vI 4) = some h1033 ∧ (undef : Value) = undef) ∧ q) (by intro K'; as_aux_lemma => kernel_rfl) (fun _ q => ⟨⟨load_cell agg48 (x1022 _ _ T.row) rfl, rfl⟩, ⟨cmp_geq (decide_eq_true c1023), rfl⟩, ⟨by rw [e1025]; exact store_cells size3 rfl f1018 (by decide) (by simp) rfl (by kernel_rfl), rfl⟩, ⟨by rw [e1034]; exact store_cells size33 rfl f1029 (by decide) (by simp) rfl (by kernel_rfl), rfl⟩, q⟩) ?_
              obtain ⟨h1042, e1043⟩ : ∃ zq, zq = h1033.setIfInBounds dv862 (.deferred none) := ⟨_, rfl⟩
              have f1046 := set_other e1043 f1037 (defer_ne p1040 f1037 rfl)
              have f1047 := set_other e1043 f1035 (defer_ne p1040 f1035 rfl)
              have x1044 : Ext h h1042 := Ext.setNew x1041 e1043 (by omega)
              have ee : startE ms r0 r1 f g = 4 := by unfold startE; rw [if_pos ⟨c823, grp_of c827, grp_of c831, by omega⟩, if_neg (by rw [show shareB ms r0 r1 = false from i1011]; decide), if_pos (by omega)]
              refine end_mark3 (T := ⟨fun _ _ => none, fun _ => none, some [(vI 0), (vI 4)]⟩) (dv := dv862) { tmps := #[(vP t 0), (Value.agg #[(vS r0), (vS r1)]), (vI (f)), (vI (g)), (Value.tuple #[]), (vP b779 0), (Value.tuple #[]), (Value.tuple #[]), (vP b789 0), (vP b801 0), (Value.tuple #[]), (Value.tuple #[]), (Value.tuple #[]), (Value.tuple #[]), (Value.tuple #[]), (vB false), (vP t 0), (vB true), (vB false), (vB false), (Value.agg #[(vS r0), (vS r1)]), (vI ((rchk r0 r1))), (vB false), (vB false), (vI (f)), (vB true), (vB false), (vB false), (vB false), (vI (g)), (vB true), (vB false), (vB false), (vB false), (vI (f)), (vI (g)), (vB false), (vB false), (vP t 0), (Value.func (.func 51) #[] #[(vP b847 0)]), (Value.tuple #[]), (Value.tuple #[]), (Value.tuple #[]), (Value.tuple #[]), (Value.tuple #[]), (Value.tuple #[]), (Value.tuple #[]), (Value.tuple #[]), (Value.tuple #[]), (Value.tuple #[]), (Value.tuple #[]), (vP t 0), (vP t 0), (vP t 1), (Value.slice a775 (ms.length) (cc776)), (vI ((ms.length : Nat))), (vB true), (Value.tuple #[]), (Value.tuple #[]), (Value.tuple #[]), (Value.tuple #[]), (Value.tuple #[]), (Value.tuple #[]), (Value.tuple #[]), (Value.tuple #[]), (Value.tuple #[]), (Value.tuple #[]), (Value.tuple #[]), (Value.tuple #[]), (Value.tuple #[]), (Value.tuple #[]), (Value.tuple #[]), (Value.tuple #[]), (Value.tuple #[]), (Value.tuple #[])], defers := ([{ target := .collected dv862, args := #[] }] ++ []) } (by kernel_rfl) (.inr rfl) rfl p1040 e1043 (A := (loadT Tryd.prog h1042 3 (vP b789 0) = some (vI 0) ∧ loadT Tryd.prog h1042 33 (vP b801 0) = some (vI 4) ∧ True) ∧ K (Value.tuple #[(vI 0), (vI 4)]) h1042) (by kernel_rfl) ?_
              exact ⟨⟨load_cell agg3 f1046 rfl, load_cell agg33 f1047 rfl, trivial⟩, hK _ _ (⟨by rw [show startN ms r0 r1 f g = 0 from by unfold startN; rw [ee]; rfl, ee], Chg.ext x1044, O, by unfold startL; rw [ee, if_neg (by decide)]; exact hT'.keep fun b r _ q => x1044 b r q, fun b hb => .inl hb⟩)⟩
            · obtain ⟨b1051, eb1052⟩ : ∃ zq, zq = h1014.size := ⟨_, rfl⟩
              obtain ⟨h1049, e1050⟩ : ∃ zq, zq = h1014.push (.cells #[(vS r0), (vS r1), (vI (f)), (vI (g)), (vI 1), (vS .empty)] 32 (0, 0)) := ⟨_, rfl⟩
              have f1053 := push_new e1050
              rw [← eb1052] at f1053
              have x1061 : Ext h1014 h1049 := by rw [e1050]; exact Ext.push _ _
              have o1062 : h.size ≤ b1051 := by have := x1022.size; omega
              have f1064 := x1061 _ _ f1018
              have f1065 := x1061 _ _ f1019
              have p1067 := p1020.keep fun b r _ q => x1061 b r q
              have x1068 := x1022.trans x1061
              obtain ⟨w1069, h1070, e1071, p1072, c1073, n1074, z1075⟩ := own_append und48 sizeb32 zero32 rfl (by decide) movec_size (x := (MoveM.mk r0 r1 (f) (g) 1 .empty)) (T.own.keep fun b r _ q => x1068 b r q) f1053 rfl (by omega) (by unfold maxLen; omega)
              obtain ⟨a1076, c1077, rfl⟩ := (p1072.slice movec_size).len
              have z1078 : h.size ≤ h1049.size := (Chg.ext (O := O) x1068).size
              have x1079 := (Chg.ext (O := O) x1068).then c1073 (fun b hb => .inl ((fun b hb => (T.foot b).2 (.inr hb)) b hb))
              have f1081 := c1073.same _ _ f1064 (fun hb => (T.own.keep fun b r _ q => x1068 b r q).ne f1064 (by decide) hb rfl)
              have f1082 := c1073.same _ _ f1065 (fun hb => (T.own.keep fun b r _ q => x1068 b r q).ne f1065 (by decide) hb rfl)
              have f1083 := c1073.same _ _ (x1068 _ _ T.row) (fun hb => (T.own.keep fun b r _ q => x1068 b r q).ne (x1068 _ _ T.row) (by decide) hb rfl)
              have p1086 := p1067.keep fun b r hb q => c1073.same b r q ((fun b hb hb2 => ((T.own.keep fun b r _ q => x1068 b r q)).celled.defer p1067 b hb2 hb) b hb)
              have n1089 : ∀ zz, blk (Value.slice a1076 ((ms ++ [(MoveM.mk r0 r1 (f) (g) 1 .empty)]).length) (c1077)) zz → ¬ zz = b789 := fun zz hz ez => by have := n1074 zz hz; have := row_lt f1064; omega
              have n1090 : ∀ zz, blk (Value.slice a1076 ((ms ++ [(MoveM.mk r0 r1 (f) (g) 1 .empty)]).length) (c1077)) zz → ¬ zz = b801 := fun zz hz ez => by have := n1074 zz hz; have := row_lt f1065; omega
              have n1091 : ∀ zz, blk (Value.slice a1076 ((ms ++ [(MoveM.mk r0 r1 (f) (g) 1 .empty)]).length) (c1077)) zz → ¬ zz = t := fun zz hz ez => by have := n1074 zz hz; have := row_lt (x1068 _ _ T.row); omega
              have n1094 : ∀ zz, blk (Value.slice a1076 ((ms ++ [(MoveM.mk r0 r1 (f) (g) 1 .empty)]).length) (c1077)) zz → ¬ (fun q => q = dv862) zz := fun zz hz ez => by have := n1074 zz hz; have := p1067.blk_lt ez; omega
              have o1095 : ∀ zz, blk (Value.slice a1076 ((ms ++ [(MoveM.mk r0 r1 (f) (g) 1 .empty)]).length) (c1077)) zz → h.size ≤ zz := fun zz hz => by have := n1074 zz hz; have := z1078; omega
              obtain ⟨h1096, e1097⟩ : ∃ zq, zq = h1070.setIfInBounds t (.cells #[(vB true), (Value.slice a1076 ((ms ++ [(MoveM.mk r0 r1 (f) (g) 1 .empty)]).length) (c1077))] 56 (0, 0)) := ⟨_, rfl⟩
              have f1098 := set_same e1097 f1083
              have f1100 := set_other e1097 f1081 (row_ne f1083 f1081 (by decide))
              have f1101 := set_other e1097 f1082 (row_ne f1083 f1082 (by decide))
              have p1105 := p1086.keep fun b r hb q => (Chg.set e1097).same b r q ((fun (b : Nat) hb => defer_ne p1086 f1083 hb) b hb)
              have p1106 := p1072.keep fun b r hb q => (Chg.set e1097).same b r q (n1091 b hb)
              have x1107 := x1079.then (Chg.set e1097) (fun b hb => by subst hb; exact (.inl ((T.foot _).2 (.inl rfl))))
              obtain ⟨h1108, e1109⟩ : ∃ zq, zq = h1096.setIfInBounds b789 (.cells #[(vI (((ms ++ [(MoveM.mk r0 r1 (f) (g) 1 .empty)]).length : Nat)))] 3 (0, 0)) := ⟨_, rfl⟩
              have f1110 := set_same e1109 f1100
              have f1113 := set_other e1109 f1101 (row_ne f1100 f1101 (by decide))
              have f1114 := set_other e1109 f1098 (row_ne f1100 f1098 (by decide))
              have p1117 := p1105.keep fun b r hb q => (Chg.set e1109).same b r q ((fun (b : Nat) hb => defer_ne p1105 f1100 hb) b hb)
              have p1118 := p1106.keep fun b r hb q => (Chg.set e1109).same b r q (n1089 b hb)
              have x1119 := x1107.then (Chg.set e1109) (fun b hb => by subst hb; exact (.inr o796))
              obtain ⟨h1120, e1121⟩ : ∃ zq, zq = h1108.setIfInBounds b801 (.cells #[(vI 0)] 33 (0, 0)) := ⟨_, rfl⟩
              have f1122 := set_same e1121 f1113
              have f1124 := set_other e1121 f1110 (row_ne f1113 f1110 (by decide))
              have f1126 := set_other e1121 f1114 (row_ne f1113 f1114 (by decide))
              have p1129 := p1117.keep fun b r hb q => (Chg.set e1121).same b r q ((fun (b : Nat) hb => defer_ne p1117 f1113 hb) b hb)
              have p1130 := p1118.keep fun b r hb q => (Chg.set e1121).same b r q (n1090 b hb)
              have x1131 := x1119.then (Chg.set e1121) (fun b hb => by subst hb; exact (.inr o809))
              refine wc_upd (n := 200) (T := ⟨fun r i => match r, i with | 10, 3 => some ((vL a775 ms.length cc776), h1014) | 10, 5 => some ((vB false), h1014) | 12, 4 => some ((vL a775 ms.length cc776), h1014) | 12, 5 => some ((vA #[(vS r0), (vS r1)]), h1014) | 12, 9 => some ((vL (some ⟨b1051, 0, none⟩) 1 1), h1049) | 12, 10 => some ((Value.slice a1076 ((ms ++ [(MoveM.mk r0 r1 (f) (g) 1 .empty)]).length) (c1077)), h1070) | 12, 13 => some (undef, h1096) | 13, 3 => some ((Value.slice a1076 ((ms ++ [(MoveM.mk r0 r1 (f) (g) 1 .empty)]).length) (c1077)), h1096) | 13, 5 => some (undef, h1108) | 13, 6 => some (undef, h1120) | _, _ => none, fun _ => none, none⟩) (x := .ret) (h1 := h1120) [(51, (vP t 0)), (52, (vP t 0)), (53, (vP t 1)), (54, (vL a775 ms.length cc776)), (55, (vI ((ms.length : Nat)))), (56, (vB false)), (57, (vP t 0)), (58, (vP t 0)), (59, (vP t 0)), (60, (vP t 1)), (61, (vL a775 ms.length cc776)), (62, (vA #[(vS r0), (vS r1)])), (63, (vI f)), (64, (vI g)), (65, (vA #[(vS r0), (vS r1), (vI f), (vI g), (vI 1), (vS .empty)])), (66, (vL (some ⟨b1051, 0, none⟩) 1 1)), (67, (Value.slice a1076 ((ms ++ [(MoveM.mk r0 r1 (f) (g) 1 .empty)]).length) (c1077))), (68, (vP t 0)), (69, (vP t 1)), (70, (vP t 0)), (71, (vP t 0)), (72, (vP t 1)), (73, (Value.slice a1076 ((ms ++ [(MoveM.mk r0 r1 (f) (g) 1 .empty)]).length) (c1077))), (74, (vI (((ms ++ [(MoveM.mk r0 r1 (f) (g) 1 .empty)]).length : Nat))))]
                (fun q => (loadT Tryd.prog h1014 48 (vP t 1) = some (vL a775 ms.length cc776) ∧ h1014 = h1014) ∧ (binA Tryd.prog .geq 3 (vI ((ms.length : Nat))) (vI 64) = some (vB false) ∧ h1014 = h1014) ∧ (loadT Tryd.prog h1014 48 (vP t 1) = some (vL a775 ms.length cc776) ∧ h1014 = h1014) ∧ (loadT Tryd.prog h1014 30 (vP b779 0) = some (vA #[(vS r0), (vS r1)]) ∧ h1014 = h1014) ∧ ((vL (some ⟨b1051, 0, none⟩) 1 1) = (vL (some ⟨h1014.size, 0, none⟩) 1 1) ∧ h1049 = h1014.push (.cells #[(vS r0), (vS r1), (vI f), (vI g), (vI 1), (vS .empty)] 32 (0, 0))) ∧ appendA Tryd.prog h1049 #[48, 48] #[(vL a775 ms.length cc776), (vL (some ⟨b1051, 0, none⟩) 1 1)] = some ((Value.slice a1076 ((ms ++ [(MoveM.mk r0 r1 (f) (g) 1 .empty)]).length) (c1077)), h1070) ∧ (storeT Tryd.prog h1070 48 (vP t 1) (Value.slice a1076 ((ms ++ [(MoveM.mk r0 r1 (f) (g) 1 .empty)]).length) (c1077)) = some h1096 ∧ (undef : Value) = undef) ∧ (loadT Tryd.prog h1096 48 (vP t 1) = some (Value.slice a1076 ((ms ++ [(MoveM.mk r0 r1 (f) (g) 1 .empty)]).length) (c1077)) ∧ h1096 = h1096) ∧ (storeT Tryd.prog h1096 3 (vP b789 0) (vI (((ms ++ [(MoveM.mk r0 r1 (f) (g) 1 .empty)]).length : Nat))) = some h1108 ∧ (undef : Value) = undef) ∧ (storeT Tryd.prog h1108 33 (vP b801 0) (vI 0) = some h1120 ∧ (undef : Value) = undef) ∧ q) (by intro K'; as_aux_lemma => kernel_rfl) (fun _ q => ⟨⟨load_cell agg48 (x1022 _ _ T.row) rfl, rfl⟩, ⟨cmp_geq (decide_eq_false c1023), rfl⟩, ⟨load_cell agg48 (x1022 _ _ T.row) rfl, rfl⟩, ⟨load_agg agg30 size30 f1017 (by simp) (by kernel_rfl), rfl⟩, ⟨by rw [eb1052], e1050⟩, e1071, ⟨by rw [e1097]; exact store_cells size48 rfl f1083 (by decide) (by simp) rfl (by kernel_rfl), rfl⟩, ⟨load_cell agg48 f1098 rfl, rfl⟩, ⟨by rw [e1109]; exact store_cells size3 rfl f1100 (by decide) (by simp) rfl (by kernel_rfl), rfl⟩, ⟨by rw [e1121]; exact store_cells size33 rfl f1113 (by decide) (by simp) rfl (by kernel_rfl), rfl⟩, q⟩) ?_
              obtain ⟨h1132, e1133⟩ : ∃ zq, zq = h1120.setIfInBounds dv862 (.deferred none) := ⟨_, rfl⟩
              have f1136 := set_other e1133 f1124 (defer_ne p1129 f1124 rfl)
              have f1137 := set_other e1133 f1122 (defer_ne p1129 f1122 rfl)
              have f1138 := set_other e1133 f1126 (defer_ne p1129 f1126 rfl)
              have p1140 := p1130.keep fun b r hb q => (Chg.set e1133).same b r q (n1094 b hb)
              have x1134 := x1131.then (Chg.set e1133) (fun b hb => .inr (by subst hb; omega))
              have ee : startE ms r0 r1 f g = 0 := by unfold startE; rw [if_pos ⟨c823, grp_of c827, grp_of c831, by omega⟩, if_neg (by rw [show shareB ms r0 r1 = false from i1011]; decide), if_neg (by omega)]
              have ell : startL ms r0 r1 f g = (ms ++ [(MoveM.mk r0 r1 (f) (g) 1 .empty)]) := by unfold startL; rw [if_pos ee]
              refine end_mark3 (T := ⟨fun _ _ => none, fun _ => none, some [(vI (((ms ++ [(MoveM.mk r0 r1 (f) (g) 1 .empty)]).length : Nat))), (vI 0)]⟩) (dv := dv862) { tmps := #[(vP t 0), (Value.agg #[(vS r0), (vS r1)]), (vI (f)), (vI (g)), (Value.tuple #[]), (vP b779 0), (Value.tuple #[]), (Value.tuple #[]), (vP b789 0), (vP b801 0), (Value.tuple #[]), (Value.tuple #[]), (Value.tuple #[]), (Value.tuple #[]), (Value.tuple #[]), (vB false), (vP t 0), (vB true), (vB false), (vB false), (Value.agg #[(vS r0), (vS r1)]), (vI ((rchk r0 r1))), (vB false), (vB false), (vI (f)), (vB true), (vB false), (vB false), (vB false), (vI (g)), (vB true), (vB false), (vB false), (vB false), (vI (f)), (vI (g)), (vB false), (vB false), (vP t 0), (Value.func (.func 51) #[] #[(vP b847 0)]), (Value.tuple #[]), (Value.tuple #[]), (Value.tuple #[]), (Value.tuple #[]), (Value.tuple #[]), (Value.tuple #[]), (Value.tuple #[]), (Value.tuple #[]), (Value.tuple #[]), (Value.tuple #[]), (Value.tuple #[]), (vP t 0), (vP t 0), (vP t 1), (Value.slice a775 (ms.length) (cc776)), (vI ((ms.length : Nat))), (vB false), (vP t 0), (vP t 0), (vP t 0), (vP t 1), (Value.slice a775 (ms.length) (cc776)), (Value.agg #[(vS r0), (vS r1)]), (vI (f)), (vI (g)), (Value.agg #[(vS r0), (vS r1), (vI (f)), (vI (g)), (vI 1), (vS .empty)]), (Value.slice (some ⟨b1051, 0, none⟩) 1 1), (Value.slice a1076 ((ms ++ [(MoveM.mk r0 r1 (f) (g) 1 .empty)]).length) (c1077)), (vP t 0), (vP t 1), (vP t 0), (vP t 0), (vP t 1), (Value.slice a1076 ((ms ++ [(MoveM.mk r0 r1 (f) (g) 1 .empty)]).length) (c1077)), (vI (((ms ++ [(MoveM.mk r0 r1 (f) (g) 1 .empty)]).length : Nat)))], defers := ([{ target := .collected dv862, args := #[] }] ++ []) } (by kernel_rfl) (.inr rfl) rfl p1129 e1133 (A := (loadT Tryd.prog h1132 3 (vP b789 0) = some (vI (((ms ++ [(MoveM.mk r0 r1 (f) (g) 1 .empty)]).length : Nat))) ∧ loadT Tryd.prog h1132 33 (vP b801 0) = some (vI 0) ∧ True) ∧ K (Value.tuple #[(vI (((ms ++ [(MoveM.mk r0 r1 (f) (g) 1 .empty)]).length : Nat))), (vI 0)]) h1132) (by kernel_rfl) ?_
              exact ⟨⟨load_cell agg3 f1136 rfl, load_cell agg33 f1137 rfl, trivial⟩, hK _ _ (⟨by rw [show startN ms r0 r1 f g = (ms.length : Int) + 1 from by unfold startN; rw [if_pos ee], ee]; simp, x1134, (fun b => b = t ∨ (blk (Value.slice a1076 ((ms ++ [(MoveM.mk r0 r1 (f) (g) 1 .empty)]).length) (c1077))) b), by rw [ell]; exact tab_new f1138 p1140, fun b hb => hb.elim (fun w => .inl ((T.foot b).2 (.inl w))) (fun w => .inr (o1095 b w))⟩)⟩
          · rw [eE875] at q
            obtain ⟨p1144, cgN, f1142, f1143, i1141⟩ := q
            refine ⟨_, p1144, ?_, leftBy_ret rfl ?_⟩
            · exact fun w => by cases w
            have p1145 : At h8 dv862 (.deferred (some [])) := q0.same _ _ p871 hd886
            obtain ⟨h1146, e1147⟩ : ∃ zq, zq = h8.setIfInBounds lp863 (.loop { ({ ({ L865 with state := .busy } : Loop) with state := .done, pending := some .ret } : Loop) with state := .exhausted }) := ⟨_, rfl⟩
            have f1149 := set_other e1147 f1142 (loop_ne p1144 f1142 rfl)
            have f1150 := set_other e1147 f1143 (loop_ne p1144 f1143 rfl)
            have p1151 := p1145.keep fun b r hb q => (Chg.set e1147).same b r q ((fun b hb hb2 => (show ∀ b : Nat, b = lp863 → b = dv862 → False from fun b w1 w2 => by omega) b hb2 hb) b hb)
            rw [← e1147]
            have c1152 := q0.then (Chg.set e1147) (fun b hb => .inl (by rw [eD877]; exact .inl hb))
            have x1153 : Ext h h1146 := (Chg.then (O := fun _ => False) (Chg.ext x883) c1152 (fun b hb => .inr (hD885 b hb))).toExt'
            obtain ⟨h1154, e1155⟩ : ∃ zq, zq = h1146.setIfInBounds dv862 (.deferred none) := ⟨_, rfl⟩
            have f1157 := set_other e1155 f1149 (defer_ne p1151 f1149 rfl)
            have f1158 := set_other e1155 f1150 (defer_ne p1151 f1150 rfl)
            have x1156 : Ext h h1154 := Ext.setNew x1153 e1155 (by omega)
            have ee : startE ms r0 r1 f g = 17 := by unfold startE; rw [if_pos ⟨c823, grp_of c827, grp_of c831, by omega⟩, if_pos (show shareB ms r0 r1 = true from i1141)]
            refine end_mark3 (T := ⟨fun _ _ => none, fun _ => none, some [(vI 0), (vI 17)]⟩) (dv := dv862) { tmps := #[(vP t 0), (Value.agg #[(vS r0), (vS r1)]), (vI (f)), (vI (g)), (Value.tuple #[]), (vP b779 0), (Value.tuple #[]), (Value.tuple #[]), (vP b789 0), (vP b801 0), (Value.tuple #[]), (Value.tuple #[]), (Value.tuple #[]), (Value.tuple #[]), (Value.tuple #[]), (vB false), (vP t 0), (vB true), (vB false), (vB false), (Value.agg #[(vS r0), (vS r1)]), (vI ((rchk r0 r1))), (vB false), (vB false), (vI (f)), (vB true), (vB false), (vB false), (vB false), (vI (g)), (vB true), (vB false), (vB false), (vB false), (vI (f)), (vI (g)), (vB false), (vB false), (vP t 0), (Value.func (.func 51) #[] #[(vP b847 0)]), (Value.tuple #[]), (Value.tuple #[]), (Value.tuple #[]), (Value.tuple #[]), (Value.tuple #[]), (Value.tuple #[]), (Value.tuple #[]), (Value.tuple #[]), (Value.tuple #[]), (Value.tuple #[]), (Value.tuple #[]), (Value.tuple #[]), (Value.tuple #[]), (Value.tuple #[]), (Value.tuple #[]), (Value.tuple #[]), (Value.tuple #[]), (Value.tuple #[]), (Value.tuple #[]), (Value.tuple #[]), (Value.tuple #[]), (Value.tuple #[]), (Value.tuple #[]), (Value.tuple #[]), (Value.tuple #[]), (Value.tuple #[]), (Value.tuple #[]), (Value.tuple #[]), (Value.tuple #[]), (Value.tuple #[]), (Value.tuple #[]), (Value.tuple #[]), (Value.tuple #[]), (Value.tuple #[]), (Value.tuple #[])], defers := ([{ target := .collected dv862, args := #[] }] ++ []) } (by kernel_rfl) (.inr rfl) rfl p1151 e1155 (A := (loadT Tryd.prog h1154 3 (vP b789 0) = some (vI 0) ∧ loadT Tryd.prog h1154 33 (vP b801 0) = some (vI 17) ∧ True) ∧ K (Value.tuple #[(vI 0), (vI 17)]) h1154) (by kernel_rfl) ?_
            exact ⟨⟨load_cell agg3 f1157 rfl, load_cell agg33 f1158 rfl, trivial⟩, hK _ _ (⟨by rw [show startN ms r0 r1 f g = 0 from by unfold startN; rw [ee]; rfl, ee], Chg.ext x1156, O, by unfold startL; rw [ee, if_neg (by decide)]; exact hT'.keep fun b r _ q => x1156 b r q, fun b hb => .inl hb⟩)⟩
      · obtain ⟨h1160, e1161⟩ : ∃ zq, zq = hh816.setIfInBounds b789 (.cells #[(vI 0)] 3 (0, 0)) := ⟨_, rfl⟩
        have f1162 := set_same e1161 f820
        have f1165 := set_other e1161 f821 n806.symm
        have x1166 := Ext.setNew x822 e1161 o796
        obtain ⟨h1167, e1168⟩ : ∃ zq, zq = h1160.setIfInBounds b801 (.cells #[(vI 2)] 33 (0, 0)) := ⟨_, rfl⟩
        have f1169 := set_same e1168 f1165
        have f1171 := set_other e1168 f1162 n806
        have x1173 := Ext.setNew x1166 e1168 o809
        refine wc_upd (n := 200) (T := ⟨fun r i => match r, i with | 1, 1 => some ((vB true), h799) | 3, 0 => some ((vA #[(vS r0), (vS r1)]), h799) | 3, 1 => some ((vI ((rchk r0 r1))), hh816) | 3, 2 => some ((vB false), hh816) | 3, 5 => some ((vB true), hh816) | 3, 10 => some ((vB false), hh816) | 4, 0 => some (undef, h1160) | 4, 1 => some (undef, h1167) | _, _ => none, fun _ => none, none⟩) (x := .ret) (h1 := h1167) [(16, (vP t 0)), (17, (vB true)), (18, (vB false)), (15, (vB false)), (20, (vA #[(vS r0), (vS r1)])), (21, (vI ((rchk r0 r1)))), (22, (vB false)), (23, (vB false)), (24, (vI f)), (25, (vB true)), (26, (vB false)), (27, (vB false)), (28, (vB false)), (29, (vI g)), (30, (vB false)), (31, (vB true)), (32, (vB true)), (33, (vB true)), (34, vZ), (35, vZ), (36, vZ), (37, (vB true)), (19, (vB true))]
          (fun q => SoundCall Tryd.prog 39 #[(vP t 0)] h799 (vB true) h799 ∧ (loadT Tryd.prog h799 30 (vP b779 0) = some (vA #[(vS r0), (vS r1)]) ∧ h799 = h799) ∧ SoundCall Tryd.prog 16 #[(vA #[(vS r0), (vS r1)])] h799 (vI ((rchk r0 r1))) hh816 ∧ (binA Tryd.prog .neq 33 (vI ((rchk r0 r1))) (vI 0) = some (vB false) ∧ hh816 = hh816) ∧ SoundCall Tryd.prog 40 #[(vI f)] hh816 (vB true) hh816 ∧ SoundCall Tryd.prog 40 #[(vI g)] hh816 (vB false) hh816 ∧ (storeT Tryd.prog hh816 3 (vP b789 0) (vI 0) = some h1160 ∧ (undef : Value) = undef) ∧ (storeT Tryd.prog h1160 33 (vP b801 0) (vI 2) = some h1167 ∧ (undef : Value) = undef) ∧ q) (by intro K'; as_aux_lemma => kernel_rfl) (fun _ q => ⟨sn814, ⟨load_agg agg30 size30 f810 (by simp) (by kernel_rfl), rfl⟩, sn817, ⟨cmp_neq (decide_eq_false (not_not_intro c823)), rfl⟩, (by rw [← c827]; exact sn825), (by rw [← c831]; exact sn829), ⟨by rw [e1161]; exact store_cells size3 rfl f820 (by decide) (by simp) rfl (by kernel_rfl), rfl⟩, ⟨by rw [e1168]; exact store_cells size33 rfl f1165 (by decide) (by simp) rfl (by kernel_rfl), rfl⟩, q⟩) ?_
        have ee : startE ms r0 r1 f g = 2 := by unfold startE; rw [if_neg]; rintro ⟨w1, w2, w3, w4⟩; first | omega | (simp only [grpB] at *; simp_all) | contradiction
        refine end_at (T := ⟨fun _ _ => none, fun _ => none, some [(vI 0), (vI 2)]⟩) (A := (loadT Tryd.prog h1167 3 (vP b789 0) = some (vI 0) ∧ loadT Tryd.prog h1167 33 (vP b801 0) = some (vI 2) ∧ True) ∧ K (vT #[(vI 0), (vI 2)]) h1167) (by kernel_rfl) ?_
        exact ⟨⟨load_cell agg3 f1171 rfl, load_cell agg33 f1169 rfl, trivial⟩, hK _ _ (⟨by rw [show startN ms r0 r1 f g = 0 from by unfold startN; rw [ee]; rfl, ee], Chg.ext x1173, O, by unfold startL; rw [ee, if_neg (by decide)]; exact hT'.keep fun b r _ q => x1173 b r q, fun b hb => .inl hb⟩)⟩
    · obtain ⟨h1174, e1175⟩ : ∃ zq, zq = hh816.setIfInBounds b789 (.cells #[(vI 0)] 3 (0, 0)) := ⟨_, rfl⟩
      have f1176 := set_same e1175 f820
      have f1179 := set_other e1175 f821 n806.symm
      have x1180 := Ext.setNew x822 e1175 o796
      obtain ⟨h1181, e1182⟩ : ∃ zq, zq = h1174.setIfInBounds b801 (.cells #[(vI 2)] 33 (0, 0)) := ⟨_, rfl⟩
      have f1183 := set_same e1182 f1179
      have f1185 := set_other e1182 f1176 n806
      have x1187 := Ext.setNew x1180 e1182 o809
      refine wc_upd (n := 200) (T := ⟨fun r i => match r, i with | 1, 1 => some ((vB true), h799) | 3, 0 => some ((vA #[(vS r0), (vS r1)]), h799) | 3, 1 => some ((vI ((rchk r0 r1))), hh816) | 3, 2 => some ((vB false), hh816) | 3, 5 => some ((vB false), hh816) | 4, 0 => some (undef, h1174) | 4, 1 => some (undef, h1181) | _, _ => none, fun _ => none, none⟩) (x := .ret) (h1 := h1181) [(16, (vP t 0)), (17, (vB true)), (18, (vB false)), (15, (vB false)), (20, (vA #[(vS r0), (vS r1)])), (21, (vI ((rchk r0 r1)))), (22, (vB false)), (23, (vB false)), (24, (vI f)), (25, (vB false)), (26, (vB true)), (27, (vB true)), (28, (vB true)), (29, vZ), (30, vZ), (31, vZ), (32, (vB true)), (33, (vB true)), (34, vZ), (35, vZ), (36, vZ), (37, (vB true)), (19, (vB true))]
        (fun q => SoundCall Tryd.prog 39 #[(vP t 0)] h799 (vB true) h799 ∧ (loadT Tryd.prog h799 30 (vP b779 0) = some (vA #[(vS r0), (vS r1)]) ∧ h799 = h799) ∧ SoundCall Tryd.prog 16 #[(vA #[(vS r0), (vS r1)])] h799 (vI ((rchk r0 r1))) hh816 ∧ (binA Tryd.prog .neq 33 (vI ((rchk r0 r1))) (vI 0) = some (vB false) ∧ hh816 = hh816) ∧ SoundCall Tryd.prog 40 #[(vI f)] hh816 (vB false) hh816 ∧ (storeT Tryd.prog hh816 3 (vP b789 0) (vI 0) = some h1174 ∧ (undef : Value) = undef) ∧ (storeT Tryd.prog h1174 33 (vP b801 0) (vI 2) = some h1181 ∧ (undef : Value) = undef) ∧ q) (by intro K'; as_aux_lemma => kernel_rfl) (fun _ q => ⟨sn814, ⟨load_agg agg30 size30 f810 (by simp) (by kernel_rfl), rfl⟩, sn817, ⟨cmp_neq (decide_eq_false (not_not_intro c823)), rfl⟩, (by rw [← c827]; exact sn825), ⟨by rw [e1175]; exact store_cells size3 rfl f820 (by decide) (by simp) rfl (by kernel_rfl), rfl⟩, ⟨by rw [e1182]; exact store_cells size33 rfl f1179 (by decide) (by simp) rfl (by kernel_rfl), rfl⟩, q⟩) ?_
      have ee : startE ms r0 r1 f g = 2 := by unfold startE; rw [if_neg]; rintro ⟨w1, w2, w3, w4⟩; first | omega | (simp only [grpB] at *; simp_all) | contradiction
      refine end_at (T := ⟨fun _ _ => none, fun _ => none, some [(vI 0), (vI 2)]⟩) (A := (loadT Tryd.prog h1181 3 (vP b789 0) = some (vI 0) ∧ loadT Tryd.prog h1181 33 (vP b801 0) = some (vI 2) ∧ True) ∧ K (vT #[(vI 0), (vI 2)]) h1181) (by kernel_rfl) ?_
      exact ⟨⟨load_cell agg3 f1185 rfl, load_cell agg33 f1183 rfl, trivial⟩, hK _ _ (⟨by rw [show startN ms r0 r1 f g = 0 from by unfold startN; rw [ee]; rfl, ee], Chg.ext x1187, O, by unfold startL; rw [ee, if_neg (by decide)]; exact hT'.keep fun b r _ q => x1187 b r q, fun b hb => .inl hb⟩)⟩
  · obtain ⟨h1188, e1189⟩ : ∃ zq, zq = hh816.setIfInBounds b789 (.cells #[(vI 0)] 3 (0, 0)) := ⟨_, rfl⟩
    have f1190 := set_same e1189 f820
    have f1193 := set_other e1189 f821 n806.symm
    have x1194 := Ext.setNew x822 e1189 o796
    obtain ⟨h1195, e1196⟩ : ∃ zq, zq = h1188.setIfInBounds b801 (.cells #[(vI 2)] 33 (0, 0)) := ⟨_, rfl⟩
    have f1197 := set_same e1196 f1193
    have f1199 := set_other e1196 f1190 n806
    have x1201 := Ext.setNew x1194 e1196 o809
    refine wc_upd (n := 200) (T := ⟨fun r i => match r, i with | 1, 1 => some ((vB true), h799) | 3, 0 => some ((vA #[(vS r0), (vS r1)]), h799) | 3, 1 => some ((vI ((rchk r0 r1))), hh816) | 3, 2 => some ((vB true), hh816) | 4, 0 => some (undef, h1188) | 4, 1 => some (undef, h1195) | _, _ => none, fun _ => none, none⟩) (x := .ret) (h1 := h1195) [(16, (vP t 0)), (17, (vB true)), (18, (vB false)), (15, (vB false)), (20, (vA #[(vS r0), (vS r1)])), (21, (vI ((rchk r0 r1)))), (22, (vB true)), (23, (vB true)), (24, vZ), (25, vZ), (26, vZ), (27, (vB true)), (28, (vB true)), (29, vZ), (30, vZ), (31, vZ), (32, (vB true)), (33, (vB true)), (34, vZ), (35, vZ), (36, vZ), (37, (vB true)), (19, (vB true))]
      (fun q => SoundCall Tryd.prog 39 #[(vP t 0)] h799 (vB true) h799 ∧ (loadT Tryd.prog h799 30 (vP b779 0) = some (vA #[(vS r0), (vS r1)]) ∧ h799 = h799) ∧ SoundCall Tryd.prog 16 #[(vA #[(vS r0), (vS r1)])] h799 (vI ((rchk r0 r1))) hh816 ∧ (binA Tryd.prog .neq 33 (vI ((rchk r0 r1))) (vI 0) = some (vB true) ∧ hh816 = hh816) ∧ (storeT Tryd.prog hh816 3 (vP b789 0) (vI 0) = some h1188 ∧ (undef : Value) = undef) ∧ (storeT Tryd.prog h1188 33 (vP b801 0) (vI 2) = some h1195 ∧ (undef : Value) = undef) ∧ q) (by intro K'; as_aux_lemma => kernel_rfl) (fun _ q => ⟨sn814, ⟨load_agg agg30 size30 f810 (by simp) (by kernel_rfl), rfl⟩, sn817, ⟨cmp_neq (decide_eq_true c823), rfl⟩, ⟨by rw [e1189]; exact store_cells size3 rfl f820 (by decide) (by simp) rfl (by kernel_rfl), rfl⟩, ⟨by rw [e1196]; exact store_cells size33 rfl f1193 (by decide) (by simp) rfl (by kernel_rfl), rfl⟩, q⟩) ?_
    have ee : startE ms r0 r1 f g = 2 := by unfold startE; rw [if_neg]; rintro ⟨w1, w2, w3, w4⟩; first | omega | (simp only [grpB] at *; simp_all) | contradiction
    refine end_at (T := ⟨fun _ _ => none, fun _ => none, some [(vI 0), (vI 2)]⟩) (A := (loadT Tryd.prog h1195 3 (vP b789 0) = some (vI 0) ∧ loadT Tryd.prog h1195 33 (vP b801 0) = some (vI 2) ∧ True) ∧ K (vT #[(vI 0), (vI 2)]) h1195) (by kernel_rfl) ?_
    exact ⟨⟨load_cell agg3 f1199 rfl, load_cell agg33 f1197 rfl, trivial⟩, hK _ _ (⟨by rw [show startN ms r0 r1 f g = 0 from by unfold startN; rw [ee]; rfl, ee], Chg.ext x1201, O, by unfold startL; rw [ee, if_neg (by decide)]; exact hT'.keep fun b r _ q => x1201 b r q, fun b hb => .inl hb⟩)⟩
set_option maxHeartbeats 4000000 in
theorem find_ok (h : Heap) {t : Nat} {ms : List MoveM} {sa : Option Addr} {c : Nat} (ht : h[t]? = some (.cells #[.bool true, .slice sa ms.length c] 56 (0, 0))) (ho : OwnAt h 32 movec ms (.slice sa ms.length c)) (h64 : ms.length ≤ 64) (n : Int) (hn9 : -9223372036854775808 ≤ n ∧ n ≤ 9223372036854775807) : WCall Tryd.prog 36 #[(vP t 0), (vI (n))] h (fun v h1 => ((n < 1 ∨ ((ms.length : Nat) : Int) < n) → v = .tuple #[.pointer none, .int .i64 3]) ∧ (∀ w, indexAddrA Tryd.prog 48 (.slice sa ms.length c) (.int .i64 (n - 1)) = some w → 1 ≤ n ∧ n ≤ (ms.length : Nat) → v = .tuple #[w, .int .i64 0]) ∧ h = h1) := by
  obtain ⟨_, _, sn1203, rfl, rfl⟩ := valid_ok h ht
  by_cases c1205 : ((n) : Int) < 1
  · exact hCall_of (n := 200) (T := ⟨fun r i => match r, i with | 1, 1 => some ((vB true), h) | 3, 1 => some ((vB true), h) | _, _ => none, fun _ => none, none⟩)
      (A := SoundCall Tryd.prog 39 #[(vP t 0)] h (vB true) h ∧ (binA Tryd.prog .lss 3 (vI n) (vI 1) = some (vB true) ∧ h = h) ∧ (fun v h1 => ((n < 1 ∨ ((ms.length : Nat) : Int) < n) → v = .tuple #[.pointer none, .int .i64 3]) ∧ (∀ w, indexAddrA Tryd.prog 48 (.slice sa ms.length c) (.int .i64 (n - 1)) = some w → 1 ≤ n ∧ n ≤ (ms.length : Nat) → v = .tuple #[w, .int .i64 0]) ∧ h = h1) (vT #[vN, (vI 3)]) h) (by kernel_rfl) ⟨sn1203, ⟨cmp_lss (decide_eq_true c1205), rfl⟩, ⟨fun _ => rfl, fun _ _ w => absurd w (by omega), rfl⟩⟩
  · by_cases c1206 : (((ms.length : Nat)) : Int) < (n)
    · exact hCall_of (n := 200) (T := ⟨fun r i => match r, i with | 1, 1 => some ((vB true), h) | 3, 1 => some ((vB false), h) | 3, 7 => some ((vL sa ms.length c), h) | 3, 9 => some ((vB true), h) | _, _ => none, fun _ => none, none⟩)
        (A := SoundCall Tryd.prog 39 #[(vP t 0)] h (vB true) h ∧ (binA Tryd.prog .lss 3 (vI n) (vI 1) = some (vB false) ∧ h = h) ∧ (loadT Tryd.prog h 48 (vP t 1) = some (vL sa ms.length c) ∧ h = h) ∧ (binA Tryd.prog .gtr 3 (vI n) (vI ((ms.length : Nat))) = some (vB true) ∧ h = h) ∧ (fun v h1 => ((n < 1 ∨ ((ms.length : Nat) : Int) < n) → v = .tuple #[.pointer none, .int .i64 3]) ∧ (∀ w, indexAddrA Tryd.prog 48 (.slice sa ms.length c) (.int .i64 (n - 1)) = some w → 1 ≤ n ∧ n ≤ (ms.length : Nat) → v = .tuple #[w, .int .i64 0]) ∧ h = h1) (vT #[vN, (vI 3)]) h) (by kernel_rfl) ⟨sn1203, ⟨cmp_lss (decide_eq_false c1205), rfl⟩, ⟨load_cell agg48 ht rfl, rfl⟩, ⟨cmp_gtr (decide_eq_true c1206), rfl⟩, ⟨fun _ => rfl, fun _ _ w => absurd w (by omega), rfl⟩⟩
    · obtain ⟨i1207, v1208, e1209, l1210, g1211⟩ := list_at ms (e := ((n) - 1)) (by omega) (by first | omega | (simp only [List.length_set, List.length_append, List.length_singleton]; omega))
      obtain ⟨b1212, o1213, k1214, q1215, a1216⟩ := (ho.slice movec_size).at movec_size g1211
      exact hCall_of (n := 200) (T := ⟨fun r i => match r, i with | 1, 1 => some ((vB true), h) | 3, 1 => some ((vB false), h) | 3, 7 => some ((vL sa ms.length c), h) | 3, 9 => some ((vB false), h) | 5, 3 => some ((vL sa ms.length c), h) | 5, 5 => some ((vI ((n) - 1)), h) | 5, 6 => some ((vP b1212 o1213), h) | _, _ => none, fun _ => none, none⟩)
        (A := SoundCall Tryd.prog 39 #[(vP t 0)] h (vB true) h ∧ (binA Tryd.prog .lss 3 (vI n) (vI 1) = some (vB false) ∧ h = h) ∧ (loadT Tryd.prog h 48 (vP t 1) = some (vL sa ms.length c) ∧ h = h) ∧ (binA Tryd.prog .gtr 3 (vI n) (vI ((ms.length : Nat))) = some (vB false) ∧ h = h) ∧ (loadT Tryd.prog h 48 (vP t 1) = some (vL sa ms.length c) ∧ h = h) ∧ (binA Tryd.prog .sub 3 (vI n) (vI 1) = some (vI ((n) - 1)) ∧ h = h) ∧ (indexAddrA Tryd.prog 48 (vL sa ms.length c) (vI ((n) - 1)) = some (vP b1212 o1213) ∧ h = h) ∧ (fun v h1 => ((n < 1 ∨ ((ms.length : Nat) : Int) < n) → v = .tuple #[.pointer none, .int .i64 3]) ∧ (∀ w, indexAddrA Tryd.prog 48 (.slice sa ms.length c) (.int .i64 (n - 1)) = some w → 1 ≤ n ∧ n ≤ (ms.length : Nat) → v = .tuple #[w, .int .i64 0]) ∧ h = h1) (vT #[(vP b1212 o1213), (vI 0)]) h) (by kernel_rfl) ⟨sn1203, ⟨cmp_lss (decide_eq_false c1205), rfl⟩, ⟨load_cell agg48 ht rfl, rfl⟩, ⟨cmp_gtr (decide_eq_false c1206), rfl⟩, ⟨load_cell agg48 ht rfl, rfl⟩, ⟨sub_i64 (by omega) (by omega), rfl⟩, ⟨a1216 und48 size32 e1209, rfl⟩, ⟨fun w => absurd w (by omega), fun w hp _ => by rw [a1216 und48 size32 e1209] at hp; cases hp; rfl, rfl⟩⟩
set_option maxHeartbeats 4000000 in
theorem find_nil (h : Heap)  (n : Int) : WCall Tryd.prog 36 #[(Value.pointer none), (vI (n))] h (fun v h1 => v = .tuple #[.pointer none, .int .i64 1] ∧ h = h1) := by
  obtain ⟨_, _, sn1219, rfl, rfl⟩ := valid_nil h
  exact hCall_of (n := 200) (T := ⟨fun r i => match r, i with | 1, 1 => some ((vB false), h) | _, _ => none, fun _ => none, none⟩)
    (A := SoundCall Tryd.prog 39 #[vN] h (vB false) h ∧ (fun v h1 => v = .tuple #[.pointer none, .int .i64 1] ∧ h = h1) (vT #[vN, (vI 1)]) h) (by kernel_rfl) ⟨sn1219, ⟨rfl, rfl⟩⟩
set_option maxHeartbeats 4000000 in
theorem find_bad (h : Heap) {t : Nat} {sa : Option Addr} {n c : Nat} {fr : Nat × Nat} (ht : h[t]? = some (.cells #[.bool false, .slice sa n c] 56 fr)) (n : Int) : WCall Tryd.prog 36 #[(vP t 0), (vI (n))] h (fun v h1 => v = .tuple #[.pointer none, .int .i64 1] ∧ h = h1) := by
  obtain ⟨_, _, sn1222, rfl, rfl⟩ := valid_bad h ht
  exact hCall_of (n := 200) (T := ⟨fun r i => match r, i with | 1, 1 => some ((vB false), h) | _, _ => none, fun _ => none, none⟩)
    (A := SoundCall Tryd.prog 39 #[(vP t 0)] h (vB false) h ∧ (fun v h1 => v = .tuple #[.pointer none, .int .i64 1] ∧ h = h1) (vT #[vN, (vI 1)]) h) (by kernel_rfl) ⟨sn1222, ⟨rfl, rfl⟩⟩
set_option maxHeartbeats 4000000 in
theorem get_ok (h : Heap) {O : Nat → Prop} {t : Nat} {ms : List MoveM} (hT : TabAt 56 32 h O t ms) (h64 : ms.length ≤ 64) (n : Int) (hn9 : -9223372036854775808 ≤ n ∧ n ≤ 9223372036854775807) : WCall Tryd.prog 15 #[(vP t 0), (vI (n))] h (fun v h1 => v = .tuple #[.agg #[(vS (getM ms n).rf), (vS (getM ms n).rt), (vI ((getM ms n).f)), (vI ((getM ms n).t)), (vI ((getM ms n).st)), (vS (getM ms n).d)], .int .i64 (findE ms n)] ∧ Ext h h1) := by
  have hT' := hT
  obtain ⟨a1224, cc1225, T⟩ := hT
  obtain ⟨b1228, eb1229⟩ : ∃ zq, zq = h.size := ⟨_, rfl⟩
  obtain ⟨h1226, e1227⟩ : ∃ zq, zq = h.push (.cells #[(vS .empty), (vS .empty), (vI 0), (vI 0), (vI 0), (vS .empty)] 32 (0, 0)) := ⟨_, rfl⟩
  have f1230 := push_new e1227
  rw [← eb1229] at f1230
  have x1233 : Ext h h1226 := by rw [e1227]; exact Ext.push _ _
  have o1234 : h.size ≤ b1228 := by have := (Ext.refl h).size; omega
  have x1235 := (Ext.refl h).trans x1233
  obtain ⟨w1236, _, s1237, q1238, q1239, rfl⟩ := find_ok h1226 (x1235 _ _ T.row) (T.own.keep fun b r _ q => x1235 b r q) h64 (n) (by omega)
  by_cases c1240 : ((n) < 1 ∨ ((ms.length : Nat) : Int) < (n))
  · have s1241 := s1237
    rw [q1238 c1240] at s1241
    obtain ⟨h1242, e1243⟩ : ∃ zq, zq = h1226.setIfInBounds b1228 (.cells #[(vS .empty), (vS .empty), (vI 0), (vI 0), (vI 0), (vS .empty)] 32 (0, 0)) := ⟨_, rfl⟩
    have f1244 := set_same e1243 f1230
    have x1246 := Ext.setNew x1235 e1243 o1234
    exact hCall_of (n := 200) (T := ⟨fun r i => match r, i with | 0, 0 => some ((vP b1228 0), h1226) | 1, 2 => some ((vT #[vN, (vI 3)]), h1226) | 3, 2 => some (undef, h1242) | _, _ => none, fun _ => none, some [(vA #[(vS .empty), (vS .empty), (vI 0), (vI 0), (vI 0), (vS .empty)]), (vI 3)]⟩)
      (A := ((vP b1228 0) = (Value.pointer (some ⟨h.size, 0, none⟩)) ∧ h1226 = h.push (.cells #[(vS .empty), (vS .empty), (vI 0), (vI 0), (vI 0), (vS .empty)] 32 (0, 0))) ∧ SoundCall Tryd.prog 36 #[(vP t 0), (vI n)] h1226 (vT #[vN, (vI 3)]) h1226 ∧ (storeT Tryd.prog h1226 32 (vP b1228 0) (vA #[(vS .empty), (vS .empty), (vI 0), (vI 0), (vI 0), (vS .empty)]) = some h1242 ∧ (undef : Value) = undef) ∧ (loadT Tryd.prog h1242 32 (vP b1228 0) = some (vA #[(vS .empty), (vS .empty), (vI 0), (vI 0), (vI 0), (vS .empty)]) ∧ (vI 3) = (vI 3) ∧ True) ∧ (fun v h1 => v = .tuple #[.agg #[(vS (getM ms n).rf), (vS (getM ms n).rt), (vI ((getM ms n).f)), (vI ((getM ms n).t)), (vI ((getM ms n).st)), (vS (getM ms n).d)], .int .i64 (findE ms n)] ∧ Ext h h1) (vT #[(vA #[(vS .empty), (vS .empty), (vI 0), (vI 0), (vI 0), (vS .empty)]), (vI 3)]) h1242) (by kernel_rfl) ⟨⟨by rw [eb1229], e1227⟩, s1241, ⟨by rw [e1243]; exact store_cells size32 rfl f1230 (by decide) (by simp) rfl (by kernel_rfl), rfl⟩, ⟨load_agg agg32 size32 f1244 (by simp) (by kernel_rfl), rfl, trivial⟩, ⟨by rw [getM_out (by omega), findE_out (by omega)]; rfl, x1246⟩⟩
  · obtain ⟨i1247, v1248, e1249, l1250, g1251⟩ := list_at ms (e := (n) - 1) (by omega) (by omega)
    obtain ⟨b1252, o1253, q1254, a1255, k1256, u1257⟩ := (T.own.keep fun b r _ q => x1235 b r q).store movec_size g1251
    have s1258 := s1237
    rw [q1239 _ (a1255 und48 size32 e1249) (by omega)] at s1258
    obtain ⟨h1260, e1261⟩ : ∃ zq, zq = h1226.setIfInBounds b1228 (.cells #[(vS v1248.rf), (vS v1248.rt), (vI (v1248.f)), (vI (v1248.t)), (vI (v1248.st)), (vS v1248.d)] 32 (0, 0)) := ⟨_, rfl⟩
    have f1262 := set_same e1261 f1230
    have x1264 := Ext.setNew x1235 e1261 o1234
    exact hCall_of (n := 200) (T := ⟨fun r i => match r, i with | 0, 0 => some ((vP b1228 0), h1226) | 1, 2 => some ((vT #[(vP b1252 o1253), (vI 0)]), h1226) | 4, 2 => some ((vA #[(vS v1248.rf), (vS v1248.rt), (vI v1248.f), (vI v1248.t), (vI v1248.st), (vS v1248.d)]), h1226) | 4, 3 => some (undef, h1260) | _, _ => none, fun _ => none, some [(vA #[(vS v1248.rf), (vS v1248.rt), (vI v1248.f), (vI v1248.t), (vI v1248.st), (vS v1248.d)]), (vI 0)]⟩)
      (A := ((vP b1228 0) = (Value.pointer (some ⟨h.size, 0, none⟩)) ∧ h1226 = h.push (.cells #[(vS .empty), (vS .empty), (vI 0), (vI 0), (vI 0), (vS .empty)] 32 (0, 0))) ∧ SoundCall Tryd.prog 36 #[(vP t 0), (vI n)] h1226 (vT #[(vP b1252 o1253), (vI 0)]) h1226 ∧ (loadT Tryd.prog h1226 32 (vP b1252 o1253) = some (vA #[(vS v1248.rf), (vS v1248.rt), (vI v1248.f), (vI v1248.t), (vI v1248.st), (vS v1248.d)]) ∧ h1226 = h1226) ∧ (storeT Tryd.prog h1226 32 (vP b1228 0) (vA #[(vS v1248.rf), (vS v1248.rt), (vI v1248.f), (vI v1248.t), (vI v1248.st), (vS v1248.d)]) = some h1260 ∧ (undef : Value) = undef) ∧ (loadT Tryd.prog h1260 32 (vP b1228 0) = some (vA #[(vS v1248.rf), (vS v1248.rt), (vI v1248.f), (vI v1248.t), (vI v1248.st), (vS v1248.d)]) ∧ (vI 0) = (vI 0) ∧ True) ∧ (fun v h1 => v = .tuple #[.agg #[(vS (getM ms n).rf), (vS (getM ms n).rt), (vI ((getM ms n).f)), (vI ((getM ms n).t)), (vI ((getM ms n).st)), (vS (getM ms n).d)], .int .i64 (findE ms n)] ∧ Ext h h1) (vT #[(vA #[(vS v1248.rf), (vS v1248.rt), (vI v1248.f), (vI v1248.t), (vI v1248.st), (vS v1248.d)]), (vI 0)]) h1260) (by kernel_rfl) ⟨⟨by rw [eb1229], e1227⟩, s1258, ⟨k1256.agg (j := 0) agg32 size32 (show 0 + 6 ≤ 6 by decide) (by kernel_rfl), rfl⟩, ⟨by rw [e1261]; exact store_cells size32 rfl f1230 (by decide) (by simp) rfl (by kernel_rfl), rfl⟩, ⟨load_agg agg32 size32 f1262 (by simp) (by kernel_rfl), rfl, trivial⟩, ⟨by rw [getM_at g1251 (by omega), findE_at (by omega) (by omega)], x1264⟩⟩
set_option maxHeartbeats 4000000 in
theorem given_ok (h : Heap) {O : Nat → Prop} {t : Nat} {ms : List MoveM} (hT : TabAt 56 32 h O t ms) (h64 : ms.length ≤ 64) (n : Int) (hn9 : -9223372036854775808 ≤ n ∧ n ≤ 9223372036854775807) (d : ByteArray) : WCall Tryd.prog 22 #[(vP t 0), (vI (n)), (vS d)] h (fun v h1 => v = .int .i64 (givenE ms n d) ∧ Chg O h h1 ∧ ∃ O', TabAt 56 32 h1 O' t (givenL ms n d) ∧ ∀ b, O' b → O b ∨ h.size ≤ b) := by
  have hT' := hT
  obtain ⟨a1265, cc1266, T⟩ := hT
  obtain ⟨w1267, _, s1268, q1269, q1270, rfl⟩ := find_ok h T.row T.own h64 (n) (by omega)
  by_cases c1271 : ((n) < 1 ∨ ((ms.length : Nat) : Int) < (n))
  · have s1272 := s1268
    rw [q1269 c1271] at s1272
    have ee : givenE ms n d = 3 := by unfold givenE; rw [findE_out (by omega), if_neg (by decide)]
    exact hCall_of (n := 200) (T := ⟨fun r i => match r, i with | 1, 2 => some ((vT #[vN, (vI 3)]), h) | _, _ => none, fun _ => none, none⟩)
      (A := SoundCall Tryd.prog 36 #[(vP t 0), (vI n)] h (vT #[vN, (vI 3)]) h ∧ (fun v h1 => v = .int .i64 (givenE ms n d) ∧ Chg O h h1 ∧ ∃ O', TabAt 56 32 h1 O' t (givenL ms n d) ∧ ∀ b, O' b → O b ∨ h.size ≤ b) (vI 3) h) (by kernel_rfl) ⟨s1272, ⟨by rw [ee], Chg.refl h, O, by unfold givenL; rw [ee, if_neg (by decide)]; exact hT', fun b hb => .inl hb⟩⟩
  · obtain ⟨i1273, v1274, e1275, l1276, g1277⟩ := list_at ms (e := (n) - 1) (by omega) (by omega)
    obtain ⟨b1278, o1279, q1280, a1281, k1282, u1283⟩ := (T.own.keep fun b r _ q => (Ext.refl h) b r q).store movec_size g1277
    have s1284 := s1268
    rw [q1270 _ (a1281 und48 size32 e1275) (by omega)] at s1284
    by_cases c1286 : (65536 : Int) < ((d.size : Nat))
    · have ee : givenE ms n d = 11 := by unfold givenE; rw [if_pos (findE_at (l := ms) (n := n) (by omega) (by omega)), if_pos (by omega)]
      exact hCall_of (n := 200) (T := ⟨fun r i => match r, i with | 1, 2 => some ((vT #[(vP b1278 o1279), (vI 0)]), h) | 4, 2 => some ((vB true), h) | _, _ => none, fun _ => none, none⟩)
        (A := SoundCall Tryd.prog 36 #[(vP t 0), (vI n)] h (vT #[(vP b1278 o1279), (vI 0)]) h ∧ (binA Tryd.prog .gtr 3 (vI ((d.size : Nat))) (vI 65536) = some (vB true) ∧ h = h) ∧ (fun v h1 => v = .int .i64 (givenE ms n d) ∧ Chg O h h1 ∧ ∃ O', TabAt 56 32 h1 O' t (givenL ms n d) ∧ ∀ b, O' b → O b ∨ h.size ≤ b) (vI 11) h) (by kernel_rfl) ⟨s1284, ⟨cmp_gtr (decide_eq_true c1286), rfl⟩, ⟨by rw [ee], Chg.refl h, O, by unfold givenL; rw [ee, if_neg (by decide)]; exact hT', fun b hb => .inl hb⟩⟩
    · by_cases c1287 : ((v1274.st) : Int) = 1
      · obtain ⟨h1288, e1289, p1290, c1291, z1292⟩ := u1283 (j := 4) (y := { v1274 with st := 2 }) (u := (vI 2)) size3 rfl rfl (by decide) (by kernel_rfl)
        have c1293 : Chg (blk (Value.slice a1265 (ms.length) (cc1266))) h h1288 := c1291.weak fun q hq => by subst hq; exact q1280
        have z1294 : h.size ≤ h.size := (Chg.ext (O := O) (Ext.refl h)).size
        have x1295 := (Chg.ext (O := O) (Ext.refl h)).then c1293 (fun b hb => .inl ((fun b hb => (T.foot b).2 (.inr hb)) b hb))
        have f1296 := c1293.same _ _ ((Ext.refl h) _ _ T.row) (fun hb => (T.own.keep fun b r _ q => (Ext.refl h) b r q).ne ((Ext.refl h) _ _ T.row) (by decide) hb rfl)
        have g1304 : (ms.set i1273 { v1274 with st := 2 })[i1273]? = some { v1274 with st := 2 } := by rw [List.getElem?_set_self (by first | exact l1276 | (simp only [List.length_set]; exact l1276))]
        obtain ⟨b1297, o1298, q1299, a1300, k1301, u1302⟩ := p1290.store movec_size g1304
        have e1303 := (a1281 und48 size32 (kd := .i64) (j := (i1273 : Int)) rfl).symm.trans (a1300 und48 size32 rfl)
        simp only [Option.some.injEq, Value.pointer.injEq, Addr.mk.injEq, and_true] at e1303
        obtain ⟨e1e1303, e2e1303⟩ := e1303
        subst e1e1303
        subst e2e1303
        obtain ⟨h1305, e1306, p1307, c1308, z1309⟩ := u1302 (j := 5) (y := { ({ v1274 with st := 2 }) with d := d }) (u := (vS d)) size9 rfl rfl (by decide) (by kernel_rfl)
        have c1310 : Chg (blk (Value.slice a1265 (ms.length) (cc1266))) h1288 h1305 := c1308.weak fun q hq => by subst hq; exact q1299
        have z1311 : h.size ≤ h1288.size := x1295.size
        have x1312 := x1295.then c1310 (fun b hb => .inl ((fun b hb => (T.foot b).2 (.inr hb)) b hb))
        have f1313 := c1310.same _ _ f1296 (fun hb => p1290.ne f1296 (by decide) hb rfl)
        have g1321 : ((ms.set i1273 { v1274 with st := 2 }).set i1273 { ({ v1274 with st := 2 }) with d := d })[i1273]? = some { ({ v1274 with st := 2 }) with d := d } := by rw [List.getElem?_set_self (by first | exact l1276 | (simp only [List.length_set]; exact l1276))]
        obtain ⟨b1314, o1315, q1316, a1317, k1318, u1319⟩ := p1307.store movec_size g1321
        have e1320 := (a1281 und48 size32 (kd := .i64) (j := (i1273 : Int)) rfl).symm.trans (a1317 und48 size32 rfl)
        simp only [Option.some.injEq, Value.pointer.injEq, Addr.mk.injEq, and_true] at e1320
        obtain ⟨e1e1320, e2e1320⟩ := e1320
        subst e1e1320
        subst e2e1320
        have ee : givenE ms n d = 0 := by unfold givenE; rw [if_pos (findE_at (l := ms) (n := n) (by omega) (by omega)), if_neg (by omega), getM_at g1277 (by omega), if_pos c1287]
        have el9 : givenL ms n d = ms.set i1273 { v1274 with st := 2, d := d } := by unfold givenL; rw [if_pos ee, getM_at g1277 (by omega), show (n - 1).toNat = i1273 by omega]
        have ln9 : (givenL ms n d).length = ms.length := by rw [el9, List.length_set]
        have ow9 := p1307
        rw [List.set_set] at ow9
        exact hCall_of (n := 200) (T := ⟨fun r i => match r, i with | 1, 2 => some ((vT #[(vP b1278 o1279), (vI 0)]), h) | 4, 2 => some ((vB false), h) | 6, 3 => some ((vI v1274.st), h) | 6, 4 => some ((vB false), h) | 8, 5 => some (undef, h1288) | 8, 8 => some (undef, h1305) | _, _ => none, fun _ => none, none⟩)
          (A := SoundCall Tryd.prog 36 #[(vP t 0), (vI n)] h (vT #[(vP b1278 o1279), (vI 0)]) h ∧ (binA Tryd.prog .gtr 3 (vI ((d.size : Nat))) (vI 65536) = some (vB false) ∧ h = h) ∧ (loadT Tryd.prog h 3 (vP b1278 (o1279 + 4)) = some (vI v1274.st) ∧ h = h) ∧ (binA Tryd.prog .neq 3 (vI v1274.st) (vI 1) = some (vB false) ∧ h = h) ∧ (storeT Tryd.prog h 3 (vP b1278 (o1279 + 4)) (vI 2) = some h1288 ∧ (undef : Value) = undef) ∧ (storeT Tryd.prog h1288 9 (vP b1278 (o1279 + 5)) (vS d) = some h1305 ∧ (undef : Value) = undef) ∧ (fun v h1 => v = .int .i64 (givenE ms n d) ∧ Chg O h h1 ∧ ∃ O', TabAt 56 32 h1 O' t (givenL ms n d) ∧ ∀ b, O' b → O b ∨ h.size ≤ b) (vI 0) h1305) (by kernel_rfl) ⟨s1284, ⟨cmp_gtr (decide_eq_false c1286), rfl⟩, ⟨k1282.cell (j := 4) agg3 rfl, rfl⟩, ⟨cmp_neq (decide_eq_false (not_not_intro c1287)), rfl⟩, ⟨e1289, rfl⟩, ⟨e1306, rfl⟩, ⟨by rw [ee], x1312, O, ⟨a1265, cc1266, by rw [ln9]; exact f1313, by rw [ln9, el9]; exact ow9, by rw [ln9]; exact T.foot⟩, fun b hb => .inl hb⟩⟩
      · have ee : givenE ms n d = 9 := by unfold givenE; rw [if_pos (findE_at (l := ms) (n := n) (by omega) (by omega)), if_neg (by omega), getM_at g1277 (by omega), if_neg c1287]
        exact hCall_of (n := 200) (T := ⟨fun r i => match r, i with | 1, 2 => some ((vT #[(vP b1278 o1279), (vI 0)]), h) | 4, 2 => some ((vB false), h) | 6, 3 => some ((vI v1274.st), h) | 6, 4 => some ((vB true), h) | _, _ => none, fun _ => none, none⟩)
          (A := SoundCall Tryd.prog 36 #[(vP t 0), (vI n)] h (vT #[(vP b1278 o1279), (vI 0)]) h ∧ (binA Tryd.prog .gtr 3 (vI ((d.size : Nat))) (vI 65536) = some (vB false) ∧ h = h) ∧ (loadT Tryd.prog h 3 (vP b1278 (o1279 + 4)) = some (vI v1274.st) ∧ h = h) ∧ (binA Tryd.prog .neq 3 (vI v1274.st) (vI 1) = some (vB true) ∧ h = h) ∧ (fun v h1 => v = .int .i64 (givenE ms n d) ∧ Chg O h h1 ∧ ∃ O', TabAt 56 32 h1 O' t (givenL ms n d) ∧ ∀ b, O' b → O b ∨ h.size ≤ b) (vI 9) h) (by kernel_rfl) ⟨s1284, ⟨cmp_gtr (decide_eq_false c1286), rfl⟩, ⟨k1282.cell (j := 4) agg3 rfl, rfl⟩, ⟨cmp_neq (decide_eq_true c1287), rfl⟩, ⟨by rw [ee], Chg.refl h, O, by unfold givenL; rw [ee, if_neg (by decide)]; exact hT', fun b hb => .inl hb⟩⟩
set_option maxHeartbeats 4000000 in
theorem taken_ok (h : Heap) {O : Nat → Prop} {t : Nat} {ms : List MoveM} (hT : TabAt 56 32 h O t ms) (h64 : ms.length ≤ 64) (n : Int) (hn9 : -9223372036854775808 ≤ n ∧ n ≤ 9223372036854775807) : WCall Tryd.prog 23 #[(vP t 0), (vI (n))] h (fun v h1 => v = .int .i64 (takenE ms n) ∧ Chg O h h1 ∧ ∃ O', TabAt 56 32 h1 O' t (takenL ms n) ∧ ∀ b, O' b → O b ∨ h.size ≤ b) := by
  have hT' := hT
  obtain ⟨a1322, cc1323, T⟩ := hT
  obtain ⟨w1324, _, s1325, q1326, q1327, rfl⟩ := find_ok h T.row T.own h64 (n) (by omega)
  by_cases c1328 : ((n) < 1 ∨ ((ms.length : Nat) : Int) < (n))
  · have s1329 := s1325
    rw [q1326 c1328] at s1329
    have ee : takenE ms n = 3 := by unfold takenE; rw [findE_out (by omega), if_neg (by decide)]
    exact hCall_of (n := 200) (T := ⟨fun r i => match r, i with | 1, 2 => some ((vT #[vN, (vI 3)]), h) | _, _ => none, fun _ => none, none⟩)
      (A := SoundCall Tryd.prog 36 #[(vP t 0), (vI n)] h (vT #[vN, (vI 3)]) h ∧ (fun v h1 => v = .int .i64 (takenE ms n) ∧ Chg O h h1 ∧ ∃ O', TabAt 56 32 h1 O' t (takenL ms n) ∧ ∀ b, O' b → O b ∨ h.size ≤ b) (vI 3) h) (by kernel_rfl) ⟨s1329, ⟨by rw [ee], Chg.refl h, O, by unfold takenL; rw [ee, if_neg (by decide)]; exact hT', fun b hb => .inl hb⟩⟩
  · obtain ⟨i1330, v1331, e1332, l1333, g1334⟩ := list_at ms (e := (n) - 1) (by omega) (by omega)
    obtain ⟨b1335, o1336, q1337, a1338, k1339, u1340⟩ := (T.own.keep fun b r _ q => (Ext.refl h) b r q).store movec_size g1334
    have s1341 := s1325
    rw [q1327 _ (a1338 und48 size32 e1332) (by omega)] at s1341
    by_cases c1343 : ((v1331.st) : Int) = 2
    · obtain ⟨h1344, e1345, p1346, c1347, z1348⟩ := u1340 (j := 4) (y := { v1331 with st := 3 }) (u := (vI 3)) size3 rfl rfl (by decide) (by kernel_rfl)
      have c1349 : Chg (blk (Value.slice a1322 (ms.length) (cc1323))) h h1344 := c1347.weak fun q hq => by subst hq; exact q1337
      have z1350 : h.size ≤ h.size := (Chg.ext (O := O) (Ext.refl h)).size
      have x1351 := (Chg.ext (O := O) (Ext.refl h)).then c1349 (fun b hb => .inl ((fun b hb => (T.foot b).2 (.inr hb)) b hb))
      have f1352 := c1349.same _ _ ((Ext.refl h) _ _ T.row) (fun hb => (T.own.keep fun b r _ q => (Ext.refl h) b r q).ne ((Ext.refl h) _ _ T.row) (by decide) hb rfl)
      have g1360 : (ms.set i1330 { v1331 with st := 3 })[i1330]? = some { v1331 with st := 3 } := by rw [List.getElem?_set_self (by first | exact l1333 | (simp only [List.length_set]; exact l1333))]
      obtain ⟨b1353, o1354, q1355, a1356, k1357, u1358⟩ := p1346.store movec_size g1360
      have e1359 := (a1338 und48 size32 (kd := .i64) (j := (i1330 : Int)) rfl).symm.trans (a1356 und48 size32 rfl)
      simp only [Option.some.injEq, Value.pointer.injEq, Addr.mk.injEq, and_true] at e1359
      obtain ⟨e1e1359, e2e1359⟩ := e1359
      subst e1e1359
      subst e2e1359
      obtain ⟨h1361, e1362, p1363, c1364, z1365⟩ := u1358 (j := 5) (y := { ({ v1331 with st := 3 }) with d := .empty }) (u := (vS .empty)) size9 rfl rfl (by decide) (by kernel_rfl)
      have c1366 : Chg (blk (Value.slice a1322 (ms.length) (cc1323))) h1344 h1361 := c1364.weak fun q hq => by subst hq; exact q1355
      have z1367 : h.size ≤ h1344.size := x1351.size
      have x1368 := x1351.then c1366 (fun b hb => .inl ((fun b hb => (T.foot b).2 (.inr hb)) b hb))
      have f1369 := c1366.same _ _ f1352 (fun hb => p1346.ne f1352 (by decide) hb rfl)
      have g1377 : ((ms.set i1330 { v1331 with st := 3 }).set i1330 { ({ v1331 with st := 3 }) with d := .empty })[i1330]? = some { ({ v1331 with st := 3 }) with d := .empty } := by rw [List.getElem?_set_self (by first | exact l1333 | (simp only [List.length_set]; exact l1333))]
      obtain ⟨b1370, o1371, q1372, a1373, k1374, u1375⟩ := p1363.store movec_size g1377
      have e1376 := (a1338 und48 size32 (kd := .i64) (j := (i1330 : Int)) rfl).symm.trans (a1373 und48 size32 rfl)
      simp only [Option.some.injEq, Value.pointer.injEq, Addr.mk.injEq, and_true] at e1376
      obtain ⟨e1e1376, e2e1376⟩ := e1376
      subst e1e1376
      subst e2e1376
      have ee : takenE ms n = 0 := by unfold takenE; rw [if_pos (findE_at (l := ms) (n := n) (by omega) (by omega)), getM_at g1334 (by omega), if_pos c1343]
      have el9 : takenL ms n = ms.set i1330 { v1331 with st := 3, d := .empty } := by unfold takenL; rw [if_pos ee, getM_at g1334 (by omega), show (n - 1).toNat = i1330 by omega]
      have ln9 : (takenL ms n).length = ms.length := by rw [el9, List.length_set]
      have ow9 := p1363
      rw [List.set_set] at ow9
      exact hCall_of (n := 200) (T := ⟨fun r i => match r, i with | 1, 2 => some ((vT #[(vP b1335 o1336), (vI 0)]), h) | 4, 3 => some ((vI v1331.st), h) | 4, 4 => some ((vB false), h) | 6, 4 => some (undef, h1344) | 6, 7 => some (undef, h1361) | _, _ => none, fun _ => none, none⟩)
        (A := SoundCall Tryd.prog 36 #[(vP t 0), (vI n)] h (vT #[(vP b1335 o1336), (vI 0)]) h ∧ (loadT Tryd.prog h 3 (vP b1335 (o1336 + 4)) = some (vI v1331.st) ∧ h = h) ∧ (binA Tryd.prog .neq 3 (vI v1331.st) (vI 2) = some (vB false) ∧ h = h) ∧ (storeT Tryd.prog h 3 (vP b1335 (o1336 + 4)) (vI 3) = some h1344 ∧ (undef : Value) = undef) ∧ (storeT Tryd.prog h1344 9 (vP b1335 (o1336 + 5)) (vS .empty) = some h1361 ∧ (undef : Value) = undef) ∧ (fun v h1 => v = .int .i64 (takenE ms n) ∧ Chg O h h1 ∧ ∃ O', TabAt 56 32 h1 O' t (takenL ms n) ∧ ∀ b, O' b → O b ∨ h.size ≤ b) (vI 0) h1361) (by kernel_rfl) ⟨s1341, ⟨k1339.cell (j := 4) agg3 rfl, rfl⟩, ⟨cmp_neq (decide_eq_false (not_not_intro c1343)), rfl⟩, ⟨e1345, rfl⟩, ⟨e1362, rfl⟩, ⟨by rw [ee], x1368, O, ⟨a1322, cc1323, by rw [ln9]; exact f1369, by rw [ln9, el9]; exact ow9, by rw [ln9]; exact T.foot⟩, fun b hb => .inl hb⟩⟩
    · have ee : takenE ms n = 9 := by unfold takenE; rw [if_pos (findE_at (l := ms) (n := n) (by omega) (by omega)), getM_at g1334 (by omega), if_neg c1343]
      exact hCall_of (n := 200) (T := ⟨fun r i => match r, i with | 1, 2 => some ((vT #[(vP b1335 o1336), (vI 0)]), h) | 4, 3 => some ((vI v1331.st), h) | 4, 4 => some ((vB true), h) | _, _ => none, fun _ => none, none⟩)
        (A := SoundCall Tryd.prog 36 #[(vP t 0), (vI n)] h (vT #[(vP b1335 o1336), (vI 0)]) h ∧ (loadT Tryd.prog h 3 (vP b1335 (o1336 + 4)) = some (vI v1331.st) ∧ h = h) ∧ (binA Tryd.prog .neq 3 (vI v1331.st) (vI 2) = some (vB true) ∧ h = h) ∧ (fun v h1 => v = .int .i64 (takenE ms n) ∧ Chg O h h1 ∧ ∃ O', TabAt 56 32 h1 O' t (takenL ms n) ∧ ∀ b, O' b → O b ∨ h.size ≤ b) (vI 9) h) (by kernel_rfl) ⟨s1341, ⟨k1339.cell (j := 4) agg3 rfl, rfl⟩, ⟨cmp_neq (decide_eq_true c1343), rfl⟩, ⟨by rw [ee], Chg.refl h, O, by unfold takenL; rw [ee, if_neg (by decide)]; exact hT', fun b hb => .inl hb⟩⟩
set_option maxHeartbeats 4000000 in
theorem busy_ok (h : Heap) {O : Nat → Prop} {t : Nat} {ms : List MoveM} (hT : TabAt 56 32 h O t ms) (h64 : ms.length ≤ 64) (key : ByteArray) : WCall Tryd.prog 19 #[(vP t 0), (vS key)] h (fun v h1 => v = .bool (busyB ms key) ∧ Ext h h1) := by
  have hT' := hT
  obtain ⟨a1378, cc1379, T⟩ := hT
  suffices H : ∀ K : Value → Heap → Prop, (∀ v h1, (fun v h1 => v = .bool (busyB ms key) ∧ Ext h h1) v h1 → K v h1) → WCall Tryd.prog 19 #[(vP t 0), (vS key)] h K from H _ fun _ _ q => q
  intro K hK
  refine wcall_at { tmps := #[(vP t 0), (vS key), vZ, vZ, vZ, vZ, vZ, vZ, vZ, vZ, vZ, vZ, vZ, vZ, vZ], defers := [] } (by kernel_rfl) ?_
  refine wc_seq' (subc (bodyOf Tryd.prog 19) [0]) (subc (bodyOf Tryd.prog 19) [1]) (by kernel_rfl) ?_
  obtain ⟨b1382, eb1383⟩ : ∃ zq, zq = h.size := ⟨_, rfl⟩
  obtain ⟨h1380, e1381⟩ : ∃ zq, zq = h.push (.cells #[(vS key)] 9 (0, 0)) := ⟨_, rfl⟩
  have f1384 := push_new e1381
  rw [← eb1383] at f1384
  have x1387 : Ext h h1380 := by rw [e1381]; exact Ext.push _ _
  have o1388 : h.size ≤ b1382 := by have := (Ext.refl h).size; omega
  have x1389 := (Ext.refl h).trans x1387
  obtain ⟨b1392, eb1393⟩ : ∃ zq, zq = h1380.size := ⟨_, rfl⟩
  obtain ⟨h1390, e1391⟩ : ∃ zq, zq = h1380.push (.cells #[(vB false)] 4 (0, 0)) := ⟨_, rfl⟩
  have f1394 := push_new e1391
  rw [← eb1393] at f1394
  have x1398 : Ext h1380 h1390 := by rw [e1391]; exact Ext.push _ _
  have o1399 : h.size ≤ b1392 := by have := x1389.size; omega
  have f1400 := x1398 _ _ f1384
  have x1401 := x1389.trans x1398
  refine wc_upd (n := 200) (T := ⟨fun r i => match r, i with | 0, 0 => some ((vP b1382 0), h1380) | 0, 1 => some ((vP b1392 0), h1390) | _, _ => none, fun _ => none, none⟩) (x := .normal) (h1 := h1390) [(3, (vP b1382 0)), (4, (vP b1392 0))]
    (fun q => ((vP b1382 0) = (Value.pointer (some ⟨h.size, 0, none⟩)) ∧ h1380 = h.push (.cells #[(vS key)] 9 (0, 0))) ∧ ((vP b1392 0) = (Value.pointer (some ⟨h1380.size, 0, none⟩)) ∧ h1390 = h1380.push (.cells #[(vB false)] 4 (0, 0))) ∧ q) (by intro K'; as_aux_lemma => kernel_rfl) (fun _ q => ⟨⟨by rw [eb1383], e1381⟩, ⟨by rw [eb1393], e1391⟩, q⟩) ?_
  refine wc_seq' (subc (bodyOf Tryd.prog 19) [1, 0]) (subc (bodyOf Tryd.prog 19) [1, 1]) (by kernel_rfl) ?_
  refine wc_seq' (subc (bodyOf Tryd.prog 19) [1, 0, 0]) (subc (bodyOf Tryd.prog 19) [1, 0, 1]) (by kernel_rfl) ?_
  obtain ⟨_, h1403, s1404, b1402, rfl, f1405, x1406, o1407⟩ := open_fn h1390 t
  have oo1407 : h.size ≤ b1402 := by have := x1401.size; omega
  have f1412 := x1406 _ _ f1400
  have f1413 := x1406 _ _ f1394
  have x1414 := x1401.trans x1406
  refine wc_upd (n := 200) (T := ⟨fun r i => match r, i with | 1, 1 => some ((Value.func (.func 51) #[] #[(vP b1402 0)]), h1403) | _, _ => none, fun _ => none, none⟩) (x := .normal) (h1 := h1403) [(7, (vP t 0)), (8, (Value.func (.func 51) #[] #[(vP b1402 0)]))]
    (fun q => SoundCall Tryd.prog 35 #[(vP t 0)] h1390 (Value.func (.func 51) #[] #[(vP b1402 0)]) h1403 ∧ q) (by intro K'; as_aux_lemma => kernel_rfl) (fun _ q => ⟨s1404, q⟩) ?_
  refine wc_block' 0 (subc (bodyOf Tryd.prog 19) [1, 0, 1, 0]) (by kernel_rfl) ?_
  refine wc_act { tmps := #[(vP t 0), (vS key), vZ, (vP b1382 0), (vP b1392 0), vZ, vZ, (vP t 0), (Value.func (.func 51) #[] #[(vP b1402 0)]), vZ, vZ, vZ, vZ, vZ, vZ], defers := [] } (by kernel_rfl) ?_
  obtain ⟨dv1415, edv1415⟩ : ∃ zq, zq = h1403.size := ⟨_, rfl⟩
  obtain ⟨lp1416, elp1416⟩ : ∃ zq, zq = h1403.size + 1 := ⟨_, rfl⟩
  obtain ⟨tm1417, etm1417⟩ : ∃ zq : Array Value, zq = #[(vP t 0), (vS key), (Value.tuple #[]), (vP b1382 0), (vP b1392 0), (Value.tuple #[]), (Value.tuple #[]), (vP t 0), (Value.func (.func 51) #[] #[(vP b1402 0)]), (Value.tuple #[]), (Value.tuple #[]), (Value.tuple #[]), (Value.tuple #[]), (Value.tuple #[]), (Value.tuple #[])] := ⟨_, rfl⟩
  obtain ⟨L1418, eL1418⟩ : ∃ zq : Loop, zq = { state := .ready, pending := none, fn := 0, tmps := tm1417, params := #[9, 10], assign := (subc (bodyOf Tryd.prog 19) [1, 0, 1, 0, 0]), body := (subc (bodyOf Tryd.prog 19) [1, 0, 1, 0, 1]), defers := dv1415 } := ⟨_, rfl⟩
  have hs1420 : L1418.state = .ready := by rw [eL1418]
  have hp1421 : L1418.pending = none := by rw [eL1418]
  obtain ⟨h1419, eh1419⟩ : ∃ zq, zq = (h1403.push (.deferred (some []))).push (.loop L1418) := ⟨_, rfl⟩
  have x1422 : Ext h1403 h1419 := by rw [eh1419]; exact (Ext.push _ _).trans (Ext.push _ _)
  have p1423 : At h1419 lp1416 (.loop L1418) := by rw [eh1419, elp1416, show h1403.size + 1 = (h1403.push (.deferred (some []))).size by simp]; exact push_new rfl
  have p1424 : At h1419 dv1415 (.deferred (some [])) := by rw [eh1419, edv1415]; exact push_old (b := h1403.size) rfl (push_new rfl)
  have sh1419 : lp1416 < h1419.size := p1423.blk_lt rfl
  have z1431 : h.size ≤ h1403.size := x1414.size
  have f1432 := x1422 _ _ f1412
  have f1433 := x1422 _ _ f1413
  have f1434 := x1422 _ _ f1405
  have x1435 := x1414.trans x1422
  have z1436 : h.size ≤ h1419.size := x1435.size
  obtain ⟨D1429, eD1430⟩ : ∃ zq : Nat → Prop, zq = (fun b => b = lp1416 ∨ b = b1392 ∨ False) := ⟨_, rfl⟩
  have hD1437 : ∀ b, D1429 b → h.size ≤ b := by
    rw [eD1430]; rintro b (w | w | w)
    · have w1 : b = lp1416 := w; omega
    · have w1 : b = b1392 := w; have := o1399; omega
    · exact w.elim
  have hd1438 : ¬ D1429 dv1415 := by
    rw [eD1430]; rintro (w | w | w)
    · have w1 : dv1415 = lp1416 := w; omega
    · have w1 : dv1415 = b1392 := w; have := row_lt f1413; omega
    · exact w.elim
  obtain ⟨I1426, eI1425⟩ : ∃ zq : Nat → (Nat → Prop) → Heap → Prop, zq = fun (kk : Nat) (Dv : Nat → Prop) (h' : Heap) => Dv = (fun b => b = lp1416 ∨ b = b1392 ∨ False) ∧ At h' lp1416 (.loop L1418) ∧ Chg D1429 h1419 h' ∧ (∀ z, Dv z → D1429 z ∨ h1419.size ≤ z) ∧ h'[b1382]? = some (.cells #[(vS key)] 9 (0, 0)) ∧ h'[b1392]? = some (.cells #[(vB false)] 4 (0, 0)) ∧ (((opn ms ms.length).take kk).any fun y => (rhas y.2.rf y.2.rt key)) = false := ⟨_, rfl⟩
  obtain ⟨E1427, eE1428⟩ : ∃ zq : Heap → Prop, zq = fun (h' : Heap) => At h' lp1416 (.loop { ({ L1418 with state := .busy } : Loop) with state := .done, pending := some .ret }) ∧ Chg D1429 h1419 h' ∧ h'[b1392]? = some (.cells #[(vB true)] 4 (0, 0)) ∧ ((opn ms ms.length).any fun y => (rhas y.2.rf y.2.rt key)) = true := ⟨_, rfl⟩
  have hX1445 : ∀ k D h' h'', I1426 k D h' → Ext h' h'' → I1426 k D h'' := by
    rw [eI1425]
    rintro k _ h' h'' ⟨rfl, p1442, c1443, d1444, f1439, f1440, i1441⟩ xx
    exact ⟨rfl, xx _ _ p1442, c1443.trans (Chg.ext xx), d1444, xx _ _ f1439, xx _ _ f1440, i1441⟩
  have hy1446 : ∀ k y D h', ((opn ms ms.length))[k]? = some y → I1426 k D h' → ∃ b h'' D', SoundYield Tryd.prog lp1416 #[(vI (y.1)), (Value.agg #[(vS y.2.rf), (vS y.2.rt), (vI (y.2.f)), (vI (y.2.t)), (vI (y.2.st)), (vS y.2.d)])] h' (.bool b) h'' ∧ Chg D h' h'' ∧ (∀ z, D' z → D z ∨ h'.size ≤ z) ∧ (if b = true then I1426 (k + 1) D' h'' else E1427 h'') := by
    rw [eI1425]
    rintro k y _ hr hk ⟨rfl, p1442, c1443, d1444, f1439, f1440, i1441⟩
    obtain ⟨Dc, eDc⟩ : ∃ zq : Nat → Prop, zq = (fun b => b = lp1416 ∨ b = b1392 ∨ False) := ⟨_, rfl⟩
    rw [← eDc] at d1444
    rw [← eI1425]
    rw [← eDc]
    suffices hw : ∃ b h'', SoundYield Tryd.prog lp1416 #[(vI (y.1)), (Value.agg #[(vS y.2.rf), (vS y.2.rt), (vI (y.2.f)), (vI (y.2.t)), (vI (y.2.st)), (vS y.2.d)])] hr (.bool b) h'' ∧ (fun b h'' => ∃ D', Chg Dc hr h'' ∧ (∀ z, D' z → Dc z ∨ hr.size ≤ z) ∧ (if b = true then I1426 (k + 1) D' h'' else E1427 h'')) b h'' from by
      obtain ⟨b, h'', q1, D', q2, q3, q4⟩ := hw
      exact ⟨b, h'', D', q1, q2, q3, q4⟩
    refine w_round (args := #[(vI (y.1)), (Value.agg #[(vS y.2.rf), (vS y.2.rt), (vI (y.2.f)), (vI (y.2.t)), (vI (y.2.st)), (vS y.2.d)])]) (K := (fun b h'' => ∃ D', Chg Dc hr h'' ∧ (∀ z, D' z → Dc z ∨ hr.size ≤ z) ∧ (if b = true then I1426 (k + 1) D' h'' else E1427 h''))) p1442 hs1420 (by rw [eL1418]; rfl) { tmps := #[(vP t 0), (vS key), (Value.tuple #[]), (vP b1382 0), (vP b1392 0), (Value.tuple #[]), (Value.tuple #[]), (vP t 0), (Value.func (.func 51) #[] #[(vP b1402 0)]), (vI (y.1)), (Value.agg #[(vS y.2.rf), (vS y.2.rt), (vI (y.2.f)), (vI (y.2.t)), (vI (y.2.st)), (vS y.2.d)]), (Value.tuple #[]), (Value.tuple #[]), (Value.tuple #[]), (Value.tuple #[])], defers := [] } (by rw [eL1418, etm1417]; kernel_rfl) (subc (bodyOf Tryd.prog 19) [1, 0, 1, 0, 0]) (subc (bodyOf Tryd.prog 19) [1, 0, 1, 0, 1]) (by rw [eL1418]) (by rw [eL1418]) ?_
    obtain ⟨b1449, eb1450⟩ : ∃ zq, zq = hr.size := ⟨_, rfl⟩
    obtain ⟨h1447, e1448⟩ : ∃ zq, zq = hr.push (.cells #[(vS .empty), (vS .empty), (vI 0), (vI 0), (vI 0), (vS .empty)] 32 (0, 0)) := ⟨_, rfl⟩
    have f1451 := push_new e1448
    rw [← eb1450] at f1451
    have n1452 : b1449 ≠ b1382 := by have := row_lt f1439; omega
    have n1453 : b1449 ≠ b1392 := by have := row_lt f1440; omega
    have n1455 : ∀ zz, (fun q => q = lp1416) zz → ¬ zz = b1449 := fun zz hz ez => by have := p1442.blk_lt hz; omega
    have x1456 : Ext hr h1447 := by rw [e1448]; exact Ext.push _ _
    have o1457 : hr.size ≤ b1449 := by have := (Chg.refl (O := Dc) hr).size; omega
    have f1458 := x1456 _ _ f1439
    have f1459 := x1456 _ _ f1440
    have p1460 := p1442.keep fun b r _ q => x1456 b r q
    have x1461 := (Chg.refl (O := Dc) hr).trans (Chg.ext x1456)
    obtain ⟨h1462, e1463⟩ : ∃ zq, zq = h1447.setIfInBounds b1449 (.cells #[(vS y.2.rf), (vS y.2.rt), (vI (y.2.f)), (vI (y.2.t)), (vI (y.2.st)), (vS y.2.d)] 32 (0, 0)) := ⟨_, rfl⟩
    have f1464 := set_same e1463 f1451
    have f1465 := set_other e1463 f1458 n1452
    have f1466 := set_other e1463 f1459 n1453
    have p1468 := p1460.keep fun b r hb q => (Chg.set e1463).same b r q (n1455 b hb)
    have x1469 := x1461.then (Chg.set e1463) (fun b hb => by subst hb; exact (.inr o1457))
    refine wc_upd (n := 200) (T := ⟨fun r i => match r, i with | 2, 0 => some ((vP b1449 0), h1447) | 2, 1 => some (undef, h1462) | _, _ => none, fun _ => none, none⟩) (x := .normal) (h1 := h1462) [(6, (vP b1449 0))]
      (fun q => ((vP b1449 0) = (Value.pointer (some ⟨hr.size, 0, none⟩)) ∧ h1447 = hr.push (.cells #[(vS .empty), (vS .empty), (vI 0), (vI 0), (vI 0), (vS .empty)] 32 (0, 0))) ∧ (storeT Tryd.prog h1447 32 (vP b1449 0) (vA #[(vS y.2.rf), (vS y.2.rt), (vI y.2.f), (vI y.2.t), (vI y.2.st), (vS y.2.d)]) = some h1462 ∧ (undef : Value) = undef) ∧ q) (by intro K'; as_aux_lemma => kernel_rfl) (fun _ q => ⟨⟨by rw [eb1450], e1448⟩, ⟨by rw [e1463]; exact store_cells size32 rfl f1451 (by decide) (by simp) rfl (by kernel_rfl), rfl⟩, q⟩) ?_
    refine ⟨rfl, L1418, p1468, hs1420, ?_⟩
    obtain ⟨h1470, e1471⟩ : ∃ zq, zq = h1462.setIfInBounds lp1416 (.loop { L1418 with state := .busy }) := ⟨_, rfl⟩
    have p1472 : At h1470 lp1416 (.loop { L1418 with state := .busy }) := set_same e1471 p1468
    have f1473 := set_other e1471 f1465 (loop_ne p1468 f1465 rfl)
    have f1474 := set_other e1471 f1466 (loop_ne p1468 f1466 rfl)
    have f1475 := set_other e1471 f1464 (loop_ne p1468 f1464 rfl)
    have x1476 := x1469.then (Chg.set e1471) (fun b hb => .inl ((fun b hb => by rw [eDc]; exact .inl hb) b hb))
    rw [← e1471]
    obtain ⟨_, hh1477, sn1478, rfl, x1479⟩ := rhas_ok h1470 y.2.rf y.2.rt key 
    have f1480 := x1479 _ _ f1473
    have f1481 := x1479 _ _ f1474
    have p1483 := p1472.keep fun b r _ q => x1479 b r q
    have x1484 := x1476.trans (Chg.ext x1479)
    rcases Bool.eq_false_or_eq_true ((rhas y.2.rf y.2.rt key)) with c1485 | c1485
    · obtain ⟨h1486, e1487⟩ : ∃ zq, zq = hh1477.setIfInBounds b1392 (.cells #[(vB true)] 4 (0, 0)) := ⟨_, rfl⟩
      have f1488 := set_same e1487 f1481
      have p1492 := p1483.keep fun b r hb q => (Chg.set e1487).same b r q ((fun (b : Nat) hb => loop_ne p1483 f1481 hb) b hb)
      have x1493 := x1484.then (Chg.set e1487) (fun b hb => by subst hb; exact (.inl (by rw [eDc]; exact .inr (.inl rfl))))
      refine wc_upd (n := 200) (T := ⟨fun r i => match r, i with | 3, 1 => some ((vA #[(vS y.2.rf), (vS y.2.rt)]), h1470) | 3, 2 => some ((vS key), h1470) | 3, 3 => some ((vB true), hh1477) | 4, 0 => some (undef, h1486) | _, _ => none, fun _ => none, none⟩) (x := .ret) (h1 := h1486) [(11, (vP b1449 0)), (12, (vA #[(vS y.2.rf), (vS y.2.rt)])), (13, (vS key)), (14, (vB true))]
        (fun q => (loadT Tryd.prog h1470 30 (vP b1449 0) = some (vA #[(vS y.2.rf), (vS y.2.rt)]) ∧ h1470 = h1470) ∧ (loadT Tryd.prog h1470 9 (vP b1382 0) = some (vS key) ∧ h1470 = h1470) ∧ SoundCall Tryd.prog 17 #[(vA #[(vS y.2.rf), (vS y.2.rt)]), (vS key)] h1470 (vB true) hh1477 ∧ (storeT Tryd.prog hh1477 4 (vP b1392 0) (vB true) = some h1486 ∧ (undef : Value) = undef) ∧ q) (by intro K'; as_aux_lemma => kernel_rfl) (fun _ q => ⟨⟨load_agg agg30 size30 f1475 (by simp) (by kernel_rfl), rfl⟩, ⟨load_cell agg9 f1473 rfl, rfl⟩, (by rw [← c1485]; exact sn1478), ⟨by rw [e1487]; exact store_cells size4 rfl f1481 (by decide) (by simp) rfl (by kernel_rfl), rfl⟩, q⟩) ?_
      refine ⟨_, p1492, ?_⟩
      obtain ⟨h1494, e1495⟩ : ∃ zq, zq = h1486.setIfInBounds lp1416 (.loop { ({ L1418 with state := .busy } : Loop) with state := .done, pending := some .ret }) := ⟨_, rfl⟩
      have p1496 : At h1494 lp1416 (.loop { ({ L1418 with state := .busy } : Loop) with state := .done, pending := some .ret }) := set_same e1495 p1492
      have f1498 := set_other e1495 f1488 (loop_ne p1492 f1488 rfl)
      have x1500 := x1493.then (Chg.set e1495) (fun b hb => .inl ((fun b hb => by rw [eDc]; exact .inl hb) b hb))
      refine (show ∃ D', Chg Dc hr (h1494) ∧ (∀ z, D' z → Dc z ∨ hr.size ≤ z) ∧ (if false = true then I1426 (k + 1) D' h1494 else E1427 h1494) from ?_) |> (fun w => by rw [e1495] at w; exact w)
      refine ⟨fun _ => False, x1500, fun z hz => hz.elim, ?_⟩
      rw [if_neg (by decide)]
      rw [eE1428]
      exact ⟨p1496, c1443.then (x1500) d1444, f1498, List.any_eq_true.2 ⟨y, List.mem_of_getElem? hk, c1485⟩⟩
    · refine wc_upd (n := 200) (T := ⟨fun r i => match r, i with | 3, 1 => some ((vA #[(vS y.2.rf), (vS y.2.rt)]), h1470) | 3, 2 => some ((vS key), h1470) | 3, 3 => some ((vB false), hh1477) | _, _ => none, fun _ => none, none⟩) (x := .normal) (h1 := hh1477) [(11, (vP b1449 0)), (12, (vA #[(vS y.2.rf), (vS y.2.rt)])), (13, (vS key)), (14, (vB false))]
        (fun q => (loadT Tryd.prog h1470 30 (vP b1449 0) = some (vA #[(vS y.2.rf), (vS y.2.rt)]) ∧ h1470 = h1470) ∧ (loadT Tryd.prog h1470 9 (vP b1382 0) = some (vS key) ∧ h1470 = h1470) ∧ SoundCall Tryd.prog 17 #[(vA #[(vS y.2.rf), (vS y.2.rt)]), (vS key)] h1470 (vB false) hh1477 ∧ q) (by intro K'; as_aux_lemma => kernel_rfl) (fun _ q => ⟨⟨load_agg agg30 size30 f1475 (by simp) (by kernel_rfl), rfl⟩, ⟨load_cell agg9 f1473 rfl, rfl⟩, (by rw [← c1485]; exact sn1478), q⟩) ?_
      refine ⟨_, p1483, ?_⟩
      obtain ⟨h1501, e1502⟩ : ∃ zq, zq = hh1477.setIfInBounds lp1416 (.loop { ({ L1418 with state := .busy } : Loop) with state := .ready, pending := none }) := ⟨_, rfl⟩
      have p1503 : At h1501 lp1416 (.loop { ({ L1418 with state := .busy } : Loop) with state := .ready, pending := none }) := set_same e1502 p1483
      have f1504 := set_other e1502 f1480 (loop_ne p1483 f1480 rfl)
      have f1505 := set_other e1502 f1481 (loop_ne p1483 f1481 rfl)
      have x1507 := x1484.then (Chg.set e1502) (fun b hb => .inl ((fun b hb => by rw [eDc]; exact .inl hb) b hb))
      have dnew : ∀ z, ((fun b => b = lp1416 ∨ b = b1392 ∨ False)) z → Dc z ∨ hr.size ≤ z := by
        intro z hz; rcases hz with w | w | w
        · exact .inl (by rw [eDc]; exact .inl w)
        · exact .inl (by rw [eDc]; exact .inr (.inl w))
        · exact w.elim
      refine (show ∃ D', Chg Dc hr (h1501) ∧ (∀ z, D' z → Dc z ∨ hr.size ≤ z) ∧ (if true = true then I1426 (k + 1) D' h1501 else E1427 h1501) from ?_) |> (fun w => by rw [e1502] at w; exact w)
      refine ⟨(fun b => b = lp1416 ∨ b = b1392 ∨ False), x1507, dnew, ?_⟩
      rw [if_pos rfl]
      rw [eI1425]
      exact ⟨rfl, (by have q := p1503; rw [loop_back hs1420 hp1421] at q; exact q), c1443.then (x1507) d1444, fun z hz => (dnew z hz).elim (d1444 z) (fun w => .inr (by have := c1443.size; omega)), f1504, f1505, any_next hk i1441 c1485⟩
  have h01508 : I1426 0 D1429 h1419 := by rw [eI1425]; exact ⟨eD1430, p1423, Chg.refl h1419, fun z hz => .inl hz, f1432, f1433, rfl⟩
  refine wc_range_any (h1 := h1419) (c := (subc (bodyOf Tryd.prog 19) [1, 0, 1, 0])) (g := .tmp 8) (params := #[9, 10]) (assign := (subc (bodyOf Tryd.prog 19) [1, 0, 1, 0, 0])) (body := (subc (bodyOf Tryd.prog 19) [1, 0, 1, 0, 1])) (by kernel_rfl) 51 #[] #[(vP b1402 0)] lp1416 [{ target := .collected dv1415, args := #[] }] #[(Value.func (.yield lp1416) #[] #[]), (vP b1402 0)] (by rfl) rfl rfl (by kernel_rfl) (by rw [eh1419, elp1416, eL1418, etm1417, edv1415]; rfl) ?_
  refine (open_it h1419 (hT'.keep fun b r _ q => x1435 b r q) h64 b1402 f1434 lp1416 I1426 E1427 D1429 (fun b hb w => by have := hT'.blk_lt hb; have := hD1437 b w; omega) hX1445 hy1446 h01508).mono fun _ h8 q => ?_
  obtain ⟨q0, q⟩ := q
  rcases q with ⟨Dv, q, qD⟩ | q
  · rw [eI1425] at q
    obtain ⟨eDv, p1512, cgN, hdN, f1509, f1510, i1511⟩ := q
    refine ⟨_, p1512, ?_, leftBy_none hp1421 ?_⟩
    · exact fun w => by rw [hs1420] at w; cases w
    have p1513 : At h8 dv1415 (.deferred (some [])) := q0.same _ _ p1424 hd1438
    obtain ⟨h1514, e1515⟩ : ∃ zq, zq = h8.setIfInBounds lp1416 (.loop { L1418 with state := .exhausted }) := ⟨_, rfl⟩
    have f1518 := set_other e1515 f1510 (loop_ne p1512 f1510 rfl)
    have p1519 := p1513.keep fun b r hb q => (Chg.set e1515).same b r q ((fun b hb hb2 => (show ∀ b : Nat, b = lp1416 → b = dv1415 → False from fun b w1 w2 => by omega) b hb2 hb) b hb)
    rw [← e1515]
    have c1520 := q0.then (Chg.set e1515) (fun b hb => .inl (by rw [eD1430]; exact .inl hb))
    have x1521 : Ext h h1514 := (Chg.then (O := fun _ => False) (Chg.ext x1435) c1520 (fun b hb => .inr (hD1437 b hb))).toExt'
    rw [List.take_length] at i1511
    obtain ⟨h1522, e1523⟩ : ∃ zq, zq = h1514.setIfInBounds b1392 (.cells #[(vB false)] 4 (0, 0)) := ⟨_, rfl⟩
    have f1524 := set_same e1523 f1518
    have p1528 := p1519.keep fun b r hb q => (Chg.set e1523).same b r q ((fun (b : Nat) hb => defer_ne p1519 f1518 hb) b hb)
    have x1529 := Ext.setNew x1521 e1523 o1399
    refine wc_upd (n := 200) (T := ⟨fun r i => match r, i with | 5, 0 => some (undef, h1522) | _, _ => none, fun _ => none, none⟩) (x := .ret) (h1 := h1522) []
      (fun q => (storeT Tryd.prog h1514 4 (vP b1392 0) (vB false) = some h1522 ∧ (undef : Value) = undef) ∧ q) (by intro K'; as_aux_lemma => kernel_rfl) (fun _ q => ⟨⟨by rw [e1523]; exact store_cells size4 rfl f1518 (by decide) (by simp) rfl (by kernel_rfl), rfl⟩, q⟩) ?_
    obtain ⟨h1530, e1531⟩ : ∃ zq, zq = h1522.setIfInBounds dv1415 (.deferred none) := ⟨_, rfl⟩
    have f1534 := set_other e1531 f1524 (defer_ne p1528 f1524 rfl)
    have x1532 : Ext h h1530 := Ext.setNew x1529 e1531 (by omega)
    refine end_mark3 (T := ⟨fun _ _ => none, fun _ => none, some [(vB false)]⟩) (dv := dv1415) { tmps := #[(vP t 0), (vS key), (Value.tuple #[]), (vP b1382 0), (vP b1392 0), (Value.tuple #[]), (Value.tuple #[]), (vP t 0), (Value.func (.func 51) #[] #[(vP b1402 0)]), (Value.tuple #[]), (Value.tuple #[]), (Value.tuple #[]), (Value.tuple #[]), (Value.tuple #[]), (Value.tuple #[])], defers := ([{ target := .collected dv1415, args := #[] }] ++ []) } (by kernel_rfl) (.inr rfl) rfl p1528 e1531 (A := (loadT Tryd.prog h1530 4 (vP b1392 0) = some (vB false) ∧ True) ∧ K (vB false) h1530) (by kernel_rfl) ?_
    exact ⟨⟨load_cell agg4 f1534 rfl, trivial⟩, hK _ _ (⟨by rw [show busyB ms key = false from i1511], x1532⟩)⟩
  · rw [eE1428] at q
    obtain ⟨p1538, cgN, f1537, i1536⟩ := q
    refine ⟨_, p1538, ?_, leftBy_ret rfl ?_⟩
    · exact fun w => by cases w
    have p1539 : At h8 dv1415 (.deferred (some [])) := q0.same _ _ p1424 hd1438
    obtain ⟨h1540, e1541⟩ : ∃ zq, zq = h8.setIfInBounds lp1416 (.loop { ({ ({ L1418 with state := .busy } : Loop) with state := .done, pending := some .ret } : Loop) with state := .exhausted }) := ⟨_, rfl⟩
    have f1543 := set_other e1541 f1537 (loop_ne p1538 f1537 rfl)
    have p1544 := p1539.keep fun b r hb q => (Chg.set e1541).same b r q ((fun b hb hb2 => (show ∀ b : Nat, b = lp1416 → b = dv1415 → False from fun b w1 w2 => by omega) b hb2 hb) b hb)
    rw [← e1541]
    have c1545 := q0.then (Chg.set e1541) (fun b hb => .inl (by rw [eD1430]; exact .inl hb))
    have x1546 : Ext h h1540 := (Chg.then (O := fun _ => False) (Chg.ext x1435) c1545 (fun b hb => .inr (hD1437 b hb))).toExt'
    obtain ⟨h1547, e1548⟩ : ∃ zq, zq = h1540.setIfInBounds dv1415 (.deferred none) := ⟨_, rfl⟩
    have f1550 := set_other e1548 f1543 (defer_ne p1544 f1543 rfl)
    have x1549 : Ext h h1547 := Ext.setNew x1546 e1548 (by omega)
    refine end_mark3 (T := ⟨fun _ _ => none, fun _ => none, some [(vB true)]⟩) (dv := dv1415) { tmps := #[(vP t 0), (vS key), (Value.tuple #[]), (vP b1382 0), (vP b1392 0), (Value.tuple #[]), (Value.tuple #[]), (vP t 0), (Value.func (.func 51) #[] #[(vP b1402 0)]), (Value.tuple #[]), (Value.tuple #[]), (Value.tuple #[]), (Value.tuple #[]), (Value.tuple #[]), (Value.tuple #[])], defers := ([{ target := .collected dv1415, args := #[] }] ++ []) } (by kernel_rfl) (.inr rfl) rfl p1544 e1548 (A := (loadT Tryd.prog h1547 4 (vP b1392 0) = some (vB true) ∧ True) ∧ K (vB true) h1547) (by kernel_rfl) ?_
    exact ⟨⟨load_cell agg4 f1550 rfl, trivial⟩, hK _ _ (⟨by rw [show busyB ms key = true from i1536], x1549⟩)⟩
set_option maxHeartbeats 4000000 in
theorem len_ok (h : Heap) {O : Nat → Prop} {t : Nat} {ms : List MoveM} (hT : TabAt 56 32 h O t ms) : WCall Tryd.prog 24 #[(vP t 0)] h (fun v h1 => v = .int .i64 ((ms.length : Nat) : Int) ∧ h = h1) := by
  have hT' := hT
  obtain ⟨a1552, cc1553, T⟩ := hT
  obtain ⟨_, _, sn1555, rfl, rfl⟩ := valid_ok h T.row
  exact hCall_of (n := 200) (T := ⟨fun r i => match r, i with | 1, 1 => some ((vB true), h) | 3, 3 => some ((vL a1552 ms.length cc1553), h) | _, _ => none, fun _ => none, none⟩)
    (A := SoundCall Tryd.prog 39 #[(vP t 0)] h (vB true) h ∧ (loadT Tryd.prog h 48 (vP t 1) = some (vL a1552 ms.length cc1553) ∧ h = h) ∧ (fun v h1 => v = .int .i64 ((ms.length : Nat) : Int) ∧ h = h1) (vI ((ms.length : Nat))) h) (by kernel_rfl) ⟨sn1555, ⟨load_cell agg48 T.row rfl, rfl⟩, ⟨rfl, rfl⟩⟩
theorem SliceAt_none {α : Type} {h : Heap} {f : α → Array Value} {z n cp : Nat} {xs : List α} (k : SliceAt h f z xs (.slice none n cp)) : n = 0 ∧ cp = 0 ∧ xs = [] := by
  rcases k with ⟨e, k⟩ | ⟨b, off, cp, c, e, fr, e2, k⟩
  · cases e; exact ⟨rfl, rfl, k⟩
  · cases e2
set_option maxHeartbeats 4000000 in
theorem clone_mov_nil (h : Heap)  : WCall Tryd.prog 47 #[(Value.slice none 0 0)] h (fun v h1 => v = .slice none 0 0 ∧ Ext h h1) := by
  exact hCall_of (n := 200) (T := ⟨fun r i => match r, i with | _, _ => none, fun _ => none, none⟩)
    (A := (fun v h1 => v = .slice none 0 0 ∧ Ext h h1) (vL none 0 0) h) (by kernel_rfl) ⟨rfl, (Ext.refl h)⟩
set_option maxHeartbeats 4000000 in
theorem clone_mov_some (h : Heap) (xs : List MoveM) (a : Addr) (cp : Nat) (hl : SliceAt h movec 6 xs (.slice (some a) xs.length cp)) (hlen : xs.length ≤ 1048576) : WCall Tryd.prog 47 #[(Value.slice (some a) (xs.length) (cp))] h (fun v h1 => ∃ w cw, v = .slice w xs.length cw ∧ OwnAt h1 32 movec xs v ∧ Ext h h1 ∧ ∀ b, blk v b → h.size ≤ b) := by
  obtain ⟨b1559, eb1560⟩ : ∃ zq, zq = h.size := ⟨_, rfl⟩
  obtain ⟨h1557, e1558⟩ : ∃ zq, zq = h.push (.cells #[] 32 (0, 0)) := ⟨_, rfl⟩
  have f1561 := push_new e1558
  rw [← eb1560] at f1561
  have x1563 : Ext h h1557 := by rw [e1558]; exact Ext.push _ _
  have o1564 : h.size ≤ b1559 := by have := (Ext.refl h).size; omega
  have p1565 := hl.keep fun b r _ q => x1563 b r q
  have x1566 := (Ext.refl h).trans x1563
  obtain ⟨w1567, h1568, e1569, p1570, x1571, n1572⟩ := own_clone und48 sizeb32 zero32 rfl (by decide) movec_size (ys := xs) f1561 p1565 (by omega) (by unfold maxLen; omega)
  obtain ⟨a1573, c1574, rfl⟩ := (p1570.slice movec_size).len
  have z1577 : b1559 < h1557.size := row_lt f1561
  have n1576 : ∀ zz, blk (Value.slice a1573 (xs.length) (c1574)) zz → zz = b1559 ∨ h1557.size ≤ zz := fun zz hz => by rcases n1572 zz hz with e | e <;> omega
  have o1579 : ∀ zz, blk (Value.slice a1573 (xs.length) (c1574)) zz → h.size ≤ zz := fun zz hz => by have := o1564; have := x1566.size; rcases n1576 zz hz with g | g <;> omega
  have x1582 := x1566.trans x1571
  exact hCall_of (n := 200) (T := ⟨fun r i => match r, i with | 3, 0 => some ((vL (some ⟨b1559, 0, none⟩) 0 0), h1557) | 3, 2 => some ((vL a1573 xs.length c1574), h1568) | _, _ => none, fun _ => none, none⟩)
    (A := ((vL (some ⟨b1559, 0, none⟩) 0 0) = (vL (some ⟨h.size, 0, none⟩) 0 0) ∧ h1557 = h.push (.cells #[] 32 (0, 0))) ∧ appendA Tryd.prog h1557 #[48, 48] #[(vL (some ⟨b1559, 0, none⟩) 0 0), (Value.slice (some a) (xs.length) (cp))] = some ((vL a1573 xs.length c1574), h1568) ∧ (fun v h1 => ∃ w cw, v = .slice w xs.length cw ∧ OwnAt h1 32 movec xs v ∧ Ext h h1 ∧ ∀ b, blk v b → h.size ≤ b) (vL a1573 xs.length c1574) h1568) (by kernel_rfl) ⟨⟨by rw [eb1560], e1558⟩, e1569, ⟨_, _, rfl, p1570, x1582, o1579⟩⟩
theorem clone_mov (h : Heap) (xs : List MoveM) (sa : Option Addr) (cp : Nat) (hl : SliceAt h movec 6 xs (.slice sa xs.length cp)) (hlen : xs.length ≤ 1048576) : WCall Tryd.prog 47 #[.slice sa xs.length cp] h (fun v h1 => ∃ w cw, v = .slice w xs.length cw ∧ OwnAt h1 32 movec xs v ∧ Ext h h1 ∧ ∀ b, blk v b → h.size ≤ b) := by
  rcases sa with _ | a
  · obtain ⟨e0, e1, e2⟩ := SliceAt_none hl
    subst e2; subst e1
    exact (clone_mov_nil h).mono fun v h1 q => ⟨none, 0, q.1, .inl ⟨q.1, rfl⟩, q.2, fun b hb => by rw [q.1] at hb; exact hb.elim⟩
  · exact clone_mov_some h xs a cp hl hlen
set_option maxHeartbeats 4000000 in
theorem copy_ok (h : Heap) {O : Nat → Prop} {t : Nat} {ms : List MoveM} (hT : TabAt 56 32 h O t ms) (h64 : ms.length ≤ 64) : WCall Tryd.prog 29 #[(vP t 0)] h (fun v h1 => ∃ b O', v = .pointer (some ⟨b, 0, none⟩) ∧ TabAt 56 32 h1 O' b ms ∧ Ext h h1 ∧ ∀ z, O' z → h.size ≤ z) := by
  have hT' := hT
  obtain ⟨a1583, cc1584, T⟩ := hT
  obtain ⟨_, _, sn1586, rfl, rfl⟩ := valid_ok h T.row
  obtain ⟨_, hh1592, sn1593, w1588, c1589, rfl, o1590, x1594, b1591⟩ := clone_mov h ms _ _ (T.own.slice movec_size) (by omega)
  have x1595 := (Ext.refl h).trans x1594
  have z1597 : h.size ≤ h.size := (Ext.refl h).size
  have o1600 : ∀ zz, blk (Value.slice w1588 (ms.length) (c1589)) zz → h.size ≤ zz := fun zz hz => by have := b1591 zz hz; omega
  obtain ⟨b1603, eb1604⟩ : ∃ zq, zq = hh1592.size := ⟨_, rfl⟩
  obtain ⟨h1601, e1602⟩ : ∃ zq, zq = hh1592.push (.cells #[(vB true), (Value.slice w1588 (ms.length) (c1589))] 56 (0, 0)) := ⟨_, rfl⟩
  have f1605 := push_new e1602
  rw [← eb1604] at f1605
  have x1609 : Ext hh1592 h1601 := by rw [e1602]; exact Ext.push _ _
  have o1610 : h.size ≤ b1603 := by have := x1595.size; omega
  have p1611 := o1590.keep fun b r _ q => x1609 b r q
  have x1612 := x1595.trans x1609
  exact hCall_of (n := 200) (T := ⟨fun r i => match r, i with | 1, 1 => some ((vB true), h) | 3, 3 => some ((vL a1583 ms.length cc1584), h) | 3, 4 => some ((vL w1588 ms.length c1589), hh1592) | 3, 6 => some ((vP b1603 0), h1601) | _, _ => none, fun _ => none, none⟩)
    (A := SoundCall Tryd.prog 39 #[(vP t 0)] h (vB true) h ∧ (loadT Tryd.prog h 48 (vP t 1) = some (vL a1583 ms.length cc1584) ∧ h = h) ∧ SoundCall Tryd.prog 47 #[(vL a1583 ms.length cc1584)] h (vL w1588 ms.length c1589) hh1592 ∧ ((vP b1603 0) = (Value.pointer (some ⟨hh1592.size, 0, none⟩)) ∧ h1601 = hh1592.push (.cells #[(vB true), (vL w1588 ms.length c1589)] 56 (0, 0))) ∧ (fun v h1 => ∃ b O', v = .pointer (some ⟨b, 0, none⟩) ∧ TabAt 56 32 h1 O' b ms ∧ Ext h h1 ∧ ∀ z, O' z → h.size ≤ z) (vP b1603 0) h1601) (by kernel_rfl) ⟨sn1586, ⟨load_cell agg48 T.row rfl, rfl⟩, sn1593, ⟨by rw [eb1604], e1602⟩, ⟨b1603, _, rfl, tab_new f1605 p1611, x1612, fun z hz => hz.elim (fun w => by have := o1610; omega) (o1600 z)⟩⟩
set_option maxHeartbeats 4000000 in
theorem open_ok (h : Heap) {O : Nat → Prop} {t : Nat} {ms : List MoveM} (hT : TabAt 56 32 h O t ms) (h64 : ms.length ≤ 64) : WCall Tryd.prog 14 #[(vP t 0)] h (fun v h1 => ∃ oa oc, v = .slice oa (openL ms).length oc ∧ OwnAt h1 3 icell (openL ms) v ∧ Ext h h1 ∧ ∀ b, blk v b → h.size ≤ b) := by
  have hT' := hT
  obtain ⟨a1613, cc1614, T⟩ := hT
  suffices H : ∀ K : Value → Heap → Prop, (∀ v h1, (fun v h1 => ∃ oa oc, v = .slice oa (openL ms).length oc ∧ OwnAt h1 3 icell (openL ms) v ∧ Ext h h1 ∧ ∀ b, blk v b → h.size ≤ b) v h1 → K v h1) → WCall Tryd.prog 14 #[(vP t 0)] h K from H _ fun _ _ q => q
  intro K hK
  refine wcall_at { tmps := #[(vP t 0), vZ, vZ, vZ, vZ, vZ, vZ, vZ, vZ, vZ, vZ, vZ, vZ, vZ], defers := [] } (by kernel_rfl) ?_
  refine wc_seq' (subc (bodyOf Tryd.prog 14) [0]) (subc (bodyOf Tryd.prog 14) [1]) (by kernel_rfl) ?_
  refine wc_upd (n := 200) (T := ⟨fun r i => match r, i with | _, _ => none, fun _ => none, none⟩) (x := .normal) (h1 := h) [(2, (vL none 0 0))]
    (fun q => q) (by intro K'; as_aux_lemma => kernel_rfl) (fun _ q => q) ?_
  refine wc_seq' (subc (bodyOf Tryd.prog 14) [1, 0]) (subc (bodyOf Tryd.prog 14) [1, 1]) (by kernel_rfl) ?_
  obtain ⟨b1617, eb1618⟩ : ∃ zq, zq = h.size := ⟨_, rfl⟩
  obtain ⟨h1615, e1616⟩ : ∃ zq, zq = h.push (.cells #[(Value.slice none 0 0)] 27 (0, 0)) := ⟨_, rfl⟩
  have f1619 := push_new e1616
  rw [← eb1618] at f1619
  have x1622 : Ext h h1615 := by rw [e1616]; exact Ext.push _ _
  have o1623 : h.size ≤ b1617 := by have := (Ext.refl h).size; omega
  have x1624 := (Ext.refl h).trans x1622
  refine wc_upd (n := 200) (T := ⟨fun r i => match r, i with | 1, 0 => some ((vP b1617 0), h1615) | _, _ => none, fun _ => none, none⟩) (x := .normal) (h1 := h1615) [(3, (vP b1617 0))]
    (fun q => ((vP b1617 0) = (Value.pointer (some ⟨h.size, 0, none⟩)) ∧ h1615 = h.push (.cells #[(vL none 0 0)] 27 (0, 0))) ∧ q) (by intro K'; as_aux_lemma => kernel_rfl) (fun _ q => ⟨⟨by rw [eb1618], e1616⟩, q⟩) ?_
  refine wc_seq' (subc (bodyOf Tryd.prog 14) [1, 1, 0]) (subc (bodyOf Tryd.prog 14) [1, 1, 1]) (by kernel_rfl) ?_
  refine wc_seq' (subc (bodyOf Tryd.prog 14) [1, 1, 0, 0]) (subc (bodyOf Tryd.prog 14) [1, 1, 0, 1]) (by kernel_rfl) ?_
  obtain ⟨_, h1626, s1627, b1625, rfl, f1628, x1629, o1630⟩ := open_fn h1615 t
  have oo1630 : h.size ≤ b1625 := by have := x1624.size; omega
  have f1634 := x1629 _ _ f1619
  have x1635 := x1624.trans x1629
  refine wc_upd (n := 200) (T := ⟨fun r i => match r, i with | 2, 1 => some ((Value.func (.func 51) #[] #[(vP b1625 0)]), h1626) | _, _ => none, fun _ => none, none⟩) (x := .normal) (h1 := h1626) [(5, (vP t 0)), (6, (Value.func (.func 51) #[] #[(vP b1625 0)]))]
    (fun q => SoundCall Tryd.prog 35 #[(vP t 0)] h1615 (Value.func (.func 51) #[] #[(vP b1625 0)]) h1626 ∧ q) (by intro K'; as_aux_lemma => kernel_rfl) (fun _ q => ⟨s1627, q⟩) ?_
  refine wc_block' 0 (subc (bodyOf Tryd.prog 14) [1, 1, 0, 1, 0]) (by kernel_rfl) ?_
  refine wc_act { tmps := #[(vP t 0), vZ, (vL none 0 0), (vP b1617 0), vZ, (vP t 0), (Value.func (.func 51) #[] #[(vP b1625 0)]), vZ, vZ, vZ, vZ, vZ, vZ, vZ], defers := [] } (by kernel_rfl) ?_
  obtain ⟨dv1636, edv1636⟩ : ∃ zq, zq = h1626.size := ⟨_, rfl⟩
  obtain ⟨lp1637, elp1637⟩ : ∃ zq, zq = h1626.size + 1 := ⟨_, rfl⟩
  obtain ⟨tm1638, etm1638⟩ : ∃ zq : Array Value, zq = #[(vP t 0), (Value.tuple #[]), (Value.slice none 0 0), (vP b1617 0), (Value.tuple #[]), (vP t 0), (Value.func (.func 51) #[] #[(vP b1625 0)]), (Value.tuple #[]), (Value.tuple #[]), (Value.tuple #[]), (Value.tuple #[]), (Value.tuple #[]), (Value.tuple #[]), (Value.tuple #[])] := ⟨_, rfl⟩
  obtain ⟨L1639, eL1639⟩ : ∃ zq : Loop, zq = { state := .ready, pending := none, fn := 0, tmps := tm1638, params := #[7, 8], assign := (subc (bodyOf Tryd.prog 14) [1, 1, 0, 1, 0, 0]), body := (subc (bodyOf Tryd.prog 14) [1, 1, 0, 1, 0, 1]), defers := dv1636 } := ⟨_, rfl⟩
  have hs1641 : L1639.state = .ready := by rw [eL1639]
  have hp1642 : L1639.pending = none := by rw [eL1639]
  obtain ⟨h1640, eh1640⟩ : ∃ zq, zq = (h1626.push (.deferred (some []))).push (.loop L1639) := ⟨_, rfl⟩
  have x1643 : Ext h1626 h1640 := by rw [eh1640]; exact (Ext.push _ _).trans (Ext.push _ _)
  have p1644 : At h1640 lp1637 (.loop L1639) := by rw [eh1640, elp1637, show h1626.size + 1 = (h1626.push (.deferred (some []))).size by simp]; exact push_new rfl
  have p1645 : At h1640 dv1636 (.deferred (some [])) := by rw [eh1640, edv1636]; exact push_old (b := h1626.size) rfl (push_new rfl)
  have sh1640 : lp1637 < h1640.size := p1644.blk_lt rfl
  have z1652 : h.size ≤ h1626.size := x1635.size
  have f1653 := x1643 _ _ f1634
  have f1654 := x1643 _ _ f1628
  have x1655 := x1635.trans x1643
  have z1656 : h.size ≤ h1640.size := x1655.size
  obtain ⟨D1650, eD1651⟩ : ∃ zq : Nat → Prop, zq = (fun (out : List Int) (oa : Option Addr) (oc : Nat) => (fun b => b = lp1637 ∨ b = b1617 ∨ (blk (Value.slice oa (out.length) (oc))) b ∨ False)) ([]) (none) (0) := ⟨_, rfl⟩
  have hD1657 : ∀ b, D1650 b → h.size ≤ b := by
    rw [eD1651]; rintro b (w | w | w | w)
    · have w1 : b = lp1637 := w; omega
    · have w1 : b = b1617 := w; have := o1623; omega
    · exact w.elim
    · exact w.elim
  have hd1658 : ¬ D1650 dv1636 := by
    rw [eD1651]; rintro (w | w | w | w)
    · have w1 : dv1636 = lp1637 := w; omega
    · have w1 : dv1636 = b1617 := w; have := row_lt f1634; omega
    · exact w.elim
    · exact w.elim
  obtain ⟨I1647, eI1646⟩ : ∃ zq : Nat → (Nat → Prop) → Heap → Prop, zq = fun (kk : Nat) (Dv : Nat → Prop) (h' : Heap) => ∃ (out : List Int), ∃ (oa : Option Addr), ∃ (oc : Nat), Dv = (fun b => b = lp1637 ∨ b = b1617 ∨ (blk (Value.slice oa (out.length) (oc))) b ∨ False) ∧ At h' lp1637 (.loop L1639) ∧ Chg D1650 h1640 h' ∧ (∀ z, Dv z → D1650 z ∨ h1640.size ≤ z) ∧ h'[b1617]? = some (.cells #[(Value.slice oa (out.length) (oc))] 27 (0, 0)) ∧ out = (((opn ms ms.length).take kk).map Prod.fst) ∧ OwnAt h' 3 icell out (Value.slice oa (out.length) (oc)) := ⟨_, rfl⟩
  obtain ⟨E1648, eE1649⟩ : ∃ zq : Heap → Prop, zq = fun _ => False := ⟨_, rfl⟩
  have hX1665 : ∀ k D h' h'', I1647 k D h' → Ext h' h'' → I1647 k D h'' := by
    rw [eI1646]
    rintro k _ h' h'' ⟨out, oa, oc, rfl, p1662, c1663, d1664, f1659, i1660, p1661⟩ xx
    exact ⟨out, oa, oc, rfl, xx _ _ p1662, c1663.trans (Chg.ext xx), d1664, xx _ _ f1659, i1660, p1661.keep fun b r _ q => xx b r q⟩
  have hy1666 : ∀ k y D h', ((opn ms ms.length))[k]? = some y → I1647 k D h' → ∃ b h'' D', SoundYield Tryd.prog lp1637 #[(vI (y.1)), (Value.agg #[(vS y.2.rf), (vS y.2.rt), (vI (y.2.f)), (vI (y.2.t)), (vI (y.2.st)), (vS y.2.d)])] h' (.bool b) h'' ∧ Chg D h' h'' ∧ (∀ z, D' z → D z ∨ h'.size ≤ z) ∧ (if b = true then I1647 (k + 1) D' h'' else E1648 h'') := by
    rw [eI1646]
    rintro k y _ hr hk ⟨out, oa, oc, rfl, p1662, c1663, d1664, f1659, i1660, p1661⟩
    obtain ⟨Dc, eDc⟩ : ∃ zq : Nat → Prop, zq = (fun b => b = lp1637 ∨ b = b1617 ∨ (blk (Value.slice oa (out.length) (oc))) b ∨ False) := ⟨_, rfl⟩
    rw [← eDc] at d1664
    rw [← eI1646]
    rw [← eDc]
    have lo1 : out.length ≤ 64 := by have e9 := congrArg List.length i1660; rw [List.length_map, List.length_take] at e9; have := opn_len ms ms.length; omega
    suffices hw : ∃ b h'', SoundYield Tryd.prog lp1637 #[(vI (y.1)), (Value.agg #[(vS y.2.rf), (vS y.2.rt), (vI (y.2.f)), (vI (y.2.t)), (vI (y.2.st)), (vS y.2.d)])] hr (.bool b) h'' ∧ (fun b h'' => ∃ D', Chg Dc hr h'' ∧ (∀ z, D' z → Dc z ∨ hr.size ≤ z) ∧ (if b = true then I1647 (k + 1) D' h'' else E1648 h'')) b h'' from by
      obtain ⟨b, h'', q1, D', q2, q3, q4⟩ := hw
      exact ⟨b, h'', D', q1, q2, q3, q4⟩
    refine w_round (args := #[(vI (y.1)), (Value.agg #[(vS y.2.rf), (vS y.2.rt), (vI (y.2.f)), (vI (y.2.t)), (vI (y.2.st)), (vS y.2.d)])]) (K := (fun b h'' => ∃ D', Chg Dc hr h'' ∧ (∀ z, D' z → Dc z ∨ hr.size ≤ z) ∧ (if b = true then I1647 (k + 1) D' h'' else E1648 h''))) p1662 hs1641 (by rw [eL1639]; rfl) { tmps := #[(vP t 0), (Value.tuple #[]), (Value.slice none 0 0), (vP b1617 0), (Value.tuple #[]), (vP t 0), (Value.func (.func 51) #[] #[(vP b1625 0)]), (vI (y.1)), (Value.agg #[(vS y.2.rf), (vS y.2.rt), (vI (y.2.f)), (vI (y.2.t)), (vI (y.2.st)), (vS y.2.d)]), (Value.tuple #[]), (Value.tuple #[]), (Value.tuple #[]), (Value.tuple #[]), (Value.tuple #[])], defers := [] } (by rw [eL1639, etm1638]; kernel_rfl) (subc (bodyOf Tryd.prog 14) [1, 1, 0, 1, 0, 0]) (subc (bodyOf Tryd.prog 14) [1, 1, 0, 1, 0, 1]) (by rw [eL1639]) (by rw [eL1639]) ?_
    refine wc_upd (n := 200) (T := ⟨fun r i => match r, i with | _, _ => none, fun _ => none, none⟩) (x := .normal) (h1 := hr) [(4, (vI y.1))]
      (fun q => q) (by intro K'; as_aux_lemma => kernel_rfl) (fun _ q => q) ?_
    refine ⟨rfl, L1639, p1662, hs1641, ?_⟩
    obtain ⟨h1667, e1668⟩ : ∃ zq, zq = hr.setIfInBounds lp1637 (.loop { L1639 with state := .busy }) := ⟨_, rfl⟩
    have p1669 : At h1667 lp1637 (.loop { L1639 with state := .busy }) := set_same e1668 p1662
    have f1670 := set_other e1668 f1659 (loop_ne p1662 f1659 rfl)
    have p1671 := p1661.keep fun b r hb q => (Chg.set e1668).same b r q ((fun b hb hb2 => (p1661).celled.loop p1662 b hb hb2) b hb)
    have x1672 := (Chg.refl (O := Dc) hr).then (Chg.set e1668) (fun b hb => .inl ((fun b hb => by rw [eDc]; exact .inl hb) b hb))
    rw [← e1668]
    obtain ⟨b1675, eb1676⟩ : ∃ zq, zq = h1667.size := ⟨_, rfl⟩
    obtain ⟨h1673, e1674⟩ : ∃ zq, zq = h1667.push (.cells #[(vI (y.1))] 3 (0, 0)) := ⟨_, rfl⟩
    have f1677 := push_new e1674
    rw [← eb1676] at f1677
    have x1682 : Ext h1667 h1673 := by rw [e1674]; exact Ext.push _ _
    have o1683 : hr.size ≤ b1675 := by have := x1672.size; omega
    have f1684 := x1682 _ _ f1670
    have p1685 := p1671.keep fun b r _ q => x1682 b r q
    have p1686 := p1669.keep fun b r _ q => x1682 b r q
    have x1687 := x1672.trans (Chg.ext x1682)
    obtain ⟨w1688, h1689, e1690, p1691, c1692, n1693, z1694⟩ := own_append und27 sizeb3 zero3 rfl (by decide) icell_size (x := (y.1 : Int)) p1685 f1677 rfl (by omega) (by unfold maxLen; omega)
    obtain ⟨a1695, c1696, rfl⟩ := (p1691.slice icell_size).len
    have z1697 : hr.size ≤ h1673.size := x1687.size
    have x1698 := x1687.then c1692 (fun b hb => .inl ((show ∀ b, (blk (Value.slice oa (out.length) (oc))) b → Dc b from fun b hb => by rw [eDc]; exact .inr (.inr (.inl hb))) b hb))
    have f1699 := c1692.same _ _ f1684 (fun hb => p1685.ne f1684 (by decide) hb rfl)
    have p1701 := p1686.keep fun b r hb q => c1692.same b r q ((fun b hb hb2 => (p1685).celled.loop p1686 b hb2 hb) b hb)
    have n1703 : ∀ zz, blk (Value.slice a1695 ((out ++ [(y.1 : Int)]).length) (c1696)) zz → ¬ zz = b1617 := fun zz hz ez => by have := n1693 zz hz; have := row_lt f1684; omega
    have n1706 : ∀ zz, blk (Value.slice a1695 ((out ++ [(y.1 : Int)]).length) (c1696)) zz → ¬ (fun q => q = lp1637) zz := fun zz hz ez => by have := n1693 zz hz; have := p1686.blk_lt ez; omega
    have o1707 : ∀ zz, blk (Value.slice a1695 ((out ++ [(y.1 : Int)]).length) (c1696)) zz → hr.size ≤ zz := fun zz hz => by have := n1693 zz hz; have := z1697; omega
    obtain ⟨h1708, e1709⟩ : ∃ zq, zq = h1689.setIfInBounds b1617 (.cells #[(Value.slice a1695 ((out ++ [(y.1 : Int)]).length) (c1696))] 27 (0, 0)) := ⟨_, rfl⟩
    have f1710 := set_same e1709 f1699
    have p1713 := p1701.keep fun b r hb q => (Chg.set e1709).same b r q ((fun (b : Nat) hb => loop_ne p1701 f1699 hb) b hb)
    have p1714 := p1691.keep fun b r hb q => (Chg.set e1709).same b r q (n1703 b hb)
    have x1715 := x1698.then (Chg.set e1709) (fun b hb => by subst hb; exact (.inl (by rw [eDc]; exact .inr (.inl rfl))))
    refine wc_upd (n := 200) (T := ⟨fun r i => match r, i with | 4, 0 => some ((vL oa out.length oc), h1667) | 4, 2 => some ((vL (some ⟨b1675, 0, none⟩) 1 1), h1673) | 4, 3 => some ((Value.slice a1695 ((out ++ [(y.1 : Int)]).length) (c1696)), h1689) | 4, 4 => some (undef, h1708) | _, _ => none, fun _ => none, none⟩) (x := .normal) (h1 := h1708) [(9, (vL oa out.length oc)), (10, (vI y.1)), (11, (vL (some ⟨b1675, 0, none⟩) 1 1)), (12, (Value.slice a1695 ((out ++ [(y.1 : Int)]).length) (c1696)))]
      (fun q => (loadT Tryd.prog h1667 27 (vP b1617 0) = some (vL oa out.length oc) ∧ h1667 = h1667) ∧ ((vL (some ⟨b1675, 0, none⟩) 1 1) = (vL (some ⟨h1667.size, 0, none⟩) 1 1) ∧ h1673 = h1667.push (.cells #[(vI y.1)] 3 (0, 0))) ∧ appendA Tryd.prog h1673 #[27, 27] #[(vL oa out.length oc), (vL (some ⟨b1675, 0, none⟩) 1 1)] = some ((Value.slice a1695 ((out ++ [(y.1 : Int)]).length) (c1696)), h1689) ∧ (storeT Tryd.prog h1689 27 (vP b1617 0) (Value.slice a1695 ((out ++ [(y.1 : Int)]).length) (c1696)) = some h1708 ∧ (undef : Value) = undef) ∧ q) (by intro K'; as_aux_lemma => kernel_rfl) (fun _ q => ⟨⟨load_cell agg27 f1670 rfl, rfl⟩, ⟨by rw [eb1676], e1674⟩, e1690, ⟨by rw [e1709]; exact store_cells size27 rfl f1699 (by decide) (by simp) rfl (by kernel_rfl), rfl⟩, q⟩) ?_
    refine ⟨_, p1713, ?_⟩
    obtain ⟨h1716, e1717⟩ : ∃ zq, zq = h1708.setIfInBounds lp1637 (.loop { ({ L1639 with state := .busy } : Loop) with state := .ready, pending := none }) := ⟨_, rfl⟩
    have p1718 : At h1716 lp1637 (.loop { ({ L1639 with state := .busy } : Loop) with state := .ready, pending := none }) := set_same e1717 p1713
    have f1719 := set_other e1717 f1710 (loop_ne p1713 f1710 rfl)
    have p1721 := p1714.keep fun b r hb q => (Chg.set e1717).same b r q (n1706 b hb)
    have x1722 := x1715.then (Chg.set e1717) (fun b hb => .inl ((fun b hb => by rw [eDc]; exact .inl hb) b hb))
    have dnew : ∀ z, ((fun (out : List Int) (oa : Option Addr) (oc : Nat) => (fun b => b = lp1637 ∨ b = b1617 ∨ (blk (Value.slice oa (out.length) (oc))) b ∨ False)) ((out ++ [(y.1 : Int)])) (a1695) (c1696)) z → Dc z ∨ hr.size ≤ z := by
      intro z hz; rcases hz with w | w | w | w
      · exact .inl (by rw [eDc]; exact .inl w)
      · exact .inl (by rw [eDc]; exact .inr (.inl w))
      · exact .inr (o1707 z w)
      · exact w.elim
    refine (show ∃ D', Chg Dc hr (h1716) ∧ (∀ z, D' z → Dc z ∨ hr.size ≤ z) ∧ (if true = true then I1647 (k + 1) D' h1716 else E1648 h1716) from ?_) |> (fun w => by rw [e1717] at w; exact w)
    refine ⟨(fun (out : List Int) (oa : Option Addr) (oc : Nat) => (fun b => b = lp1637 ∨ b = b1617 ∨ (blk (Value.slice oa (out.length) (oc))) b ∨ False)) ((out ++ [(y.1 : Int)])) (a1695) (c1696), x1722, dnew, ?_⟩
    rw [if_pos rfl]
    rw [eI1646]
    exact ⟨(out ++ [(y.1 : Int)]), a1695, c1696, rfl, (by have q := p1718; rw [loop_back hs1641 hp1642] at q; exact q), c1663.then (x1722) d1664, fun z hz => (dnew z hz).elim (d1664 z) (fun w => .inr (by have := c1663.size; omega)), f1719, by rw [take_next hk, List.map_append, ← i1660]; rfl, p1721⟩
  have h01723 : I1647 0 D1650 h1640 := by rw [eI1646]; exact ⟨[], none, 0, eD1651, p1644, Chg.refl h1640, fun z hz => .inl hz, f1653, rfl, .inl ⟨rfl, rfl⟩⟩
  refine wc_range_any (h1 := h1640) (c := (subc (bodyOf Tryd.prog 14) [1, 1, 0, 1, 0])) (g := .tmp 6) (params := #[7, 8]) (assign := (subc (bodyOf Tryd.prog 14) [1, 1, 0, 1, 0, 0])) (body := (subc (bodyOf Tryd.prog 14) [1, 1, 0, 1, 0, 1])) (by kernel_rfl) 51 #[] #[(vP b1625 0)] lp1637 [{ target := .collected dv1636, args := #[] }] #[(Value.func (.yield lp1637) #[] #[]), (vP b1625 0)] (by rfl) rfl rfl (by kernel_rfl) (by rw [eh1640, elp1637, eL1639, etm1638, edv1636]; rfl) ?_
  refine (open_it h1640 (hT'.keep fun b r _ q => x1655 b r q) h64 b1625 f1654 lp1637 I1647 E1648 D1650 (fun b hb w => by have := hT'.blk_lt hb; have := hD1657 b w; omega) hX1665 hy1666 h01723).mono fun _ h8 q => ?_
  obtain ⟨q0, q⟩ := q
  rcases q with ⟨Dv, q, qD⟩ | q
  · rw [eI1646] at q
    obtain ⟨out, oa, oc, eDv, p1727, cgN, hdN, f1724, i1725, p1726⟩ := q
    refine ⟨_, p1727, ?_, leftBy_none hp1642 ?_⟩
    · exact fun w => by rw [hs1641] at w; cases w
    have p1728 : At h8 dv1636 (.deferred (some [])) := q0.same _ _ p1645 hd1658
    obtain ⟨h1729, e1730⟩ : ∃ zq, zq = h8.setIfInBounds lp1637 (.loop { L1639 with state := .exhausted }) := ⟨_, rfl⟩
    have f1732 := set_other e1730 f1724 (loop_ne p1727 f1724 rfl)
    have p1733 := p1726.keep fun b r hb q => (Chg.set e1730).same b r q ((fun b hb hb2 => (p1726).celled.loop p1727 b hb hb2) b hb)
    have p1734 := p1728.keep fun b r hb q => (Chg.set e1730).same b r q ((fun b hb hb2 => (show ∀ b : Nat, b = lp1637 → b = dv1636 → False from fun b w1 w2 => by omega) b hb2 hb) b hb)
    rw [← e1730]
    have c1735 := q0.then (Chg.set e1730) (fun b hb => .inl (by rw [eD1651]; exact .inl hb))
    have x1736 : Ext h h1729 := (Chg.then (O := fun _ => False) (Chg.ext x1655) c1735 (fun b hb => .inr (hD1657 b hb))).toExt'
    have nb : ∀ zz, blk (Value.slice oa (out.length) (oc)) zz → h.size ≤ zz := fun zz hz => (qD zz (by rw [eDv]; exact .inr (.inr (.inl hz)))).elim (hD1657 zz) (fun g => by omega)
    rw [List.take_length] at i1725
    refine wc_upd (n := 200) (T := ⟨fun r i => match r, i with | 5, 0 => some ((vL oa out.length oc), h1729) | _, _ => none, fun _ => none, none⟩) (x := .ret) (h1 := h1729) [(13, (vL oa out.length oc)), (2, (vL oa out.length oc))]
      (fun q => (loadT Tryd.prog h1729 27 (vP b1617 0) = some (vL oa out.length oc) ∧ h1729 = h1729) ∧ q) (by intro K'; as_aux_lemma => kernel_rfl) (fun _ q => ⟨⟨load_cell agg27 f1732 rfl, rfl⟩, q⟩) ?_
    obtain ⟨h1737, e1738⟩ : ∃ zq, zq = h1729.setIfInBounds dv1636 (.deferred none) := ⟨_, rfl⟩
    have p1742 := p1733.keep fun b r hb q => (Chg.set e1738).same b r q ((fun b hb hb2 => (p1733).celled.defer p1734 b hb hb2) b hb)
    have x1739 : Ext h h1737 := Ext.setNew x1736 e1738 (by omega)
    have eo : out = openL ms := i1725
    refine end_mark3 (T := ⟨fun _ _ => none, fun _ => none, none⟩) (dv := dv1636) { tmps := #[(vP t 0), (Value.tuple #[]), (Value.slice oa (out.length) (oc)), (vP b1617 0), (Value.tuple #[]), (vP t 0), (Value.func (.func 51) #[] #[(vP b1625 0)]), (Value.tuple #[]), (Value.tuple #[]), (Value.tuple #[]), (Value.tuple #[]), (Value.tuple #[]), (Value.tuple #[]), (Value.slice oa (out.length) (oc))], defers := ([{ target := .collected dv1636, args := #[] }] ++ []) } (by kernel_rfl) (.inr rfl) rfl p1734 e1738 (A := K (Value.slice oa (out.length) (oc)) h1737) (by kernel_rfl) ?_
    exact hK _ _ (⟨oa, oc, by rw [← eo], by rw [← eo]; exact p1742, x1739, nb⟩)
  · rw [eE1649] at q; exact q.elim
end C32
