/- A proposer begins; promises are added. -/
import Derived.Test.YtpagkfbpgppeiaaMd
import Derived.KernelRfl
open Go Go.AM Go.Proofs
namespace C14
theorem und67 : Try.prog.underlying 67 = some (.array 7 66) := by kernel_rfl
theorem told_at {h h1 : Heap} {F : Nat → Prop} {t : Nat} {m : PropM} {ra : Nat → Option Addr × Nat} {k : Nat} {l : List EntM} {u : Int} {a : Option Addr} {c : Nat} (T : PropRow h F t m ra) (cg : Chg (fun b => b = t) h h1) (hrow : h1[t]? = some (.cells (prow (m.told k l u) (fun i => if i = k then (a, c) else ra i)) 69 (0, 0)))
    (o : OwnAt h1 38 entc l (.slice a l.length c)) (nw : ∀ b, blk (.slice a l.length c) b → h.size ≤ b) : ∃ F', PropAt h1 F' t (m.told k l u) ∧ ∀ b, F' b → F b ∨ h.size ≤ b := by
  refine ⟨fun b => b = t ∨ lfoot (m.told k l u) (fun i => if i = k then (a, c) else ra i) b, ⟨_, hrow, fun i hi => ?_, fun b => Iff.rfl⟩, fun b hb => ?_⟩
  · simp only [plist, PropM.told]
    by_cases e : i = k
    · simp only [if_pos e]; exact o
    · simp only [if_neg e]; exact (T.lists i hi).keep fun b r hb q => cg.same b r q (fun w => (T.lists i hi).ne T.row (by decide) hb w)
  · rcases hb with hb | ⟨i, hi, hb⟩
    · exact .inl ((T.foot b).2 (.inl hb))
    · simp only [plist, PropM.told] at hb
      by_cases e : i = k
      · simp only [if_pos e] at hb; exact .inr (nw b hb)
      · simp only [if_neg e] at hb; exact .inl ((T.foot b).2 (.inr ⟨i, hi, hb⟩))
set_option maxHeartbeats 4000000 in
theorem add_ok (h : Heap) {F : Nat → Prop} {t : Nat} {m : PropM} (hT : PropAt h F t m) (hm : m.ok) (xs : List EntM) (sa : Option Addr) (cp : Nat) (hl : SliceAt h entc 4 xs (.slice sa xs.length cp)) (hlen : xs.length ≤ 1048576) (k u : Int) : WCall Try.prog 12 #[(vP t 0), (vI (k)), (Value.slice sa (xs.length) (cp)), (vI (u))] h (fun v h1 => v = .tuple #[.bool (decide (addE m k xs u = 0) && readyB (m.told k.toNat xs u)), .int .i64 (addE m k xs u)] ∧ Chg (fun b => b = t) h h1 ∧ (addE m k xs u ≠ 0 → Ext h h1) ∧ ∃ F', PropAt h1 F' t (addM m k xs u) ∧ ∀ b, F' b → F b ∨ h.size ≤ b) := by
  have hT' := hT
  obtain ⟨ra, T⟩ := hT
  have hrow : h[t]? = some (.cells #[(vI (m.n)), (vI (m.frm)), (vI (m.rd)), (vI (m.nd)), (Value.slice (ra 0).1 ((m.ps 0).list.length) ((ra 0).2)), (vI ((m.ps 0).upto)), (vB (m.ps 0).made), (Value.slice (ra 1).1 ((m.ps 1).list.length) ((ra 1).2)), (vI ((m.ps 1).upto)), (vB (m.ps 1).made), (Value.slice (ra 2).1 ((m.ps 2).list.length) ((ra 2).2)), (vI ((m.ps 2).upto)), (vB (m.ps 2).made), (Value.slice (ra 3).1 ((m.ps 3).list.length) ((ra 3).2)), (vI ((m.ps 3).upto)), (vB (m.ps 3).made), (Value.slice (ra 4).1 ((m.ps 4).list.length) ((ra 4).2)), (vI ((m.ps 4).upto)), (vB (m.ps 4).made), (Value.slice (ra 5).1 ((m.ps 5).list.length) ((ra 5).2)), (vI ((m.ps 5).upto)), (vB (m.ps 5).made), (Value.slice (ra 6).1 ((m.ps 6).list.length) ((ra 6).2)), (vI ((m.ps 6).upto)), (vB (m.ps 6).made)] 69 (0, 0)) := T.row
  have k1 := hm.n1
  have k2 := hm.n7
  have k3 := hm.f0
  have k4 := hm.f1
  obtain ⟨_, _, sn487, rfl, rfl⟩ := valid_ok h (hT'.keep fun b r _ q => (Ext.refl h) b r q) hm
  by_cases c489 : ((k) : Int) < 0
  · have ee : addE m k xs u = 2 := by unfold addE; rw [if_pos (by first | exact .inl (by omega) | exact .inr (.inl (by omega)) | exact .inr (.inr (.inl (by assumption))) | exact .inr (.inr (.inr (by omega))))]
    exact hCall_ev [evF 1 1 sn487, ltT 3 1 3 c489] [] (vT #[(vB false), (vI 2)]) h ⟨by rw [ee]; rfl, (Chg.refl (O := fun b => b = t) h), fun _ => (Ext.refl h), F, by unfold addM; rw [if_neg (by rw [ee]; decide)]; exact hT'.keep fun b r _ q => (Ext.refl h) b r q, fun b hb => .inl hb⟩
  · by_cases c490 : ((m.n) : Int) ≤ (k)
    · have ee : addE m k xs u = 2 := by unfold addE; rw [if_pos (by first | exact .inl (by omega) | exact .inr (.inl (by omega)) | exact .inr (.inr (.inl (by assumption))) | exact .inr (.inr (.inr (by omega))))]
      exact hCall_ev [evF 1 1 sn487, ltF 3 1 3 c489, evC 3 7 0 agg3 hrow, geT 3 8 3 c490] [] (vT #[(vB false), (vI 2)]) h ⟨by rw [ee]; rfl, (Chg.refl (O := fun b => b = t) h), fun _ => (Ext.refl h), F, by unfold addM; rw [if_neg (by rw [ee]; decide)]; exact hT'.keep fun b r _ q => (Ext.refl h) b r q, fun b hb => .inl hb⟩
    · obtain ⟨_, hh491, sn492, rfl, x493⟩ := allowed_ok h (hT'.keep fun b r _ q => (Ext.refl h) b r q) hm xs _ _ hl (by omega)
      have f494 := x493 _ _ hrow
      have p495 := hl.keep fun b r _ q => x493 b r q
      have x496 := (Chg.refl (O := fun b => b = t) h).trans (Chg.ext x493)
      have y497 := (Ext.refl h).trans x493
      rcases Bool.eq_false_or_eq_true ((allowB m.n m.frm xs)) with c498 | c498
      · by_cases c499 : ((u) : Int) < 0
        · have ee : addE m k xs u = 2 := by unfold addE; rw [if_pos (by first | exact .inl (by omega) | exact .inr (.inl (by omega)) | exact .inr (.inr (.inl (by assumption))) | exact .inr (.inr (.inr (by omega))))]
          exact hCall_ev [evF 1 1 sn487, ltF 3 1 3 c489, evC 3 7 0 agg3 hrow, geF 3 8 3 c490, evFb 3 13 c498 sn492, ltT 3 18 3 c499] [] (vT #[(vB false), (vI 2)]) hh491 ⟨by rw [ee]; rfl, x496, fun _ => y497, F, by unfold addM; rw [if_neg (by rw [ee]; decide)]; exact hT'.keep fun b r _ q => y497 b r q, fun b hb => .inl hb⟩
        · by_cases c500 : (4096 : Int) < (u)
          · have ee : addE m k xs u = 2 := by unfold addE; rw [if_pos (by first | exact .inl (by omega) | exact .inr (.inl (by omega)) | exact .inr (.inr (.inl (by assumption))) | exact .inr (.inr (.inr (by omega))))]
            exact hCall_ev [evF 1 1 sn487, ltF 3 1 3 c489, evC 3 7 0 agg3 hrow, geF 3 8 3 c490, evFb 3 13 c498 sn492, ltF 3 18 3 c499, gtT 3 22 3 c500] [] (vT #[(vB false), (vI 2)]) hh491 ⟨by rw [ee]; rfl, x496, fun _ => y497, F, by unfold addM; rw [if_neg (by rw [ee]; decide)]; exact hT'.keep fun b r _ q => y497 b r q, fun b hb => .inl hb⟩
          · obtain ⟨_, hh501, sn502, rfl, x503⟩ := any_long hh491 xs _ _ p495 (by omega)
            have f504 := x503 _ _ f494
            have p505 := p495.keep fun b r _ q => x503 b r q
            have x506 := x496.trans (Chg.ext x503)
            have y507 := y497.trans x503
            rcases Bool.eq_false_or_eq_true ((longB xs)) with c508 | c508
            · have ee : addE m k xs u = 11 := by unfold addE; rw [if_neg (fun w => by rcases w with w | w | w | w | w; omega; omega; (rw [c498] at w; cases w); omega; omega), if_pos c508]
              exact hCall_ev [evF 1 1 sn487, ltF 3 1 3 c489, evC 3 7 0 agg3 hrow, geF 3 8 3 c490, evFb 3 13 c498 sn492, ltF 3 18 3 c499, gtF 3 22 3 c500, evFb 5 1 c508 sn502] [] (vT #[(vB false), (vI 11)]) hh501 ⟨by rw [ee]; rfl, x506, fun _ => y507, F, by unfold addM; rw [if_neg (by rw [ee]; decide)]; exact hT'.keep fun b r _ q => y507 b r q, fun b hb => .inl hb⟩
            · have p509 : CellsAt hh501 t (4 + k.toNat * 3) #[(Value.slice (ra k.toNat).1 ((m.ps k.toNat).list.length) ((ra k.toNat).2)), (vI ((m.ps k.toNat).upto)), (vB (m.ps k.toNat).made)] := cells_ps f504 (by omega) (by omega)
              rcases Bool.eq_false_or_eq_true ((m.ps k.toNat).made) with c510 | c510
              · have ee : addE m k xs u = 6 := by unfold addE; rw [if_neg (fun w => by rcases w with w | w | w | w | w; omega; omega; (rw [c498] at w; cases w); omega; omega), if_neg (by rw [c508]; decide), if_pos c510]
                exact hCall_ev [evF 1 1 sn487, ltF 3 1 3 c489, evC 3 7 0 agg3 hrow, geF 3 8 3 c490, evFb 3 13 c498 sn492, ltF 3 18 3 c499, gtF 3 22 3 c500, evFb 5 1 c508 sn502, evV 7 4 (Value.pointer (some ⟨t, 4 + k.toNat * 3, none⟩)) (show indexAddrA Try.prog 67 (vP t 4) (vI k) = some (Value.pointer (some ⟨t, 4 + k.toNat * 3, none⟩)) from index_arr und67 size66 (by omega) (by omega)), evV 7 6 (vB (m.ps k.toNat).made) (show loadT Try.prog hh501 4 (Value.pointer (some ⟨t, 4 + k.toNat * 3 + 2, none⟩)) = some (vB (m.ps k.toNat).made) from p509.cell (j := 2) agg4 rfl), evM 7 7 c510] [] (vT #[(vB false), (vI 6)]) hh501 ⟨by rw [ee]; rfl, x506, fun _ => y507, F, by unfold addM; rw [if_neg (by rw [ee]; decide)]; exact hT'.keep fun b r _ q => y507 b r q, fun b hb => .inl hb⟩
              · obtain ⟨_, hh515, sn516, w511, c512, rfl, o513, x517, b514⟩ := clone_ent hh501 xs _ _ p505 (by omega)
                have f518 := x517 _ _ f504
                have x521 := x506.trans (Chg.ext x517)
                have y522 := y507.trans x517
                have z524 : h.size ≤ hh501.size := x506.size
                have n525 : ∀ zz, blk (Value.slice w511 (xs.length) (c512)) zz → ¬ zz = t := fun zz hz ez => by have := b514 zz hz; have := row_lt f504; omega
                have o528 : ∀ zz, blk (Value.slice w511 (xs.length) (c512)) zz → h.size ≤ zz := fun zz hz => by have := b514 zz hz; omega
                obtain ⟨h530, e531⟩ : ∃ zq, zq = hh515.setIfInBounds t (.cells #[(vI ((m.told k.toNat xs u).n)), (vI ((m.told k.toNat xs u).frm)), (vI ((m.told k.toNat xs u).rd)), (vI ((m.told k.toNat xs u).nd)), (Value.slice ((fun i => if i = k.toNat then (w511, c512) else ra i) 0).1 (((m.told k.toNat xs u).ps 0).list.length) (((fun i => if i = k.toNat then (w511, c512) else ra i) 0).2)), (vI (((m.told k.toNat xs u).ps 0).upto)), (vB ((m.told k.toNat xs u).ps 0).made), (Value.slice ((fun i => if i = k.toNat then (w511, c512) else ra i) 1).1 (((m.told k.toNat xs u).ps 1).list.length) (((fun i => if i = k.toNat then (w511, c512) else ra i) 1).2)), (vI (((m.told k.toNat xs u).ps 1).upto)), (vB ((m.told k.toNat xs u).ps 1).made), (Value.slice ((fun i => if i = k.toNat then (w511, c512) else ra i) 2).1 (((m.told k.toNat xs u).ps 2).list.length) (((fun i => if i = k.toNat then (w511, c512) else ra i) 2).2)), (vI (((m.told k.toNat xs u).ps 2).upto)), (vB ((m.told k.toNat xs u).ps 2).made), (Value.slice ((fun i => if i = k.toNat then (w511, c512) else ra i) 3).1 (((m.told k.toNat xs u).ps 3).list.length) (((fun i => if i = k.toNat then (w511, c512) else ra i) 3).2)), (vI (((m.told k.toNat xs u).ps 3).upto)), (vB ((m.told k.toNat xs u).ps 3).made), (Value.slice ((fun i => if i = k.toNat then (w511, c512) else ra i) 4).1 (((m.told k.toNat xs u).ps 4).list.length) (((fun i => if i = k.toNat then (w511, c512) else ra i) 4).2)), (vI (((m.told k.toNat xs u).ps 4).upto)), (vB ((m.told k.toNat xs u).ps 4).made), (Value.slice ((fun i => if i = k.toNat then (w511, c512) else ra i) 5).1 (((m.told k.toNat xs u).ps 5).list.length) (((fun i => if i = k.toNat then (w511, c512) else ra i) 5).2)), (vI (((m.told k.toNat xs u).ps 5).upto)), (vB ((m.told k.toNat xs u).ps 5).made), (Value.slice ((fun i => if i = k.toNat then (w511, c512) else ra i) 6).1 (((m.told k.toNat xs u).ps 6).list.length) (((fun i => if i = k.toNat then (w511, c512) else ra i) 6).2)), (vI (((m.told k.toNat xs u).ps 6).upto)), (vB ((m.told k.toNat xs u).ps 6).made)] 69 (0, 0)) := ⟨_, rfl⟩
                have f532 : h530[t]? = some (.cells #[(vI ((m.told k.toNat xs u).n)), (vI ((m.told k.toNat xs u).frm)), (vI ((m.told k.toNat xs u).rd)), (vI ((m.told k.toNat xs u).nd)), (Value.slice ((fun i => if i = k.toNat then (w511, c512) else ra i) 0).1 (((m.told k.toNat xs u).ps 0).list.length) (((fun i => if i = k.toNat then (w511, c512) else ra i) 0).2)), (vI (((m.told k.toNat xs u).ps 0).upto)), (vB ((m.told k.toNat xs u).ps 0).made), (Value.slice ((fun i => if i = k.toNat then (w511, c512) else ra i) 1).1 (((m.told k.toNat xs u).ps 1).list.length) (((fun i => if i = k.toNat then (w511, c512) else ra i) 1).2)), (vI (((m.told k.toNat xs u).ps 1).upto)), (vB ((m.told k.toNat xs u).ps 1).made), (Value.slice ((fun i => if i = k.toNat then (w511, c512) else ra i) 2).1 (((m.told k.toNat xs u).ps 2).list.length) (((fun i => if i = k.toNat then (w511, c512) else ra i) 2).2)), (vI (((m.told k.toNat xs u).ps 2).upto)), (vB ((m.told k.toNat xs u).ps 2).made), (Value.slice ((fun i => if i = k.toNat then (w511, c512) else ra i) 3).1 (((m.told k.toNat xs u).ps 3).list.length) (((fun i => if i = k.toNat then (w511, c512) else ra i) 3).2)), (vI (((m.told k.toNat xs u).ps 3).upto)), (vB ((m.told k.toNat xs u).ps 3).made), (Value.slice ((fun i => if i = k.toNat then (w511, c512) else ra i) 4).1 (((m.told k.toNat xs u).ps 4).list.length) (((fun i => if i = k.toNat then (w511, c512) else ra i) 4).2)), (vI (((m.told k.toNat xs u).ps 4).upto)), (vB ((m.told k.toNat xs u).ps 4).made), (Value.slice ((fun i => if i = k.toNat then (w511, c512) else ra i) 5).1 (((m.told k.toNat xs u).ps 5).list.length) (((fun i => if i = k.toNat then (w511, c512) else ra i) 5).2)), (vI (((m.told k.toNat xs u).ps 5).upto)), (vB ((m.told k.toNat xs u).ps 5).made), (Value.slice ((fun i => if i = k.toNat then (w511, c512) else ra i) 6).1 (((m.told k.toNat xs u).ps 6).list.length) (((fun i => if i = k.toNat then (w511, c512) else ra i) 6).2)), (vI (((m.told k.toNat xs u).ps 6).upto)), (vB ((m.told k.toNat xs u).ps 6).made)] 69 (0, 0)) := set_same e531 f518
                have p534 := o513.keep fun b r hb q => (Chg.set e531).same b r q (n525 b hb)
                have x535 := x521.then (Chg.set e531) (fun b hb => by subst hb; exact (.inl rfl))
                obtain ⟨F1, tb, fb⟩ := told_at (k := k.toNat) (u := u) T x535 f532 p534 o528
                have okm := told_ok hm (k := k.toNat) (l := xs) (u := u) (by omega) (by assumption) (by omega)
                obtain ⟨_, hh536, sn537, rfl, x538⟩ := ready_ok h530 tb okm
                have x541 := x535.trans (Chg.ext x538)
                rcases Bool.eq_false_or_eq_true ((readyB (m.told k.toNat xs u))) with c542 | c542
                · have ee : addE m k xs u = 0 := by unfold addE; rw [if_neg (fun w => by rcases w with w | w | w | w | w; omega; omega; (rw [c498] at w; cases w); omega; omega), if_neg (by rw [c508]; decide), if_neg (by rw [c510]; decide)]
                  exact hCall_ev [evF 1 1 sn487, ltF 3 1 3 c489, evC 3 7 0 agg3 hrow, geF 3 8 3 c490, evFb 3 13 c498 sn492, ltF 3 18 3 c499, gtF 3 22 3 c500, evFb 5 1 c508 sn502, evV 7 4 (Value.pointer (some ⟨t, 4 + k.toNat * 3, none⟩)) (show indexAddrA Try.prog 67 (vP t 4) (vI k) = some (Value.pointer (some ⟨t, 4 + k.toNat * 3, none⟩)) from index_arr und67 size66 (by omega) (by omega)), evV 7 6 (vB (m.ps k.toNat).made) (show loadT Try.prog hh501 4 (Value.pointer (some ⟨t, 4 + k.toNat * 3 + 2, none⟩)) = some (vB (m.ps k.toNat).made) from p509.cell (j := 2) agg4 rfl), evM 7 7 c510, evF 9 3 sn516, evV 9 8 (Value.pointer (some ⟨t, 4 + k.toNat * 3, none⟩)) (show indexAddrA Try.prog 67 (vP t 4) (vI k) = some (Value.pointer (some ⟨t, 4 + k.toNat * 3, none⟩)) from index_arr und67 size66 (by omega) (by omega)), evH 9 9 undef h530 (show (storeT Try.prog hh515 66 (Value.pointer (some ⟨t, 4 + k.toNat * 3, none⟩)) (vA #[(vL w511 xs.length c512), (vI u), (vB true)]) = some h530 ∧ (undef : Value) = undef) from ⟨by rw [e531]; exact store_ps f518 (by omega) (by omega), rfl⟩), evFb 10 1 c542 sn537] [] (vT #[(vB true), (vI 0)]) hh536 ⟨by rw [ee, c542]; rfl, x541, fun w => absurd ee w, F1, by unfold addM; rw [if_pos ee]; exact tb.keep fun b r _ q => x538 b r q, fb⟩
                · have ee : addE m k xs u = 0 := by unfold addE; rw [if_neg (fun w => by rcases w with w | w | w | w | w; omega; omega; (rw [c498] at w; cases w); omega; omega), if_neg (by rw [c508]; decide), if_neg (by rw [c510]; decide)]
                  exact hCall_ev [evF 1 1 sn487, ltF 3 1 3 c489, evC 3 7 0 agg3 hrow, geF 3 8 3 c490, evFb 3 13 c498 sn492, ltF 3 18 3 c499, gtF 3 22 3 c500, evFb 5 1 c508 sn502, evV 7 4 (Value.pointer (some ⟨t, 4 + k.toNat * 3, none⟩)) (show indexAddrA Try.prog 67 (vP t 4) (vI k) = some (Value.pointer (some ⟨t, 4 + k.toNat * 3, none⟩)) from index_arr und67 size66 (by omega) (by omega)), evV 7 6 (vB (m.ps k.toNat).made) (show loadT Try.prog hh501 4 (Value.pointer (some ⟨t, 4 + k.toNat * 3 + 2, none⟩)) = some (vB (m.ps k.toNat).made) from p509.cell (j := 2) agg4 rfl), evM 7 7 c510, evF 9 3 sn516, evV 9 8 (Value.pointer (some ⟨t, 4 + k.toNat * 3, none⟩)) (show indexAddrA Try.prog 67 (vP t 4) (vI k) = some (Value.pointer (some ⟨t, 4 + k.toNat * 3, none⟩)) from index_arr und67 size66 (by omega) (by omega)), evH 9 9 undef h530 (show (storeT Try.prog hh515 66 (Value.pointer (some ⟨t, 4 + k.toNat * 3, none⟩)) (vA #[(vL w511 xs.length c512), (vI u), (vB true)]) = some h530 ∧ (undef : Value) = undef) from ⟨by rw [e531]; exact store_ps f518 (by omega) (by omega), rfl⟩), evFb 10 1 c542 sn537] [] (vT #[(vB false), (vI 0)]) hh536 ⟨by rw [ee, c542]; rfl, x541, fun w => absurd ee w, F1, by unfold addM; rw [if_pos ee]; exact tb.keep fun b r _ q => x538 b r q, fb⟩
      · have ee : addE m k xs u = 2 := by unfold addE; rw [if_pos (by first | exact .inl (by omega) | exact .inr (.inl (by omega)) | exact .inr (.inr (.inl (by assumption))) | exact .inr (.inr (.inr (by omega))))]
        exact hCall_ev [evF 1 1 sn487, ltF 3 1 3 c489, evC 3 7 0 agg3 hrow, geF 3 8 3 c490, evFb 3 13 c498 sn492] [] (vT #[(vB false), (vI 2)]) hh491 ⟨by rw [ee]; rfl, x496, fun _ => y497, F, by unfold addM; rw [if_neg (by rw [ee]; decide)]; exact hT'.keep fun b r _ q => y497 b r q, fun b hb => .inl hb⟩
set_option maxHeartbeats 4000000 in
theorem new_ok (h : Heap) (n rd nd frm : Int) : WCall Try.prog 11 #[(vI (n)), (Value.agg #[(vI (rd)), (vI (nd))]), (vI (frm))] h (fun v h1 => (newE n rd nd frm ≠ 0 → v = .tuple #[.pointer none, .int .i64 2] ∧ Ext h h1) ∧ (newE n rd nd frm = 0 → ∃ b F, v = .tuple #[.pointer (some ⟨b, 0, none⟩), .int .i64 0] ∧ PropAt h1 F b (newM n rd nd frm) ∧ Ext h h1 ∧ ∀ z, F z → h.size ≤ z)) := by
  obtain ⟨b545, eb546⟩ : ∃ zq, zq = h.size := ⟨_, rfl⟩
  obtain ⟨h543, e544⟩ : ∃ zq, zq = h.push (.cells #[(vI (rd)), (vI (nd))] 29 (0, 0)) := ⟨_, rfl⟩
  have f547 := push_new e544
  rw [← eb546] at f547
  have x548 : Ext h h543 := by rw [e544]; exact Ext.push _ _
  have o549 : h.size ≤ b545 := by have := (Ext.refl h).size; omega
  have x550 := (Ext.refl h).trans x548
  obtain ⟨_, hh551, sn552, rfl, x553⟩ := chkB_ok h543 (rd) (nd) (n)
  have f554 := x553 _ _ f547
  have x555 := x550.trans x553
  by_cases c556 : ((chkB (rd) (nd) (n)) : Int) = 0
  · by_cases c557 : (((rd) : Int) = 0 ∧ ((nd) : Int) = 0)
    · have ee : newE n rd nd frm = 2 := by unfold newE; rw [if_pos (by first | exact .inl (by omega) | exact .inr (.inl (by omega)) | exact .inr (.inr (by omega)))]
      exact hCall_ev [evA 0 0 eb546 e544, evLw 1 0 agg29 size29 f547, evF 1 2 sn552, neF 1 3 31 c556, evLw 1 5 agg29 size29 f554, evQ 1 7 (cmp29_eql (decide_eq_true c557))] [] (vT #[vN, (vI 2)]) hh551 ⟨fun _ => ⟨rfl, x555⟩, fun w => by rw [ee] at w; cases w⟩
    · by_cases c558 : ((frm) : Int) < 0
      · have ee : newE n rd nd frm = 2 := by unfold newE; rw [if_pos (by first | exact .inl (by omega) | exact .inr (.inl (by omega)) | exact .inr (.inr (by omega)))]
        exact hCall_ev [evA 0 0 eb546 e544, evLw 1 0 agg29 size29 f547, evF 1 2 sn552, neF 1 3 31 c556, evLw 1 5 agg29 size29 f554, evQ 1 7 (cmp29_eql (decide_eq_false c557)), ltT 1 11 3 c558] [] (vT #[vN, (vI 2)]) hh551 ⟨fun _ => ⟨rfl, x555⟩, fun w => by rw [ee] at w; cases w⟩
      · by_cases c559 : (4096 : Int) < (frm)
        · have ee : newE n rd nd frm = 2 := by unfold newE; rw [if_pos (by first | exact .inl (by omega) | exact .inr (.inl (by omega)) | exact .inr (.inr (by omega)))]
          exact hCall_ev [evA 0 0 eb546 e544, evLw 1 0 agg29 size29 f547, evF 1 2 sn552, neF 1 3 31 c556, evLw 1 5 agg29 size29 f554, evQ 1 7 (cmp29_eql (decide_eq_false c557)), ltF 1 11 3 c558, gtT 1 15 3 c559] [] (vT #[vN, (vI 2)]) hh551 ⟨fun _ => ⟨rfl, x555⟩, fun w => by rw [ee] at w; cases w⟩
        · obtain ⟨b562, eb563⟩ : ∃ zq, zq = hh551.size := ⟨_, rfl⟩
          obtain ⟨h560, e561⟩ : ∃ zq, zq = hh551.push (.cells #[(vI (n)), (vI (frm)), (vI (rd)), (vI (nd)), (Value.slice none 0 0), (vI 0), (vB false), (Value.slice none 0 0), (vI 0), (vB false), (Value.slice none 0 0), (vI 0), (vB false), (Value.slice none 0 0), (vI 0), (vB false), (Value.slice none 0 0), (vI 0), (vB false), (Value.slice none 0 0), (vI 0), (vB false), (Value.slice none 0 0), (vI 0), (vB false)] 69 (0, 0)) := ⟨_, rfl⟩
          have f564 := push_new e561
          rw [← eb563] at f564
          have x566 : Ext hh551 h560 := by rw [e561]; exact Ext.push _ _
          have o567 : h.size ≤ b562 := by have := x555.size; omega
          have x569 := x555.trans x566
          have ee : newE n rd nd frm = 0 := by unfold newE; rw [if_neg (fun w => by omega)]
          have ff : ∀ z, ¬ lfoot (newM n rd nd frm) (fun _ => (none, 0)) z := fun z ⟨i, hi, hz⟩ => hz.elim
          exact hCall_ev [evA 0 0 eb546 e544, evLw 1 0 agg29 size29 f547, evF 1 2 sn552, neF 1 3 31 c556, evLw 1 5 agg29 size29 f554, evQ 1 7 (cmp29_eql (decide_eq_false c557)), ltF 1 11 3 c558, gtF 1 15 3 c559, evLw 3 2 agg29 size29 f554, evA 3 4 eb563 e561] [] (vT #[(vP b562 0), (vI 0)]) h560 ⟨fun w => absurd ee w, fun _ => ⟨b562, fun z => z = b562, rfl, ⟨fun _ => (none, 0), f564, fun i hi => .inl ⟨rfl, rfl⟩, fun z => ⟨.inl, fun w => w.elim id (fun w => absurd w (ff z))⟩⟩, x569, fun z hz => by have w : z = b562 := hz; have := o567; omega⟩⟩
  · have ee : newE n rd nd frm = 2 := by unfold newE; rw [if_pos (by first | exact .inl (by omega) | exact .inr (.inl (by omega)) | exact .inr (.inr (by omega)))]
    exact hCall_ev [evA 0 0 eb546 e544, evLw 1 0 agg29 size29 f547, evF 1 2 sn552, neT 1 3 31 c556] [] (vT #[vN, (vI 2)]) hh551 ⟨fun _ => ⟨rfl, x555⟩, fun w => by rw [ee] at w; cases w⟩
end C14
