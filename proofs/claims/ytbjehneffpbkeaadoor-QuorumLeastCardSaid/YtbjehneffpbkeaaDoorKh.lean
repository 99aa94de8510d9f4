/- Nodes that two sets share. -/
import Derived.Test.YtbjehneffpbkeaaDoorKg
import Derived.KernelRfl
open Go Go.AM Go.Proofs
namespace C11
theorem agg4 : isAggA Tryd.prog 4 = some false := by kernel_rfl
theorem agg23 : isAggA Tryd.prog 23 = some false := by kernel_rfl
theorem size3 : (Tryd.prog.info? 3).map (·.size) = some 1 := by kernel_rfl
theorem size4 : (Tryd.prog.info? 4).map (·.size) = some 1 := by kernel_rfl
theorem size23 : (Tryd.prog.info? 23).map (·.size) = some 1 := by kernel_rfl
theorem resF_cells3 {f : FuncId} {h : Heap} {tmps : Array Value} {fn : Func} {q1 q2 q3 : Tmp} {t1 t2 t3 : TypeId} {v1 v2 v3 : Value} (hf : Tryd.prog.funcs[f]? = some fn) (hr : fn.results.toList = [.cell q1 t1, .cell q2 t2, .cell q3 t3])
    (l1 : loadT Tryd.prog h t1 (tmps.getD q1 undef) = some v1) (l2 : loadT Tryd.prog h t2 (tmps.getD q2 undef) = some v2) (l3 : loadT Tryd.prog h t3 (tmps.getD q3 undef) = some v3) : resF Tryd.prog f h tmps = some (.tuple #[v1, v2, v3]) := by
  simp only [resF, hf, resultsA, hr, resA, l1, l2, l3]
theorem chk2_ok {n s t : Int} (hs : 0 ≤ s ∧ s ≤ 18446744073709551615) (ht : 0 ≤ t ∧ t ≤ 18446744073709551615) (h : chk2 n s t = 0) : 1 ≤ n ∧ n ≤ 7 ∧ chk1 n s = 0 ∧ chk1 n t = 0 := by
  unfold chk2 at h
  split at h
  · cases h
  · rename_i hc
    refine ⟨by omega, by omega, ?_, ?_⟩
    · unfold chk1; rw [if_neg (fun w => hc (by rcases w with w | w | w; exact .inl w; exact .inr (.inl w); exact .inr (.inr (.inl w))))]
    · unfold chk1; rw [if_neg (fun w => hc (by rcases w with w | w | w; exact .inl w; exact .inr (.inl w); exact .inr (.inr (.inr w))))]
theorem chk2_two {n s t : Int} (h : ¬ chk2 n s t = 0) : chk2 n s t = 2 := by
  unfold chk2 at h ⊢
  split at h
  · rename_i hc; rw [if_pos hc]
  · exact absurd rfl h
theorem chk2_iff {n s t : Int} : chk2 n s t = 0 ↔ chk1 n s = 0 ∧ chk1 n t = 0 := by
  unfold chk2 chk1
  by_cases h : n < 1 ∨ 7 < n ∨ big n s = true ∨ big n t = true
  · rw [if_pos h]
    constructor
    · intro w; cases w
    · rintro ⟨w1, w2⟩
      split at w1
      · cases w1
      · rename_i c1
        split at w2
        · cases w2
        · rename_i c2
          exfalso
          rcases h with w | w | w | w
          · exact c1 (.inl w)
          · exact c1 (.inr (.inl w))
          · exact c1 (.inr (.inr w))
          · exact c2 (.inr (.inr w))
  · rw [if_neg h]
    refine ⟨fun _ => ⟨if_neg (fun w => h (by rcases w with w | w | w; exact .inl w; exact .inr (.inl w); exact .inr (.inr (.inl w)))), if_neg (fun w => h (by rcases w with w | w | w; exact .inl w; exact .inr (.inl w); exact .inr (.inr (.inr w))))⟩, fun _ => rfl⟩
def meS (a b : Int) : Int := uand a b
def meV (a b n : Int) : Int := if chk2 n a b = 0 ∧ ¬ uand a b = 0 then tz (uand a b) else 0
def meB (a b n : Int) : Bool := decide (chk2 n a b = 0 ∧ ¬ uand a b = 0)
set_option maxHeartbeats 4000000 in
theorem meet_ok (h : Heap) (hg : At h 0 tabRow) (a : Int) (ha : 0 ≤ a ∧ a ≤ 18446744073709551615) (b : Int) (hb : 0 ≤ b ∧ b ≤ 18446744073709551615) (n : Int) : WCall Tryd.prog 19 #[(Value.int .u64 (a)), (Value.int .u64 (b)), (vI (n))] h (fun v h1 => v = .tuple #[.int .i64 (meV a b n), .bool (meB a b n), .int .i64 (chk2 n a b)] ∧ Ext h h1) := by
  suffices H : ∀ K : Value → Heap → Prop, (∀ v h1, (fun v h1 => v = .tuple #[.int .i64 (meV a b n), .bool (meB a b n), .int .i64 (chk2 n a b)] ∧ Ext h h1) v h1 → K v h1) → WCall Tryd.prog 19 #[(Value.int .u64 (a)), (Value.int .u64 (b)), (vI (n))] h K from H _ fun _ _ q => q
  intro K hK
  refine wcall_at { tmps := #[(Value.int .u64 (a)), (Value.int .u64 (b)), (vI (n)), (Value.tuple #[]), (Value.tuple #[]), (Value.tuple #[]), (Value.tuple #[]), (Value.tuple #[]), (Value.tuple #[]), (Value.tuple #[]), (Value.tuple #[]), (Value.tuple #[]), (Value.tuple #[]), (Value.tuple #[]), (Value.tuple #[]), (Value.tuple #[]), (Value.tuple #[]), (Value.tuple #[]), (Value.tuple #[]), (Value.tuple #[]), (Value.tuple #[]), (Value.tuple #[]), (Value.tuple #[]), (Value.tuple #[]), (Value.tuple #[])], defers := [] } (by kernel_rfl) ?_
  refine wc_seq' (subc (bodyOf Tryd.prog 19) [0]) (subc (bodyOf Tryd.prog 19) [1]) (by kernel_rfl) ?_
  obtain ⟨b325, eb326⟩ : ∃ zq, zq = h.size := ⟨_, rfl⟩
  obtain ⟨h323, e324⟩ : ∃ zq, zq = h.push (.cells #[(vI 0)] 3 (0, 0)) := ⟨_, rfl⟩
  have f327 := push_new e324
  rw [← eb326] at f327
  have x328 : Ext h h323 := by rw [e324]; exact Ext.push _ _
  have o329 : h.size ≤ b325 := by have := (Ext.refl h).size; omega
  have x330 := (Ext.refl h).trans x328
  obtain ⟨b333, eb334⟩ : ∃ zq, zq = h323.size := ⟨_, rfl⟩
  obtain ⟨h331, e332⟩ : ∃ zq, zq = h323.push (.cells #[(vB false)] 4 (0, 0)) := ⟨_, rfl⟩
  have f335 := push_new e332
  rw [← eb334] at f335
  have n336 : b333 ≠ b325 := by have := row_lt f327; omega
  have x337 : Ext h323 h331 := by rw [e332]; exact Ext.push _ _
  have o338 : h.size ≤ b333 := by have := x330.size; omega
  have f339 := x337 _ _ f327
  have x340 := x330.trans x337
  obtain ⟨b343, eb344⟩ : ∃ zq, zq = h331.size := ⟨_, rfl⟩
  obtain ⟨h341, e342⟩ : ∃ zq, zq = h331.push (.cells #[(vI 0)] 23 (0, 0)) := ⟨_, rfl⟩
  have f345 := push_new e342
  rw [← eb344] at f345
  have n346 : b343 ≠ b325 := by have := row_lt f339; omega
  have n347 : b343 ≠ b333 := by have := row_lt f335; omega
  have x348 : Ext h331 h341 := by rw [e342]; exact Ext.push _ _
  have o349 : h.size ≤ b343 := by have := x340.size; omega
  have f350 := x348 _ _ f339
  have f351 := x348 _ _ f335
  have x352 := x340.trans x348
  refine wc_upd (n := 200) (T := ⟨fun r i => match r, i with | 0, 0 => some ((vP b325 0), h323) | 0, 1 => some ((vP b333 0), h331) | 0, 2 => some ((vP b343 0), h341) | _, _ => none, fun _ => none, none⟩) (x := .normal) (h1 := h341) [(6, (vP b325 0)), (7, (vP b333 0)), (8, (vP b343 0))]
    (fun q => ((vP b325 0) = (Value.pointer (some ⟨h.size, 0, none⟩)) ∧ h323 = h.push (.cells #[(vI 0)] 3 (0, 0))) ∧ ((vP b333 0) = (Value.pointer (some ⟨h323.size, 0, none⟩)) ∧ h331 = h323.push (.cells #[(vB false)] 4 (0, 0))) ∧ ((vP b343 0) = (Value.pointer (some ⟨h331.size, 0, none⟩)) ∧ h341 = h331.push (.cells #[(vI 0)] 23 (0, 0))) ∧ q) (by intro K'; kernel_rfl) (fun _ q => ⟨⟨by rw [eb326], e324⟩, ⟨by rw [eb334], e332⟩, ⟨by rw [eb344], e342⟩, q⟩) ?_
  refine wc_seq' (subc (bodyOf Tryd.prog 19) [1, 0]) (subc (bodyOf Tryd.prog 19) [1, 1]) (by kernel_rfl) ?_
  obtain ⟨b355, eb356⟩ : ∃ zq, zq = h341.size := ⟨_, rfl⟩
  obtain ⟨h353, e354⟩ : ∃ zq, zq = h341.push (.cells #[(Value.int .u64 (a)), (Value.int .u64 (b))] 22 (0, 0)) := ⟨_, rfl⟩
  have f357 := push_new e354
  rw [← eb356] at f357
  have n358 : b355 ≠ b325 := by have := row_lt f350; omega
  have n359 : b355 ≠ b333 := by have := row_lt f351; omega
  have n360 : b355 ≠ b343 := by have := row_lt f345; omega
  have x361 : Ext h341 h353 := by rw [e354]; exact Ext.push _ _
  have o362 : h.size ≤ b355 := by have := x352.size; omega
  have f363 := x361 _ _ f350
  have f364 := x361 _ _ f351
  have f365 := x361 _ _ f345
  have x366 := x352.trans x361
  obtain ⟨_, hh367, sn368, rfl, x369⟩ := check2 h353 (n) (a) (by omega) (b) (by omega) f357
  have f370 := x369 _ _ f363
  have f371 := x369 _ _ f364
  have f372 := x369 _ _ f365
  have f373 := x369 _ _ f357
  have x374 := x366.trans x369
  by_cases c375 : ((chk2 (n) (a) (b)) : Int) = 0
  · refine wc_upd (n := 200) (T := ⟨fun r i => match r, i with | 1, 3 => some ((Value.slice (some ⟨b355, 0, none⟩) 2 2), h353) | 1, 4 => some ((vI (chk2 (n) (a) (b))), hh367) | 2, 1 => some ((vB false), hh367) | _, _ => none, fun _ => none, none⟩) (x := .normal) (h1 := hh367) [(11, (vI (n))), (12, (Value.int .u64 (a))), (13, (Value.int .u64 (b))), (14, (Value.slice (some ⟨b355, 0, none⟩) 2 2)), (15, (vI (chk2 (n) (a) (b)))), (9, (vI (chk2 (n) (a) (b)))), (16, (vI (chk2 (n) (a) (b)))), (17, (vB false))]
      (fun q => ((Value.slice (some ⟨b355, 0, none⟩) 2 2) = (Value.slice (some ⟨h341.size, 0, none⟩) 2 2) ∧ h353 = h341.push (.cells #[(Value.int .u64 (a)), (Value.int .u64 (b))] 22 (0, 0))) ∧ SoundCall Tryd.prog 34 #[(vI (n)), (Value.slice (some ⟨b355, 0, none⟩) 2 2)] h353 (vI (chk2 (n) (a) (b))) hh367 ∧ (binA Tryd.prog .neq 23 (vI (chk2 (n) (a) (b))) (vI 0) = some (vB false) ∧ hh367 = hh367) ∧ q) (by intro K'; kernel_rfl) (fun _ q => ⟨⟨by rw [eb356], e354⟩, sn368, ⟨cmp_neq (decide_eq_false (not_not_intro c375)), rfl⟩, q⟩) ?_
    refine wc_seq' (subc (bodyOf Tryd.prog 19) [1, 1, 0]) (subc (bodyOf Tryd.prog 19) [1, 1, 1]) (by kernel_rfl) ?_
    refine wc_seq' (subc (bodyOf Tryd.prog 19) [1, 1, 0, 0]) (subc (bodyOf Tryd.prog 19) [1, 1, 0, 1]) (by kernel_rfl) ?_
    obtain ⟨_, h377, s378, b376, rfl, f379, x380, w381⟩ := nodes_fn hh367 (uand (a) (b))
    have o386 : h.size ≤ b376 := by have := x374.size; omega
    have f387 := x380 _ _ f370
    have f388 := x380 _ _ f371
    have f389 := x380 _ _ f372
    have f390 := x380 _ _ f373
    have x391 := x374.trans x380
    refine wc_upd (n := 200) (T := ⟨fun r i => match r, i with | 4, 2 => some ((Value.int .u64 (uand (a) (b))), hh367) | 4, 3 => some ((Value.func (.func 42) #[] #[(vP b376 0)]), h377) | _, _ => none, fun _ => none, none⟩) (x := .normal) (h1 := h377) [(19, (Value.int .u64 (a))), (20, (Value.int .u64 (b))), (21, (Value.int .u64 (uand (a) (b)))), (22, (Value.func (.func 42) #[] #[(vP b376 0)]))]
      (fun q => (binA Tryd.prog .and 22 (Value.int .u64 (a)) (Value.int .u64 (b)) = some (Value.int .u64 (uand (a) (b))) ∧ hh367 = hh367) ∧ SoundCall Tryd.prog 36 #[(Value.int .u64 (uand (a) (b)))] hh367 (Value.func (.func 42) #[] #[(vP b376 0)]) h377 ∧ q) (by intro K'; kernel_rfl) (fun _ q => ⟨⟨and_raw, rfl⟩, s378, q⟩) ?_
    refine wc_block' 0 (subc (bodyOf Tryd.prog 19) [1, 1, 0, 1, 0]) (by kernel_rfl) ?_
    obtain ⟨dv, edv⟩ : ∃ zq, zq = h377.size := ⟨_, rfl⟩
    obtain ⟨l, el⟩ : ∃ zq, zq = h377.size + 1 := ⟨_, rfl⟩
    obtain ⟨lp, elp⟩ : ∃ zq : Loop, zq = { state := .ready, pending := none, fn := 0, tmps := #[(Value.int .u64 (a)), (Value.int .u64 (b)), (vI (n)), (Value.tuple #[]), (Value.tuple #[]), (Value.tuple #[]), (vP b325 0), (vP b333 0), (vP b343 0), (vI (chk2 (n) (a) (b))), (Value.tuple #[]), (vI (n)), (Value.int .u64 (a)), (Value.int .u64 (b)), (Value.slice (some ⟨b355, 0, none⟩) 2 2), (vI (chk2 (n) (a) (b))), (vI (chk2 (n) (a) (b))), (vB false), (Value.tuple #[]), (Value.int .u64 (a)), (Value.int .u64 (b)), (Value.int .u64 (uand (a) (b))), (Value.func (.func 42) #[] #[(vP b376 0)]), (Value.tuple #[]), (Value.tuple #[])], params := #[23], assign := (subc (bodyOf Tryd.prog 19) [1, 1, 0, 1, 0, 0]), body := (subc (bodyOf Tryd.prog 19) [1, 1, 0, 1, 0, 1]), defers := dv } := ⟨_, rfl⟩
    obtain ⟨h9, e9⟩ : ∃ zq, zq = (h377.push (.deferred (some []))).push (.loop lp) := ⟨_, rfl⟩
    have x9 : Ext h377 h9 := by rw [e9]; exact (Ext.push _ _).trans (Ext.push _ _)
    have pl : At h9 l (.loop lp) := by rw [e9, el, show h377.size + 1 = (h377.push (.deferred (some []))).size by simp]; exact push_new rfl
    have pd : At h9 dv (.deferred (some [])) := by rw [e9, edv]; exact push_old (b := h377.size) rfl (push_new rfl)
    have z0 : h.size ≤ h377.size := x391.size
    have xa := x391.trans x9
    have n392 : l ≠ b325 := by have := row_lt f387; omega
    have n393 : dv ≠ b325 := by have := row_lt f387; omega
    have f394 := x9 _ _ f387
    have n395 : l ≠ b333 := by have := row_lt f388; omega
    have n396 : dv ≠ b333 := by have := row_lt f388; omega
    have f397 := x9 _ _ f388
    have n398 : l ≠ b343 := by have := row_lt f389; omega
    have n399 : dv ≠ b343 := by have := row_lt f389; omega
    have f400 := x9 _ _ f389
    have n401 : l ≠ b355 := by have := row_lt f390; omega
    have f403 := x9 _ _ f390
    have f406 := x9 _ _ f379
    by_cases c407 : ((uand (a) (b)) : Int) = 0
    · refine wc_range (h1 := h9) (c := (subc (bodyOf Tryd.prog 19) [1, 1, 0, 1, 0])) (g := .tmp 22) (params := #[23]) (assign := (subc (bodyOf Tryd.prog 19) [1, 1, 0, 1, 0, 0])) (body := (subc (bodyOf Tryd.prog 19) [1, 1, 0, 1, 0, 1])) (by kernel_rfl) 42 #[] #[(.pointer (some ⟨b376, 0, none⟩))] l [{ target := .collected dv, args := #[] }] #[(Value.func (.yield l) #[] #[]), (.pointer (some ⟨b376, 0, none⟩))] (by rfl) (by kernel_rfl) (by kernel_rfl) (by kernel_rfl) (by rw [e9, elp, el, edv]; kernel_rfl) ?_
      have hx := f406
      rw [c407] at hx
      refine (nodes_none h9 l b376 hx).mono fun _ h8 q => ?_
      subst q
      refine ⟨_, pl, by rw [elp], by rw [elp], ?_⟩
      obtain ⟨h7, e7⟩ : ∃ zq, zq = h9.setIfInBounds l (.loop { (lp : Loop) with state := .exhausted }) := ⟨_, rfl⟩
      rw [← e7]
      have f408 := set_other e7 f394 n392
      have f409 := set_other e7 f397 n395
      have f410 := set_other e7 f400 n398
      have pd7 : At h7 dv (.deferred (some [])) := set_other e7 (show h9[dv]? = some _ from pd) (by omega)
      have x7 := Ext.setNew xa e7 (by omega)
      obtain ⟨h413, e414⟩ : ∃ zq, zq = h7.setIfInBounds b325 (.cells #[(vI 0)] 3 (0, 0)) := ⟨_, rfl⟩
      have f415 := set_same e414 f408
      have f417 := set_other e414 f409 n336.symm
      have f418 := set_other e414 f410 n346.symm
      have p421 := pd7.keep fun b r hb q => (Chg.set e414).same b r q ((fun zz hz ez => n393 (hz.symm.trans ez)) b hb)
      have x422 := Ext.setNew x7 e414 o329
      obtain ⟨h423, e424⟩ : ∃ zq, zq = h413.setIfInBounds b333 (.cells #[(vB false)] 4 (0, 0)) := ⟨_, rfl⟩
      have f425 := set_same e424 f417
      have f426 := set_other e424 f415 n336
      have f428 := set_other e424 f418 n347.symm
      have p431 := p421.keep fun b r hb q => (Chg.set e424).same b r q ((fun zz hz ez => n396 (hz.symm.trans ez)) b hb)
      have x432 := Ext.setNew x422 e424 o338
      obtain ⟨h433, e434⟩ : ∃ zq, zq = h423.setIfInBounds b343 (.cells #[(vI 0)] 23 (0, 0)) := ⟨_, rfl⟩
      have f435 := set_same e434 f428
      have f436 := set_other e434 f426 n346
      have f437 := set_other e434 f425 n347
      have p441 := p431.keep fun b r hb q => (Chg.set e434).same b r q ((fun zz hz ez => n399 (hz.symm.trans ez)) b hb)
      have x442 := Ext.setNew x432 e434 o349
      refine wc_upd (n := 200) (T := ⟨fun r i => match r, i with | 7, 0 => some (undef, h413) | 7, 1 => some (undef, h423) | 7, 2 => some (undef, h433) | _, _ => none, fun _ => none, none⟩) (x := .ret) (h1 := h433) []
        (fun q => (storeT Tryd.prog h7 3 (vP b325 0) (vI 0) = some h413 ∧ (undef : Value) = undef) ∧ (storeT Tryd.prog h413 4 (vP b333 0) (vB false) = some h423 ∧ (undef : Value) = undef) ∧ (storeT Tryd.prog h423 23 (vP b343 0) (vI 0) = some h433 ∧ (undef : Value) = undef) ∧ q) (by intro K'; kernel_rfl) (fun _ q => ⟨⟨by rw [e414]; exact store_cells size3 rfl f408 (by decide) (by simp) rfl (by kernel_rfl), rfl⟩, ⟨by rw [e424]; exact store_cells size4 rfl f417 (by decide) (by simp) rfl (by kernel_rfl), rfl⟩, ⟨by rw [e434]; exact store_cells size23 rfl f428 (by decide) (by simp) rfl (by kernel_rfl), rfl⟩, q⟩) ?_
      obtain ⟨h6, e6⟩ : ∃ zq, zq = h433.setIfInBounds dv (.deferred none) := ⟨_, rfl⟩
      have f443 := set_other e6 f436 n393
      have f444 := set_other e6 f437 n396
      have f445 := set_other e6 f435 n399
      have x6 := Ext.setNew x442 e6 (by omega)
      refine end_mark2 (dv := dv) (Value.tuple #[(vI 0), (vB false), (vI 0)]) { tmps := #[(Value.int .u64 (a)), (Value.int .u64 (b)), (vI (n)), (Value.tuple #[]), (Value.tuple #[]), (Value.tuple #[]), (vP b325 0), (vP b333 0), (vP b343 0), (vI (chk2 (n) (a) (b))), (Value.tuple #[]), (vI (n)), (Value.int .u64 (a)), (Value.int .u64 (b)), (Value.slice (some ⟨b355, 0, none⟩) 2 2), (vI (chk2 (n) (a) (b))), (vI (chk2 (n) (a) (b))), (vB false), (Value.tuple #[]), (Value.int .u64 (a)), (Value.int .u64 (b)), (Value.int .u64 (uand (a) (b))), (Value.func (.func 42) #[] #[(vP b376 0)]), (Value.tuple #[]), (Value.tuple #[])], defers := ([{ target := .collected dv, args := #[] }] ++ []) } (by kernel_rfl) (.inr rfl) rfl p441 ?_ ?_
      · rw [← e6]
        exact resF_cells3 (q1 := 6) (q2 := 7) (q3 := 8) (t1 := 3) (t2 := 4) (t3 := 23) Tryd.func19 (by kernel_rfl) (show loadT Tryd.prog h6 3 (.pointer (some ⟨b325, 0, none⟩)) = some (vI 0) from load_cell agg3 f443 rfl) (show loadT Tryd.prog h6 4 (.pointer (some ⟨b333, 0, none⟩)) = some (vB false) from load_cell agg4 f444 rfl) (show loadT Tryd.prog h6 23 (.pointer (some ⟨b343, 0, none⟩)) = some (vI 0) from load_cell agg23 f445 rfl)
      · rw [← e6]
        exact hK _ _ ⟨by rw [meV, meB, if_neg (fun w => w.2 c407), decide_eq_false (fun w => w.2 c407), c375], x6⟩
    · have hsp : 0 < (uand (a) (b)) ∧ (uand (a) (b)) ≤ 18446744073709551615 := by have := uand_range a b; omega
      obtain ⟨h8, sy, q1, q2, q3, f497, f498, f499, f500⟩ : ∃ h', SoundYield Tryd.prog l #[.int .i64 (tz (uand (a) (b)))] h9 (.bool false) h' ∧ (fun h' => At h' l (.loop { ({ lp with state := .busy } : Loop) with state := .done, pending := some .ret }) ∧ Ext h h' ∧ At h' dv (.deferred (some [])) ∧ h'[b325]? = some (.cells #[(vI (tz (uand (a) (b))))] 3 (0, 0)) ∧ h'[b333]? = some (.cells #[(vB true)] 4 (0, 0)) ∧ h'[b343]? = some (.cells #[(vI 0)] 23 (0, 0)) ∧ h'[b355]? = some (.cells #[(Value.int .u64 (a)), (Value.int .u64 (b))] 22 (0, 0))) h' := by
        refine w_yield_ret (K := (fun h' => At h' l (.loop { ({ lp with state := .busy } : Loop) with state := .done, pending := some .ret }) ∧ Ext h h' ∧ At h' dv (.deferred (some [])) ∧ h'[b325]? = some (.cells #[(vI (tz (uand (a) (b))))] 3 (0, 0)) ∧ h'[b333]? = some (.cells #[(vB true)] 4 (0, 0)) ∧ h'[b343]? = some (.cells #[(vI 0)] 23 (0, 0)) ∧ h'[b355]? = some (.cells #[(Value.int .u64 (a)), (Value.int .u64 (b))] 22 (0, 0)))) pl (by rw [elp]) (by rw [elp]; rfl) { tmps := #[(Value.int .u64 (a)), (Value.int .u64 (b)), (vI (n)), (Value.tuple #[]), (Value.tuple #[]), (Value.tuple #[]), (vP b325 0), (vP b333 0), (vP b343 0), (vI (chk2 (n) (a) (b))), (Value.tuple #[]), (vI (n)), (Value.int .u64 (a)), (Value.int .u64 (b)), (Value.slice (some ⟨b355, 0, none⟩) 2 2), (vI (chk2 (n) (a) (b))), (vI (chk2 (n) (a) (b))), (vB false), (Value.tuple #[]), (Value.int .u64 (a)), (Value.int .u64 (b)), (Value.int .u64 (uand (a) (b))), (Value.func (.func 42) #[] #[(vP b376 0)]), (vI (tz (uand (a) (b)))), (Value.tuple #[])], defers := [] } (by rw [elp]; kernel_rfl) ?_
        refine wc_eqc (show lp.assign = (subc (bodyOf Tryd.prog 19) [1, 1, 0, 1, 0, 0]) by rw [elp]) ?_
        refine wc_upd (n := 200) (T := ⟨fun r i => match r, i with | _, _ => none, fun _ => none, none⟩) (x := .normal) (h1 := h9) [(10, (vI (tz (uand (a) (b)))))]
          (fun q => q) (by intro K'; kernel_rfl) (fun _ q => q) ?_
        refine ⟨rfl, lp, pl, by rw [elp], ?_⟩
        obtain ⟨h446, e447⟩ : ∃ zq, zq = h9.setIfInBounds l (.loop { lp with state := .busy }) := ⟨_, rfl⟩
        have pl2 : At h446 l (.loop { lp with state := .busy }) := set_same e447 pl
        have f448 := set_other e447 f394 n392
        have f449 := set_other e447 f397 n395
        have f450 := set_other e447 f400 n398
        have f451 := set_other e447 f403 n401
        have x453 := Ext.setNew xa e447 (by omega)
        have p454 : At h446 dv (.deferred (some [])) := set_other e447 (show _ = some _ from pd) (by omega)
        rw [← e447]
        refine wc_eqc (show lp.body = (subc (bodyOf Tryd.prog 19) [1, 1, 0, 1, 0, 1]) by rw [elp]) ?_
        obtain ⟨h455, e456⟩ : ∃ zq, zq = h446.setIfInBounds b325 (.cells #[(vI (tz (uand (a) (b))))] 3 (0, 0)) := ⟨_, rfl⟩
        have f457 := set_same e456 f448
        have f459 := set_other e456 f449 n336.symm
        have f460 := set_other e456 f450 n346.symm
        have f461 := set_other e456 f451 n358.symm
        have p463 := pl2.keep fun b r hb q => (Chg.set e456).same b r q ((fun zz hz ez => n392 (hz.symm.trans ez)) b hb)
        have p464 := p454.keep fun b r hb q => (Chg.set e456).same b r q ((fun zz hz ez => n393 (hz.symm.trans ez)) b hb)
        have x465 := Ext.setNew x453 e456 o329
        obtain ⟨h466, e467⟩ : ∃ zq, zq = h455.setIfInBounds b333 (.cells #[(vB true)] 4 (0, 0)) := ⟨_, rfl⟩
        have f468 := set_same e467 f459
        have f469 := set_other e467 f457 n336
        have f471 := set_other e467 f460 n347.symm
        have f472 := set_other e467 f461 n359.symm
        have p474 := p463.keep fun b r hb q => (Chg.set e467).same b r q ((fun zz hz ez => n395 (hz.symm.trans ez)) b hb)
        have p475 := p464.keep fun b r hb q => (Chg.set e467).same b r q ((fun zz hz ez => n396 (hz.symm.trans ez)) b hb)
        have x476 := Ext.setNew x465 e467 o338
        obtain ⟨h477, e478⟩ : ∃ zq, zq = h466.setIfInBounds b343 (.cells #[(vI 0)] 23 (0, 0)) := ⟨_, rfl⟩
        have f479 := set_same e478 f471
        have f480 := set_other e478 f469 n346
        have f481 := set_other e478 f468 n347
        have f483 := set_other e478 f472 n360.symm
        have p485 := p474.keep fun b r hb q => (Chg.set e478).same b r q ((fun zz hz ez => n398 (hz.symm.trans ez)) b hb)
        have p486 := p475.keep fun b r hb q => (Chg.set e478).same b r q ((fun zz hz ez => n399 (hz.symm.trans ez)) b hb)
        have x487 := Ext.setNew x476 e478 o349
        refine wc_upd (n := 200) (T := ⟨fun r i => match r, i with | 6, 1 => some (undef, h455) | 6, 2 => some (undef, h466) | 6, 3 => some (undef, h477) | _, _ => none, fun _ => none, none⟩) (x := .ret) (h1 := h477) [(24, (vI (tz (uand (a) (b)))))]
          (fun q => (storeT Tryd.prog h446 3 (vP b325 0) (vI (tz (uand (a) (b)))) = some h455 ∧ (undef : Value) = undef) ∧ (storeT Tryd.prog h455 4 (vP b333 0) (vB true) = some h466 ∧ (undef : Value) = undef) ∧ (storeT Tryd.prog h466 23 (vP b343 0) (vI 0) = some h477 ∧ (undef : Value) = undef) ∧ q) (by intro K'; kernel_rfl) (fun _ q => ⟨⟨by rw [e456]; exact store_cells size3 rfl f448 (by decide) (by simp) rfl (by kernel_rfl), rfl⟩, ⟨by rw [e467]; exact store_cells size4 rfl f459 (by decide) (by simp) rfl (by kernel_rfl), rfl⟩, ⟨by rw [e478]; exact store_cells size23 rfl f471 (by decide) (by simp) rfl (by kernel_rfl), rfl⟩, q⟩) ?_
        refine ⟨rfl, _, p485, ?_⟩
        obtain ⟨h488, e489⟩ : ∃ zq, zq = h477.setIfInBounds l (.loop { ({ lp with state := .busy } : Loop) with state := .done, pending := some .ret }) := ⟨_, rfl⟩
        have pl4 : At h488 l (.loop { ({ lp with state := .busy } : Loop) with state := .done, pending := some .ret }) := set_same e489 p485
        have f490 := set_other e489 f480 n392
        have f491 := set_other e489 f481 n395
        have f492 := set_other e489 f479 n398
        have f493 := set_other e489 f483 n401
        have x495 := Ext.setNew x487 e489 (by omega)
        have p496 : At h488 dv (.deferred (some [])) := set_other e489 (show _ = some _ from p486) (by omega)
        rw [← e489]
        exact ⟨pl4, x495, p496, f490, f491, f492, f493⟩
      refine wc_range_ret (h1 := h9) (c := (subc (bodyOf Tryd.prog 19) [1, 1, 0, 1, 0])) (g := .tmp 22) (params := #[23]) (assign := (subc (bodyOf Tryd.prog 19) [1, 1, 0, 1, 0, 0])) (body := (subc (bodyOf Tryd.prog 19) [1, 1, 0, 1, 0, 1])) (by kernel_rfl) 42 #[] #[(.pointer (some ⟨b376, 0, none⟩))] l [{ target := .collected dv, args := #[] }] #[(Value.func (.yield l) #[] #[]), (.pointer (some ⟨b376, 0, none⟩))] (by rfl) (by kernel_rfl) (by kernel_rfl) (by kernel_rfl) (by rw [e9, elp, el, edv]; kernel_rfl) ?_
      refine (nodes_first h9 (hg.keep fun b r _ q => xa b r q) l b376 (uand (a) (b)) hsp f406 h8 sy).mono fun _ h8 q => ?_
      subst q
      refine ⟨_, q1, rfl, rfl, ?_⟩
      obtain ⟨h7, e7⟩ : ∃ zq, zq = h8.setIfInBounds l (.loop { (({ ({ lp with state := .busy } : Loop) with state := .done, pending := some .ret }) : Loop) with state := .exhausted }) := ⟨_, rfl⟩
      rw [← e7]
      have f501 := set_other e7 f497 n392
      have f502 := set_other e7 f498 n395
      have f503 := set_other e7 f499 n398
      have pd7 : At h7 dv (.deferred (some [])) := set_other e7 (show h8[dv]? = some _ from q3) (by omega)
      have x7 := Ext.setNew q2 e7 (by omega)
      obtain ⟨h6, e6⟩ : ∃ zq, zq = h7.setIfInBounds dv (.deferred none) := ⟨_, rfl⟩
      have f505 := set_other e6 f501 n393
      have f506 := set_other e6 f502 n396
      have f507 := set_other e6 f503 n399
      have x6 := Ext.setNew x7 e6 (by omega)
      refine end_mark2 (dv := dv) (Value.tuple #[(vI (tz (uand (a) (b)))), (vB true), (vI 0)]) { tmps := #[(Value.int .u64 (a)), (Value.int .u64 (b)), (vI (n)), (Value.tuple #[]), (Value.tuple #[]), (Value.tuple #[]), (vP b325 0), (vP b333 0), (vP b343 0), (vI (chk2 (n) (a) (b))), (Value.tuple #[]), (vI (n)), (Value.int .u64 (a)), (Value.int .u64 (b)), (Value.slice (some ⟨b355, 0, none⟩) 2 2), (vI (chk2 (n) (a) (b))), (vI (chk2 (n) (a) (b))), (vB false), (Value.tuple #[]), (Value.int .u64 (a)), (Value.int .u64 (b)), (Value.int .u64 (uand (a) (b))), (Value.func (.func 42) #[] #[(vP b376 0)]), (Value.tuple #[]), (Value.tuple #[])], defers := ([{ target := .collected dv, args := #[] }] ++ []) } (by kernel_rfl) (.inr rfl) rfl pd7 ?_ ?_
      · rw [← e6]
        exact resF_cells3 (q1 := 6) (q2 := 7) (q3 := 8) (t1 := 3) (t2 := 4) (t3 := 23) Tryd.func19 (by kernel_rfl) (show loadT Tryd.prog h6 3 (.pointer (some ⟨b325, 0, none⟩)) = some (vI (tz (uand (a) (b)))) from load_cell agg3 f505 rfl) (show loadT Tryd.prog h6 4 (.pointer (some ⟨b333, 0, none⟩)) = some (vB true) from load_cell agg4 f506 rfl) (show loadT Tryd.prog h6 23 (.pointer (some ⟨b343, 0, none⟩)) = some (vI 0) from load_cell agg23 f507 rfl)
      · rw [← e6]
        exact hK _ _ ⟨by rw [meV, meB, if_pos ⟨c375, c407⟩, decide_eq_true (⟨c375, c407⟩ : _ ∧ _), c375], x6⟩
  · obtain ⟨h508, e509⟩ : ∃ zq, zq = hh367.setIfInBounds b325 (.cells #[(vI 0)] 3 (0, 0)) := ⟨_, rfl⟩
    have f510 := set_same e509 f370
    have f512 := set_other e509 f371 n336.symm
    have f513 := set_other e509 f372 n346.symm
    have x515 := Ext.setNew x374 e509 o329
    obtain ⟨h516, e517⟩ : ∃ zq, zq = h508.setIfInBounds b333 (.cells #[(vB false)] 4 (0, 0)) := ⟨_, rfl⟩
    have f518 := set_same e517 f512
    have f519 := set_other e517 f510 n336
    have f521 := set_other e517 f513 n347.symm
    have x523 := Ext.setNew x515 e517 o338
    obtain ⟨h524, e525⟩ : ∃ zq, zq = h516.setIfInBounds b343 (.cells #[(vI (chk2 (n) (a) (b)))] 23 (0, 0)) := ⟨_, rfl⟩
    have f526 := set_same e525 f521
    have f527 := set_other e525 f519 n346
    have f528 := set_other e525 f518 n347
    have x531 := Ext.setNew x523 e525 o349
    refine wc_upd (n := 200) (T := ⟨fun r i => match r, i with | 1, 3 => some ((Value.slice (some ⟨b355, 0, none⟩) 2 2), h353) | 1, 4 => some ((vI (chk2 (n) (a) (b))), hh367) | 2, 1 => some ((vB true), hh367) | 3, 1 => some (undef, h508) | 3, 2 => some (undef, h516) | 3, 3 => some (undef, h524) | _, _ => none, fun _ => none, none⟩) (x := .ret) (h1 := h524) [(11, (vI (n))), (12, (Value.int .u64 (a))), (13, (Value.int .u64 (b))), (14, (Value.slice (some ⟨b355, 0, none⟩) 2 2)), (15, (vI (chk2 (n) (a) (b)))), (9, (vI (chk2 (n) (a) (b)))), (16, (vI (chk2 (n) (a) (b)))), (17, (vB true)), (18, (vI (chk2 (n) (a) (b))))]
      (fun q => ((Value.slice (some ⟨b355, 0, none⟩) 2 2) = (Value.slice (some ⟨h341.size, 0, none⟩) 2 2) ∧ h353 = h341.push (.cells #[(Value.int .u64 (a)), (Value.int .u64 (b))] 22 (0, 0))) ∧ SoundCall Tryd.prog 34 #[(vI (n)), (Value.slice (some ⟨b355, 0, none⟩) 2 2)] h353 (vI (chk2 (n) (a) (b))) hh367 ∧ (binA Tryd.prog .neq 23 (vI (chk2 (n) (a) (b))) (vI 0) = some (vB true) ∧ hh367 = hh367) ∧ (storeT Tryd.prog hh367 3 (vP b325 0) (vI 0) = some h508 ∧ (undef : Value) = undef) ∧ (storeT Tryd.prog h508 4 (vP b333 0) (vB false) = some h516 ∧ (undef : Value) = undef) ∧ (storeT Tryd.prog h516 23 (vP b343 0) (vI (chk2 (n) (a) (b))) = some h524 ∧ (undef : Value) = undef) ∧ q) (by intro K'; kernel_rfl) (fun _ q => ⟨⟨by rw [eb356], e354⟩, sn368, ⟨cmp_neq (decide_eq_true c375), rfl⟩, ⟨by rw [e509]; exact store_cells size3 rfl f370 (by decide) (by simp) rfl (by kernel_rfl), rfl⟩, ⟨by rw [e517]; exact store_cells size4 rfl f512 (by decide) (by simp) rfl (by kernel_rfl), rfl⟩, ⟨by rw [e525]; exact store_cells size23 rfl f521 (by decide) (by simp) rfl (by kernel_rfl), rfl⟩, q⟩) ?_
    refine end_at (T := ⟨fun _ _ => none, fun _ => none, some [(vI 0), (vB false), (vI (chk2 (n) (a) (b)))]⟩) (A := (loadT Tryd.prog h524 3 (vP b325 0) = some (vI 0) ∧ loadT Tryd.prog h524 4 (vP b333 0) = some (vB false) ∧ loadT Tryd.prog h524 23 (vP b343 0) = some (vI (chk2 (n) (a) (b))) ∧ True) ∧ K (Value.tuple #[(vI 0), (vB false), (vI (chk2 (n) (a) (b)))]) h524) (by kernel_rfl) ?_
    exact ⟨⟨load_cell agg3 f527 rfl, load_cell agg4 f528 rfl, load_cell agg23 f526 rfl, trivial⟩, hK _ _ ⟨by rw [meV, meB, if_neg (fun w => c375 w.1), decide_eq_false (fun w => c375 w.1)], x531⟩⟩
end C11
