/- The reference: Close. -/
import Derived.Test.YtdcboianihplpaaXr1
import Derived.KernelRfl
open Go Go.AM Go.Proofs
namespace C36
theorem size4 : (Try.prog.info? 4).map (·.size) = some 1 := by kernel_rfl
set_option maxHeartbeats 4000000 in
theorem rclose_ok (h : Heap) {O : Nat → Prop} {t : Nat} {m : RefM} (hT : RefAt h O t m) (hm : m.es.length ≤ 100000) (hr : m.rs.length = m.cs.length) (hh : m.hs.length = m.cs.length) (ha : m.cs.length ≤ 2000) (k e n : Int) (d : ByteArray) : WCall Try.prog 26 #[(vP t 0), (vI (k)), (Value.agg #[(vI (e)), (vI (n)), (vS d)])] h (fun v h1 => (k < 1 ∨ ((m.cs.length : Nat) : Int) < k → v = .int .i64 3 ∧ Ext h h1) ∧ ((1 ≤ k ∧ k ≤ ((m.cs.length : Nat) : Int)) ∧ chkR e n d ≠ 0 → v = .int .i64 2 ∧ Ext h h1) ∧ ((1 ≤ k ∧ k ≤ ((m.cs.length : Nat) : Int)) ∧ chkR e n d = 0 ∧ m.hs.getD (k - 1).toNat false = true → v = .int .i64 6 ∧ Ext h h1) ∧ ((1 ≤ k ∧ k ≤ ((m.cs.length : Nat) : Int)) ∧ chkR e n d = 0 ∧ m.hs.getD (k - 1).toNat false = false → v = .int .i64 0 ∧ Chg O h h1 ∧ RefAt h1 (fun b => O b ∨ h.size ≤ b) t (m.closed k e n d))) := by
  obtain ⟨rc2510, re2511, ac2512, ar2513, ah2514, ae2515, cc2516, cr2517, ch2518, ce2519, T2509⟩ := hT
  have el := T2509.clen.1
  have ee := T2509.clen.2
  obtain ⟨b2522, eb2523⟩ : ∃ zq, zq = h.size := ⟨_, rfl⟩
  obtain ⟨h2520, e2521⟩ : ∃ zq, zq = h.push (.cells #[(vI (e)), (vI (n)), (vS d)] 45 (0, 0)) := ⟨_, rfl⟩
  have f2524 := push_new e2521
  rw [← eb2523] at f2524
  have n2525 : b2522 ≠ t := by have := row_lt T2509.row; omega
  have x2532 : Ext h h2520 := by rw [e2521]; exact Ext.push _ _
  have o2533 : h.size ≤ b2522 := by have := (Chg.refl (O := O) h).size; omega
  have f2534 := x2532 _ _ T2509.row
  have p2535 := T2509.c.keep fun b r _ q => x2532 b r q
  have p2536 := T2509.r.keep fun b r _ q => x2532 b r q
  have p2537 := T2509.hh.keep fun b r _ q => x2532 b r q
  have p2538 := T2509.e.keep fun b r _ q => x2532 b r q
  have p2539 := T2509.csteps.keep fun b r _ q => x2532 b r q
  have p2540 := T2509.esteps.keep fun b r _ q => x2532 b r q
  have x2541 := (Chg.refl (O := O) h).trans (Chg.ext x2532)
  have y2542 := (Ext.refl h).trans x2532
  obtain ⟨_, _, sn2544, rfl, rfl⟩ := rvalid_ok h2520 f2534
  by_cases c2546 : ((k) : Int) < 1
  · exact hCall_of (n := 200) (T := ⟨fun r i => match r, i with | 0, 0 => some ((vP b2522 0), h2520) | 1, 1 => some ((vB true), h2520) | 3, 1 => some ((vB true), h2520) | _, _ => none, fun _ => none, none⟩)
      (A := ((vP b2522 0) = (Value.pointer (some ⟨h.size, 0, none⟩)) ∧ h2520 = h.push (.cells #[(vI (e)), (vI (n)), (vS d)] 45 (0, 0))) ∧ SoundCall Try.prog 47 #[(vP t 0)] h2520 (vB true) h2520 ∧ (binA Try.prog .lss 3 (vI (k)) (vI 1) = some (vB true) ∧ h2520 = h2520) ∧ (fun v h1 => (k < 1 ∨ ((m.cs.length : Nat) : Int) < k → v = .int .i64 3 ∧ Ext h h1) ∧ ((1 ≤ k ∧ k ≤ ((m.cs.length : Nat) : Int)) ∧ chkR e n d ≠ 0 → v = .int .i64 2 ∧ Ext h h1) ∧ ((1 ≤ k ∧ k ≤ ((m.cs.length : Nat) : Int)) ∧ chkR e n d = 0 ∧ m.hs.getD (k - 1).toNat false = true → v = .int .i64 6 ∧ Ext h h1) ∧ ((1 ≤ k ∧ k ≤ ((m.cs.length : Nat) : Int)) ∧ chkR e n d = 0 ∧ m.hs.getD (k - 1).toNat false = false → v = .int .i64 0 ∧ Chg O h h1 ∧ RefAt h1 (fun b => O b ∨ h.size ≤ b) t (m.closed k e n d))) (vI 3) h2520) (by kernel_rfl) ⟨⟨by rw [eb2523], e2521⟩, sn2544, ⟨cmp_lss (decide_eq_true c2546), rfl⟩, ⟨fun _ => ⟨rfl, y2542⟩, fun q => absurd q (by omega), fun q => absurd q (by omega), fun q => absurd q (by omega)⟩⟩
  · by_cases c2547 : (((rc2510.length : Nat)) : Int) < (k)
    · exact hCall_of (n := 200) (T := ⟨fun r i => match r, i with | 0, 0 => some ((vP b2522 0), h2520) | 1, 1 => some ((vB true), h2520) | 3, 1 => some ((vB false), h2520) | 3, 7 => some ((Value.slice ac2512 (rc2510.length) (cc2516)), h2520) | 3, 9 => some ((vB true), h2520) | _, _ => none, fun _ => none, none⟩)
        (A := ((vP b2522 0) = (Value.pointer (some ⟨h.size, 0, none⟩)) ∧ h2520 = h.push (.cells #[(vI (e)), (vI (n)), (vS d)] 45 (0, 0))) ∧ SoundCall Try.prog 47 #[(vP t 0)] h2520 (vB true) h2520 ∧ (binA Try.prog .lss 3 (vI (k)) (vI 1) = some (vB false) ∧ h2520 = h2520) ∧ (loadT Try.prog h2520 86 (vP t 1) = some (Value.slice ac2512 (rc2510.length) (cc2516)) ∧ h2520 = h2520) ∧ (binA Try.prog .gtr 3 (vI (k)) (vI ((rc2510.length : Nat))) = some (vB true) ∧ h2520 = h2520) ∧ (fun v h1 => (k < 1 ∨ ((m.cs.length : Nat) : Int) < k → v = .int .i64 3 ∧ Ext h h1) ∧ ((1 ≤ k ∧ k ≤ ((m.cs.length : Nat) : Int)) ∧ chkR e n d ≠ 0 → v = .int .i64 2 ∧ Ext h h1) ∧ ((1 ≤ k ∧ k ≤ ((m.cs.length : Nat) : Int)) ∧ chkR e n d = 0 ∧ m.hs.getD (k - 1).toNat false = true → v = .int .i64 6 ∧ Ext h h1) ∧ ((1 ≤ k ∧ k ≤ ((m.cs.length : Nat) : Int)) ∧ chkR e n d = 0 ∧ m.hs.getD (k - 1).toNat false = false → v = .int .i64 0 ∧ Chg O h h1 ∧ RefAt h1 (fun b => O b ∨ h.size ≤ b) t (m.closed k e n d))) (vI 3) h2520) (by kernel_rfl) ⟨⟨by rw [eb2523], e2521⟩, sn2544, ⟨cmp_lss (decide_eq_false c2546), rfl⟩, ⟨load_cell agg86 f2534 rfl, rfl⟩, ⟨cmp_gtr (decide_eq_true c2547), rfl⟩, ⟨fun _ => ⟨rfl, y2542⟩, fun q => absurd q (by omega), fun q => absurd q (by omega), fun q => absurd q (by omega)⟩⟩
    · obtain ⟨_, hh2548, sn2549, rfl, x2550⟩ := check49 h2520 (e) (n) d
      have f2551 := x2550 _ _ f2534
      have f2552 := x2550 _ _ f2524
      have p2553 := p2535.keep fun b r _ q => x2550 b r q
      have p2554 := p2536.keep fun b r _ q => x2550 b r q
      have p2555 := p2537.keep fun b r _ q => x2550 b r q
      have p2556 := p2538.keep fun b r _ q => x2550 b r q
      have p2557 := p2539.keep fun b r _ q => x2550 b r q
      have p2558 := p2540.keep fun b r _ q => x2550 b r q
      have x2559 := x2541.trans (Chg.ext x2550)
      have y2560 := y2542.trans x2550
      by_cases c2561 : ((chkR (e) (n) d) : Int) = 0
      · obtain ⟨i2562, v2563, e2564, l2565, g2566⟩ := list_at m.hs (e := ((k) - 1)) (by omega) (by omega)
        obtain ⟨b2567, o2568, q2570, a2571, k2569, u2572⟩ := p2555.store bcell_size g2566
        rcases Bool.eq_false_or_eq_true (v2563) with c2573 | c2573
        · have hj : i2562 = (k - 1).toNat := by omega
          have hd : m.hs.getD (k - 1).toNat false = v2563 := by rw [← hj]; rw [List.getD_eq_getElem?_getD, g2566]; rfl
          exact hCall_of (n := 200) (T := ⟨fun r i => match r, i with | 0, 0 => some ((vP b2522 0), h2520) | 1, 1 => some ((vB true), h2520) | 3, 1 => some ((vB false), h2520) | 3, 7 => some ((Value.slice ac2512 (rc2510.length) (cc2516)), h2520) | 3, 9 => some ((vB false), h2520) | 5, 0 => some ((Value.agg #[(vI (e)), (vI (n)), (vS d)]), h2520) | 5, 1 => some ((vI (chkR (e) (n) d)), hh2548) | 5, 2 => some ((vB false), hh2548) | 7, 3 => some ((Value.slice ah2514 (m.hs.length) (ch2518)), hh2548) | 7, 5 => some ((vI ((k) - 1)), hh2548) | 7, 6 => some ((vP b2567 o2568), hh2548) | 7, 7 => some ((vB true), hh2548) | _, _ => none, fun _ => none, none⟩)
            (A := ((vP b2522 0) = (Value.pointer (some ⟨h.size, 0, none⟩)) ∧ h2520 = h.push (.cells #[(vI (e)), (vI (n)), (vS d)] 45 (0, 0))) ∧ SoundCall Try.prog 47 #[(vP t 0)] h2520 (vB true) h2520 ∧ (binA Try.prog .lss 3 (vI (k)) (vI 1) = some (vB false) ∧ h2520 = h2520) ∧ (loadT Try.prog h2520 86 (vP t 1) = some (Value.slice ac2512 (rc2510.length) (cc2516)) ∧ h2520 = h2520) ∧ (binA Try.prog .gtr 3 (vI (k)) (vI ((rc2510.length : Nat))) = some (vB false) ∧ h2520 = h2520) ∧ (loadT Try.prog h2520 45 (vP b2522 0) = some (Value.agg #[(vI (e)), (vI (n)), (vS d)]) ∧ h2520 = h2520) ∧ SoundCall Try.prog 49 #[(Value.agg #[(vI (e)), (vI (n)), (vS d)])] h2520 (vI (chkR (e) (n) d)) hh2548 ∧ (binA Try.prog .neq 28 (vI (chkR (e) (n) d)) (vI 0) = some (vB false) ∧ hh2548 = hh2548) ∧ (loadT Try.prog hh2548 88 (vP t 3) = some (Value.slice ah2514 (m.hs.length) (ch2518)) ∧ hh2548 = hh2548) ∧ (binA Try.prog .sub 3 (vI (k)) (vI 1) = some (vI ((k) - 1)) ∧ hh2548 = hh2548) ∧ (indexAddrA Try.prog 88 (Value.slice ah2514 (m.hs.length) (ch2518)) (vI ((k) - 1)) = some (vP b2567 o2568) ∧ hh2548 = hh2548) ∧ (loadT Try.prog hh2548 4 (vP b2567 o2568) = some (vB true) ∧ hh2548 = hh2548) ∧ (fun v h1 => (k < 1 ∨ ((m.cs.length : Nat) : Int) < k → v = .int .i64 3 ∧ Ext h h1) ∧ ((1 ≤ k ∧ k ≤ ((m.cs.length : Nat) : Int)) ∧ chkR e n d ≠ 0 → v = .int .i64 2 ∧ Ext h h1) ∧ ((1 ≤ k ∧ k ≤ ((m.cs.length : Nat) : Int)) ∧ chkR e n d = 0 ∧ m.hs.getD (k - 1).toNat false = true → v = .int .i64 6 ∧ Ext h h1) ∧ ((1 ≤ k ∧ k ≤ ((m.cs.length : Nat) : Int)) ∧ chkR e n d = 0 ∧ m.hs.getD (k - 1).toNat false = false → v = .int .i64 0 ∧ Chg O h h1 ∧ RefAt h1 (fun b => O b ∨ h.size ≤ b) t (m.closed k e n d))) (vI 6) hh2548) (by kernel_rfl) ⟨⟨by rw [eb2523], e2521⟩, sn2544, ⟨cmp_lss (decide_eq_false c2546), rfl⟩, ⟨load_cell agg86 f2534 rfl, rfl⟩, ⟨cmp_gtr (decide_eq_false c2547), rfl⟩, ⟨load_agg agg45 size45 f2524 (by simp) (by kernel_rfl), rfl⟩, sn2549, ⟨cmp_neq (decide_eq_false (not_not_intro c2561)), rfl⟩, ⟨load_cell agg88 f2551 rfl, rfl⟩, ⟨sub_i64 (by omega) (by omega), rfl⟩, ⟨a2571 und88 size4 e2564, rfl⟩, ⟨(by rw [← c2573]; exact k2569.cell (j := 0) agg4 rfl), rfl⟩, ⟨fun q => absurd q (by omega), fun q => absurd q (by omega), fun _ => ⟨rfl, y2560⟩, fun q => absurd q.2.2 (by rw [hd, c2573]; decide)⟩⟩
        · obtain ⟨b2576, eb2577⟩ : ∃ zq, zq = hh2548.size := ⟨_, rfl⟩
          obtain ⟨h2574, e2575⟩ : ∃ zq, zq = hh2548.push (.cells #[] 45 (0, 0)) := ⟨_, rfl⟩
          have f2578 := push_new e2575
          rw [← eb2577] at f2578
          have n2579 : b2576 ≠ t := by have := row_lt f2551; omega
          have n2580 : b2576 ≠ b2522 := by have := row_lt f2552; omega
          have n2581 : ∀ zz, (blk (Value.slice ac2512 (rc2510.length) (cc2516))) zz → ¬ zz = b2576 := fun zz hz ez => by have := p2553.blk_lt hz; omega
          have n2584 : ∀ zz, (blk (Value.slice ae2515 (re2511.length) (ce2519))) zz → ¬ zz = b2576 := fun zz hz ez => by have := p2556.blk_lt hz; omega
          have n2585 : ∀ zz, (cfoot rc2510) zz → ¬ zz = b2576 := fun zz hz ez => by have := p2557.blk_lt hz; omega
          have n2586 : ∀ zz, (sfoot re2511) zz → ¬ zz = b2576 := fun zz hz ez => by have := p2558.blk_lt hz; omega
          have x2588 : Ext hh2548 h2574 := by rw [e2575]; exact Ext.push _ _
          have o2589 : h.size ≤ b2576 := by have := x2559.size; omega
          have f2590 := x2588 _ _ f2551
          have f2591 := x2588 _ _ f2552
          have p2592 := p2553.keep fun b r _ q => x2588 b r q
          have p2593 := p2554.keep fun b r _ q => x2588 b r q
          have p2594 := p2555.keep fun b r _ q => x2588 b r q
          have p2595 := p2556.keep fun b r _ q => x2588 b r q
          have p2596 := p2557.keep fun b r _ q => x2588 b r q
          have p2597 := p2558.keep fun b r _ q => x2588 b r q
          have x2599 := x2559.trans (Chg.ext x2588)
          have y2600 := y2560.trans x2588
          obtain ⟨w2601, h2602, e2603, p2604, x2605, n2606⟩ := own_clone und87 sizeb45 zero45 rfl (by decide) repc_size f2578 (p2593.slice repc_size) (by omega) (by unfold maxLen; omega)
          obtain ⟨a2607, c2608, rfl⟩ := (p2604.slice repc_size).len
          have z2611 : b2576 < h2574.size := row_lt f2578
          have n2610 : ∀ zz, blk (Value.slice a2607 (m.rs.length) (c2608)) zz → zz = b2576 ∨ h2574.size ≤ zz := fun zz hz => by rcases n2606 zz hz with e | e <;> omega
          have n2612 : ∀ zz, blk (Value.slice a2607 (m.rs.length) (c2608)) zz → ¬ zz = t := fun zz hz ez => by have := n2579; have := row_lt f2590; rcases n2610 zz hz with g | g <;> omega
          have n2613 : ∀ zz, blk (Value.slice a2607 (m.rs.length) (c2608)) zz → ¬ zz = b2522 := fun zz hz ez => by have := n2580; have := row_lt f2591; rcases n2610 zz hz with g | g <;> omega
          have n2614 : ∀ zz, blk (Value.slice a2607 (m.rs.length) (c2608)) zz → ¬ (blk (Value.slice ac2512 (rc2510.length) (cc2516))) zz := fun zz hz ez => by have := p2592.blk_lt ez; rcases n2610 zz hz with g | g; (subst g; exact n2581 _ ez rfl); omega
          have n2617 : ∀ zz, blk (Value.slice a2607 (m.rs.length) (c2608)) zz → ¬ (blk (Value.slice ae2515 (re2511.length) (ce2519))) zz := fun zz hz ez => by have := p2595.blk_lt ez; rcases n2610 zz hz with g | g; (subst g; exact n2584 _ ez rfl); omega
          have n2618 : ∀ zz, blk (Value.slice a2607 (m.rs.length) (c2608)) zz → ¬ (cfoot rc2510) zz := fun zz hz ez => by have := p2596.blk_lt ez; rcases n2610 zz hz with g | g; (subst g; exact n2585 _ ez rfl); omega
          have n2619 : ∀ zz, blk (Value.slice a2607 (m.rs.length) (c2608)) zz → ¬ (sfoot re2511) zz := fun zz hz ez => by have := p2597.blk_lt ez; rcases n2610 zz hz with g | g; (subst g; exact n2586 _ ez rfl); omega
          have o2621 : ∀ zz, blk (Value.slice a2607 (m.rs.length) (c2608)) zz → h.size ≤ zz := fun zz hz => by have := o2589; have := x2599.size; rcases n2610 zz hz with g | g <;> omega
          have f2622 := x2605 _ _ f2590
          have f2623 := x2605 _ _ f2591
          have p2625 := p2592.keep fun b r _ q => x2605 b r q
          have p2627 := p2594.keep fun b r _ q => x2605 b r q
          have p2628 := p2595.keep fun b r _ q => x2605 b r q
          have p2629 := p2596.keep fun b r _ q => x2605 b r q
          have p2630 := p2597.keep fun b r _ q => x2605 b r q
          have x2632 := x2599.trans (Chg.ext x2605)
          have y2633 := y2600.trans x2605
          obtain ⟨h2634, e2635⟩ : ∃ zq, zq = h2602.setIfInBounds t (.cells #[(vB true), (Value.slice ac2512 (rc2510.length) (cc2516)), (Value.slice a2607 (m.rs.length) (c2608)), (Value.slice ah2514 (m.hs.length) (ch2518)), (Value.slice ae2515 (re2511.length) (ce2519))] 90 (0, 0)) := ⟨_, rfl⟩
          have f2636 := set_same e2635 f2622
          have f2638 := set_other e2635 f2623 n2525.symm
          have p2639 := p2625.keep fun b r hb q => (Chg.set e2635).same b r q ((fun b hb => p2625.ne f2622 (by decide) hb) b hb)
          have p2641 := p2627.keep fun b r hb q => (Chg.set e2635).same b r q ((fun b hb => p2627.ne f2622 (by decide) hb) b hb)
          have p2642 := p2628.keep fun b r hb q => (Chg.set e2635).same b r q ((fun b hb => p2628.ne f2622 (by decide) hb) b hb)
          have p2643 := p2629.keep fun b r hb q => (Chg.set e2635).same b r q ((fun b hb => p2629.ne f2622 (by decide) hb) b hb)
          have p2644 := p2630.keep fun b r hb q => (Chg.set e2635).same b r q ((fun b hb => p2630.ne f2622 (by decide) hb) b hb)
          have p2645 := p2604.keep fun b r hb q => (Chg.set e2635).same b r q (n2612 b hb)
          have x2646 := x2632.then (Chg.set e2635) (fun b hb => by subst hb; exact (.inl T2509.inT))
          obtain ⟨b2649, eb2650⟩ : ∃ zq, zq = h2634.size := ⟨_, rfl⟩
          obtain ⟨h2647, e2648⟩ : ∃ zq, zq = h2634.push (.cells #[] 4 (0, 0)) := ⟨_, rfl⟩
          have f2651 := push_new e2648
          rw [← eb2650] at f2651
          have n2652 : b2649 ≠ t := by have := row_lt f2636; omega
          have n2653 : b2649 ≠ b2522 := by have := row_lt f2638; omega
          have n2654 : ∀ zz, (blk (Value.slice ac2512 (rc2510.length) (cc2516))) zz → ¬ zz = b2649 := fun zz hz ez => by have := p2639.blk_lt hz; omega
          have n2657 : ∀ zz, (blk (Value.slice ae2515 (re2511.length) (ce2519))) zz → ¬ zz = b2649 := fun zz hz ez => by have := p2642.blk_lt hz; omega
          have n2658 : ∀ zz, (cfoot rc2510) zz → ¬ zz = b2649 := fun zz hz ez => by have := p2643.blk_lt hz; omega
          have n2659 : ∀ zz, (sfoot re2511) zz → ¬ zz = b2649 := fun zz hz ez => by have := p2644.blk_lt hz; omega
          have n2660 : ∀ zz, (blk (Value.slice a2607 (m.rs.length) (c2608))) zz → ¬ zz = b2649 := fun zz hz ez => by have := p2645.blk_lt hz; omega
          have x2661 : Ext h2634 h2647 := by rw [e2648]; exact Ext.push _ _
          have o2662 : h.size ≤ b2649 := by have := x2646.size; omega
          have f2663 := x2661 _ _ f2636
          have f2664 := x2661 _ _ f2638
          have p2665 := p2639.keep fun b r _ q => x2661 b r q
          have p2667 := p2641.keep fun b r _ q => x2661 b r q
          have p2668 := p2642.keep fun b r _ q => x2661 b r q
          have p2669 := p2643.keep fun b r _ q => x2661 b r q
          have p2670 := p2644.keep fun b r _ q => x2661 b r q
          have p2671 := p2645.keep fun b r _ q => x2661 b r q
          have x2672 := x2646.trans (Chg.ext x2661)
          obtain ⟨w2673, h2674, e2675, p2676, x2677, n2678⟩ := own_clone und88 sizeb4 zero4 rfl (by decide) bcell_size f2651 (p2667.slice bcell_size) (by omega) (by unfold maxLen; omega)
          obtain ⟨a2679, c2680, rfl⟩ := (p2676.slice bcell_size).len
          have z2683 : b2649 < h2647.size := row_lt f2651
          have n2682 : ∀ zz, blk (Value.slice a2679 (m.hs.length) (c2680)) zz → zz = b2649 ∨ h2647.size ≤ zz := fun zz hz => by rcases n2678 zz hz with e | e <;> omega
          have n2684 : ∀ zz, blk (Value.slice a2679 (m.hs.length) (c2680)) zz → ¬ zz = t := fun zz hz ez => by have := n2652; have := row_lt f2663; rcases n2682 zz hz with g | g <;> omega
          have n2685 : ∀ zz, blk (Value.slice a2679 (m.hs.length) (c2680)) zz → ¬ zz = b2522 := fun zz hz ez => by have := n2653; have := row_lt f2664; rcases n2682 zz hz with g | g <;> omega
          have n2686 : ∀ zz, blk (Value.slice a2679 (m.hs.length) (c2680)) zz → ¬ (blk (Value.slice ac2512 (rc2510.length) (cc2516))) zz := fun zz hz ez => by have := p2665.blk_lt ez; rcases n2682 zz hz with g | g; (subst g; exact n2654 _ ez rfl); omega
          have n2689 : ∀ zz, blk (Value.slice a2679 (m.hs.length) (c2680)) zz → ¬ (blk (Value.slice ae2515 (re2511.length) (ce2519))) zz := fun zz hz ez => by have := p2668.blk_lt ez; rcases n2682 zz hz with g | g; (subst g; exact n2657 _ ez rfl); omega
          have n2690 : ∀ zz, blk (Value.slice a2679 (m.hs.length) (c2680)) zz → ¬ (cfoot rc2510) zz := fun zz hz ez => by have := p2669.blk_lt ez; rcases n2682 zz hz with g | g; (subst g; exact n2658 _ ez rfl); omega
          have n2691 : ∀ zz, blk (Value.slice a2679 (m.hs.length) (c2680)) zz → ¬ (sfoot re2511) zz := fun zz hz ez => by have := p2670.blk_lt ez; rcases n2682 zz hz with g | g; (subst g; exact n2659 _ ez rfl); omega
          have n2692 : ∀ zz, blk (Value.slice a2679 (m.hs.length) (c2680)) zz → ¬ (blk (Value.slice a2607 (m.rs.length) (c2608))) zz := fun zz hz ez => by have := p2671.blk_lt ez; rcases n2682 zz hz with g | g; (subst g; exact n2660 _ ez rfl); omega
          have o2693 : ∀ zz, blk (Value.slice a2679 (m.hs.length) (c2680)) zz → h.size ≤ zz := fun zz hz => by have := o2662; have := x2672.size; rcases n2682 zz hz with g | g <;> omega
          have f2694 := x2677 _ _ f2663
          have f2695 := x2677 _ _ f2664
          have p2697 := p2665.keep fun b r _ q => x2677 b r q
          have p2700 := p2668.keep fun b r _ q => x2677 b r q
          have p2701 := p2669.keep fun b r _ q => x2677 b r q
          have p2702 := p2670.keep fun b r _ q => x2677 b r q
          have p2703 := p2671.keep fun b r _ q => x2677 b r q
          have x2704 := x2672.trans (Chg.ext x2677)
          obtain ⟨h2705, e2706⟩ : ∃ zq, zq = h2674.setIfInBounds t (.cells #[(vB true), (Value.slice ac2512 (rc2510.length) (cc2516)), (Value.slice a2607 (m.rs.length) (c2608)), (Value.slice a2679 (m.hs.length) (c2680)), (Value.slice ae2515 (re2511.length) (ce2519))] 90 (0, 0)) := ⟨_, rfl⟩
          have f2707 := set_same e2706 f2694
          have f2709 := set_other e2706 f2695 n2525.symm
          have p2710 := p2697.keep fun b r hb q => (Chg.set e2706).same b r q ((fun b hb => p2697.ne f2694 (by decide) hb) b hb)
          have p2713 := p2700.keep fun b r hb q => (Chg.set e2706).same b r q ((fun b hb => p2700.ne f2694 (by decide) hb) b hb)
          have p2714 := p2701.keep fun b r hb q => (Chg.set e2706).same b r q ((fun b hb => p2701.ne f2694 (by decide) hb) b hb)
          have p2715 := p2702.keep fun b r hb q => (Chg.set e2706).same b r q ((fun b hb => p2702.ne f2694 (by decide) hb) b hb)
          have p2716 := p2703.keep fun b r hb q => (Chg.set e2706).same b r q (n2612 b hb)
          have p2717 := p2676.keep fun b r hb q => (Chg.set e2706).same b r q (n2684 b hb)
          have x2718 := x2704.then (Chg.set e2706) (fun b hb => by subst hb; exact (.inl T2509.inT))
          obtain ⟨i2719, v2720, e2721, l2722, g2723⟩ := list_at m.rs (e := ((k) - 1)) (by omega) (by omega)
          obtain ⟨b2724, o2725, q2727, a2728, k2726, u2729⟩ := p2716.store repc_size g2723
          obtain ⟨h2730, e2731, p2732, c2733, z2734⟩ := u2729 (j := 0) (y := (RepM.mk (e : Int) (n : Int) (d : ByteArray))) (u := (Value.agg #[(vI (e)), (vI (n)), (vS d)])) size45 rfl rfl (by decide) (by kernel_rfl)
          have c2735 : Chg (blk (Value.slice a2607 (m.rs.length) (c2608))) h2705 h2730 := c2733.weak fun q hq => by subst hq; exact q2727
          have z2736 : h.size ≤ h2705.size := x2718.size
          have x2737 := x2718.then c2735 (fun b hb => .inr (o2621 b hb))
          have f2738 := c2735.same _ _ f2707 (fun hb => n2612 _ hb rfl)
          have f2739 := c2735.same _ _ f2709 (fun hb => n2613 _ hb rfl)
          have p2740 := p2710.keep fun b r hb q => c2735.same b r q ((fun b hb hb2 => n2614 b hb2 hb) b hb)
          have p2743 := p2713.keep fun b r hb q => c2735.same b r q ((fun b hb hb2 => n2617 b hb2 hb) b hb)
          have p2744 := p2714.keep fun b r hb q => c2735.same b r q ((fun b hb hb2 => n2618 b hb2 hb) b hb)
          have p2745 := p2715.keep fun b r hb q => c2735.same b r q ((fun b hb hb2 => n2619 b hb2 hb) b hb)
          have p2746 := p2717.keep fun b r hb q => c2735.same b r q (n2692 b hb)
          obtain ⟨b2752, o2753, q2755, a2756, k2754, u2757⟩ := p2746.store bcell_size g2566
          obtain ⟨h2758, e2759, p2760, c2761, z2762⟩ := u2757 (j := 0) (y := (true : Bool)) (u := (vB true)) size4 rfl rfl (by decide) (by kernel_rfl)
          have c2763 : Chg (blk (Value.slice a2679 (m.hs.length) (c2680))) h2730 h2758 := c2761.weak fun q hq => by subst hq; exact q2755
          have z2764 : h.size ≤ h2730.size := x2737.size
          have x2765 := x2737.then c2763 (fun b hb => .inr (o2693 b hb))
          have f2766 := c2763.same _ _ f2738 (fun hb => n2684 _ hb rfl)
          have f2767 := c2763.same _ _ f2739 (fun hb => n2685 _ hb rfl)
          have p2768 := p2740.keep fun b r hb q => c2763.same b r q ((fun b hb hb2 => n2686 b hb2 hb) b hb)
          have p2771 := p2743.keep fun b r hb q => c2763.same b r q ((fun b hb hb2 => n2689 b hb2 hb) b hb)
          have p2772 := p2744.keep fun b r hb q => c2763.same b r q ((fun b hb hb2 => n2690 b hb2 hb) b hb)
          have p2773 := p2745.keep fun b r hb q => c2763.same b r q ((fun b hb hb2 => n2691 b hb2 hb) b hb)
          have p2774 := p2732.keep fun b r hb q => c2763.same b r q ((fun b hb hb2 => n2692 b hb2 hb) b hb)
          obtain ⟨b2777, eb2778⟩ : ∃ zq, zq = h2758.size := ⟨_, rfl⟩
          obtain ⟨h2775, e2776⟩ : ∃ zq, zq = h2758.push (.cells #[] 47 (0, 0)) := ⟨_, rfl⟩
          have f2779 := push_new e2776
          rw [← eb2778] at f2779
          have n2780 : b2777 ≠ t := by have := row_lt f2766; omega
          have n2782 : ∀ zz, (blk (Value.slice ac2512 (rc2510.length) (cc2516))) zz → ¬ zz = b2777 := fun zz hz ez => by have := p2768.blk_lt hz; omega
          have n2786 : ∀ zz, (cfoot rc2510) zz → ¬ zz = b2777 := fun zz hz ez => by have := p2772.blk_lt hz; omega
          have n2787 : ∀ zz, (sfoot re2511) zz → ¬ zz = b2777 := fun zz hz ez => by have := p2773.blk_lt hz; omega
          have n2788 : ∀ zz, (blk (Value.slice a2607 (m.rs.length) (c2608))) zz → ¬ zz = b2777 := fun zz hz ez => by have := p2774.blk_lt hz; omega
          have n2789 : ∀ zz, (blk (Value.slice a2679 (m.hs.length) (c2680))) zz → ¬ zz = b2777 := fun zz hz ez => by have := p2760.blk_lt hz; omega
          have x2790 : Ext h2758 h2775 := by rw [e2776]; exact Ext.push _ _
          have o2791 : h.size ≤ b2777 := by have := x2765.size; omega
          have f2792 := x2790 _ _ f2766
          have f2793 := x2790 _ _ f2767
          have p2794 := p2768.keep fun b r _ q => x2790 b r q
          have p2797 := p2771.keep fun b r _ q => x2790 b r q
          have p2798 := p2772.keep fun b r _ q => x2790 b r q
          have p2799 := p2773.keep fun b r _ q => x2790 b r q
          have p2800 := p2774.keep fun b r _ q => x2790 b r q
          have p2801 := p2760.keep fun b r _ q => x2790 b r q
          have x2802 := x2765.trans (Chg.ext x2790)
          obtain ⟨b2805, eb2806⟩ : ∃ zq, zq = h2775.size := ⟨_, rfl⟩
          obtain ⟨h2803, e2804⟩ : ∃ zq, zq = h2775.push (.cells #[(vI (k)), (vB true), (vI 0), (vI 0), (vI 0), (vI 0), (vI 0), (vI 0), (vS .empty), (vI 0), (vI 0), (vS .empty), (vS .empty), (vI 0), (vS .empty), (vI 0), (vI 0), (Value.slice none 0 0), (vI 0), (vI 0), (vI 0), (vI 0), (vB false), (vI 0), (vI 0), (vS .empty), (vI (e)), (vI (n)), (vS d)] 47 (0, 0)) := ⟨_, rfl⟩
          have f2807 := push_new e2804
          rw [← eb2806] at f2807
          have x2819 : Ext h2775 h2803 := by rw [e2804]; exact Ext.push _ _
          have o2820 : h.size ≤ b2805 := by have := x2802.size; omega
          have f2821 := x2819 _ _ f2792
          have f2822 := x2819 _ _ f2793
          have f2823 := x2819 _ _ f2779
          have p2824 := p2794.keep fun b r _ q => x2819 b r q
          have p2827 := p2797.keep fun b r _ q => x2819 b r q
          have p2828 := p2798.keep fun b r _ q => x2819 b r q
          have p2829 := p2799.keep fun b r _ q => x2819 b r q
          have p2830 := p2800.keep fun b r _ q => x2819 b r q
          have p2831 := p2801.keep fun b r _ q => x2819 b r q
          have x2832 := x2802.trans (Chg.ext x2819)
          obtain ⟨w2833, h2834, e2835, p2836, x2837, n2838⟩ := own_clone und31 sizeb47 zero47 rfl (by decide) evc_size f2823 (p2827.slice evc_size) (by omega) (by unfold maxLen; omega)
          obtain ⟨a2839, c2840, rfl⟩ := (p2836.slice evc_size).len
          have z2843 : b2777 < h2803.size := row_lt f2823
          have n2842 : ∀ zz, blk (Value.slice a2839 (re2511.length) (c2840)) zz → zz = b2777 ∨ h2803.size ≤ zz := fun zz hz => by rcases n2838 zz hz with e | e <;> omega
          have n2844 : ∀ zz, blk (Value.slice a2839 (re2511.length) (c2840)) zz → ¬ zz = t := fun zz hz ez => by have := n2780; have := row_lt f2821; rcases n2842 zz hz with g | g <;> omega
          have n2847 : ∀ zz, blk (Value.slice a2839 (re2511.length) (c2840)) zz → ¬ (blk (Value.slice ac2512 (rc2510.length) (cc2516))) zz := fun zz hz ez => by have := p2824.blk_lt ez; rcases n2842 zz hz with g | g; (subst g; exact n2782 _ ez rfl); omega
          have n2851 : ∀ zz, blk (Value.slice a2839 (re2511.length) (c2840)) zz → ¬ (cfoot rc2510) zz := fun zz hz ez => by have := p2828.blk_lt ez; rcases n2842 zz hz with g | g; (subst g; exact n2786 _ ez rfl); omega
          have n2852 : ∀ zz, blk (Value.slice a2839 (re2511.length) (c2840)) zz → ¬ (sfoot re2511) zz := fun zz hz ez => by have := p2829.blk_lt ez; rcases n2842 zz hz with g | g; (subst g; exact n2787 _ ez rfl); omega
          have n2853 : ∀ zz, blk (Value.slice a2839 (re2511.length) (c2840)) zz → ¬ (blk (Value.slice a2607 (m.rs.length) (c2608))) zz := fun zz hz ez => by have := p2830.blk_lt ez; rcases n2842 zz hz with g | g; (subst g; exact n2788 _ ez rfl); omega
          have n2854 : ∀ zz, blk (Value.slice a2839 (re2511.length) (c2840)) zz → ¬ (blk (Value.slice a2679 (m.hs.length) (c2680))) zz := fun zz hz ez => by have := p2831.blk_lt ez; rcases n2842 zz hz with g | g; (subst g; exact n2789 _ ez rfl); omega
          have o2855 : ∀ zz, blk (Value.slice a2839 (re2511.length) (c2840)) zz → h.size ≤ zz := fun zz hz => by have := o2791; have := x2832.size; rcases n2842 zz hz with g | g <;> omega
          have f2856 := x2837 _ _ f2821
          have f2857 := x2837 _ _ f2822
          have f2859 := x2837 _ _ f2807
          have p2860 := p2824.keep fun b r _ q => x2837 b r q
          have p2864 := p2828.keep fun b r _ q => x2837 b r q
          have p2865 := p2829.keep fun b r _ q => x2837 b r q
          have p2866 := p2830.keep fun b r _ q => x2837 b r q
          have p2867 := p2831.keep fun b r _ q => x2837 b r q
          have x2868 := x2832.trans (Chg.ext x2837)
          obtain ⟨w2869, h2870, e2871, p2872, c2873, n2874, z2875⟩ := own_append und31 sizeb47 zero47 rfl (by decide) evc_size (x := ((EvM.mk (k : Int) (true : Bool) (CmdM.mk (0 : Int) (0 : Int) (0 : Int) (0 : Int) (0 : Int) (0 : Int) (.empty : ByteArray) (0 : Int) (0 : Int) (.empty : ByteArray) (.empty : ByteArray) (0 : Int) (.empty : ByteArray) (0 : Int) (0 : Int) ([] : List StepM) (0 : Int) (0 : Int) (0 : Int) (0 : Int) (false : Bool) (0 : Int) (0 : Int) (.empty : ByteArray)) (e : Int) (n : Int) (d : ByteArray), none, 0) : EvM × Option Addr × Nat)) p2836 f2859 rfl (by omega) (by unfold maxLen; omega)
          obtain ⟨a2876, c2877, rfl⟩ := (p2872.slice evc_size).len
          have z2878 : h.size ≤ h2834.size := x2868.size
          have x2879 := x2868.then c2873 (fun b hb => .inr (o2855 b hb))
          have f2880 := c2873.same _ _ f2856 (fun hb => n2844 _ hb rfl)
          have p2883 := p2860.keep fun b r hb q => c2873.same b r q ((fun b hb hb2 => n2847 b hb2 hb) b hb)
          have p2887 := p2864.keep fun b r hb q => c2873.same b r q ((fun b hb hb2 => n2851 b hb2 hb) b hb)
          have p2888 := p2865.keep fun b r hb q => c2873.same b r q ((fun b hb hb2 => n2852 b hb2 hb) b hb)
          have p2889 := p2866.keep fun b r hb q => c2873.same b r q ((fun b hb hb2 => n2853 b hb2 hb) b hb)
          have p2890 := p2867.keep fun b r hb q => c2873.same b r q ((fun b hb hb2 => n2854 b hb2 hb) b hb)
          have n2892 : ∀ zz, blk (Value.slice a2876 ((re2511 ++ [((EvM.mk (k : Int) (true : Bool) (CmdM.mk (0 : Int) (0 : Int) (0 : Int) (0 : Int) (0 : Int) (0 : Int) (.empty : ByteArray) (0 : Int) (0 : Int) (.empty : ByteArray) (.empty : ByteArray) (0 : Int) (.empty : ByteArray) (0 : Int) (0 : Int) ([] : List StepM) (0 : Int) (0 : Int) (0 : Int) (0 : Int) (false : Bool) (0 : Int) (0 : Int) (.empty : ByteArray)) (e : Int) (n : Int) (d : ByteArray), none, 0) : EvM × Option Addr × Nat)]).length) (c2877)) zz → ¬ zz = t := fun zz hz ez => by have := n2874 zz hz; have := row_lt f2856; omega
          have o2903 : ∀ zz, blk (Value.slice a2876 ((re2511 ++ [((EvM.mk (k : Int) (true : Bool) (CmdM.mk (0 : Int) (0 : Int) (0 : Int) (0 : Int) (0 : Int) (0 : Int) (.empty : ByteArray) (0 : Int) (0 : Int) (.empty : ByteArray) (.empty : ByteArray) (0 : Int) (.empty : ByteArray) (0 : Int) (0 : Int) ([] : List StepM) (0 : Int) (0 : Int) (0 : Int) (0 : Int) (false : Bool) (0 : Int) (0 : Int) (.empty : ByteArray)) (e : Int) (n : Int) (d : ByteArray), none, 0) : EvM × Option Addr × Nat)]).length) (c2877)) zz → h.size ≤ zz := fun zz hz => by have := n2874 zz hz; have := z2878; omega
          obtain ⟨h2904, e2905⟩ : ∃ zq, zq = h2870.setIfInBounds t (.cells #[(vB true), (Value.slice ac2512 (rc2510.length) (cc2516)), (Value.slice a2607 (m.rs.length) (c2608)), (Value.slice a2679 (m.hs.length) (c2680)), (Value.slice a2876 ((re2511 ++ [((EvM.mk (k : Int) (true : Bool) (CmdM.mk (0 : Int) (0 : Int) (0 : Int) (0 : Int) (0 : Int) (0 : Int) (.empty : ByteArray) (0 : Int) (0 : Int) (.empty : ByteArray) (.empty : ByteArray) (0 : Int) (.empty : ByteArray) (0 : Int) (0 : Int) ([] : List StepM) (0 : Int) (0 : Int) (0 : Int) (0 : Int) (false : Bool) (0 : Int) (0 : Int) (.empty : ByteArray)) (e : Int) (n : Int) (d : ByteArray), none, 0) : EvM × Option Addr × Nat)]).length) (c2877))] 90 (0, 0)) := ⟨_, rfl⟩
          have f2906 := set_same e2905 f2880
          have p2910 := p2883.keep fun b r hb q => (Chg.set e2905).same b r q ((fun b hb => p2883.ne f2880 (by decide) hb) b hb)
          have p2914 := p2887.keep fun b r hb q => (Chg.set e2905).same b r q ((fun b hb => p2887.ne f2880 (by decide) hb) b hb)
          have p2915 := p2888.keep fun b r hb q => (Chg.set e2905).same b r q ((fun b hb => p2888.ne f2880 (by decide) hb) b hb)
          have p2916 := p2889.keep fun b r hb q => (Chg.set e2905).same b r q (n2612 b hb)
          have p2917 := p2890.keep fun b r hb q => (Chg.set e2905).same b r q (n2684 b hb)
          have p2918 := p2872.keep fun b r hb q => (Chg.set e2905).same b r q (n2892 b hb)
          have x2919 := x2879.then (Chg.set e2905) (fun b hb => by subst hb; exact (.inl T2509.inT))
          have hj : i2562 = (k - 1).toNat := by omega
          have hd : m.hs.getD (k - 1).toNat false = v2563 := by rw [← hj]; rw [List.getD_eq_getElem?_getD, g2566]; rfl
          have j1 : i2719 = (k - 1).toNat := by omega
          have j2 : i2562 = (k - 1).toNat := by omega
          have pr := p2916
          have ph := p2917
          rw [j1] at pr
          rw [j2] at ph
          have tb : RefAt h2904 (fun b => O b ∨ h.size ≤ b) t (m.closed k e n d) := ⟨rc2510, re2511 ++ [_], _, _, _, _, _, _, _, _, ⟨by simp only [RefM.closed, List.length_set]; exact f2906, p2910, by simp only [RefM.closed, List.length_set]; exact pr, by simp only [RefM.closed, List.length_set]; exact ph, p2918, T2509.cs, by simp [RefM.closed, T2509.es, noCmd], p2914, (p2915).add (.inl ⟨rfl, rfl⟩), .inl T2509.inT, fun b hb => .inl (T2509.inC b hb), by simp only [RefM.closed, List.length_set]; exact fun b hb => .inr (o2621 b hb), by simp only [RefM.closed, List.length_set]; exact fun b hb => .inr (o2693 b hb), fun b hb => .inr (o2903 b hb), fun b hb => .inl (T2509.inCS b hb), sfoot_add (fun b hb => .inl (T2509.inES b hb)) (fun b hb => hb.elim)⟩⟩
          exact hCall_of (n := 200) (T := ⟨fun r i => match r, i with | 0, 0 => some ((vP b2522 0), h2520) | 1, 1 => some ((vB true), h2520) | 3, 1 => some ((vB false), h2520) | 3, 7 => some ((Value.slice ac2512 (rc2510.length) (cc2516)), h2520) | 3, 9 => some ((vB false), h2520) | 5, 0 => some ((Value.agg #[(vI (e)), (vI (n)), (vS d)]), h2520) | 5, 1 => some ((vI (chkR (e) (n) d)), hh2548) | 5, 2 => some ((vB false), hh2548) | 7, 3 => some ((Value.slice ah2514 (m.hs.length) (ch2518)), hh2548) | 7, 5 => some ((vI ((k) - 1)), hh2548) | 7, 6 => some ((vP b2567 o2568), hh2548) | 7, 7 => some ((vB false), hh2548) | 9, 1 => some ((Value.slice (some ⟨b2576, 0, none⟩) 0 0), h2574) | 9, 5 => some ((Value.slice ar2513 (m.rs.length) (cr2517)), h2574) | 9, 6 => some ((Value.slice a2607 (m.rs.length) (c2608)), h2602) | 9, 9 => some (undef, h2634) | 10, 1 => some ((Value.slice (some ⟨b2649, 0, none⟩) 0 0), h2647) | 10, 5 => some ((Value.slice ah2514 (m.hs.length) (ch2518)), h2647) | 10, 6 => some ((Value.slice a2679 (m.hs.length) (c2680)), h2674) | 10, 9 => some (undef, h2705) | 11, 3 => some ((Value.slice a2607 (m.rs.length) (c2608)), h2705) | 11, 5 => some ((vI ((k) - 1)), h2705) | 11, 6 => some ((Value.agg #[(vI (e)), (vI (n)), (vS d)]), h2705) | 11, 7 => some ((vP b2724 o2725), h2705) | 11, 8 => some (undef, h2730) | 12, 3 => some ((Value.slice a2679 (m.hs.length) (c2680)), h2730) | 12, 5 => some ((vI ((k) - 1)), h2730) | 12, 6 => some ((vP b2752 o2753), h2730) | 12, 7 => some (undef, h2758) | 13, 1 => some ((Value.slice (some ⟨b2777, 0, none⟩) 0 0), h2775) | 13, 5 => some ((Value.slice ae2515 (re2511.length) (ce2519)), h2775) | 13, 8 => some ((Value.agg #[(vI (e)), (vI (n)), (vS d)]), h2775) | 13, 10 => some ((Value.slice (some ⟨b2805, 0, none⟩) 1 1), h2803) | 13, 6 => some ((Value.slice a2839 (re2511.length) (c2840)), h2834) | 13, 11 => some ((Value.slice a2876 ((re2511 ++ [((EvM.mk (k : Int) (true : Bool) (CmdM.mk (0 : Int) (0 : Int) (0 : Int) (0 : Int) (0 : Int) (0 : Int) (.empty : ByteArray) (0 : Int) (0 : Int) (.empty : ByteArray) (.empty : ByteArray) (0 : Int) (.empty : ByteArray) (0 : Int) (0 : Int) ([] : List StepM) (0 : Int) (0 : Int) (0 : Int) (0 : Int) (false : Bool) (0 : Int) (0 : Int) (.empty : ByteArray)) (e : Int) (n : Int) (d : ByteArray), none, 0) : EvM × Option Addr × Nat)]).length) (c2877)), h2870) | 13, 14 => some (undef, h2904) | _, _ => none, fun _ => none, none⟩)
            (A := ((vP b2522 0) = (Value.pointer (some ⟨h.size, 0, none⟩)) ∧ h2520 = h.push (.cells #[(vI (e)), (vI (n)), (vS d)] 45 (0, 0))) ∧ SoundCall Try.prog 47 #[(vP t 0)] h2520 (vB true) h2520 ∧ (binA Try.prog .lss 3 (vI (k)) (vI 1) = some (vB false) ∧ h2520 = h2520) ∧ (loadT Try.prog h2520 86 (vP t 1) = some (Value.slice ac2512 (rc2510.length) (cc2516)) ∧ h2520 = h2520) ∧ (binA Try.prog .gtr 3 (vI (k)) (vI ((rc2510.length : Nat))) = some (vB false) ∧ h2520 = h2520) ∧ (loadT Try.prog h2520 45 (vP b2522 0) = some (Value.agg #[(vI (e)), (vI (n)), (vS d)]) ∧ h2520 = h2520) ∧ SoundCall Try.prog 49 #[(Value.agg #[(vI (e)), (vI (n)), (vS d)])] h2520 (vI (chkR (e) (n) d)) hh2548 ∧ (binA Try.prog .neq 28 (vI (chkR (e) (n) d)) (vI 0) = some (vB false) ∧ hh2548 = hh2548) ∧ (loadT Try.prog hh2548 88 (vP t 3) = some (Value.slice ah2514 (m.hs.length) (ch2518)) ∧ hh2548 = hh2548) ∧ (binA Try.prog .sub 3 (vI (k)) (vI 1) = some (vI ((k) - 1)) ∧ hh2548 = hh2548) ∧ (indexAddrA Try.prog 88 (Value.slice ah2514 (m.hs.length) (ch2518)) (vI ((k) - 1)) = some (vP b2567 o2568) ∧ hh2548 = hh2548) ∧ (loadT Try.prog hh2548 4 (vP b2567 o2568) = some (vB false) ∧ hh2548 = hh2548) ∧ ((Value.slice (some ⟨b2576, 0, none⟩) 0 0) = (Value.slice (some ⟨hh2548.size, 0, none⟩) 0 0) ∧ h2574 = hh2548.push (.cells #[] 45 (0, 0))) ∧ (loadT Try.prog h2574 87 (vP t 2) = some (Value.slice ar2513 (m.rs.length) (cr2517)) ∧ h2574 = h2574) ∧ appendA Try.prog h2574 #[87, 87] #[(Value.slice (some ⟨b2576, 0, none⟩) 0 0), (Value.slice ar2513 (m.rs.length) (cr2517))] = some ((Value.slice a2607 (m.rs.length) (c2608)), h2602) ∧ (storeT Try.prog h2602 87 (vP t 2) (Value.slice a2607 (m.rs.length) (c2608)) = some h2634 ∧ (undef : Value) = undef) ∧ ((Value.slice (some ⟨b2649, 0, none⟩) 0 0) = (Value.slice (some ⟨h2634.size, 0, none⟩) 0 0) ∧ h2647 = h2634.push (.cells #[] 4 (0, 0))) ∧ (loadT Try.prog h2647 88 (vP t 3) = some (Value.slice ah2514 (m.hs.length) (ch2518)) ∧ h2647 = h2647) ∧ appendA Try.prog h2647 #[88, 88] #[(Value.slice (some ⟨b2649, 0, none⟩) 0 0), (Value.slice ah2514 (m.hs.length) (ch2518))] = some ((Value.slice a2679 (m.hs.length) (c2680)), h2674) ∧ (storeT Try.prog h2674 88 (vP t 3) (Value.slice a2679 (m.hs.length) (c2680)) = some h2705 ∧ (undef : Value) = undef) ∧ (loadT Try.prog h2705 87 (vP t 2) = some (Value.slice a2607 (m.rs.length) (c2608)) ∧ h2705 = h2705) ∧ (binA Try.prog .sub 3 (vI (k)) (vI 1) = some (vI ((k) - 1)) ∧ h2705 = h2705) ∧ (loadT Try.prog h2705 45 (vP b2522 0) = some (Value.agg #[(vI (e)), (vI (n)), (vS d)]) ∧ h2705 = h2705) ∧ (indexAddrA Try.prog 87 (Value.slice a2607 (m.rs.length) (c2608)) (vI ((k) - 1)) = some (vP b2724 o2725) ∧ h2705 = h2705) ∧ (storeT Try.prog h2705 45 (vP b2724 o2725) (Value.agg #[(vI (e)), (vI (n)), (vS d)]) = some h2730 ∧ (undef : Value) = undef) ∧ (loadT Try.prog h2730 88 (vP t 3) = some (Value.slice a2679 (m.hs.length) (c2680)) ∧ h2730 = h2730) ∧ (binA Try.prog .sub 3 (vI (k)) (vI 1) = some (vI ((k) - 1)) ∧ h2730 = h2730) ∧ (indexAddrA Try.prog 88 (Value.slice a2679 (m.hs.length) (c2680)) (vI ((k) - 1)) = some (vP b2752 o2753) ∧ h2730 = h2730) ∧ (storeT Try.prog h2730 4 (vP b2752 o2753) (vB true) = some h2758 ∧ (undef : Value) = undef) ∧ ((Value.slice (some ⟨b2777, 0, none⟩) 0 0) = (Value.slice (some ⟨h2758.size, 0, none⟩) 0 0) ∧ h2775 = h2758.push (.cells #[] 47 (0, 0))) ∧ (loadT Try.prog h2775 31 (vP t 4) = some (Value.slice ae2515 (re2511.length) (ce2519)) ∧ h2775 = h2775) ∧ (loadT Try.prog h2775 45 (vP b2522 0) = some (Value.agg #[(vI (e)), (vI (n)), (vS d)]) ∧ h2775 = h2775) ∧ ((Value.slice (some ⟨b2805, 0, none⟩) 1 1) = (Value.slice (some ⟨h2775.size, 0, none⟩) 1 1) ∧ h2803 = h2775.push (.cells #[(vI (k)), (vB true), (vI 0), (vI 0), (vI 0), (vI 0), (vI 0), (vI 0), (vS .empty), (vI 0), (vI 0), (vS .empty), (vS .empty), (vI 0), (vS .empty), (vI 0), (vI 0), (Value.slice none 0 0), (vI 0), (vI 0), (vI 0), (vI 0), (vB false), (vI 0), (vI 0), (vS .empty), (vI (e)), (vI (n)), (vS d)] 47 (0, 0))) ∧ appendA Try.prog h2803 #[31, 31] #[(Value.slice (some ⟨b2777, 0, none⟩) 0 0), (Value.slice ae2515 (re2511.length) (ce2519))] = some ((Value.slice a2839 (re2511.length) (c2840)), h2834) ∧ (loadT Try.prog h2834 45 (vP b2522 0) = some (Value.agg #[(vI (e)), (vI (n)), (vS d)]) ∧ h2834 = h2834) ∧ appendA Try.prog h2834 #[31, 31] #[(Value.slice a2839 (re2511.length) (c2840)), (Value.slice (some ⟨b2805, 0, none⟩) 1 1)] = some ((Value.slice a2876 ((re2511 ++ [((EvM.mk (k : Int) (true : Bool) (CmdM.mk (0 : Int) (0 : Int) (0 : Int) (0 : Int) (0 : Int) (0 : Int) (.empty : ByteArray) (0 : Int) (0 : Int) (.empty : ByteArray) (.empty : ByteArray) (0 : Int) (.empty : ByteArray) (0 : Int) (0 : Int) ([] : List StepM) (0 : Int) (0 : Int) (0 : Int) (0 : Int) (false : Bool) (0 : Int) (0 : Int) (.empty : ByteArray)) (e : Int) (n : Int) (d : ByteArray), none, 0) : EvM × Option Addr × Nat)]).length) (c2877)), h2870) ∧ (storeT Try.prog h2870 31 (vP t 4) (Value.slice a2876 ((re2511 ++ [((EvM.mk (k : Int) (true : Bool) (CmdM.mk (0 : Int) (0 : Int) (0 : Int) (0 : Int) (0 : Int) (0 : Int) (.empty : ByteArray) (0 : Int) (0 : Int) (.empty : ByteArray) (.empty : ByteArray) (0 : Int) (.empty : ByteArray) (0 : Int) (0 : Int) ([] : List StepM) (0 : Int) (0 : Int) (0 : Int) (0 : Int) (false : Bool) (0 : Int) (0 : Int) (.empty : ByteArray)) (e : Int) (n : Int) (d : ByteArray), none, 0) : EvM × Option Addr × Nat)]).length) (c2877)) = some h2904 ∧ (undef : Value) = undef) ∧ (fun v h1 => (k < 1 ∨ ((m.cs.length : Nat) : Int) < k → v = .int .i64 3 ∧ Ext h h1) ∧ ((1 ≤ k ∧ k ≤ ((m.cs.length : Nat) : Int)) ∧ chkR e n d ≠ 0 → v = .int .i64 2 ∧ Ext h h1) ∧ ((1 ≤ k ∧ k ≤ ((m.cs.length : Nat) : Int)) ∧ chkR e n d = 0 ∧ m.hs.getD (k - 1).toNat false = true → v = .int .i64 6 ∧ Ext h h1) ∧ ((1 ≤ k ∧ k ≤ ((m.cs.length : Nat) : Int)) ∧ chkR e n d = 0 ∧ m.hs.getD (k - 1).toNat false = false → v = .int .i64 0 ∧ Chg O h h1 ∧ RefAt h1 (fun b => O b ∨ h.size ≤ b) t (m.closed k e n d))) (vI 0) h2904) (by kernel_rfl) ⟨⟨by rw [eb2523], e2521⟩, sn2544, ⟨cmp_lss (decide_eq_false c2546), rfl⟩, ⟨load_cell agg86 f2534 rfl, rfl⟩, ⟨cmp_gtr (decide_eq_false c2547), rfl⟩, ⟨load_agg agg45 size45 f2524 (by simp) (by kernel_rfl), rfl⟩, sn2549, ⟨cmp_neq (decide_eq_false (not_not_intro c2561)), rfl⟩, ⟨load_cell agg88 f2551 rfl, rfl⟩, ⟨sub_i64 (by omega) (by omega), rfl⟩, ⟨a2571 und88 size4 e2564, rfl⟩, ⟨(by rw [← c2573]; exact k2569.cell (j := 0) agg4 rfl), rfl⟩, ⟨by rw [eb2577], e2575⟩, ⟨load_cell agg87 f2590 rfl, rfl⟩, e2603, ⟨by rw [e2635]; exact store_cells size87 rfl f2622 (by decide) (by simp) rfl (by kernel_rfl), rfl⟩, ⟨by rw [eb2650], e2648⟩, ⟨load_cell agg88 f2663 rfl, rfl⟩, e2675, ⟨by rw [e2706]; exact store_cells size88 rfl f2694 (by decide) (by simp) rfl (by kernel_rfl), rfl⟩, ⟨load_cell agg87 f2707 rfl, rfl⟩, ⟨sub_i64 (by omega) (by omega), rfl⟩, ⟨load_agg agg45 size45 f2709 (by simp) (by kernel_rfl), rfl⟩, ⟨a2728 und87 size45 e2721, rfl⟩, ⟨e2731, rfl⟩, ⟨load_cell agg88 f2738 rfl, rfl⟩, ⟨sub_i64 (by omega) (by omega), rfl⟩, ⟨a2756 und88 size4 e2564, rfl⟩, ⟨e2759, rfl⟩, ⟨by rw [eb2778], e2776⟩, ⟨load_cell agg31 f2792 rfl, rfl⟩, ⟨load_agg agg45 size45 f2793 (by simp) (by kernel_rfl), rfl⟩, ⟨by rw [eb2806], e2804⟩, e2835, ⟨load_agg agg45 size45 f2857 (by simp) (by kernel_rfl), rfl⟩, e2871, ⟨by rw [e2905]; exact store_cells size31 rfl f2880 (by decide) (by simp) rfl (by kernel_rfl), rfl⟩, ⟨fun q => absurd q (by omega), fun q => absurd q (by omega), fun q => absurd q.2.2 (by rw [hd, c2573]; decide), fun _ => ⟨rfl, x2919, tb⟩⟩⟩
      · exact hCall_of (n := 200) (T := ⟨fun r i => match r, i with | 0, 0 => some ((vP b2522 0), h2520) | 1, 1 => some ((vB true), h2520) | 3, 1 => some ((vB false), h2520) | 3, 7 => some ((Value.slice ac2512 (rc2510.length) (cc2516)), h2520) | 3, 9 => some ((vB false), h2520) | 5, 0 => some ((Value.agg #[(vI (e)), (vI (n)), (vS d)]), h2520) | 5, 1 => some ((vI (chkR (e) (n) d)), hh2548) | 5, 2 => some ((vB true), hh2548) | _, _ => none, fun _ => none, none⟩)
          (A := ((vP b2522 0) = (Value.pointer (some ⟨h.size, 0, none⟩)) ∧ h2520 = h.push (.cells #[(vI (e)), (vI (n)), (vS d)] 45 (0, 0))) ∧ SoundCall Try.prog 47 #[(vP t 0)] h2520 (vB true) h2520 ∧ (binA Try.prog .lss 3 (vI (k)) (vI 1) = some (vB false) ∧ h2520 = h2520) ∧ (loadT Try.prog h2520 86 (vP t 1) = some (Value.slice ac2512 (rc2510.length) (cc2516)) ∧ h2520 = h2520) ∧ (binA Try.prog .gtr 3 (vI (k)) (vI ((rc2510.length : Nat))) = some (vB false) ∧ h2520 = h2520) ∧ (loadT Try.prog h2520 45 (vP b2522 0) = some (Value.agg #[(vI (e)), (vI (n)), (vS d)]) ∧ h2520 = h2520) ∧ SoundCall Try.prog 49 #[(Value.agg #[(vI (e)), (vI (n)), (vS d)])] h2520 (vI (chkR (e) (n) d)) hh2548 ∧ (binA Try.prog .neq 28 (vI (chkR (e) (n) d)) (vI 0) = some (vB true) ∧ hh2548 = hh2548) ∧ (fun v h1 => (k < 1 ∨ ((m.cs.length : Nat) : Int) < k → v = .int .i64 3 ∧ Ext h h1) ∧ ((1 ≤ k ∧ k ≤ ((m.cs.length : Nat) : Int)) ∧ chkR e n d ≠ 0 → v = .int .i64 2 ∧ Ext h h1) ∧ ((1 ≤ k ∧ k ≤ ((m.cs.length : Nat) : Int)) ∧ chkR e n d = 0 ∧ m.hs.getD (k - 1).toNat false = true → v = .int .i64 6 ∧ Ext h h1) ∧ ((1 ≤ k ∧ k ≤ ((m.cs.length : Nat) : Int)) ∧ chkR e n d = 0 ∧ m.hs.getD (k - 1).toNat false = false → v = .int .i64 0 ∧ Chg O h h1 ∧ RefAt h1 (fun b => O b ∨ h.size ≤ b) t (m.closed k e n d))) (vI 2) hh2548) (by kernel_rfl) ⟨⟨by rw [eb2523], e2521⟩, sn2544, ⟨cmp_lss (decide_eq_false c2546), rfl⟩, ⟨load_cell agg86 f2534 rfl, rfl⟩, ⟨cmp_gtr (decide_eq_false c2547), rfl⟩, ⟨load_agg agg45 size45 f2524 (by simp) (by kernel_rfl), rfl⟩, sn2549, ⟨cmp_neq (decide_eq_true c2561), rfl⟩, ⟨fun q => absurd q (by omega), fun _ => ⟨rfl, y2560⟩, fun q => absurd q.2.1 (by omega), fun q => absurd q.2.1 (by omega)⟩⟩
end C36
