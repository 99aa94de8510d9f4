/- The reference: sets. -/
import Derived.Test.YtbjehneffpbkeaaDoorKc
import Derived.KernelRfl
open Go Go.AM Go.Proofs
namespace C11
theorem sizeb3 : (Tryd.prog.info? 3).map (fun i => (i.size, i.bytes)) = some (1, 8) := by kernel_rfl
theorem und41 : Tryd.prog.underlying 41 = some (.slice 3) := by kernel_rfl
theorem zero3 : zeroA Tryd.prog 3 = some (Value.int .i64 0) := by kernel_rfl
theorem chk1_two {n s : Int} (h : ¬ chk1 n s = 0) : chk1 n s = 2 := by
  unfold chk1 at h ⊢
  split at h
  · rename_i hc; rw [if_pos hc]
  · exact absurd rfl h
theorem chk1_iff {n s : Int} (hs : 0 ≤ s ∧ s ≤ 18446744073709551615) (h1 : 1 ≤ n) (h7 : n ≤ 7) : chk1 n s = 0 ↔ s < ushl 1 n := by
  rw [ushl_one (by omega) (by omega)]
  have hb := big_iff (n := n) (by omega) (by omega) hs
  unfold chk1
  constructor
  · intro h
    split at h
    · cases h
    · rename_i hc
      have : ¬ big n s = true := fun w => hc (.inr (.inr w))
      rw [hb] at this; omega
  · intro h
    rw [if_neg]
    rintro (w | w | w)
    · omega
    · omega
    · rw [hb] at w; omega
theorem chk1_zero (n : Int) : chk1 n 0 = chk0 n := by
  unfold chk0
  by_cases hc : n < 1 ∨ 7 < n
  · rw [if_pos hc]; unfold chk1; rw [if_pos (by rcases hc with w | w; exact .inl w; exact .inr (.inl w))]
  · rw [if_neg hc, (chk1_iff (by omega) (by omega) (by omega)).2]
    rw [ushl_one (by omega) (by omega)]
    have := Nat.two_pow_pos n.toNat
    omega
theorem mul_two {t : TypeId} {a : Int} (h0 : 0 ≤ a) (h1 : a ≤ 1000) : binA Tryd.prog .mul t (.int .i64 2) (.int .i64 a) = some (.int .i64 (2 * a)) := by
  simp only [binA, intBinA]
  rw [if_neg (by decide), if_pos trivial, IntKind.wrap_i64]
  congr 2; omega
/-- The nodes of a set below k. -/
def nodesP (s k : Nat) : List Int := ((List.range k).filter fun i => s.testBit i).map fun i : Nat => (i : Int)
def nodesI (s : Int) : List Int := nodesP s.toNat 64
theorem nodesP_next (s k : Nat) : nodesP s (k + 1) = nodesP s k ++ (if s.testBit k = true then [(k : Int)] else []) := by
  simp only [nodesP, List.range_succ, List.filter_append, List.map_append]
  congr 1
  cases h : s.testBit k <;> simp [List.filter_cons, h]
theorem nodesP_len (s k : Nat) : (nodesP s k).length ≤ k := by
  unfold nodesP
  rw [List.length_map]
  exact Nat.le_trans (List.length_filter_le _ _) (by simp)
theorem pop_len (s : Nat) : (nodesP s 64).length = pop s := by unfold nodesP pop nodesL; rw [List.length_map]
theorem nodesI_len (s : Int) : (nodesI s).length = pop s.toNat := pop_len _
theorem pop_le (s : Nat) : pop s ≤ 64 := by rw [← pop_len]; exact nodesP_len _ _
theorem ushr_eq {s k : Int} (hk : 0 ≤ k ∧ k ≤ 63) : ushr s k = s / ((2 ^ k.toNat : Nat) : Int) := by
  unfold ushr
  rw [show min k.toNat IntKind.u64.bits = k.toNat by simp [IntKind.bits]; omega, Int.fdiv_eq_ediv_of_nonneg _ (Int.le_of_lt (Int.pow_pos (by decide)))]
  simp
theorem ushr_pos {s k : Int} (hs : 0 ≤ s) : 0 ≤ ushr s k := by
  unfold ushr
  rw [Int.fdiv_eq_ediv_of_nonneg _ (Int.le_of_lt (Int.pow_pos (by decide)))]
  exact Int.ediv_nonneg hs (Int.le_of_lt (Int.pow_pos (by decide)))
theorem bit_iff {s k : Int} (hs : 0 ≤ s) (hk : 0 ≤ k ∧ k ≤ 63) : ushr s k % 2 = 1 ↔ s.toNat.testBit k.toNat = true := by
  obtain ⟨x, rfl⟩ : ∃ x : Nat, s = (x : Int) := ⟨s.toNat, by omega⟩
  rw [ushr_eq hk, Nat.testBit_eq_decide_div_mod_eq, decide_eq_true_eq, ← Int.natCast_ediv]
  simp only [Int.toNat_natCast]
  omega
set_option maxHeartbeats 4000000 in
theorem rcheck_ok (h : Heap) (s : Int) (hs : 0 ≤ s ∧ s ≤ 18446744073709551615) (n : Int) : WCall Tryd.prog 35 #[(Value.int .u64 (s)), (vI (n))] h (fun v h1 => v = .int .i64 (chk1 n s) ∧ h = h1) := by
  by_cases c132 : ((n) : Int) < 1
  · exact hCall_of (n := 200) (T := ⟨fun r i => match r, i with | 1, 1 => some ((vB true), h) | _, _ => none, fun _ => none, none⟩)
      (A := (binA Tryd.prog .lss 3 (vI (n)) (vI 1) = some (vB true) ∧ h = h) ∧ (fun v h1 => v = .int .i64 (chk1 n s) ∧ h = h1) (vI 2) h) (by kernel_rfl) ⟨⟨cmp_lss (decide_eq_true c132), rfl⟩, ⟨by unfold chk1; rw [if_pos (.inl c132)], rfl⟩⟩
  · by_cases c133 : (7 : Int) < (n)
    · exact hCall_of (n := 200) (T := ⟨fun r i => match r, i with | 1, 1 => some ((vB false), h) | 1, 4 => some ((vB true), h) | _, _ => none, fun _ => none, none⟩)
        (A := (binA Tryd.prog .lss 3 (vI (n)) (vI 1) = some (vB false) ∧ h = h) ∧ (binA Tryd.prog .gtr 3 (vI (n)) (vI 7) = some (vB true) ∧ h = h) ∧ (fun v h1 => v = .int .i64 (chk1 n s) ∧ h = h1) (vI 2) h) (by kernel_rfl) ⟨⟨cmp_lss (decide_eq_false c132), rfl⟩, ⟨cmp_gtr (decide_eq_true c133), rfl⟩, ⟨by unfold chk1; rw [if_pos (.inr (.inl c133))], rfl⟩⟩
    · by_cases c134 : ((ushl 1 (n)) : Int) ≤ (s)
      · have q := chk1_two (n := n) (s := s) (fun w => by have := (chk1_iff (n := n) hs (by omega) (by omega)).1 w; omega)
        exact hCall_of (n := 200) (T := ⟨fun r i => match r, i with | 1, 1 => some ((vB false), h) | 1, 4 => some ((vB false), h) | 1, 9 => some ((Value.int .u64 (ushl 1 (n))), h) | 1, 10 => some ((vB true), h) | _, _ => none, fun _ => none, none⟩)
          (A := (binA Tryd.prog .lss 3 (vI (n)) (vI 1) = some (vB false) ∧ h = h) ∧ (binA Tryd.prog .gtr 3 (vI (n)) (vI 7) = some (vB false) ∧ h = h) ∧ (binA Tryd.prog .shl 22 (Value.int .u64 1) (vI (n)) = some (Value.int .u64 (ushl 1 (n))) ∧ h = h) ∧ (binA Tryd.prog .geq 22 (Value.int .u64 (s)) (Value.int .u64 (ushl 1 (n))) = some (vB true) ∧ h = h) ∧ (fun v h1 => v = .int .i64 (chk1 n s) ∧ h = h1) (vI 2) h) (by kernel_rfl) ⟨⟨cmp_lss (decide_eq_false c132), rfl⟩, ⟨cmp_gtr (decide_eq_false c133), rfl⟩, ⟨shl_raw (by omega), rfl⟩, ⟨cmp_geq (decide_eq_true c134), rfl⟩, ⟨by rw [q], rfl⟩⟩
      · have q := (chk1_iff (n := n) hs (by omega) (by omega)).2 (by omega)
        exact hCall_of (n := 200) (T := ⟨fun r i => match r, i with | 1, 1 => some ((vB false), h) | 1, 4 => some ((vB false), h) | 1, 9 => some ((Value.int .u64 (ushl 1 (n))), h) | 1, 10 => some ((vB false), h) | _, _ => none, fun _ => none, none⟩)
          (A := (binA Tryd.prog .lss 3 (vI (n)) (vI 1) = some (vB false) ∧ h = h) ∧ (binA Tryd.prog .gtr 3 (vI (n)) (vI 7) = some (vB false) ∧ h = h) ∧ (binA Tryd.prog .shl 22 (Value.int .u64 1) (vI (n)) = some (Value.int .u64 (ushl 1 (n))) ∧ h = h) ∧ (binA Tryd.prog .geq 22 (Value.int .u64 (s)) (Value.int .u64 (ushl 1 (n))) = some (vB false) ∧ h = h) ∧ (fun v h1 => v = .int .i64 (chk1 n s) ∧ h = h1) (vI 0) h) (by kernel_rfl) ⟨⟨cmp_lss (decide_eq_false c132), rfl⟩, ⟨cmp_gtr (decide_eq_false c133), rfl⟩, ⟨shl_raw (by omega), rfl⟩, ⟨cmp_geq (decide_eq_false c134), rfl⟩, ⟨by rw [q], rfl⟩⟩
set_option maxHeartbeats 4000000 in
theorem rnodes_ok (h : Heap) (s : Int) (hs : 0 ≤ s ∧ s ≤ 18446744073709551615) : WCall Tryd.prog 30 #[(Value.int .u64 (s))] h (fun v h1 => ∃ wa wc, v = .slice wa (nodesI s).length wc ∧ OwnAt h1 3 icell (nodesI s) v ∧ Ext h h1 ∧ ∀ b, blk v b → h.size ≤ b) := by
  suffices H : ∀ K : Value → Heap → Prop, (∀ v h1, (fun v h1 => ∃ wa wc, v = .slice wa (nodesI s).length wc ∧ OwnAt h1 3 icell (nodesI s) v ∧ Ext h h1 ∧ ∀ b, blk v b → h.size ≤ b) v h1 → K v h1) → WCall Tryd.prog 30 #[(Value.int .u64 (s))] h K from H _ fun _ _ q => q
  intro K hK
  refine wcall_at { tmps := #[(Value.int .u64 (s)), (Value.tuple #[]), (Value.tuple #[]), (Value.tuple #[]), (Value.tuple #[]), (Value.tuple #[]), (Value.tuple #[]), (Value.tuple #[]), (Value.tuple #[]), (Value.tuple #[]), (Value.tuple #[]), (Value.tuple #[]), (Value.tuple #[]), (Value.tuple #[]), (Value.tuple #[]), (Value.tuple #[]), (Value.tuple #[]), (Value.tuple #[]), (Value.tuple #[])], defers := [] } (by kernel_rfl) ?_
  refine wc_seq' (subc (bodyOf Tryd.prog 30) [0]) (subc (bodyOf Tryd.prog 30) [1]) (by kernel_rfl) ?_
  refine wc_upd (n := 200) (T := ⟨fun r i => match r, i with | _, _ => none, fun _ => none, none⟩) (x := .normal) (h1 := h) [(2, (Value.slice none 0 0))]
    (fun q => q) (by intro K'; kernel_rfl) (fun _ q => q) ?_
  refine wc_seq' (subc (bodyOf Tryd.prog 30) [1, 0]) (subc (bodyOf Tryd.prog 30) [1, 1]) (by kernel_rfl) ?_
  refine wc_upd (n := 200) (T := ⟨fun r i => match r, i with | _, _ => none, fun _ => none, none⟩) (x := .normal) (h1 := h) [(3, (Value.slice none 0 0))]
    (fun q => q) (by intro K'; kernel_rfl) (fun _ q => q) ?_
  refine wc_seq' (subc (bodyOf Tryd.prog 30) [1, 1, 0]) (subc (bodyOf Tryd.prog 30) [1, 1, 1]) (by kernel_rfl) ?_
  refine wc_seq' (subc (bodyOf Tryd.prog 30) [1, 1, 0, 0]) (subc (bodyOf Tryd.prog 30) [1, 1, 0, 1]) (by kernel_rfl) ?_
  refine wc_upd (n := 200) (T := ⟨fun r i => match r, i with | _, _ => none, fun _ => none, none⟩) (x := .normal) (h1 := h) [(4, (vI 0))]
    (fun q => q) (by intro K'; kernel_rfl) (fun _ q => q) ?_
  refine wc_block' 0 (subc (bodyOf Tryd.prog 30) [1, 1, 0, 1, 0]) (by kernel_rfl) ?_
  refine wc_loop' (subc (bodyOf Tryd.prog 30) [1, 1, 0, 1, 0, 0]) (by kernel_rfl) (fun n' a' h' => ∃ (k : Int) (out : List Int) (wa : Option Addr) (wc : Nat) (gb135 : Nat → Value), a' = { tmps := #[(Value.int .u64 (s)), (Value.tuple #[]), (Value.slice none 0 0), (Value.slice wa (out.length) (wc)), (vI (k)), (gb135 5), (gb135 6), (gb135 7), (gb135 8), (gb135 9), (gb135 10), (gb135 11), (gb135 12), (gb135 13), (gb135 14), (gb135 15), (gb135 16), (gb135 17), (Value.tuple #[])], defers := [] } ∧ Ext h h' ∧ n' = 64 - k.toNat ∧ (0 ≤ k ∧ k ≤ 64) ∧ out = nodesP s.toNat k.toNat ∧ (out.length : Int) ≤ k ∧ (∀ zz, blk (Value.slice wa (out.length) (wc)) zz → h.size ≤ zz) ∧ OwnAt h' 3 icell out (Value.slice wa (out.length) (wc))) ?_ (64 - (0 : Int).toNat) ⟨0, [], none, 0, (fun i => ([undef, undef, undef, undef, undef, (Value.tuple #[]), (Value.tuple #[]), (Value.tuple #[]), (Value.tuple #[]), (Value.tuple #[]), (Value.tuple #[]), (Value.tuple #[]), (Value.tuple #[]), (Value.tuple #[]), (Value.tuple #[]), (Value.tuple #[]), (Value.tuple #[]), (Value.tuple #[])] : List Value).getD i undef), by kernel_rfl, (Ext.refl h), rfl, by omega, rfl, by simp, fun zz hz => hz.elim, .inl ⟨rfl, rfl⟩⟩
  rintro n' _ h136 ⟨k, out, wa, wc, gb135, rfl, x143, m142, i137, i138, i139, i140, p141⟩
  by_cases c144 : ((k) : Int) < 64
  · by_cases c145 : (((ushr (s) (k)) % 2) : Int) = 1
    · obtain ⟨b148, eb149⟩ : ∃ zq, zq = h136.size := ⟨_, rfl⟩
      obtain ⟨h146, e147⟩ : ∃ zq, zq = h136.push (.cells #[(vI (k))] 3 (0, 0)) := ⟨_, rfl⟩
      have f150 := push_new e147
      rw [← eb149] at f150
      have x152 : Ext h136 h146 := by rw [e147]; exact Ext.push _ _
      have o153 : h.size ≤ b148 := by have := x143.size; omega
      have p154 := p141.keep fun b r _ q => x152 b r q
      have x155 := x143.trans x152
      obtain ⟨w156, h157, e158, p159, c160, n161, z162⟩ := own_append und41 sizeb3 zero3 rfl (by decide) icell_size (x := (k : Int)) p154 f150 rfl (by omega) (by unfold maxLen; omega)
      obtain ⟨a163, c164, rfl⟩ := (p159.slice icell_size).len
      have z165 : h.size ≤ h146.size := x155.size
      have x166 : Ext h _ := (Chg.then (O := fun _ => False) (Chg.ext x155) c160 (fun b hb => .inr (i140 b hb))).toExt'
      have o170 : ∀ zz, blk (Value.slice a163 ((out ++ [(k : Int)]).length) (c164)) zz → h.size ≤ zz := fun zz hz => by have := n161 zz hz; have := z165; omega
      refine wc_upd (n := 200) (T := ⟨fun r i => match r, i with | 3, 1 => some ((vB true), h136) | 5, 2 => some ((Value.int .u64 (ushr (s) (k))), h136) | 5, 3 => some ((Value.int .u64 ((ushr (s) (k)) % 2)), h136) | 5, 4 => some ((vB true), h136) | 6, 2 => some ((Value.slice (some ⟨b148, 0, none⟩) 1 1), h146) | 6, 3 => some ((Value.slice a163 ((out ++ [(k : Int)]).length) (c164)), h157) | 4, 1 => some ((vI ((k) + 1)), h157) | _, _ => none, fun _ => none, none⟩) (x := .normal) (h1 := h157) [(5, (vI (k))), (6, (vB true)), (9, (Value.int .u64 (s))), (10, (vI (k))), (11, (Value.int .u64 (ushr (s) (k)))), (12, (Value.int .u64 ((ushr (s) (k)) % 2))), (13, (vB true)), (14, (Value.slice wa (out.length) (wc))), (15, (vI (k))), (16, (Value.slice (some ⟨b148, 0, none⟩) 1 1)), (17, (Value.slice a163 ((out ++ [(k : Int)]).length) (c164))), (3, (Value.slice a163 ((out ++ [(k : Int)]).length) (c164))), (7, (vI (k))), (8, (vI ((k) + 1))), (4, (vI ((k) + 1)))]
        (fun q => (binA Tryd.prog .lss 3 (vI (k)) (vI 64) = some (vB true) ∧ h136 = h136) ∧ (binA Tryd.prog .shr 22 (Value.int .u64 (s)) (vI (k)) = some (Value.int .u64 (ushr (s) (k))) ∧ h136 = h136) ∧ (binA Tryd.prog .rem 22 (Value.int .u64 (ushr (s) (k))) (Value.int .u64 2) = some (Value.int .u64 ((ushr (s) (k)) % 2)) ∧ h136 = h136) ∧ (binA Tryd.prog .eql 22 (Value.int .u64 ((ushr (s) (k)) % 2)) (Value.int .u64 1) = some (vB true) ∧ h136 = h136) ∧ ((Value.slice (some ⟨b148, 0, none⟩) 1 1) = (Value.slice (some ⟨h136.size, 0, none⟩) 1 1) ∧ h146 = h136.push (.cells #[(vI (k))] 3 (0, 0))) ∧ appendA Tryd.prog h146 #[41, 41] #[(Value.slice wa (out.length) (wc)), (Value.slice (some ⟨b148, 0, none⟩) 1 1)] = some ((Value.slice a163 ((out ++ [(k : Int)]).length) (c164)), h157) ∧ (binA Tryd.prog .add 3 (vI (k)) (vI 1) = some (vI ((k) + 1)) ∧ h157 = h157) ∧ q) (by intro K'; kernel_rfl) (fun _ q => ⟨⟨cmp_lss (decide_eq_true c144), rfl⟩, ⟨shr_raw (by omega), rfl⟩, ⟨urem_raw (ushr_pos (by omega)) (by omega), rfl⟩, ⟨cmp_eql (decide_eq_true c145), rfl⟩, ⟨by rw [eb149], e147⟩, e158, ⟨add_i64 (by omega) (by omega), rfl⟩, q⟩) ?_
      have bi := bit_iff (s := s) (k := k) (by omega) (by omega)
      exact ⟨64 - (k + 1).toNat, by omega, ⟨k + 1, (out ++ [(k : Int)]), a163, c164, (fun i => ([undef, undef, undef, undef, undef, (vI (k)), (vB true), (vI (k)), (vI ((k) + 1)), (Value.int .u64 (s)), (vI (k)), (Value.int .u64 (ushr (s) (k))), (Value.int .u64 ((ushr (s) (k)) % 2)), (vB true), (Value.slice wa (out.length) (wc)), (vI (k)), (Value.slice (some ⟨b148, 0, none⟩) 1 1), (Value.slice a163 ((out ++ [(k : Int)]).length) (c164))] : List Value).getD i undef), by kernel_rfl, x166, rfl, by omega, by rw [show (k + 1).toNat = k.toNat + 1 by omega, nodesP_next, if_pos (bi.1 c145), ← i138]; congr 2; omega, by simp; omega, o170, p159⟩⟩
    · refine wc_upd (n := 200) (T := ⟨fun r i => match r, i with | 3, 1 => some ((vB true), h136) | 5, 2 => some ((Value.int .u64 (ushr (s) (k))), h136) | 5, 3 => some ((Value.int .u64 ((ushr (s) (k)) % 2)), h136) | 5, 4 => some ((vB false), h136) | 4, 1 => some ((vI ((k) + 1)), h136) | _, _ => none, fun _ => none, none⟩) (x := .normal) (h1 := h136) [(5, (vI (k))), (6, (vB true)), (9, (Value.int .u64 (s))), (10, (vI (k))), (11, (Value.int .u64 (ushr (s) (k)))), (12, (Value.int .u64 ((ushr (s) (k)) % 2))), (13, (vB false)), (7, (vI (k))), (8, (vI ((k) + 1))), (4, (vI ((k) + 1)))]
        (fun q => (binA Tryd.prog .lss 3 (vI (k)) (vI 64) = some (vB true) ∧ h136 = h136) ∧ (binA Tryd.prog .shr 22 (Value.int .u64 (s)) (vI (k)) = some (Value.int .u64 (ushr (s) (k))) ∧ h136 = h136) ∧ (binA Tryd.prog .rem 22 (Value.int .u64 (ushr (s) (k))) (Value.int .u64 2) = some (Value.int .u64 ((ushr (s) (k)) % 2)) ∧ h136 = h136) ∧ (binA Tryd.prog .eql 22 (Value.int .u64 ((ushr (s) (k)) % 2)) (Value.int .u64 1) = some (vB false) ∧ h136 = h136) ∧ (binA Tryd.prog .add 3 (vI (k)) (vI 1) = some (vI ((k) + 1)) ∧ h136 = h136) ∧ q) (by intro K'; kernel_rfl) (fun _ q => ⟨⟨cmp_lss (decide_eq_true c144), rfl⟩, ⟨shr_raw (by omega), rfl⟩, ⟨urem_raw (ushr_pos (by omega)) (by omega), rfl⟩, ⟨cmp_eql (decide_eq_false c145), rfl⟩, ⟨add_i64 (by omega) (by omega), rfl⟩, q⟩) ?_
      have bi := bit_iff (s := s) (k := k) (by omega) (by omega)
      exact ⟨64 - (k + 1).toNat, by omega, ⟨k + 1, out, wa, wc, (fun i => ([undef, undef, undef, undef, undef, (vI (k)), (vB true), (vI (k)), (vI ((k) + 1)), (Value.int .u64 (s)), (vI (k)), (Value.int .u64 (ushr (s) (k))), (Value.int .u64 ((ushr (s) (k)) % 2)), (vB false), (gb135 14), (gb135 15), (gb135 16), (gb135 17)] : List Value).getD i undef), by kernel_rfl, x143, rfl, by omega, by rw [show (k + 1).toNat = k.toNat + 1 by omega, nodesP_next, if_neg (fun w => c145 (bi.2 w)), ← i138]; simp, by omega, i140, p141⟩⟩
  · refine wc_upd (n := 200) (T := ⟨fun r i => match r, i with | 3, 1 => some ((vB false), h136) | _, _ => none, fun _ => none, none⟩) (x := (.exit 0)) (h1 := h136) [(5, (vI (k))), (6, (vB false))]
      (fun q => (binA Tryd.prog .lss 3 (vI (k)) (vI 64) = some (vB false) ∧ h136 = h136) ∧ q) (by intro K'; kernel_rfl) (fun _ q => ⟨⟨cmp_lss (decide_eq_false c144), rfl⟩, q⟩) ?_
    refine wc_upd (n := 200) (T := ⟨fun r i => match r, i with | _, _ => none, fun _ => none, none⟩) (x := .ret) (h1 := h136) [(18, (Value.slice wa (out.length) (wc))), (2, (Value.slice wa (out.length) (wc)))]
      (fun q => q) (by intro K'; kernel_rfl) (fun _ q => q) ?_
    have eo : out = nodesI s := by rw [i138]; unfold nodesI; congr 1; omega
    refine end_at (T := ⟨fun _ _ => none, fun _ => none, none⟩) (A := K (Value.slice wa (out.length) (wc)) h136) (by kernel_rfl) ?_
    exact hK _ _ (⟨wa, wc, by rw [← eo], by rw [← eo]; exact p141, x143, i140⟩)
theorem uand_range (a b : Int) : 0 ≤ uand a b ∧ uand a b ≤ 18446744073709551615 := by
  simp only [uand, IntKind.wrap_u64]; omega
set_option maxHeartbeats 4000000 in
theorem rcount_ok (h : Heap) (s : Int) (hs : 0 ≤ s ∧ s ≤ 18446744073709551615) : WCall Tryd.prog 27 #[(Value.int .u64 (s))] h (fun v h1 => v = .int .i64 ((pop s.toNat : Nat) : Int) ∧ Ext h h1) := by
  obtain ⟨_, hh175, sn176, a171, c172, rfl, o173, x177, b174⟩ := rnodes_ok h (s) (by omega)
  have x178 := (Ext.refl h).trans x177
  have := nodesI_len (s)
  have := pop_le (s).toNat
  have z180 : h.size ≤ h.size := (Ext.refl h).size
  have o181 : ∀ zz, blk (Value.slice a171 ((nodesI (s)).length) (c172)) zz → h.size ≤ zz := fun zz hz => by have := b174 zz hz; omega
  exact hCall_of (n := 200) (T := ⟨fun r i => match r, i with | 1, 1 => some ((Value.slice a171 ((nodesI (s)).length) (c172)), hh175) | _, _ => none, fun _ => none, none⟩)
    (A := SoundCall Tryd.prog 30 #[(Value.int .u64 (s))] h (Value.slice a171 ((nodesI (s)).length) (c172)) hh175 ∧ (fun v h1 => v = .int .i64 ((pop s.toNat : Nat) : Int) ∧ Ext h h1) (vI (((nodesI (s)).length : Nat))) hh175) (by kernel_rfl) ⟨sn176, ⟨by rw [nodesI_len], x178⟩⟩
set_option maxHeartbeats 4000000 in
theorem ris_ok (h : Heap) (s : Int) (hs : 0 ≤ s ∧ s ≤ 18446744073709551615) (n : Int) : WCall Tryd.prog 13 #[(Value.int .u64 (s)), (vI (n))] h (fun v h1 => v = .tuple #[.bool (isB s n), .int .i64 (chk1 n s)] ∧ Ext h h1) := by
  obtain ⟨_, _, sn183, rfl, rfl⟩ := rcheck_ok h (s) (by omega) (n)
  by_cases c185 : ((chk1 (n) (s)) : Int) = 0
  · obtain ⟨_, hh186, sn187, rfl, x188⟩ := rcount_ok h (s) (by omega)
    have x189 := (Ext.refl h).trans x188
    have := pop_le (s).toNat
    have q190 := chk1_ok (by omega) c185
    by_cases c191 : ((n) : Int) < (2 * (((pop (s).toNat : Nat) : Int)))
    · exact hCall_of (n := 200) (T := ⟨fun r i => match r, i with | 1, 2 => some ((vI (chk1 (n) (s))), h) | 2, 1 => some ((vB false), h) | 4, 1 => some ((vI (((pop (s).toNat : Nat) : Int))), hh186) | 4, 2 => some ((vI (2 * (((pop (s).toNat : Nat) : Int)))), hh186) | 4, 4 => some ((vB true), hh186) | _, _ => none, fun _ => none, none⟩)
        (A := SoundCall Tryd.prog 35 #[(Value.int .u64 (s)), (vI (n))] h (vI (chk1 (n) (s))) h ∧ (binA Tryd.prog .neq 23 (vI (chk1 (n) (s))) (vI 0) = some (vB false) ∧ h = h) ∧ SoundCall Tryd.prog 27 #[(Value.int .u64 (s))] h (vI (((pop (s).toNat : Nat) : Int))) hh186 ∧ (binA Tryd.prog .mul 3 (vI 2) (vI (((pop (s).toNat : Nat) : Int))) = some (vI (2 * (((pop (s).toNat : Nat) : Int)))) ∧ hh186 = hh186) ∧ (binA Tryd.prog .gtr 3 (vI (2 * (((pop (s).toNat : Nat) : Int)))) (vI (n)) = some (vB true) ∧ hh186 = hh186) ∧ (fun v h1 => v = .tuple #[.bool (isB s n), .int .i64 (chk1 n s)] ∧ Ext h h1) (Value.tuple #[(vB true), (vI 0)]) hh186) (by kernel_rfl) ⟨sn183, ⟨cmp_neq (decide_eq_false (not_not_intro c185)), rfl⟩, sn187, ⟨mul_two (by omega) (by omega), rfl⟩, ⟨cmp_gtr (decide_eq_true c191), rfl⟩, ⟨by rw [isB, decide_eq_true ⟨c185, by omega⟩, c185], x189⟩⟩
    · exact hCall_of (n := 200) (T := ⟨fun r i => match r, i with | 1, 2 => some ((vI (chk1 (n) (s))), h) | 2, 1 => some ((vB false), h) | 4, 1 => some ((vI (((pop (s).toNat : Nat) : Int))), hh186) | 4, 2 => some ((vI (2 * (((pop (s).toNat : Nat) : Int)))), hh186) | 4, 4 => some ((vB false), hh186) | _, _ => none, fun _ => none, none⟩)
        (A := SoundCall Tryd.prog 35 #[(Value.int .u64 (s)), (vI (n))] h (vI (chk1 (n) (s))) h ∧ (binA Tryd.prog .neq 23 (vI (chk1 (n) (s))) (vI 0) = some (vB false) ∧ h = h) ∧ SoundCall Tryd.prog 27 #[(Value.int .u64 (s))] h (vI (((pop (s).toNat : Nat) : Int))) hh186 ∧ (binA Tryd.prog .mul 3 (vI 2) (vI (((pop (s).toNat : Nat) : Int))) = some (vI (2 * (((pop (s).toNat : Nat) : Int)))) ∧ hh186 = hh186) ∧ (binA Tryd.prog .gtr 3 (vI (2 * (((pop (s).toNat : Nat) : Int)))) (vI (n)) = some (vB false) ∧ hh186 = hh186) ∧ (fun v h1 => v = .tuple #[.bool (isB s n), .int .i64 (chk1 n s)] ∧ Ext h h1) (Value.tuple #[(vB false), (vI 0)]) hh186) (by kernel_rfl) ⟨sn183, ⟨cmp_neq (decide_eq_false (not_not_intro c185)), rfl⟩, sn187, ⟨mul_two (by omega) (by omega), rfl⟩, ⟨cmp_gtr (decide_eq_false c191), rfl⟩, ⟨by rw [isB, decide_eq_false (fun w => absurd w.2 (by omega)), c185], x189⟩⟩
  · exact hCall_of (n := 200) (T := ⟨fun r i => match r, i with | 1, 2 => some ((vI (chk1 (n) (s))), h) | 2, 1 => some ((vB true), h) | _, _ => none, fun _ => none, none⟩)
      (A := SoundCall Tryd.prog 35 #[(Value.int .u64 (s)), (vI (n))] h (vI (chk1 (n) (s))) h ∧ (binA Tryd.prog .neq 23 (vI (chk1 (n) (s))) (vI 0) = some (vB true) ∧ h = h) ∧ (fun v h1 => v = .tuple #[.bool (isB s n), .int .i64 (chk1 n s)] ∧ Ext h h1) (Value.tuple #[(vB false), (vI (chk1 (n) (s)))]) h) (by kernel_rfl) ⟨sn183, ⟨cmp_neq (decide_eq_true c185), rfl⟩, ⟨by rw [isB, decide_eq_false (fun w => c185 w.1)], (Ext.refl h)⟩⟩
set_option maxHeartbeats 4000000 in
theorem rsurvives_ok (h : Heap) (s : Int) (hs : 0 ≤ s ∧ s ≤ 18446744073709551615) (n : Int) : WCall Tryd.prog 15 #[(Value.int .u64 (s)), (vI (n))] h (fun v h1 => v = .tuple #[.bool (surB s n), .int .i64 (surE s n)] ∧ Ext h h1) := by
  obtain ⟨_, _, sn193, rfl, rfl⟩ := rcheck_ok h (s) (by omega) (n)
  by_cases c195 : ((chk1 (n) (s)) : Int) = 0
  · have q196 := chk1_ok (by omega) c195
    obtain ⟨_, hh197, sn198, rfl, x199⟩ := ris_ok h (usub (usub (ushl 1 (n)) 1) (s)) (usub_range _ _) (n)
    have x200 := (Ext.refl h).trans x199
    exact hCall_of (n := 200) (T := ⟨fun r i => match r, i with | 1, 2 => some ((vI (chk1 (n) (s))), h) | 2, 1 => some ((vB false), h) | 4, 1 => some ((Value.int .u64 (ushl 1 (n))), h) | 4, 2 => some ((Value.int .u64 (usub (ushl 1 (n)) 1)), h) | 4, 4 => some ((Value.int .u64 (usub (usub (ushl 1 (n)) 1) (s))), h) | 4, 6 => some ((Value.tuple #[(vB (isB (usub (usub (ushl 1 (n)) 1) (s)) (n))), (vI (chk1 (n) (usub (usub (ushl 1 (n)) 1) (s))))]), hh197) | _, _ => none, fun _ => none, none⟩)
      (A := SoundCall Tryd.prog 35 #[(Value.int .u64 (s)), (vI (n))] h (vI (chk1 (n) (s))) h ∧ (binA Tryd.prog .neq 23 (vI (chk1 (n) (s))) (vI 0) = some (vB false) ∧ h = h) ∧ (binA Tryd.prog .shl 22 (Value.int .u64 1) (vI (n)) = some (Value.int .u64 (ushl 1 (n))) ∧ h = h) ∧ (binA Tryd.prog .sub 22 (Value.int .u64 (ushl 1 (n))) (Value.int .u64 1) = some (Value.int .u64 (usub (ushl 1 (n)) 1)) ∧ h = h) ∧ (binA Tryd.prog .sub 22 (Value.int .u64 (usub (ushl 1 (n)) 1)) (Value.int .u64 (s)) = some (Value.int .u64 (usub (usub (ushl 1 (n)) 1) (s))) ∧ h = h) ∧ SoundCall Tryd.prog 13 #[(Value.int .u64 (usub (usub (ushl 1 (n)) 1) (s))), (vI (n))] h (Value.tuple #[(vB (isB (usub (usub (ushl 1 (n)) 1) (s)) (n))), (vI (chk1 (n) (usub (usub (ushl 1 (n)) 1) (s))))]) hh197 ∧ (fun v h1 => v = .tuple #[.bool (surB s n), .int .i64 (surE s n)] ∧ Ext h h1) (Value.tuple #[(vB (isB (usub (usub (ushl 1 (n)) 1) (s)) (n))), (vI (chk1 (n) (usub (usub (ushl 1 (n)) 1) (s))))]) hh197) (by kernel_rfl) ⟨sn193, ⟨cmp_neq (decide_eq_false (not_not_intro c195)), rfl⟩, ⟨shl_raw (by omega), rfl⟩, ⟨sub_raw, rfl⟩, ⟨sub_raw, rfl⟩, sn198, ⟨by rw [surB, surE, if_pos c195, if_pos c195]; rfl, x200⟩⟩
  · exact hCall_of (n := 200) (T := ⟨fun r i => match r, i with | 1, 2 => some ((vI (chk1 (n) (s))), h) | 2, 1 => some ((vB true), h) | _, _ => none, fun _ => none, none⟩)
      (A := SoundCall Tryd.prog 35 #[(Value.int .u64 (s)), (vI (n))] h (vI (chk1 (n) (s))) h ∧ (binA Tryd.prog .neq 23 (vI (chk1 (n) (s))) (vI 0) = some (vB true) ∧ h = h) ∧ (fun v h1 => v = .tuple #[.bool (surB s n), .int .i64 (surE s n)] ∧ Ext h h1) (Value.tuple #[(vB false), (vI (chk1 (n) (s)))]) h) (by kernel_rfl) ⟨sn193, ⟨cmp_neq (decide_eq_true c195), rfl⟩, ⟨by rw [surB, surE, if_neg c195, if_neg c195], (Ext.refl h)⟩⟩
set_option maxHeartbeats 4000000 in
theorem rwith_ok (h : Heap) (s : Int) (hs : 0 ≤ s ∧ s ≤ 18446744073709551615) (k n : Int) : WCall Tryd.prog 17 #[(Value.int .u64 (s)), (vI (k)), (vI (n))] h (fun v h1 => v = .tuple #[.int .u64 (wiV s k n), .int .i64 (wiE s k n)] ∧ Ext h h1) := by
  obtain ⟨_, _, sn202, rfl, rfl⟩ := rcheck_ok h (s) (by omega) (n)
  by_cases c204 : ((chk1 (n) (s)) : Int) = 0
  · have q205 := chk1_ok (by omega) c204
    by_cases c206 : ((k) : Int) < 0
    · exact hCall_of (n := 200) (T := ⟨fun r i => match r, i with | 1, 2 => some ((vI (chk1 (n) (s))), h) | 2, 1 => some ((vB false), h) | 2, 4 => some ((vB true), h) | _, _ => none, fun _ => none, none⟩)
        (A := SoundCall Tryd.prog 35 #[(Value.int .u64 (s)), (vI (n))] h (vI (chk1 (n) (s))) h ∧ (binA Tryd.prog .neq 23 (vI (chk1 (n) (s))) (vI 0) = some (vB false) ∧ h = h) ∧ (binA Tryd.prog .lss 3 (vI (k)) (vI 0) = some (vB true) ∧ h = h) ∧ (fun v h1 => v = .tuple #[.int .u64 (wiV s k n), .int .i64 (wiE s k n)] ∧ Ext h h1) (Value.tuple #[(Value.int .u64 0), (vI 2)]) h) (by kernel_rfl) ⟨sn202, ⟨cmp_neq (decide_eq_false (not_not_intro c204)), rfl⟩, ⟨cmp_lss (decide_eq_true c206), rfl⟩, ⟨by rw [wiV, wiE, if_neg (fun w => by omega), if_pos c204, if_neg (fun w => by omega)], (Ext.refl h)⟩⟩
    · by_cases c207 : ((n) : Int) ≤ (k)
      · exact hCall_of (n := 200) (T := ⟨fun r i => match r, i with | 1, 2 => some ((vI (chk1 (n) (s))), h) | 2, 1 => some ((vB false), h) | 2, 4 => some ((vB false), h) | 2, 9 => some ((vB true), h) | _, _ => none, fun _ => none, none⟩)
          (A := SoundCall Tryd.prog 35 #[(Value.int .u64 (s)), (vI (n))] h (vI (chk1 (n) (s))) h ∧ (binA Tryd.prog .neq 23 (vI (chk1 (n) (s))) (vI 0) = some (vB false) ∧ h = h) ∧ (binA Tryd.prog .lss 3 (vI (k)) (vI 0) = some (vB false) ∧ h = h) ∧ (binA Tryd.prog .geq 3 (vI (k)) (vI (n)) = some (vB true) ∧ h = h) ∧ (fun v h1 => v = .tuple #[.int .u64 (wiV s k n), .int .i64 (wiE s k n)] ∧ Ext h h1) (Value.tuple #[(Value.int .u64 0), (vI 2)]) h) (by kernel_rfl) ⟨sn202, ⟨cmp_neq (decide_eq_false (not_not_intro c204)), rfl⟩, ⟨cmp_lss (decide_eq_false c206), rfl⟩, ⟨cmp_geq (decide_eq_true c207), rfl⟩, ⟨by rw [wiV, wiE, if_neg (fun w => by omega), if_pos c204, if_neg (fun w => by omega)], (Ext.refl h)⟩⟩
      · exact hCall_of (n := 200) (T := ⟨fun r i => match r, i with | 1, 2 => some ((vI (chk1 (n) (s))), h) | 2, 1 => some ((vB false), h) | 2, 4 => some ((vB false), h) | 2, 9 => some ((vB false), h) | 4, 2 => some ((Value.int .u64 (ushl 1 (k))), h) | 4, 3 => some ((Value.int .u64 (uor (s) (ushl 1 (k)))), h) | _, _ => none, fun _ => none, none⟩)
          (A := SoundCall Tryd.prog 35 #[(Value.int .u64 (s)), (vI (n))] h (vI (chk1 (n) (s))) h ∧ (binA Tryd.prog .neq 23 (vI (chk1 (n) (s))) (vI 0) = some (vB false) ∧ h = h) ∧ (binA Tryd.prog .lss 3 (vI (k)) (vI 0) = some (vB false) ∧ h = h) ∧ (binA Tryd.prog .geq 3 (vI (k)) (vI (n)) = some (vB false) ∧ h = h) ∧ (binA Tryd.prog .shl 22 (Value.int .u64 1) (vI (k)) = some (Value.int .u64 (ushl 1 (k))) ∧ h = h) ∧ (binA Tryd.prog .or 22 (Value.int .u64 (s)) (Value.int .u64 (ushl 1 (k))) = some (Value.int .u64 (uor (s) (ushl 1 (k)))) ∧ h = h) ∧ (fun v h1 => v = .tuple #[.int .u64 (wiV s k n), .int .i64 (wiE s k n)] ∧ Ext h h1) (Value.tuple #[(Value.int .u64 (uor (s) (ushl 1 (k)))), (vI 0)]) h) (by kernel_rfl) ⟨sn202, ⟨cmp_neq (decide_eq_false (not_not_intro c204)), rfl⟩, ⟨cmp_lss (decide_eq_false c206), rfl⟩, ⟨cmp_geq (decide_eq_false c207), rfl⟩, ⟨shl_raw (by omega), rfl⟩, ⟨or_raw, rfl⟩, ⟨by rw [wiV, wiE, if_pos ⟨c204, by omega, by omega⟩, if_pos c204, if_pos ⟨by omega, by omega⟩], (Ext.refl h)⟩⟩
  · exact hCall_of (n := 200) (T := ⟨fun r i => match r, i with | 1, 2 => some ((vI (chk1 (n) (s))), h) | 2, 1 => some ((vB true), h) | _, _ => none, fun _ => none, none⟩)
      (A := SoundCall Tryd.prog 35 #[(Value.int .u64 (s)), (vI (n))] h (vI (chk1 (n) (s))) h ∧ (binA Tryd.prog .neq 23 (vI (chk1 (n) (s))) (vI 0) = some (vB true) ∧ h = h) ∧ (fun v h1 => v = .tuple #[.int .u64 (wiV s k n), .int .i64 (wiE s k n)] ∧ Ext h h1) (Value.tuple #[(Value.int .u64 0), (vI 2)]) h) (by kernel_rfl) ⟨sn202, ⟨cmp_neq (decide_eq_true c204), rfl⟩, ⟨by rw [wiV, wiE, if_neg (fun w => c204 w.1), if_neg c204, chk1_two c204], (Ext.refl h)⟩⟩
end C11
