/- The reference: sets. -/
import Derived.Test.YtpagkfbpgppeiaaKc
import Derived.KernelRfl
open Go Go.AM Go.Proofs
namespace C14
theorem sizeb3 : (Try.prog.info? 3).map (fun i => (i.size, i.bytes)) = some (1, 8) := by kernel_rfl
theorem und91 : Try.prog.underlying 91 = some (.slice 3) := by kernel_rfl
theorem zero3 : zeroA Try.prog 3 = some (Value.int .i64 0) := by kernel_rfl
theorem chk1_two {n s : Int} (h : ¬ chk1 n s = 0) : chk1 n s = 2 := by
  unfold chk1 at h ⊢
  split at h
  · rename_i hc; rw [if_pos hc]
  · exact absurd rfl h
theorem chk1_iff {n s : Int} (hs : 0 ≤ s ∧ s ≤ 18446744073709551615) (h1 : 1 ≤ n) (h7 : n ≤ 7) : chk1 n s = 0 ↔ s < ushl 1 n := by
  rw [ushl_one (by omega) (by omega)]
  have hb := big_iff (n := n) (by omega) (by omega) hs
  unfold chk1
  constructor
  · intro h
    split at h
    · cases h
    · rename_i hc
      have : ¬ big n s = true := fun w => hc (.inr (.inr w))
      rw [hb] at this; omega
  · intro h
    rw [if_neg]
    rintro (w | w | w)
    · omega
    · omega
    · rw [hb] at w; omega
theorem chk1_zero (n : Int) : chk1 n 0 = chk0 n := by
  unfold chk0
  by_cases hc : n < 1 ∨ 7 < n
  · rw [if_pos hc]; unfold chk1; rw [if_pos (by rcases hc with w | w; exact .inl w; exact .inr (.inl w))]
  · rw [if_neg hc, (chk1_iff (by omega) (by omega) (by omega)).2]
    rw [ushl_one (by omega) (by omega)]
    have := Nat.two_pow_pos n.toNat
    omega
theorem mul_two {t : TypeId} {a : Int} (h0 : 0 ≤ a) (h1 : a ≤ 1000) : binA Try.prog .mul t (.int .i64 2) (.int .i64 a) = some (.int .i64 (2 * a)) := by
  simp only [binA, intBinA]
  rw [if_neg (by decide), if_pos trivial, IntKind.wrap_i64]
  congr 2; omega
/-- The nodes of a set below k. -/
def nodesP (s k : Nat) : List Int := ((List.range k).filter fun i => s.testBit i).map fun i : Nat => (i : Int)
def nodesI (s : Int) : List Int := nodesP s.toNat 64
theorem nodesP_next (s k : Nat) : nodesP s (k + 1) = nodesP s k ++ (if s.testBit k = true then [(k : Int)] else []) := by
  simp only [nodesP, List.range_succ, List.filter_append, List.map_append]
  congr 1
  cases h : s.testBit k <;> simp [List.filter_cons, h]
theorem nodesP_len (s k : Nat) : (nodesP s k).length ≤ k := by
  unfold nodesP
  rw [List.length_map]
  exact Nat.le_trans (List.length_filter_le _ _) (by simp)
theorem pop_len (s : Nat) : (nodesP s 64).length = pop s := by unfold nodesP pop nodesL; rw [List.length_map]
theorem nodesI_len (s : Int) : (nodesI s).length = pop s.toNat := pop_len _
theorem pop_le (s : Nat) : pop s ≤ 64 := by rw [← pop_len]; exact nodesP_len _ _
theorem ushr_eq {s k : Int} (hk : 0 ≤ k ∧ k ≤ 63) : ushr s k = s / ((2 ^ k.toNat : Nat) : Int) := by
  unfold ushr
  rw [show min k.toNat IntKind.u64.bits = k.toNat by simp [IntKind.bits]; omega, Int.fdiv_eq_ediv_of_nonneg _ (Int.le_of_lt (Int.pow_pos (by decide)))]
  simp
theorem ushr_pos {s k : Int} (hs : 0 ≤ s) : 0 ≤ ushr s k := by
  unfold ushr
  rw [Int.fdiv_eq_ediv_of_nonneg _ (Int.le_of_lt (Int.pow_pos (by decide)))]
  exact Int.ediv_nonneg hs (Int.le_of_lt (Int.pow_pos (by decide)))
theorem bit_iff {s k : Int} (hs : 0 ≤ s) (hk : 0 ≤ k ∧ k ≤ 63) : ushr s k % 2 = 1 ↔ s.toNat.testBit k.toNat = true := by
  obtain ⟨x, rfl⟩ : ∃ x : Nat, s = (x : Int) := ⟨s.toNat, by omega⟩
  rw [ushr_eq hk, Nat.testBit_eq_decide_div_mod_eq, decide_eq_true_eq, ← Int.natCast_ediv]
  simp only [Int.toNat_natCast]
  omega
set_option maxHeartbeats 4000000 in
theorem rcheck_ok (h : Heap) (s : Int) (hs : 0 ≤ s ∧ s ≤ 18446744073709551615) (n : Int) : WCall Try.prog 50 #[(Value.int .u64 (s)), (vI (n))] h (fun v h1 => v = .int .i64 (chk1 n s) ∧ h = h1) := by
  by_cases c89 : ((n) : Int) < 1
  · exact hCall_ev [ltT 1 1 3 c89] [] (vI 2) h ⟨by unfold chk1; rw [if_pos (.inl c89)], rfl⟩
  · by_cases c90 : (7 : Int) < (n)
    · exact hCall_ev [ltF 1 1 3 c89, gtT 1 4 3 c90] [] (vI 2) h ⟨by unfold chk1; rw [if_pos (.inr (.inl c90))], rfl⟩
    · by_cases c91 : ((ushl 1 (n)) : Int) ≤ (s)
      · have q := chk1_two (n := n) (s := s) (fun w => by have := (chk1_iff (n := n) hs (by omega) (by omega)).1 w; omega)
        exact hCall_ev [ltF 1 1 3 c89, gtF 1 4 3 c90, evV 1 9 (Value.int .u64 (ushl 1 (n))) (show binA Try.prog .shl 52 (Value.int .u64 1) (vI n) = some (Value.int .u64 (ushl 1 (n))) from shl_raw (by omega)), evV 1 10 (vB true) (show binA Try.prog .geq 52 (Value.int .u64 (s)) (Value.int .u64 (ushl 1 (n))) = some (vB true) from cmp_geq (decide_eq_true c91))] [] (vI 2) h ⟨by rw [q], rfl⟩
      · have q := (chk1_iff (n := n) hs (by omega) (by omega)).2 (by omega)
        exact hCall_ev [ltF 1 1 3 c89, gtF 1 4 3 c90, evV 1 9 (Value.int .u64 (ushl 1 (n))) (show binA Try.prog .shl 52 (Value.int .u64 1) (vI n) = some (Value.int .u64 (ushl 1 (n))) from shl_raw (by omega)), evV 1 10 (vB false) (show binA Try.prog .geq 52 (Value.int .u64 (s)) (Value.int .u64 (ushl 1 (n))) = some (vB false) from cmp_geq (decide_eq_false c91))] [] (vI 0) h ⟨by rw [q], rfl⟩
set_option maxHeartbeats 4000000 in
theorem rnodes_ok (h : Heap) (s : Int) (hs : 0 ≤ s ∧ s ≤ 18446744073709551615) : WCall Try.prog 55 #[(Value.int .u64 (s))] h (fun v h1 => ∃ wa wc, v = .slice wa (nodesI s).length wc ∧ OwnAt h1 3 icell (nodesI s) v ∧ Ext h h1 ∧ ∀ b, blk v b → h.size ≤ b) := by
  refine wcall_by fun K hK => ?_
  refine wcall_at { tmps := #[(Value.int .u64 (s)), vZ, vZ, vZ, vZ, vZ, vZ, vZ, vZ, vZ, vZ, vZ, vZ, vZ, vZ, vZ, vZ, vZ, vZ], defers := [] } (by kernel_rfl) ?_
  refine wc_seq' (subc (bodyOf Try.prog 55) [0]) (subc (bodyOf Try.prog 55) [1]) (by kernel_rfl) ?_
  refine wc_ev [] .normal h [(2, (vL none 0 0))] ?_
  refine wc_seq' (subc (bodyOf Try.prog 55) [1, 0]) (subc (bodyOf Try.prog 55) [1, 1]) (by kernel_rfl) ?_
  refine wc_ev [] .normal h [(3, (vL none 0 0))] ?_
  refine wc_seq' (subc (bodyOf Try.prog 55) [1, 1, 0]) (subc (bodyOf Try.prog 55) [1, 1, 1]) (by kernel_rfl) ?_
  refine wc_seq' (subc (bodyOf Try.prog 55) [1, 1, 0, 0]) (subc (bodyOf Try.prog 55) [1, 1, 0, 1]) (by kernel_rfl) ?_
  refine wc_ev [] .normal h [(4, (vI 0))] ?_
  refine wc_block' 0 (subc (bodyOf Try.prog 55) [1, 1, 0, 1, 0]) (by kernel_rfl) ?_
  refine wc_loop' (subc (bodyOf Try.prog 55) [1, 1, 0, 1, 0, 0]) (by kernel_rfl) (fun n' a' h' => ∃ (k : Int) (out : List Int) (wa : Option Addr) (wc : Nat) (gb92 : Nat → Value), a' = { tmps := #[(Value.int .u64 (s)), vZ, (vL none 0 0), (vL wa out.length wc), (vI k), (gb92 5), (gb92 6), (gb92 7), (gb92 8), (gb92 9), (gb92 10), (gb92 11), (gb92 12), (gb92 13), (gb92 14), (gb92 15), (gb92 16), (gb92 17), vZ], defers := [] } ∧ Ext h h' ∧ n' = 64 - k.toNat ∧ (0 ≤ k ∧ k ≤ 64) ∧ out = nodesP s.toNat k.toNat ∧ (out.length : Int) ≤ k ∧ (∀ zz, blk (vL wa out.length wc) zz → h.size ≤ zz) ∧ OwnAt h' 3 icell out (vL wa out.length wc)) ?_ (64 - (0 : Int).toNat) ⟨0, [], none, 0, (fun i => ([vU, vU, vU, vU, vU, vZ, vZ, vZ, vZ, vZ, vZ, vZ, vZ, vZ, vZ, vZ, vZ, vZ] : List Value).getD i undef), by as_aux_lemma => kernel_rfl, (Ext.refl h), rfl, by omega, rfl, by simp, fun zz hz => hz.elim, .inl ⟨rfl, rfl⟩⟩
  rintro n' _ h93 ⟨k, out, wa, wc, gb92, rfl, x100, m99, i94, i95, i96, i97, p98⟩
  by_cases c101 : ((k) : Int) < 64
  · by_cases c102 : (((ushr (s) (k)) % 2) : Int) = 1
    · obtain ⟨b105, eb106⟩ : ∃ zq, zq = h93.size := ⟨_, rfl⟩
      obtain ⟨h103, e104⟩ : ∃ zq, zq = h93.push (.cells #[(vI (k))] 3 (0, 0)) := ⟨_, rfl⟩
      have f107 := push_new e104
      rw [← eb106] at f107
      have x109 : Ext h93 h103 := by rw [e104]; exact Ext.push _ _
      have o110 : h.size ≤ b105 := by have := x100.size; omega
      have p111 := p98.keep fun b r _ q => x109 b r q
      have x112 := x100.trans x109
      obtain ⟨w113, h114, e115, p116, c117, n118, z119⟩ := own_append und91 sizeb3 zero3 rfl (by decide) icell_size (x := (k : Int)) p111 f107 rfl (by omega) (by unfold maxLen; omega)
      obtain ⟨a120, c121, rfl⟩ := (p116.slice icell_size).len
      have z122 : h.size ≤ h103.size := x112.size
      have x123 : Ext h _ := (Chg.then (O := fun _ => False) (Chg.ext x112) c117 (fun b hb => .inr (i97 b hb))).toExt'
      have o127 : ∀ zz, blk (Value.slice a120 ((out ++ [(k : Int)]).length) (c121)) zz → h.size ≤ zz := fun zz hz => by have := n118 zz hz; have := z122; omega
      refine wc_ev [ltT 3 1 3 c101, evV 5 2 (Value.int .u64 (ushr (s) (k))) (show binA Try.prog .shr 52 (Value.int .u64 (s)) (vI k) = some (Value.int .u64 (ushr (s) (k))) from shr_raw (by omega)), evV 5 3 (Value.int .u64 ((ushr (s) (k)) % 2)) (show binA Try.prog .rem 52 (Value.int .u64 (ushr (s) (k))) (Value.int .u64 2) = some (Value.int .u64 ((ushr (s) (k)) % 2)) from urem_raw (ushr_pos (by omega)) (by omega)), evV 5 4 (vB true) (show binA Try.prog .eql 52 (Value.int .u64 ((ushr (s) (k)) % 2)) (Value.int .u64 1) = some (vB true) from cmp_eql (decide_eq_true c102)), evS 6 2 1 eb106 e104, evP 6 3 e115, evV 4 1 (vI ((k) + 1)) (show binA Try.prog .add 3 (vI k) (vI 1) = some (vI ((k) + 1)) from add_i64 (by omega) (by omega))] .normal h114 [(5, (vI k)), (6, (vB true)), (9, (Value.int .u64 (s))), (10, (vI k)), (11, (Value.int .u64 (ushr (s) (k)))), (12, (Value.int .u64 ((ushr (s) (k)) % 2))), (13, (vB true)), (14, (vL wa out.length wc)), (15, (vI k)), (16, (vL (some ⟨b105, 0, none⟩) 1 1)), (17, (Value.slice a120 ((out ++ [(k : Int)]).length) (c121))), (3, (Value.slice a120 ((out ++ [(k : Int)]).length) (c121))), (7, (vI k)), (8, (vI ((k) + 1))), (4, (vI ((k) + 1)))] ?_
      have bi := bit_iff (s := s) (k := k) (by omega) (by omega)
      exact ⟨64 - (k + 1).toNat, by omega, ⟨k + 1, (out ++ [(k : Int)]), a120, c121, (fun i => ([vU, vU, vU, vU, vU, (vI k), (vB true), (vI k), (vI ((k) + 1)), (Value.int .u64 (s)), (vI k), (Value.int .u64 (ushr (s) (k))), (Value.int .u64 ((ushr (s) (k)) % 2)), (vB true), (vL wa out.length wc), (vI k), (vL (some ⟨b105, 0, none⟩) 1 1), (Value.slice a120 ((out ++ [(k : Int)]).length) (c121))] : List Value).getD i undef), by as_aux_lemma => kernel_rfl, x123, rfl, by omega, by rw [show (k + 1).toNat = k.toNat + 1 by omega, nodesP_next, if_pos (bi.1 c102), ← i95]; congr 2; omega, by simp; omega, o127, p116⟩⟩
    · refine wc_ev [ltT 3 1 3 c101, evV 5 2 (Value.int .u64 (ushr (s) (k))) (show binA Try.prog .shr 52 (Value.int .u64 (s)) (vI k) = some (Value.int .u64 (ushr (s) (k))) from shr_raw (by omega)), evV 5 3 (Value.int .u64 ((ushr (s) (k)) % 2)) (show binA Try.prog .rem 52 (Value.int .u64 (ushr (s) (k))) (Value.int .u64 2) = some (Value.int .u64 ((ushr (s) (k)) % 2)) from urem_raw (ushr_pos (by omega)) (by omega)), evV 5 4 (vB false) (show binA Try.prog .eql 52 (Value.int .u64 ((ushr (s) (k)) % 2)) (Value.int .u64 1) = some (vB false) from cmp_eql (decide_eq_false c102)), evV 4 1 (vI ((k) + 1)) (show binA Try.prog .add 3 (vI k) (vI 1) = some (vI ((k) + 1)) from add_i64 (by omega) (by omega))] .normal h93 [(5, (vI k)), (6, (vB true)), (9, (Value.int .u64 (s))), (10, (vI k)), (11, (Value.int .u64 (ushr (s) (k)))), (12, (Value.int .u64 ((ushr (s) (k)) % 2))), (13, (vB false)), (7, (vI k)), (8, (vI ((k) + 1))), (4, (vI ((k) + 1)))] ?_
      have bi := bit_iff (s := s) (k := k) (by omega) (by omega)
      exact ⟨64 - (k + 1).toNat, by omega, ⟨k + 1, out, wa, wc, (fun i => ([vU, vU, vU, vU, vU, (vI k), (vB true), (vI k), (vI ((k) + 1)), (Value.int .u64 (s)), (vI k), (Value.int .u64 (ushr (s) (k))), (Value.int .u64 ((ushr (s) (k)) % 2)), (vB false), (gb92 14), (gb92 15), (gb92 16), (gb92 17)] : List Value).getD i undef), by as_aux_lemma => kernel_rfl, x100, rfl, by omega, by rw [show (k + 1).toNat = k.toNat + 1 by omega, nodesP_next, if_neg (fun w => c102 (bi.2 w)), ← i95]; simp, by omega, i97, p98⟩⟩
  · refine wc_ev [ltF 3 1 3 c101] (.exit 0) h93 [(5, (vI k)), (6, (vB false))] ?_
    refine wc_ev [] .ret h93 [(18, (vL wa out.length wc)), (2, (vL wa out.length wc))] ?_
    have eo : out = nodesI s := by rw [i95]; unfold nodesI; congr 1; omega
    exact end_ev [] (vL wa out.length wc) (hK _ _ (⟨wa, wc, by rw [← eo], by rw [← eo]; exact p98, x100, i97⟩))
theorem uand_range (a b : Int) : 0 ≤ uand a b ∧ uand a b ≤ 18446744073709551615 := by
  simp only [uand, IntKind.wrap_u64]; omega
set_option maxHeartbeats 4000000 in
theorem rcount_ok (h : Heap) (s : Int) (hs : 0 ≤ s ∧ s ≤ 18446744073709551615) : WCall Try.prog 51 #[(Value.int .u64 (s))] h (fun v h1 => v = .int .i64 ((pop s.toNat : Nat) : Int) ∧ Ext h h1) := by
  obtain ⟨_, hh132, sn133, a128, c129, rfl, o130, x134, b131⟩ := rnodes_ok h (s) (by omega)
  have x135 := (Ext.refl h).trans x134
  have := nodesI_len (s)
  have := pop_le (s).toNat
  have z137 : h.size ≤ h.size := (Ext.refl h).size
  have o138 : ∀ zz, blk (Value.slice a128 ((nodesI (s)).length) (c129)) zz → h.size ≤ zz := fun zz hz => by have := b131 zz hz; omega
  exact hCall_ev [evF 1 1 sn133] [] (vI (((nodesI (s)).length : Nat))) hh132 ⟨by rw [nodesI_len], x135⟩
set_option maxHeartbeats 4000000 in
theorem ris_ok (h : Heap) (s : Int) (hs : 0 ≤ s ∧ s ≤ 18446744073709551615) (n : Int) : WCall Try.prog 43 #[(Value.int .u64 (s)), (vI (n))] h (fun v h1 => v = .tuple #[.bool (isB s n), .int .i64 (chk1 n s)] ∧ Ext h h1) := by
  obtain ⟨_, _, sn140, rfl, rfl⟩ := rcheck_ok h (s) (by omega) (n)
  by_cases c142 : ((chk1 (n) (s)) : Int) = 0
  · obtain ⟨_, hh143, sn144, rfl, x145⟩ := rcount_ok h (s) (by omega)
    have x146 := (Ext.refl h).trans x145
    have := pop_le (s).toNat
    have q147 := chk1_ok (by omega) c142
    by_cases c148 : ((n) : Int) < (2 * (((pop (s).toNat : Nat) : Int)))
    · exact hCall_ev [evF 1 2 sn140, neF 2 1 31 c142, evF 4 1 sn144, evV 4 2 (vI (2 * (((pop (s).toNat : Nat) : Int)))) (show binA Try.prog .mul 3 (vI 2) (vI (((pop (s).toNat : Nat) : Int))) = some (vI (2 * (((pop (s).toNat : Nat) : Int)))) from mul_two (by omega) (by omega)), gtT 4 4 3 c148] [] (vT #[(vB true), (vI 0)]) hh143 ⟨by rw [isB, decide_eq_true ⟨c142, by omega⟩, c142], x146⟩
    · exact hCall_ev [evF 1 2 sn140, neF 2 1 31 c142, evF 4 1 sn144, evV 4 2 (vI (2 * (((pop (s).toNat : Nat) : Int)))) (show binA Try.prog .mul 3 (vI 2) (vI (((pop (s).toNat : Nat) : Int))) = some (vI (2 * (((pop (s).toNat : Nat) : Int)))) from mul_two (by omega) (by omega)), gtF 4 4 3 c148] [] (vT #[(vB false), (vI 0)]) hh143 ⟨by rw [isB, decide_eq_false (fun w => absurd w.2 (by omega)), c142], x146⟩
  · exact hCall_ev [evF 1 2 sn140, neT 2 1 31 c142] [] (vT #[(vB false), (vI (chk1 (n) (s)))]) h ⟨by rw [isB, decide_eq_false (fun w => c142 w.1)], (Ext.refl h)⟩
end C14
