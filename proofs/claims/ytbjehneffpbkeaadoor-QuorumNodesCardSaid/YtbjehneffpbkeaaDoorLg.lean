/- The law QuorumNodes, run. -/
import Derived.Test.YtbjehneffpbkeaaDoorKn
import Derived.KernelRfl
open Go Go.AM Go.Proofs
namespace C11
set_option maxHeartbeats 4000000 in
theorem quorum_nodes (h : Heap) (hg : At h 0 tabRow) (s : Int) (hs : 0 ≤ s ∧ s ≤ 18446744073709551615) : WCall Tryd.prog 8 #[(Value.int .u64 (s))] h (fun v h1 => v = .bool true ∧ Ext h h1) := by
  suffices H : ∀ K : Value → Heap → Prop, (∀ v h1, (fun v h1 => v = .bool true ∧ Ext h h1) v h1 → K v h1) → WCall Tryd.prog 8 #[(Value.int .u64 (s))] h K from H _ fun _ _ q => q
  intro K hK
  refine wcall_at { tmps := #[(Value.int .u64 (s)), (Value.tuple #[]), (Value.tuple #[]), (Value.tuple #[]), (Value.tuple #[]), (Value.tuple #[]), (Value.tuple #[]), (Value.tuple #[]), (Value.tuple #[]), (Value.tuple #[]), (Value.tuple #[]), (Value.tuple #[]), (Value.tuple #[]), (Value.tuple #[]), (Value.tuple #[]), (Value.tuple #[]), (Value.tuple #[]), (Value.tuple #[]), (Value.tuple #[]), (Value.tuple #[]), (Value.tuple #[]), (Value.tuple #[]), (Value.tuple #[]), (Value.tuple #[]), (Value.tuple #[]), (Value.tuple #[]), (Value.tuple #[]), (Value.tuple #[]), (Value.tuple #[]), (Value.tuple #[]), (Value.tuple #[]), (Value.tuple #[]), (Value.tuple #[]), (Value.tuple #[]), (Value.tuple #[]), (Value.tuple #[]), (Value.tuple #[]), (Value.tuple #[]), (Value.tuple #[]), (Value.tuple #[]), (Value.tuple #[]), (Value.tuple #[]), (Value.tuple #[]), (Value.tuple #[]), (Value.tuple #[]), (Value.tuple #[]), (Value.tuple #[]), (Value.tuple #[])], defers := [] } (by kernel_rfl) ?_
  refine wc_seq' (subc (bodyOf Tryd.prog 8) [0]) (subc (bodyOf Tryd.prog 8) [1]) (by kernel_rfl) ?_
  refine wc_upd (n := 200) (T := ⟨fun r i => match r, i with | _, _ => none, fun _ => none, none⟩) (x := .normal) (h1 := h) [(2, (vB false))]
    (fun q => q) (by intro K'; kernel_rfl) (fun _ q => q) ?_
  refine wc_seq' (subc (bodyOf Tryd.prog 8) [1, 0]) (subc (bodyOf Tryd.prog 8) [1, 1]) (by kernel_rfl) ?_
  refine wc_upd (n := 200) (T := ⟨fun r i => match r, i with | _, _ => none, fun _ => none, none⟩) (x := .normal) (h1 := h) [(3, (Value.int .u64 0)), (4, (vI (-1)))]
    (fun q => q) (by intro K'; kernel_rfl) (fun _ q => q) ?_
  refine wc_seq' (subc (bodyOf Tryd.prog 8) [1, 1, 0]) (subc (bodyOf Tryd.prog 8) [1, 1, 1]) (by kernel_rfl) ?_
  refine wc_seq' (subc (bodyOf Tryd.prog 8) [1, 1, 0, 0]) (subc (bodyOf Tryd.prog 8) [1, 1, 0, 1]) (by kernel_rfl) ?_
  obtain ⟨_, hh992, sn993, a988, c989, rfl, o990, x994, b991⟩ := nodes_ok h (hg.keep fun b r _ q => (Ext.refl h) b r q) (s) (by omega)
  have x995 := (Ext.refl h).trans x994
  have := nodesI_len (s)
  have := pop_le (s).toNat
  have z997 : h.size ≤ h.size := (Ext.refl h).size
  have o999 : ∀ zz, blk (Value.slice a988 ((nodesI (s)).length) (c989)) zz → h.size ≤ zz := fun zz hz => by have := b991 zz hz; omega
  refine wc_upd (n := 200) (T := ⟨fun r i => match r, i with | 2, 1 => some ((Value.slice a988 ((nodesI (s)).length) (c989)), hh992) | _, _ => none, fun _ => none, none⟩) (x := .normal) (h1 := hh992) [(7, (Value.int .u64 (s))), (8, (Value.slice a988 ((nodesI (s)).length) (c989))), (9, (vI (((nodesI (s)).length : Nat)))), (10, (vI 0))]
    (fun q => SoundCall Tryd.prog 29 #[(Value.int .u64 (s))] h (Value.slice a988 ((nodesI (s)).length) (c989)) hh992 ∧ q) (by intro K'; kernel_rfl) (fun _ q => ⟨sn993, q⟩) ?_
  refine wc_block' 0 (subc (bodyOf Tryd.prog 8) [1, 1, 0, 1, 0]) (by kernel_rfl) ?_
  refine wc_loop' (subc (bodyOf Tryd.prog 8) [1, 1, 0, 1, 0, 0]) (by kernel_rfl) (fun n' a' h' => ∃ (kk : Int) (bk : Int) (la : Int) (gb1000 : Nat → Value), a' = { tmps := #[(Value.int .u64 (s)), (Value.tuple #[]), (vB false), (Value.int .u64 (bk)), (vI (la)), (Value.tuple #[]), (gb1000 6), (Value.int .u64 (s)), (Value.slice a988 ((nodesI (s)).length) (c989)), (vI (((nodesI (s)).length : Nat))), (vI (kk)), (gb1000 11), (gb1000 12), (gb1000 13), (gb1000 14), (gb1000 15), (gb1000 16), (gb1000 17), (gb1000 18), (gb1000 19), (gb1000 20), (gb1000 21), (gb1000 22), (gb1000 23), (gb1000 24), (gb1000 25), (gb1000 26), (Value.tuple #[]), (Value.tuple #[]), (Value.tuple #[]), (Value.tuple #[]), (Value.tuple #[]), (Value.tuple #[]), (Value.tuple #[]), (Value.tuple #[]), (Value.tuple #[]), (Value.tuple #[]), (Value.tuple #[]), (Value.tuple #[]), (Value.tuple #[]), (Value.tuple #[]), (Value.tuple #[]), (Value.tuple #[]), (Value.tuple #[]), (Value.tuple #[]), (Value.tuple #[]), (Value.tuple #[]), (Value.tuple #[])], defers := [] } ∧ hh992 = h' ∧ n' = (nodesI s).length - kk.toNat ∧ (0 ≤ kk ∧ kk ≤ (nodesI s).length) ∧ bk = bkL ((nodesI s).take kk.toNat) ∧ la = lastL ((nodesI s).take kk.toNat)) ?_ ((nodesI s).length - (0 : Int).toNat) ⟨0, 0, -1, (fun i => ([undef, undef, undef, undef, undef, undef, (Value.tuple #[]), undef, undef, undef, undef, (Value.tuple #[]), (Value.tuple #[]), (Value.tuple #[]), (Value.tuple #[]), (Value.tuple #[]), (Value.tuple #[]), (Value.tuple #[]), (Value.tuple #[]), (Value.tuple #[]), (Value.tuple #[]), (Value.tuple #[]), (Value.tuple #[]), (Value.tuple #[]), (Value.tuple #[]), (Value.tuple #[]), (Value.tuple #[])] : List Value).getD i undef), by kernel_rfl, rfl, rfl, by omega, rfl, rfl⟩
  rintro n' _ _ ⟨kk, bk, la, gb1000, rfl, rfl, m1005, i1002, i1003, i1004⟩
  by_cases c1007 : ((kk) : Int) < (((nodesI (s)).length : Nat))
  · obtain ⟨i1008, v1009, e1010, l1011, g1012⟩ := list_at (nodesI (s)) (e := (kk)) (by omega) (by omega)
    obtain ⟨b1013, o1014, q1016, a1017, k1015, u1018⟩ := o990.store icell_size g1012
    have ni := nodes_inc g1012
    rw [show i1008 = kk.toNat by omega, ← i1004] at ni
    by_cases c1019 : ((v1009) : Int) ≤ (la)
    · omega
    · by_cases c1020 : (63 : Int) < (v1009)
      · omega
      · refine wc_upd (n := 200) (T := ⟨fun r i => match r, i with | 3, 0 => some ((vB true), hh992) | 4, 0 => some ((vP b1013 o1014), hh992) | 4, 1 => some ((vI (v1009)), hh992) | 5, 2 => some ((vB false), hh992) | 5, 5 => some ((vB false), hh992) | 7, 2 => some ((Value.int .u64 (ushl 1 (v1009))), hh992) | 7, 3 => some ((Value.int .u64 (uor (bk) (ushl 1 (v1009)))), hh992) | 9, 0 => some ((vI ((kk) + 1)), hh992) | _, _ => none, fun _ => none, none⟩) (x := .normal) (h1 := hh992) [(11, (vB true)), (12, (vP b1013 o1014)), (13, (vI (v1009))), (6, (vI (v1009))), (14, (vI (v1009))), (15, (vI (la))), (16, (vB false)), (17, (vB false)), (18, (vI (v1009))), (19, (vB false)), (20, (vB false)), (21, (Value.int .u64 (bk))), (22, (vI (v1009))), (23, (Value.int .u64 (ushl 1 (v1009)))), (24, (Value.int .u64 (uor (bk) (ushl 1 (v1009))))), (3, (Value.int .u64 (uor (bk) (ushl 1 (v1009))))), (25, (vI (v1009))), (4, (vI (v1009))), (26, (vI ((kk) + 1))), (10, (vI ((kk) + 1)))]
          (fun q => (binA Tryd.prog .lss 3 (vI (kk)) (vI (((nodesI (s)).length : Nat))) = some (vB true) ∧ hh992 = hh992) ∧ (indexAddrA Tryd.prog 41 (Value.slice a988 ((nodesI (s)).length) (c989)) (vI (kk)) = some (vP b1013 o1014) ∧ hh992 = hh992) ∧ (loadT Tryd.prog hh992 3 (vP b1013 o1014) = some (vI (v1009)) ∧ hh992 = hh992) ∧ (binA Tryd.prog .leq 3 (vI (v1009)) (vI (la)) = some (vB false) ∧ hh992 = hh992) ∧ (binA Tryd.prog .gtr 3 (vI (v1009)) (vI 63) = some (vB false) ∧ hh992 = hh992) ∧ (binA Tryd.prog .shl 22 (Value.int .u64 1) (vI (v1009)) = some (Value.int .u64 (ushl 1 (v1009))) ∧ hh992 = hh992) ∧ (binA Tryd.prog .or 22 (Value.int .u64 (bk)) (Value.int .u64 (ushl 1 (v1009))) = some (Value.int .u64 (uor (bk) (ushl 1 (v1009)))) ∧ hh992 = hh992) ∧ (binA Tryd.prog .add 3 (vI (kk)) (vI 1) = some (vI ((kk) + 1)) ∧ hh992 = hh992) ∧ q) (by intro K'; kernel_rfl) (fun _ q => ⟨⟨cmp_lss (decide_eq_true c1007), rfl⟩, ⟨a1017 und41 size3 e1010, rfl⟩, ⟨k1015.cell (j := 0) agg3 rfl, rfl⟩, ⟨cmp_leq (decide_eq_false c1019), rfl⟩, ⟨cmp_gtr (decide_eq_false c1020), rfl⟩, ⟨shl_raw (by omega), rfl⟩, ⟨or_raw, rfl⟩, ⟨add_i64 (by omega) (by omega), rfl⟩, q⟩) ?_
        have bn := bk_next g1012
        exact ⟨(nodesI s).length - (kk + 1).toNat, by omega, ⟨kk + 1, uor (bk) (ushl 1 (v1009)), v1009, (fun i => ([undef, undef, undef, undef, undef, undef, (vI (v1009)), undef, undef, undef, undef, (vB true), (vP b1013 o1014), (vI (v1009)), (vI (v1009)), (vI (la)), (vB false), (vB false), (vI (v1009)), (vB false), (vB false), (Value.int .u64 (bk)), (vI (v1009)), (Value.int .u64 (ushl 1 (v1009))), (Value.int .u64 (uor (bk) (ushl 1 (v1009)))), (vI (v1009)), (vI ((kk) + 1))] : List Value).getD i undef), by kernel_rfl, rfl, rfl, by omega, by rw [show (kk + 1).toNat = i1008 + 1 by omega, bn.1, i1003, show kk.toNat = i1008 by omega], by rw [show (kk + 1).toNat = i1008 + 1 by omega, bn.2]⟩⟩
  · refine wc_upd (n := 200) (T := ⟨fun r i => match r, i with | 3, 0 => some ((vB false), hh992) | _, _ => none, fun _ => none, none⟩) (x := (.exit 0)) (h1 := hh992) [(11, (vB false))]
      (fun q => (binA Tryd.prog .lss 3 (vI (kk)) (vI (((nodesI (s)).length : Nat))) = some (vB false) ∧ hh992 = hh992) ∧ q) (by intro K'; kernel_rfl) (fun _ q => ⟨⟨cmp_lss (decide_eq_false c1007), rfl⟩, q⟩) ?_
    by_cases c1021 : ((bk) : Int) = (s)
    · obtain ⟨_, _, sn1023, rfl, rfl⟩ := count_ok hh992 (s) (by omega)
      have := pop_le (s).toNat
      obtain ⟨_, _, sn1026, rfl, rfl⟩ := ones_ok hh992 (s) (by omega)
      have := pop_le (s).toNat
      obtain ⟨_, hh1032, sn1033, a1028, c1029, rfl, o1030, x1034, b1031⟩ := nodes_ok hh992 (hg.keep fun b r _ q => x995 b r q) (s) (by omega)
      have x1036 := x995.trans x1034
      have := nodesI_len (s)
      have := pop_le (s).toNat
      have z1038 : h.size ≤ hh992.size := x995.size
      have o1041 : ∀ zz, blk (Value.slice a1028 ((nodesI (s)).length) (c1029)) zz → h.size ≤ zz := fun zz hz => by have := b1031 zz hz; omega
      obtain ⟨_, _, sn1043, rfl, rfl⟩ := count_ok hh1032 (s) (by omega)
      have := pop_le (s).toNat
      by_cases c1045 : ((((nodesI (s)).length : Nat)) : Int) = (((pop (s).toNat : Nat) : Int))
      · obtain ⟨_, _, sn1047, rfl, rfl⟩ := works_ok hh1032 (hg.keep fun b r _ q => x1036 b r q)
        refine wc_upd (n := 200) (T := ⟨fun r i => match r, i with | 10, 2 => some ((vB true), hh992) | 10, 5 => some ((vI (((pop (s).toNat : Nat) : Int))), hh992) | 10, 7 => some ((vI (((pop (s).toNat : Nat) : Int))), hh992) | 10, 8 => some ((vB true), hh992) | 10, 12 => some ((Value.slice a1028 ((nodesI (s)).length) (c1029)), hh1032) | 10, 15 => some ((vI (((pop (s).toNat : Nat) : Int))), hh1032) | 10, 16 => some ((vB true), hh1032) | 10, 19 => some ((vB true), hh1032) | _, _ => none, fun _ => none, none⟩) (x := .ret) (h1 := hh1032) [(27, (Value.int .u64 (bk))), (28, (Value.int .u64 (s))), (29, (vB true)), (30, (vB true)), (31, (Value.int .u64 (s))), (32, (vI (((pop (s).toNat : Nat) : Int)))), (33, (Value.int .u64 (s))), (34, (vI (((pop (s).toNat : Nat) : Int)))), (35, (vB true)), (36, (vB true)), (37, (vB true)), (38, (Value.int .u64 (s))), (39, (Value.slice a1028 ((nodesI (s)).length) (c1029))), (40, (vI (((nodesI (s)).length : Nat)))), (41, (Value.int .u64 (s))), (42, (vI (((pop (s).toNat : Nat) : Int)))), (43, (vB true)), (44, (vB true)), (45, (vB true)), (46, (vB true)), (47, (vB true)), (2, (vB true))]
          (fun q => (binA Tryd.prog .eql 22 (Value.int .u64 (bk)) (Value.int .u64 (s)) = some (vB true) ∧ hh992 = hh992) ∧ SoundCall Tryd.prog 26 #[(Value.int .u64 (s))] hh992 (vI (((pop (s).toNat : Nat) : Int))) hh992 ∧ SoundCall Tryd.prog 32 #[(Value.int .u64 (s))] hh992 (vI (((pop (s).toNat : Nat) : Int))) hh992 ∧ (binA Tryd.prog .eql 3 (vI (((pop (s).toNat : Nat) : Int))) (vI (((pop (s).toNat : Nat) : Int))) = some (vB true) ∧ hh992 = hh992) ∧ SoundCall Tryd.prog 29 #[(Value.int .u64 (s))] hh992 (Value.slice a1028 ((nodesI (s)).length) (c1029)) hh1032 ∧ SoundCall Tryd.prog 26 #[(Value.int .u64 (s))] hh1032 (vI (((pop (s).toNat : Nat) : Int))) hh1032 ∧ (binA Tryd.prog .eql 3 (vI (((nodesI (s)).length : Nat))) (vI (((pop (s).toNat : Nat) : Int))) = some (vB true) ∧ hh1032 = hh1032) ∧ SoundCall Tryd.prog 18 #[] hh1032 (vB true) hh1032 ∧ q) (by intro K'; kernel_rfl) (fun _ q => ⟨⟨cmp_eql (decide_eq_true c1021), rfl⟩, sn1023, sn1026, ⟨cmp_eql (decide_eq_true rfl), rfl⟩, sn1033, sn1043, ⟨cmp_eql (decide_eq_true c1045), rfl⟩, sn1047, q⟩) ?_
        refine end_at (T := ⟨fun _ _ => none, fun _ => none, none⟩) (A := K (vB true) hh1032) (by kernel_rfl) ?_
        exact hK _ _ (⟨rfl, x1036⟩)
      · omega
    · have ek : (nodesI s).take kk.toNat = nodesI s := List.take_of_length_le (by omega)
      exact absurd (by rw [i1003, ek, bk_all (by omega)]) c1021
end C11
