/- Lists in order; what is known of the smallest majorities. -/
import Derived.Test.YtbjehneffpbkeaaDoorKq
import Derived.KernelRfl
open Go Go.AM Go.Proofs
namespace C11
theorem allI_sorted {n : Int} {i : Nat} {a b : Int} (ha : (allI n)[i + 1]? = some a) (hb : (allI n)[i]? = some b) : b < a := by
  have hp : (allI n).Pairwise (· < ·) := by
    unfold allI
    split
    · unfold allP
      rw [List.pairwise_map]
      exact (List.Pairwise.filter _ List.pairwise_lt_range).imp fun h => by omega
    · exact List.Pairwise.nil
  obtain ⟨h1, rfl⟩ := List.getElem?_eq_some_iff.1 ha
  obtain ⟨h2, rfl⟩ := List.getElem?_eq_some_iff.1 hb
  exact List.pairwise_iff_getElem.1 hp i (i + 1) h2 h1 (by omega)
def elemB (n : Int) (s : Int) : Bool := decide (pop s.toNat = n.toNat / 2 + 1) && (decide (0 ≤ s) && (decide (s ≤ 127) && (nodesI s).all fun q => decide (0 ≤ q) && (decide (q < n) && (decide (chk1 n (uandnot s (ushl 1 q)) = 0) && !isB (uandnot s (ushl 1 q)) n))))
theorem elem_fin : ∀ n : Fin 8, (!decide (1 ≤ n.val) || (all7 n.val).all (elemB n.val)) = true := by decide +kernel
def contB (x : Int) (l : List Int) : Bool := l.any fun s => decide (uand x s = s)
theorem cont_fin : ∀ n : Fin 8, ∀ x : Fin 128, (!(decide (1 ≤ n.val) && decide (x.val < 2 ^ n.val)) || (contB x.val (all7 n.val) == maj n.val x.val)) = true := by decide +kernel
def wantF (n : Int) : Nat → Int
  | 0 => 1
  | i + 1 => wantF n i * (n - i) / ((i : Int) + 1)
theorem want_fin : ∀ n : Fin 8, ∀ i : Fin 5, (!decide (1 ≤ n.val) || !decide (i.val ≤ n.val / 2) || (decide (0 ≤ wantF n.val i.val * ((n.val : Int) - i.val)) && decide (wantF n.val i.val * ((n.val : Int) - i.val) ≤ 1000))) = true := by decide +kernel
theorem want_end : ∀ n : Fin 8, (!decide (1 ≤ n.val) || decide (wantF n.val (n.val / 2 + 1) = ((all7 n.val).length : Int))) = true := by decide +kernel
theorem allI_7 {n : Int} (hn : 1 ≤ n ∧ n ≤ 7) : allI n = all7 n.toNat ∧ chk0 n = 0 := by
  have h0 : chk0 n = 0 := by rw [chk0, if_neg (by omega)]
  rw [allI, if_pos h0, all_7 (by omega)]
  exact ⟨rfl, h0⟩
theorem least_elem {n s : Int} {i : Nat} (hn : 1 ≤ n ∧ n ≤ 7) (hx : (allI n)[i]? = some s) : pop s.toNat = n.toNat / 2 + 1 ∧ (0 ≤ s ∧ s ≤ 127) ∧ ∀ (j : Nat) q, (nodesI s)[j]? = some q → (0 ≤ q ∧ q < n) ∧ chk1 n (uandnot s (ushl 1 q)) = 0 ∧ isB (uandnot s (ushl 1 q)) n = false := by
  have h := elem_fin ⟨n.toNat, by omega⟩
  simp only [Bool.or_eq_true, Bool.not_eq_true', decide_eq_false_iff_not] at h
  have h := h.resolve_left (fun w => w (by omega))
  rw [← (allI_7 hn).1] at h
  have h := List.all_eq_true.1 h s (List.mem_of_getElem? hx)
  rw [show ((n.toNat : Nat) : Int) = n by omega] at h
  simp only [elemB, Bool.and_eq_true, decide_eq_true_eq] at h
  obtain ⟨h1, h2, h3, h4⟩ := h
  refine ⟨h1, ⟨h2, h3⟩, fun j q hq => ?_⟩
  have h5 := List.all_eq_true.1 h4 q (List.mem_of_getElem? hq)
  simp only [Bool.and_eq_true, decide_eq_true_eq, Bool.not_eq_true'] at h5
  exact ⟨⟨h5.1, h5.2.1⟩, h5.2.2.1, h5.2.2.2⟩
theorem cont_next {x s : Int} {l : List Int} {i : Nat} (hx : l[i]? = some s) : contB x (l.take (i + 1)) = (contB x (l.take i) || decide (uand x s = s)) := by
  rw [List.take_add_one, hx]
  simp [contB, List.any_append]
theorem cont_all {n x : Int} (hn : 1 ≤ n ∧ n ≤ 7) (hx : 0 ≤ x ∧ x < ((2 ^ n.toNat : Nat) : Int) ∧ x < 128) : contB x (allI n) = isB x n := by
  have h := cont_fin ⟨n.toNat, by omega⟩ ⟨x.toNat, by omega⟩
  simp only [Bool.or_eq_true, Bool.not_eq_true', Bool.and_eq_false_iff, decide_eq_false_iff_not, beq_iff_eq] at h
  rw [show ((x.toNat : Nat) : Int) = x by omega, ← (allI_7 hn).1] at h
  rw [(is_fin hn hx).2]
  rcases h with (w | w) | w
  · exact absurd (by omega) w
  · exact absurd (by omega) w
  · exact w
theorem want_bound {n k : Int} (hn : 1 ≤ n ∧ n ≤ 7) (hk : 0 ≤ k ∧ k < n / 2 + 1) : 0 ≤ wantF n k.toNat * (n - k) ∧ wantF n k.toNat * (n - k) ≤ 1000 ∧ wantF n (k + 1).toNat = wantF n k.toNat * (n - k) / (k + 1) := by
  have h := want_fin ⟨n.toNat, by omega⟩ ⟨k.toNat, by omega⟩
  simp only [Bool.or_eq_true, Bool.not_eq_true', decide_eq_false_iff_not, Bool.and_eq_true, decide_eq_true_eq] at h
  rw [show ((n.toNat : Nat) : Int) = n by omega, show ((k.toNat : Nat) : Int) = k by omega] at h
  have e : (k + 1).toNat = k.toNat + 1 := by omega
  rw [e, wantF, show ((k.toNat : Nat) : Int) = k by omega]
  rcases h with (w | w) | w
  · exact absurd (by omega) w
  · exact absurd (by omega) w
  · exact ⟨w.1, w.2, rfl⟩
theorem want_last {n : Int} (hn : 1 ≤ n ∧ n ≤ 7) : wantF n (n / 2 + 1).toNat = (((allI n).length : Nat) : Int) := by
  have h := want_end ⟨n.toNat, by omega⟩
  simp only [Bool.or_eq_true, Bool.not_eq_true', decide_eq_false_iff_not, decide_eq_true_eq] at h
  rw [show ((n.toNat : Nat) : Int) = n by omega, ← (allI_7 hn).1] at h
  rw [show (n / 2 + 1).toNat = n.toNat / 2 + 1 by omega]
  exact h.resolve_left (fun w => w (by omega))
theorem mul_i64 {t : TypeId} {a b : Int} (h0 : 0 ≤ a * b) (h1 : a * b ≤ 1000) : binA Tryd.prog .mul t (.int .i64 a) (.int .i64 b) = some (.int .i64 (a * b)) := by
  simp only [binA, intBinA]
  rw [if_neg (by decide), if_pos trivial, IntKind.wrap_i64]
  congr 2; omega
theorem quo_i64 {t : TypeId} {a b : Int} (h0 : 0 ≤ a) (h1 : a ≤ 1000) (hb : 0 < b) : binA Tryd.prog .quo t (.int .i64 a) (.int .i64 b) = some (.int .i64 (a / b)) := by
  have q1 : a / b ≤ a := Int.ediv_le_self _ h0
  have q2 : 0 ≤ a / b := Int.ediv_nonneg h0 (by omega)
  simp only [binA, intBinA]
  rw [if_neg (by decide), if_pos trivial, if_neg (by omega), Int.tdiv_eq_ediv_of_nonneg h0, IntKind.wrap_i64]
  congr 2; omega
theorem uandnot_range (a b : Int) : 0 ≤ uandnot a b ∧ uandnot a b ≤ 18446744073709551615 := by
  simp only [uandnot, IntKind.wrap_u64]; omega
set_option maxHeartbeats 4000000 in
theorem nan_ok (h : Heap) (s : Int) : WCall Tryd.prog 45 #[(Value.int .u64 (s))] h (fun v h1 => v = .bool false ∧ h = h1) := by
  exact hCall_of (n := 200) (T := ⟨fun r i => match r, i with | 1, 2 => some ((vB false), h) | _, _ => none, fun _ => none, none⟩)
    (A := (binA Tryd.prog .neq 22 (Value.int .u64 (s)) (Value.int .u64 (s)) = some (vB false) ∧ h = h) ∧ (fun v h1 => v = .bool false ∧ h = h1) (vB false) h) (by kernel_rfl) ⟨⟨cmp_neq (decide_eq_false (not_not_intro rfl)), rfl⟩, ⟨rfl, rfl⟩⟩
set_option maxHeartbeats 4000000 in
theorem less_ok (h : Heap) (s t : Int) : WCall Tryd.prog 38 #[(Value.int .u64 (s)), (Value.int .u64 (t))] h (fun v h1 => v = .bool (decide (s < t)) ∧ h = h1) := by
  obtain ⟨_, _, sn1292, rfl, rfl⟩ := nan_ok h (s)
  by_cases c1294 : ((s) : Int) < (t)
  · exact hCall_of (n := 200) (T := ⟨fun r i => match r, i with | 1, 1 => some ((vB false), h) | 1, 10 => some ((vB true), h) | _, _ => none, fun _ => none, none⟩)
      (A := SoundCall Tryd.prog 45 #[(Value.int .u64 (s))] h (vB false) h ∧ (binA Tryd.prog .lss 22 (Value.int .u64 (s)) (Value.int .u64 (t)) = some (vB true) ∧ h = h) ∧ (fun v h1 => v = .bool (decide (s < t)) ∧ h = h1) (vB true) h) (by kernel_rfl) ⟨sn1292, ⟨cmp_lss (decide_eq_true c1294), rfl⟩, ⟨by rw [decide_eq_true c1294], rfl⟩⟩
  · exact hCall_of (n := 200) (T := ⟨fun r i => match r, i with | 1, 1 => some ((vB false), h) | 1, 10 => some ((vB false), h) | _, _ => none, fun _ => none, none⟩)
      (A := SoundCall Tryd.prog 45 #[(Value.int .u64 (s))] h (vB false) h ∧ (binA Tryd.prog .lss 22 (Value.int .u64 (s)) (Value.int .u64 (t)) = some (vB false) ∧ h = h) ∧ (fun v h1 => v = .bool (decide (s < t)) ∧ h = h1) (vB false) h) (by kernel_rfl) ⟨sn1292, ⟨cmp_lss (decide_eq_false c1294), rfl⟩, ⟨by rw [decide_eq_false c1294], rfl⟩⟩
set_option maxHeartbeats 4000000 in
theorem sorted_ok (h : Heap) (xs : List Int) (sa : Option Addr) (ca : Nat) (hl1 : SliceAt h ucell 1 xs (.slice sa xs.length ca)) (hlen : xs.length ≤ 1048576) (hs : ∀ (i : Nat) a b, xs[i + 1]? = some a → xs[i]? = some b → b < a) : WCall Tryd.prog 33 #[(Value.slice sa (xs.length) (ca))] h (fun v h1 => v = .bool true ∧ h = h1) := by
  suffices H : ∀ K : Value → Heap → Prop, (∀ v h1, (fun v h1 => v = .bool true ∧ h = h1) v h1 → K v h1) → WCall Tryd.prog 33 #[(Value.slice sa (xs.length) (ca))] h K from H _ fun _ _ q => q
  intro K hK
  refine wcall_at { tmps := #[(Value.slice sa (xs.length) (ca)), (Value.tuple #[]), (Value.tuple #[]), (Value.tuple #[]), (Value.tuple #[]), (Value.tuple #[]), (Value.tuple #[]), (Value.tuple #[]), (Value.tuple #[]), (Value.tuple #[]), (Value.tuple #[]), (Value.tuple #[]), (Value.tuple #[]), (Value.tuple #[]), (Value.tuple #[]), (Value.tuple #[]), (Value.tuple #[]), (Value.tuple #[]), (Value.tuple #[]), (Value.tuple #[]), (Value.tuple #[])], defers := [] } (by kernel_rfl) ?_
  refine wc_seq' (subc (bodyOf Tryd.prog 33) [0]) (subc (bodyOf Tryd.prog 33) [1]) (by kernel_rfl) ?_
  refine wc_upd (n := 200) (T := ⟨fun r i => match r, i with | _, _ => none, fun _ => none, none⟩) (x := .normal) (h1 := h) [(2, (vB false))]
    (fun q => q) (by intro K'; kernel_rfl) (fun _ q => q) ?_
  refine wc_seq' (subc (bodyOf Tryd.prog 33) [1, 0]) (subc (bodyOf Tryd.prog 33) [1, 1]) (by kernel_rfl) ?_
  refine wc_seq' (subc (bodyOf Tryd.prog 33) [1, 0, 0]) (subc (bodyOf Tryd.prog 33) [1, 0, 1]) (by kernel_rfl) ?_
  refine wc_upd (n := 200) (T := ⟨fun r i => match r, i with | 1, 2 => some ((vI (((xs.length : Nat)) - 1)), h) | _, _ => none, fun _ => none, none⟩) (x := .normal) (h1 := h) [(4, (Value.slice sa (xs.length) (ca))), (5, (vI ((xs.length : Nat)))), (6, (vI (((xs.length : Nat)) - 1))), (3, (vI (((xs.length : Nat)) - 1)))]
    (fun q => (binA Tryd.prog .sub 3 (vI ((xs.length : Nat))) (vI 1) = some (vI (((xs.length : Nat)) - 1)) ∧ h = h) ∧ q) (by intro K'; kernel_rfl) (fun _ q => ⟨⟨sub_i64 (by omega) (by omega), rfl⟩, q⟩) ?_
  refine wc_block' 0 (subc (bodyOf Tryd.prog 33) [1, 0, 1, 0]) (by kernel_rfl) ?_
  refine wc_loop' (subc (bodyOf Tryd.prog 33) [1, 0, 1, 0, 0]) (by kernel_rfl) (fun n' a' h' => ∃ (k : Int) (gb1295 : Nat → Value), a' = { tmps := #[(Value.slice sa (xs.length) (ca)), (Value.tuple #[]), (vB false), (vI (k)), (Value.slice sa (xs.length) (ca)), (vI ((xs.length : Nat))), (vI (((xs.length : Nat)) - 1)), (gb1295 7), (gb1295 8), (gb1295 9), (gb1295 10), (gb1295 11), (gb1295 12), (gb1295 13), (gb1295 14), (gb1295 15), (gb1295 16), (gb1295 17), (gb1295 18), (gb1295 19), (gb1295 20)], defers := [] } ∧ h = h' ∧ n' = (k + 1).toNat ∧ (-1 ≤ k ∧ k < xs.length)) ?_ (_) ⟨((xs.length : Nat)) - 1, (fun i => ([undef, undef, undef, undef, undef, undef, undef, (Value.tuple #[]), (Value.tuple #[]), (Value.tuple #[]), (Value.tuple #[]), (Value.tuple #[]), (Value.tuple #[]), (Value.tuple #[]), (Value.tuple #[]), (Value.tuple #[]), (Value.tuple #[]), (Value.tuple #[]), (Value.tuple #[]), (Value.tuple #[]), (Value.tuple #[])] : List Value).getD i undef), by kernel_rfl, rfl, rfl, by omega⟩
  rintro n' _ _ ⟨k, gb1295, rfl, rfl, m1298, i1297⟩
  by_cases c1300 : (0 : Int) < (k)
  · obtain ⟨i1301, v1302, e1303, l1304, g1305⟩ := list_at xs (e := (k)) (by omega) (by omega)
    obtain ⟨b1306, o1307, k1308, q1309, a1310⟩ := hl1.at ucell_size g1305
    obtain ⟨i1312, v1313, e1314, l1315, g1316⟩ := list_at xs (e := ((k) - 1)) (by omega) (by omega)
    obtain ⟨b1317, o1318, k1319, q1320, a1321⟩ := hl1.at ucell_size g1316
    obtain ⟨_, _, sn1324, rfl, rfl⟩ := less_ok h (v1302) (v1313)
    rcases Bool.eq_false_or_eq_true ((decide ((v1302) < (v1313)))) with c1326 | c1326
    · refine wc_upd (n := 200) (T := ⟨fun r i => match r, i with | 2, 1 => some ((vB true), h) | 4, 2 => some ((vP b1306 o1307), h) | 4, 3 => some ((Value.int .u64 (v1302)), h) | 4, 6 => some ((vI ((k) - 1)), h) | 4, 7 => some ((vP b1317 o1318), h) | 4, 8 => some ((Value.int .u64 (v1313)), h) | 4, 9 => some ((vB true), h) | _, _ => none, fun _ => none, none⟩) (x := .ret) (h1 := h) [(7, (vI (k))), (8, (vB true)), (11, (Value.slice sa (xs.length) (ca))), (12, (vI (k))), (13, (vP b1306 o1307)), (14, (Value.int .u64 (v1302))), (15, (Value.slice sa (xs.length) (ca))), (16, (vI (k))), (17, (vI ((k) - 1))), (18, (vP b1317 o1318)), (19, (Value.int .u64 (v1313))), (20, (vB true)), (2, (vB false))]
        (fun q => (binA Tryd.prog .gtr 3 (vI (k)) (vI 0) = some (vB true) ∧ h = h) ∧ (indexAddrA Tryd.prog 35 (Value.slice sa (xs.length) (ca)) (vI (k)) = some (vP b1306 o1307) ∧ h = h) ∧ (loadT Tryd.prog h 22 (vP b1306 o1307) = some (Value.int .u64 (v1302)) ∧ h = h) ∧ (binA Tryd.prog .sub 3 (vI (k)) (vI 1) = some (vI ((k) - 1)) ∧ h = h) ∧ (indexAddrA Tryd.prog 35 (Value.slice sa (xs.length) (ca)) (vI ((k) - 1)) = some (vP b1317 o1318) ∧ h = h) ∧ (loadT Tryd.prog h 22 (vP b1317 o1318) = some (Value.int .u64 (v1313)) ∧ h = h) ∧ SoundCall Tryd.prog 38 #[(Value.int .u64 (v1302)), (Value.int .u64 (v1313))] h (vB true) h ∧ q) (by intro K'; kernel_rfl) (fun _ q => ⟨⟨cmp_gtr (decide_eq_true c1300), rfl⟩, ⟨a1310 und35 size22 e1303, rfl⟩, ⟨(k1308.keep fun b r _ q => (Ext.refl h) b r q).cell (j := 0) agg22 rfl, rfl⟩, ⟨sub_i64 (by omega) (by omega), rfl⟩, ⟨a1321 und35 size22 e1314, rfl⟩, ⟨(k1319.keep fun b r _ q => (Ext.refl h) b r q).cell (j := 0) agg22 rfl, rfl⟩, (by rw [← c1326]; exact sn1324), q⟩) ?_
      have w := hs i1312 v1302 v1313 (by rw [show i1312 + 1 = i1301 by omega]; exact g1305) g1316
      have w2 := of_decide_eq_true c1326
      omega
    · refine wc_upd (n := 200) (T := ⟨fun r i => match r, i with | 2, 1 => some ((vB true), h) | 4, 2 => some ((vP b1306 o1307), h) | 4, 3 => some ((Value.int .u64 (v1302)), h) | 4, 6 => some ((vI ((k) - 1)), h) | 4, 7 => some ((vP b1317 o1318), h) | 4, 8 => some ((Value.int .u64 (v1313)), h) | 4, 9 => some ((vB false), h) | 3, 1 => some ((vI ((k) - 1)), h) | _, _ => none, fun _ => none, none⟩) (x := .normal) (h1 := h) [(7, (vI (k))), (8, (vB true)), (11, (Value.slice sa (xs.length) (ca))), (12, (vI (k))), (13, (vP b1306 o1307)), (14, (Value.int .u64 (v1302))), (15, (Value.slice sa (xs.length) (ca))), (16, (vI (k))), (17, (vI ((k) - 1))), (18, (vP b1317 o1318)), (19, (Value.int .u64 (v1313))), (20, (vB false)), (9, (vI (k))), (10, (vI ((k) - 1))), (3, (vI ((k) - 1)))]
        (fun q => (binA Tryd.prog .gtr 3 (vI (k)) (vI 0) = some (vB true) ∧ h = h) ∧ (indexAddrA Tryd.prog 35 (Value.slice sa (xs.length) (ca)) (vI (k)) = some (vP b1306 o1307) ∧ h = h) ∧ (loadT Tryd.prog h 22 (vP b1306 o1307) = some (Value.int .u64 (v1302)) ∧ h = h) ∧ (binA Tryd.prog .sub 3 (vI (k)) (vI 1) = some (vI ((k) - 1)) ∧ h = h) ∧ (indexAddrA Tryd.prog 35 (Value.slice sa (xs.length) (ca)) (vI ((k) - 1)) = some (vP b1317 o1318) ∧ h = h) ∧ (loadT Tryd.prog h 22 (vP b1317 o1318) = some (Value.int .u64 (v1313)) ∧ h = h) ∧ SoundCall Tryd.prog 38 #[(Value.int .u64 (v1302)), (Value.int .u64 (v1313))] h (vB false) h ∧ (binA Tryd.prog .sub 3 (vI (k)) (vI 1) = some (vI ((k) - 1)) ∧ h = h) ∧ q) (by intro K'; kernel_rfl) (fun _ q => ⟨⟨cmp_gtr (decide_eq_true c1300), rfl⟩, ⟨a1310 und35 size22 e1303, rfl⟩, ⟨(k1308.keep fun b r _ q => (Ext.refl h) b r q).cell (j := 0) agg22 rfl, rfl⟩, ⟨sub_i64 (by omega) (by omega), rfl⟩, ⟨a1321 und35 size22 e1314, rfl⟩, ⟨(k1319.keep fun b r _ q => (Ext.refl h) b r q).cell (j := 0) agg22 rfl, rfl⟩, (by rw [← c1326]; exact sn1324), ⟨sub_i64 (by omega) (by omega), rfl⟩, q⟩) ?_
      exact ⟨(k - 1 + 1).toNat, by omega, ⟨k - 1, (fun i => ([undef, undef, undef, undef, undef, undef, undef, (vI (k)), (vB true), (vI (k)), (vI ((k) - 1)), (Value.slice sa (xs.length) (ca)), (vI (k)), (vP b1306 o1307), (Value.int .u64 (v1302)), (Value.slice sa (xs.length) (ca)), (vI (k)), (vI ((k) - 1)), (vP b1317 o1318), (Value.int .u64 (v1313)), (vB false)] : List Value).getD i undef), by kernel_rfl, rfl, rfl, by omega⟩⟩
  · refine wc_upd (n := 200) (T := ⟨fun r i => match r, i with | 2, 1 => some ((vB false), h) | _, _ => none, fun _ => none, none⟩) (x := (.exit 0)) (h1 := h) [(7, (vI (k))), (8, (vB false))]
      (fun q => (binA Tryd.prog .gtr 3 (vI (k)) (vI 0) = some (vB false) ∧ h = h) ∧ q) (by intro K'; kernel_rfl) (fun _ q => ⟨⟨cmp_gtr (decide_eq_false c1300), rfl⟩, q⟩) ?_
    refine wc_upd (n := 200) (T := ⟨fun r i => match r, i with | _, _ => none, fun _ => none, none⟩) (x := .ret) (h1 := h) [(2, (vB true))]
      (fun q => q) (by intro K'; kernel_rfl) (fun _ q => q) ?_
    refine end_at (T := ⟨fun _ _ => none, fun _ => none, none⟩) (A := K (vB true) h) (by kernel_rfl) ?_
    exact hK _ _ (⟨rfl, rfl⟩)
end C11
