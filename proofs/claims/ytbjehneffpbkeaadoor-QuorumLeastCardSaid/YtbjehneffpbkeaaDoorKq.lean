/- The smallest majorities, whatever number. -/
import Derived.Test.YtbjehneffpbkeaaDoorKn
import Derived.KernelRfl
open Go Go.AM Go.Proofs
namespace C11
theorem size22 : (Tryd.prog.info? 22).map (·.size) = some 1 := by kernel_rfl
theorem sizeb22 : (Tryd.prog.info? 22).map (fun i => (i.size, i.bytes)) = some (1, 8) := by kernel_rfl
theorem und35 : Tryd.prog.underlying 35 = some (.slice 22) := by kernel_rfl
theorem zero22 : zeroA Tryd.prog 22 = some (Value.int .u64 0) := by kernel_rfl
theorem neg_raw2 {a : Int} : unA .neg (.int .u64 a) = some (.int .u64 (uneg a)) := neg_raw
def nxtA (x : Int) : Int := uor (uadd x (uand x (uneg x))) (uxor (uadd x (uand x (uneg x))) x / uand x (uneg x) / 4)
theorem uxor_range (a b : Int) : 0 ≤ uxor a b ∧ uxor a b ≤ 18446744073709551615 := by
  simp only [uxor, IntKind.wrap_u64]; omega
theorem uquo_raw {t : TypeId} {a b : Int} (ha : 0 ≤ a ∧ a ≤ 18446744073709551615) (hb : 0 < b) : binA Tryd.prog .quo t (.int .u64 a) (.int .u64 b) = some (.int .u64 (a / b)) := by
  have h1 : a / b ≤ a := Int.ediv_le_self _ ha.1
  have h2 : 0 ≤ a / b := Int.ediv_nonneg ha.1 (by omega)
  simp only [binA, intBinA]
  rw [if_neg (by decide), if_pos trivial, if_neg (by omega), Int.tdiv_eq_ediv_of_nonneg ha.1, IntKind.wrap_u64]
  congr 2; omega
/-- The sets of n nodes' group below k that have as many nodes as a smallest majority. -/
def allP (n k : Nat) : List Int := ((List.range k).filter fun s => decide (pop s = n / 2 + 1)).map fun s : Nat => (s : Int)
def allI (n : Int) : List Int := if chk0 n = 0 then allP n.toNat (2 ^ n.toNat) else []
def all7 (n : Nat) : List Int := ((List.range (2 ^ n)).filter fun s => decide (pop7 s = n / 2 + 1)).map fun s : Nat => (s : Int)
def goA (n : Int) (x : Int) : List Int → Bool
  | [] => !decide (x < ushl 1 n)
  | y :: r => decide (x = y) && (decide (x < ushl 1 n) && (decide (0 < uand x (uneg x)) && (decide (0 ≤ x) && (decide (x ≤ 127) && goA n (nxtA x) r))))
theorem go_fin : ∀ n : Fin 8, (!decide (1 ≤ n.val) || goA n.val (usub (ushl 1 ((n.val : Int) / 2 + 1)) 1) (all7 n.val)) = true := by decide +kernel
theorem all_7 {n : Nat} (h : n ≤ 7) : allP n (2 ^ n) = all7 n := by
  have hp : 2 ^ n ≤ 2 ^ 7 := Nat.pow_le_pow_right (by decide) h
  unfold allP all7
  congr 1
  refine List.filter_congr fun s hs => ?_
  have := List.mem_range.1 hs
  have q := pop_small ⟨s, by omega⟩
  simp only at q
  rw [q]
theorem go_start {n : Int} (hn : 1 ≤ n ∧ n ≤ 7) : goA n (usub (ushl 1 (n / 2 + 1)) 1) (allP n.toNat (2 ^ n.toNat)) = true := by
  have h := go_fin ⟨n.toNat, by omega⟩
  simp only [Bool.or_eq_true, Bool.not_eq_true', decide_eq_false_iff_not] at h
  rw [show ((n.toNat : Nat) : Int) = n by omega, ← all_7 (by omega)] at h
  exact h.resolve_left (fun w => w (by omega))
theorem go_cons {n c : Int} {r : List Int} (h : goA n c r = true) (hc : c < ushl 1 n) : ∃ r', r = c :: r' ∧ goA n (nxtA c) r' = true ∧ 0 < uand c (uneg c) ∧ 0 ≤ c ∧ c ≤ 127 := by
  cases r with
  | nil => simp only [goA, Bool.not_eq_true', decide_eq_false_iff_not] at h; exact absurd hc h
  | cons y r' =>
    simp only [goA, Bool.and_eq_true, decide_eq_true_eq] at h
    obtain ⟨h1, _, h3, h4, h5, h6⟩ := h
    subst h1
    exact ⟨r', rfl, h6, h3, h4, h5⟩
theorem go_nil {n c : Int} {r : List Int} (h : goA n c r = true) (hc : ¬ c < ushl 1 n) : r = [] := by
  cases r with
  | nil => rfl
  | cons y r' =>
    simp only [goA, Bool.and_eq_true, decide_eq_true_eq] at h
    exact absurd h.2.1 hc
theorem allP_next (n k : Nat) : allP n (k + 1) = allP n k ++ (if pop k = n / 2 + 1 then [(k : Int)] else []) := by
  simp only [allP, List.range_succ, List.filter_append, List.map_append]
  congr 1
  by_cases h : pop k = n / 2 + 1 <;> simp [List.filter_cons, h]
theorem allP_len (n k : Nat) : (allP n k).length ≤ k := by
  unfold allP
  rw [List.length_map]
  exact Nat.le_trans (List.length_filter_le _ _) (by simp)
theorem uadd_one {c : Int} (h : 0 ≤ c ∧ c ≤ 1000) : uadd c 1 = c + 1 := by
  simp only [uadd, IntKind.wrap_u64]; omega
theorem ushl_pow {n : Int} (hn : 1 ≤ n ∧ n ≤ 7) : ushl 1 n = ((2 ^ n.toNat : Nat) : Int) ∧ ushl 1 n ≤ 128 ∧ 0 ≤ ushl 1 n := by
  have hp : 2 ^ n.toNat ≤ 2 ^ 7 := Nat.pow_le_pow_right (by decide) (by omega)
  have := ushl_one (n := n) (by omega) (by omega)
  exact ⟨this, by omega, by rw [this]; exact Int.natCast_nonneg _⟩
theorem sz_ok {n : Int} (h : chk0 n = 0) : szV n = n / 2 + 1 := by rw [szV, if_pos h]
set_option maxHeartbeats 4000000 in
theorem all_ok (h : Heap) (n : Int) (hn : chk0 n = 0) : WCall Tryd.prog 23 #[(vI (n))] h (fun v h1 => ∃ wa wc, v = .tuple #[.slice wa (allI n).length wc, .int .i64 0] ∧ OwnAt h1 22 ucell (allI n) (.slice wa (allI n).length wc) ∧ Ext h h1 ∧ ∀ b, blk (.slice wa (allI n).length wc) b → h.size ≤ b) := by
  have hz := chk0_ok hn
  have hu := ushl_pow hz
  suffices H : ∀ K : Value → Heap → Prop, (∀ v h1, (fun v h1 => ∃ wa wc, v = .tuple #[.slice wa (allI n).length wc, .int .i64 0] ∧ OwnAt h1 22 ucell (allI n) (.slice wa (allI n).length wc) ∧ Ext h h1 ∧ ∀ b, blk (.slice wa (allI n).length wc) b → h.size ≤ b) v h1 → K v h1) → WCall Tryd.prog 23 #[(vI (n))] h K from H _ fun _ _ q => q
  intro K hK
  refine wcall_at { tmps := #[(vI (n)), (Value.tuple #[]), (Value.tuple #[]), (Value.tuple #[]), (Value.tuple #[]), (Value.tuple #[]), (Value.tuple #[]), (Value.tuple #[]), (Value.tuple #[]), (Value.tuple #[]), (Value.tuple #[]), (Value.tuple #[]), (Value.tuple #[]), (Value.tuple #[]), (Value.tuple #[]), (Value.tuple #[]), (Value.tuple #[]), (Value.tuple #[]), (Value.tuple #[]), (Value.tuple #[]), (Value.tuple #[]), (Value.tuple #[]), (Value.tuple #[]), (Value.tuple #[]), (Value.tuple #[]), (Value.tuple #[]), (Value.tuple #[]), (Value.tuple #[]), (Value.tuple #[]), (Value.tuple #[]), (Value.tuple #[]), (Value.tuple #[]), (Value.tuple #[]), (Value.tuple #[]), (Value.tuple #[]), (Value.tuple #[]), (Value.tuple #[]), (Value.tuple #[]), (Value.tuple #[]), (Value.tuple #[]), (Value.tuple #[]), (Value.tuple #[]), (Value.tuple #[]), (Value.tuple #[]), (Value.tuple #[])], defers := [] } (by kernel_rfl) ?_
  refine wc_seq' (subc (bodyOf Tryd.prog 23) [0]) (subc (bodyOf Tryd.prog 23) [1]) (by kernel_rfl) ?_
  refine wc_upd (n := 200) (T := ⟨fun r i => match r, i with | _, _ => none, fun _ => none, none⟩) (x := .normal) (h1 := h) [(2, (Value.slice none 0 0)), (3, (vI 0))]
    (fun q => q) (by intro K'; kernel_rfl) (fun _ q => q) ?_
  refine wc_seq' (subc (bodyOf Tryd.prog 23) [1, 0]) (subc (bodyOf Tryd.prog 23) [1, 1]) (by kernel_rfl) ?_
  obtain ⟨_, h1049, s1050, rfl, x1051⟩ := size_ok h (n)
  rw [sz_ok hn, hn] at s1050
  have x1052 := (Ext.refl h).trans x1051
  refine wc_upd (n := 200) (T := ⟨fun r i => match r, i with | 1, 1 => some ((Value.tuple #[(vI ((n) / 2 + 1)), (vI 0)]), h1049) | _, _ => none, fun _ => none, none⟩) (x := .normal) (h1 := h1049) [(11, (vI (n))), (12, (Value.tuple #[(vI ((n) / 2 + 1)), (vI 0)])), (10, (Value.tuple #[(vI ((n) / 2 + 1)), (vI 0)])), (13, (vI ((n) / 2 + 1))), (14, (vI 0)), (4, (vI ((n) / 2 + 1))), (5, (vI 0))]
    (fun q => SoundCall Tryd.prog 21 #[(vI (n))] h (Value.tuple #[(vI ((n) / 2 + 1)), (vI 0)]) h1049 ∧ q) (by intro K'; kernel_rfl) (fun _ q => ⟨s1050, q⟩) ?_
  refine wc_seq' (subc (bodyOf Tryd.prog 23) [1, 1, 0]) (subc (bodyOf Tryd.prog 23) [1, 1, 1]) (by kernel_rfl) ?_
  refine wc_upd (n := 200) (T := ⟨fun r i => match r, i with | _, _ => none, fun _ => none, none⟩) (x := .normal) (h1 := h1049) [(15, (vI 0)), (16, (vB false))]
    (fun q => q) (by intro K'; kernel_rfl) (fun _ q => q) ?_
  refine wc_seq' (subc (bodyOf Tryd.prog 23) [1, 1, 1, 0]) (subc (bodyOf Tryd.prog 23) [1, 1, 1, 1]) (by kernel_rfl) ?_
  refine wc_upd (n := 200) (T := ⟨fun r i => match r, i with | _, _ => none, fun _ => none, none⟩) (x := .normal) (h1 := h1049) [(6, (Value.slice none 0 0))]
    (fun q => q) (by intro K'; kernel_rfl) (fun _ q => q) ?_
  refine wc_seq' (subc (bodyOf Tryd.prog 23) [1, 1, 1, 1, 0]) (subc (bodyOf Tryd.prog 23) [1, 1, 1, 1, 1]) (by kernel_rfl) ?_
  refine wc_seq' (subc (bodyOf Tryd.prog 23) [1, 1, 1, 1, 0, 0]) (subc (bodyOf Tryd.prog 23) [1, 1, 1, 1, 0, 1]) (by kernel_rfl) ?_
  refine wc_upd (n := 200) (T := ⟨fun r i => match r, i with | 5, 1 => some ((Value.int .u64 (ushl 1 ((n) / 2 + 1))), h1049) | 5, 2 => some ((Value.int .u64 (usub (ushl 1 ((n) / 2 + 1)) 1)), h1049) | _, _ => none, fun _ => none, none⟩) (x := .normal) (h1 := h1049) [(18, (vI ((n) / 2 + 1))), (19, (Value.int .u64 (ushl 1 ((n) / 2 + 1)))), (20, (Value.int .u64 (usub (ushl 1 ((n) / 2 + 1)) 1))), (7, (Value.int .u64 (usub (ushl 1 ((n) / 2 + 1)) 1)))]
    (fun q => (binA Tryd.prog .shl 22 (Value.int .u64 1) (vI ((n) / 2 + 1)) = some (Value.int .u64 (ushl 1 ((n) / 2 + 1))) ∧ h1049 = h1049) ∧ (binA Tryd.prog .sub 22 (Value.int .u64 (ushl 1 ((n) / 2 + 1))) (Value.int .u64 1) = some (Value.int .u64 (usub (ushl 1 ((n) / 2 + 1)) 1)) ∧ h1049 = h1049) ∧ q) (by intro K'; kernel_rfl) (fun _ q => ⟨⟨shl_raw (by omega), rfl⟩, ⟨sub_raw, rfl⟩, q⟩) ?_
  refine wc_block' 0 (subc (bodyOf Tryd.prog 23) [1, 1, 1, 1, 0, 1, 0]) (by kernel_rfl) ?_
  refine wc_loop' (subc (bodyOf Tryd.prog 23) [1, 1, 1, 1, 0, 1, 0, 0]) (by kernel_rfl) (fun n' a' h' => ∃ (c : Int) (r_ : List Int) (out : List Int) (wa : Option Addr) (wc : Nat) (gb1053 : Nat → Value), a' = { tmps := #[(vI (n)), (Value.tuple #[]), (Value.slice none 0 0), (vI 0), (vI ((n) / 2 + 1)), (vI 0), (Value.slice wa (out.length) (wc)), (Value.int .u64 (c)), (gb1053 8), (gb1053 9), (Value.tuple #[(vI ((n) / 2 + 1)), (vI 0)]), (vI (n)), (Value.tuple #[(vI ((n) / 2 + 1)), (vI 0)]), (vI ((n) / 2 + 1)), (vI 0), (vI 0), (vB false), (Value.tuple #[]), (vI ((n) / 2 + 1)), (Value.int .u64 (ushl 1 ((n) / 2 + 1))), (Value.int .u64 (usub (ushl 1 ((n) / 2 + 1)) 1)), (gb1053 21), (gb1053 22), (gb1053 23), (gb1053 24), (gb1053 25), (gb1053 26), (gb1053 27), (gb1053 28), (gb1053 29), (gb1053 30), (gb1053 31), (gb1053 32), (gb1053 33), (gb1053 34), (gb1053 35), (gb1053 36), (gb1053 37), (gb1053 38), (gb1053 39), (gb1053 40), (gb1053 41), (gb1053 42), (gb1053 43), (Value.tuple #[])], defers := [] } ∧ Ext h h' ∧ n' = r_.length ∧ goA n c r_ = true ∧ allP n.toNat (2 ^ n.toNat) = out ++ r_ ∧ (out.length + r_.length ≤ 128) ∧ (∀ zz, blk (Value.slice wa (out.length) (wc)) zz → h.size ≤ zz) ∧ OwnAt h' 22 ucell out (Value.slice wa (out.length) (wc))) ?_ ((allP n.toNat (2 ^ n.toNat)).length) ⟨(usub (ushl 1 (n / 2 + 1)) 1), (allP n.toNat (2 ^ n.toNat)), [], none, 0, (fun i => ([undef, undef, undef, undef, undef, undef, undef, undef, (Value.tuple #[]), (Value.tuple #[]), undef, undef, undef, undef, undef, undef, undef, undef, undef, undef, undef, (Value.tuple #[]), (Value.tuple #[]), (Value.tuple #[]), (Value.tuple #[]), (Value.tuple #[]), (Value.tuple #[]), (Value.tuple #[]), (Value.tuple #[]), (Value.tuple #[]), (Value.tuple #[]), (Value.tuple #[]), (Value.tuple #[]), (Value.tuple #[]), (Value.tuple #[]), (Value.tuple #[]), (Value.tuple #[]), (Value.tuple #[]), (Value.tuple #[]), (Value.tuple #[]), (Value.tuple #[]), (Value.tuple #[]), (Value.tuple #[]), (Value.tuple #[])] : List Value).getD i undef), by kernel_rfl, x1052, rfl, go_start hz, rfl, by have h1 := allP_len n.toNat (2 ^ n.toNat); have h2 : 2 ^ n.toNat ≤ 2 ^ 7 := Nat.pow_le_pow_right (by decide) (by omega); simp only [List.length_nil]; omega, fun zz hz => hz.elim, .inl ⟨rfl, rfl⟩⟩
  rintro n' _ h1054 ⟨c, r_, out, wa, wc, gb1053, rfl, x1061, m1060, i1055, i1056, i1057, i1058, p1059⟩
  by_cases c1062 : ((c) : Int) < (ushl 1 (n))
  · have ml := i1057
    obtain ⟨r', er, g1, g2, g3, g4⟩ := go_cons i1055 c1062
    have mm := congrArg List.length er
    simp only [List.length_cons] at mm
    have hol : out.length ≤ 128 := by omega
    obtain ⟨b1065, eb1066⟩ : ∃ zq, zq = h1054.size := ⟨_, rfl⟩
    obtain ⟨h1063, e1064⟩ : ∃ zq, zq = h1054.push (.cells #[(Value.int .u64 (c))] 22 (0, 0)) := ⟨_, rfl⟩
    have f1067 := push_new e1064
    rw [← eb1066] at f1067
    have x1069 : Ext h1054 h1063 := by rw [e1064]; exact Ext.push _ _
    have o1070 : h.size ≤ b1065 := by have := x1061.size; omega
    have p1071 := p1059.keep fun b r _ q => x1069 b r q
    have x1072 := x1061.trans x1069
    obtain ⟨w1073, h1074, e1075, p1076, c1077, n1078, z1079⟩ := own_append und35 sizeb22 zero22 rfl (by decide) ucell_size (x := (c : Int)) p1071 f1067 rfl (by omega) (by unfold maxLen; omega)
    obtain ⟨a1080, c1081, rfl⟩ := (p1076.slice ucell_size).len
    have z1082 : h.size ≤ h1063.size := x1072.size
    have x1083 : Ext h _ := (Chg.then (O := fun _ => False) (Chg.ext x1072) c1077 (fun b hb => .inr (i1058 b hb))).toExt'
    have o1087 : ∀ zz, blk (Value.slice a1080 ((out ++ [(c : Int)]).length) (c1081)) zz → h.size ≤ zz := fun zz hz => by have := n1078 zz hz; have := z1082; omega
    refine wc_upd (n := 200) (T := ⟨fun r i => match r, i with | 6, 2 => some ((Value.int .u64 (ushl 1 (n))), h1054) | 6, 3 => some ((vB true), h1054) | 7, 2 => some ((Value.slice (some ⟨b1065, 0, none⟩) 1 1), h1063) | 7, 3 => some ((Value.slice a1080 ((out ++ [(c : Int)]).length) (c1081)), h1074) | 8, 2 => some ((Value.int .u64 (uneg (c))), h1074) | 8, 3 => some ((Value.int .u64 (uand (c) (uneg (c)))), h1074) | 9, 2 => some ((Value.int .u64 (uadd (c) (uand (c) (uneg (c))))), h1074) | 10, 3 => some ((Value.int .u64 (uxor (uadd (c) (uand (c) (uneg (c)))) (c))), h1074) | 10, 5 => some ((Value.int .u64 ((uxor (uadd (c) (uand (c) (uneg (c)))) (c)) / (uand (c) (uneg (c))))), h1074) | 10, 6 => some ((Value.int .u64 (((uxor (uadd (c) (uand (c) (uneg (c)))) (c)) / (uand (c) (uneg (c)))) / 4)), h1074) | 10, 7 => some ((Value.int .u64 (uor (uadd (c) (uand (c) (uneg (c)))) (((uxor (uadd (c) (uand (c) (uneg (c)))) (c)) / (uand (c) (uneg (c)))) / 4))), h1074) | _, _ => none, fun _ => none, none⟩) (x := .normal) (h1 := h1074) [(21, (Value.int .u64 (c))), (22, (vI (n))), (23, (Value.int .u64 (ushl 1 (n)))), (24, (vB true)), (25, (Value.slice wa (out.length) (wc))), (26, (Value.int .u64 (c))), (27, (Value.slice (some ⟨b1065, 0, none⟩) 1 1)), (28, (Value.slice a1080 ((out ++ [(c : Int)]).length) (c1081))), (6, (Value.slice a1080 ((out ++ [(c : Int)]).length) (c1081))), (29, (Value.int .u64 (c))), (30, (Value.int .u64 (c))), (31, (Value.int .u64 (uneg (c)))), (32, (Value.int .u64 (uand (c) (uneg (c))))), (8, (Value.int .u64 (uand (c) (uneg (c))))), (33, (Value.int .u64 (c))), (34, (Value.int .u64 (uand (c) (uneg (c))))), (35, (Value.int .u64 (uadd (c) (uand (c) (uneg (c)))))), (9, (Value.int .u64 (uadd (c) (uand (c) (uneg (c)))))), (36, (Value.int .u64 (uadd (c) (uand (c) (uneg (c)))))), (37, (Value.int .u64 (uadd (c) (uand (c) (uneg (c)))))), (38, (Value.int .u64 (c))), (39, (Value.int .u64 (uxor (uadd (c) (uand (c) (uneg (c)))) (c)))), (40, (Value.int .u64 (uand (c) (uneg (c))))), (41, (Value.int .u64 ((uxor (uadd (c) (uand (c) (uneg (c)))) (c)) / (uand (c) (uneg (c)))))), (42, (Value.int .u64 (((uxor (uadd (c) (uand (c) (uneg (c)))) (c)) / (uand (c) (uneg (c)))) / 4))), (43, (Value.int .u64 (uor (uadd (c) (uand (c) (uneg (c)))) (((uxor (uadd (c) (uand (c) (uneg (c)))) (c)) / (uand (c) (uneg (c)))) / 4)))), (7, (Value.int .u64 (uor (uadd (c) (uand (c) (uneg (c)))) (((uxor (uadd (c) (uand (c) (uneg (c)))) (c)) / (uand (c) (uneg (c)))) / 4))))]
      (fun q => (binA Tryd.prog .shl 22 (Value.int .u64 1) (vI (n)) = some (Value.int .u64 (ushl 1 (n))) ∧ h1054 = h1054) ∧ (binA Tryd.prog .lss 22 (Value.int .u64 (c)) (Value.int .u64 (ushl 1 (n))) = some (vB true) ∧ h1054 = h1054) ∧ ((Value.slice (some ⟨b1065, 0, none⟩) 1 1) = (Value.slice (some ⟨h1054.size, 0, none⟩) 1 1) ∧ h1063 = h1054.push (.cells #[(Value.int .u64 (c))] 22 (0, 0))) ∧ appendA Tryd.prog h1063 #[35, 35] #[(Value.slice wa (out.length) (wc)), (Value.slice (some ⟨b1065, 0, none⟩) 1 1)] = some ((Value.slice a1080 ((out ++ [(c : Int)]).length) (c1081)), h1074) ∧ (match unA .neg (Value.int .u64 (c)) with | some v' => (Value.int .u64 (uneg (c))) = v' ∧ h1074 = h1074 | none => False) ∧ (binA Tryd.prog .and 22 (Value.int .u64 (c)) (Value.int .u64 (uneg (c))) = some (Value.int .u64 (uand (c) (uneg (c)))) ∧ h1074 = h1074) ∧ (binA Tryd.prog .add 22 (Value.int .u64 (c)) (Value.int .u64 (uand (c) (uneg (c)))) = some (Value.int .u64 (uadd (c) (uand (c) (uneg (c))))) ∧ h1074 = h1074) ∧ (binA Tryd.prog .xor 22 (Value.int .u64 (uadd (c) (uand (c) (uneg (c))))) (Value.int .u64 (c)) = some (Value.int .u64 (uxor (uadd (c) (uand (c) (uneg (c)))) (c))) ∧ h1074 = h1074) ∧ (binA Tryd.prog .quo 22 (Value.int .u64 (uxor (uadd (c) (uand (c) (uneg (c)))) (c))) (Value.int .u64 (uand (c) (uneg (c)))) = some (Value.int .u64 ((uxor (uadd (c) (uand (c) (uneg (c)))) (c)) / (uand (c) (uneg (c))))) ∧ h1074 = h1074) ∧ (binA Tryd.prog .shr 22 (Value.int .u64 ((uxor (uadd (c) (uand (c) (uneg (c)))) (c)) / (uand (c) (uneg (c))))) (Value.int .u64 2) = some (Value.int .u64 (((uxor (uadd (c) (uand (c) (uneg (c)))) (c)) / (uand (c) (uneg (c)))) / 4)) ∧ h1074 = h1074) ∧ (binA Tryd.prog .or 22 (Value.int .u64 (uadd (c) (uand (c) (uneg (c))))) (Value.int .u64 (((uxor (uadd (c) (uand (c) (uneg (c)))) (c)) / (uand (c) (uneg (c)))) / 4)) = some (Value.int .u64 (uor (uadd (c) (uand (c) (uneg (c)))) (((uxor (uadd (c) (uand (c) (uneg (c)))) (c)) / (uand (c) (uneg (c)))) / 4))) ∧ h1074 = h1074) ∧ q) (by intro K'; kernel_rfl) (fun _ q => ⟨⟨shl_raw (by omega), rfl⟩, ⟨cmp_lss (decide_eq_true c1062), rfl⟩, ⟨by rw [eb1066], e1064⟩, e1075, ⟨rfl, rfl⟩, ⟨and_raw, rfl⟩, ⟨add_raw, rfl⟩, ⟨xor_raw, rfl⟩, ⟨uquo_raw (uxor_range _ _) (by omega), rfl⟩, ⟨shr_lit (k := 2) (d := 4) (by decide) (by decide) (Int.ediv_nonneg (uxor_range _ _).1 (by omega)), rfl⟩, ⟨or_raw, rfl⟩, q⟩) ?_
    exact ⟨r'.length, by omega, ⟨uor (uadd (c) (uand (c) (uneg (c)))) (((uxor (uadd (c) (uand (c) (uneg (c)))) (c)) / (uand (c) (uneg (c)))) / 4), r', (out ++ [(c : Int)]), a1080, c1081, (fun i => ([undef, undef, undef, undef, undef, undef, undef, undef, (Value.int .u64 (uand (c) (uneg (c)))), (Value.int .u64 (uadd (c) (uand (c) (uneg (c))))), undef, undef, undef, undef, undef, undef, undef, undef, undef, undef, undef, (Value.int .u64 (c)), (vI (n)), (Value.int .u64 (ushl 1 (n))), (vB true), (Value.slice wa (out.length) (wc)), (Value.int .u64 (c)), (Value.slice (some ⟨b1065, 0, none⟩) 1 1), (Value.slice a1080 ((out ++ [(c : Int)]).length) (c1081)), (Value.int .u64 (c)), (Value.int .u64 (c)), (Value.int .u64 (uneg (c))), (Value.int .u64 (uand (c) (uneg (c)))), (Value.int .u64 (c)), (Value.int .u64 (uand (c) (uneg (c)))), (Value.int .u64 (uadd (c) (uand (c) (uneg (c))))), (Value.int .u64 (uadd (c) (uand (c) (uneg (c))))), (Value.int .u64 (uadd (c) (uand (c) (uneg (c))))), (Value.int .u64 (c)), (Value.int .u64 (uxor (uadd (c) (uand (c) (uneg (c)))) (c))), (Value.int .u64 (uand (c) (uneg (c)))), (Value.int .u64 ((uxor (uadd (c) (uand (c) (uneg (c)))) (c)) / (uand (c) (uneg (c))))), (Value.int .u64 (((uxor (uadd (c) (uand (c) (uneg (c)))) (c)) / (uand (c) (uneg (c)))) / 4)), (Value.int .u64 (uor (uadd (c) (uand (c) (uneg (c)))) (((uxor (uadd (c) (uand (c) (uneg (c)))) (c)) / (uand (c) (uneg (c)))) / 4)))] : List Value).getD i undef), by kernel_rfl, x1083, rfl, g1, by rw [i1056, er]; simp, by simp only [List.length_append, List.length_singleton]; omega, o1087, p1076⟩⟩
  · have en := go_nil i1055 c1062
    refine wc_upd (n := 200) (T := ⟨fun r i => match r, i with | 6, 2 => some ((Value.int .u64 (ushl 1 (n))), h1054) | 6, 3 => some ((vB false), h1054) | _, _ => none, fun _ => none, none⟩) (x := (.exit 0)) (h1 := h1054) [(21, (Value.int .u64 (c))), (22, (vI (n))), (23, (Value.int .u64 (ushl 1 (n)))), (24, (vB false))]
      (fun q => (binA Tryd.prog .shl 22 (Value.int .u64 1) (vI (n)) = some (Value.int .u64 (ushl 1 (n))) ∧ h1054 = h1054) ∧ (binA Tryd.prog .lss 22 (Value.int .u64 (c)) (Value.int .u64 (ushl 1 (n))) = some (vB false) ∧ h1054 = h1054) ∧ q) (by intro K'; kernel_rfl) (fun _ q => ⟨⟨shl_raw (by omega), rfl⟩, ⟨cmp_lss (decide_eq_false c1062), rfl⟩, q⟩) ?_
    refine wc_upd (n := 200) (T := ⟨fun r i => match r, i with | _, _ => none, fun _ => none, none⟩) (x := .ret) (h1 := h1054) [(44, (Value.slice wa (out.length) (wc))), (2, (Value.slice wa (out.length) (wc))), (3, (vI 0))]
      (fun q => q) (by intro K'; kernel_rfl) (fun _ q => q) ?_
    have eo : out = allI n := by rw [allI, if_pos hn, i1056, en, List.append_nil]
    refine end_at (T := ⟨fun _ _ => none, fun _ => none, none⟩) (A := K (Value.tuple #[(Value.slice wa (out.length) (wc)), (vI 0)]) h1054) (by kernel_rfl) ?_
    exact hK _ _ (⟨wa, wc, by rw [← eo], by rw [← eo]; exact p1059, x1061, by rw [← eo]; exact i1058⟩)
set_option maxHeartbeats 4000000 in
theorem rsize_ok (h : Heap) (n : Int) : WCall Tryd.prog 22 #[(vI (n))] h (fun v h1 => v = .tuple #[.int .i64 (szV n), .int .i64 (chk0 n)] ∧ Ext h h1) := by
  suffices H : ∀ K : Value → Heap → Prop, (∀ v h1, (fun v h1 => v = .tuple #[.int .i64 (szV n), .int .i64 (chk0 n)] ∧ Ext h h1) v h1 → K v h1) → WCall Tryd.prog 22 #[(vI (n))] h K from H _ fun _ _ q => q
  intro K hK
  refine wcall_at { tmps := #[(vI (n)), (Value.tuple #[]), (Value.tuple #[]), (Value.tuple #[]), (Value.tuple #[]), (Value.tuple #[]), (Value.tuple #[]), (Value.tuple #[]), (Value.tuple #[]), (Value.tuple #[]), (Value.tuple #[]), (Value.tuple #[]), (Value.tuple #[]), (Value.tuple #[]), (Value.tuple #[]), (Value.tuple #[]), (Value.tuple #[]), (Value.tuple #[])], defers := [] } (by kernel_rfl) ?_
  refine wc_seq' (subc (bodyOf Tryd.prog 22) [0]) (subc (bodyOf Tryd.prog 22) [1]) (by kernel_rfl) ?_
  refine wc_upd (n := 200) (T := ⟨fun r i => match r, i with | _, _ => none, fun _ => none, none⟩) (x := .normal) (h1 := h) [(2, (vI 0)), (3, (vI 0))]
    (fun q => q) (by intro K'; kernel_rfl) (fun _ q => q) ?_
  refine wc_seq' (subc (bodyOf Tryd.prog 22) [1, 0]) (subc (bodyOf Tryd.prog 22) [1, 1]) (by kernel_rfl) ?_
  obtain ⟨_, _, sn1089, rfl, rfl⟩ := rcheck_ok h 0 (by omega) (n)
  refine wc_upd (n := 200) (T := ⟨fun r i => match r, i with | 1, 1 => some ((vI (chk1 (n) 0)), h) | _, _ => none, fun _ => none, none⟩) (x := .normal) (h1 := h) [(6, (vI (n))), (7, (vI (chk1 (n) 0))), (4, (vI (chk1 (n) 0)))]
    (fun q => SoundCall Tryd.prog 35 #[(Value.int .u64 0), (vI (n))] h (vI (chk1 (n) 0)) h ∧ q) (by intro K'; kernel_rfl) (fun _ q => ⟨sn1089, q⟩) ?_
  refine wc_seq' (subc (bodyOf Tryd.prog 22) [1, 1, 0]) (subc (bodyOf Tryd.prog 22) [1, 1, 1]) (by kernel_rfl) ?_
  by_cases c1091 : ((chk1 (n) 0) : Int) = 0
  · refine wc_upd (n := 200) (T := ⟨fun r i => match r, i with | 2, 1 => some ((vB false), h) | _, _ => none, fun _ => none, none⟩) (x := .normal) (h1 := h) [(8, (vI (chk1 (n) 0))), (9, (vB false))]
      (fun q => (binA Tryd.prog .neq 23 (vI (chk1 (n) 0)) (vI 0) = some (vB false) ∧ h = h) ∧ q) (by intro K'; kernel_rfl) (fun _ q => ⟨⟨cmp_neq (decide_eq_false (not_not_intro c1091)), rfl⟩, q⟩) ?_
    refine wc_seq' (subc (bodyOf Tryd.prog 22) [1, 1, 1, 0]) (subc (bodyOf Tryd.prog 22) [1, 1, 1, 1]) (by kernel_rfl) ?_
    refine wc_upd (n := 200) (T := ⟨fun r i => match r, i with | _, _ => none, fun _ => none, none⟩) (x := .normal) (h1 := h) [(5, (vI 0))]
      (fun q => q) (by intro K'; kernel_rfl) (fun _ q => q) ?_
    refine wc_seq' (subc (bodyOf Tryd.prog 22) [1, 1, 1, 1, 0]) (subc (bodyOf Tryd.prog 22) [1, 1, 1, 1, 1]) (by kernel_rfl) ?_
    refine wc_block' 0 (subc (bodyOf Tryd.prog 22) [1, 1, 1, 1, 0, 0]) (by kernel_rfl) ?_
    refine wc_loop' (subc (bodyOf Tryd.prog 22) [1, 1, 1, 1, 0, 0, 0]) (by kernel_rfl) (fun n' a' h' => ∃ (z : Int) (gb1092 : Nat → Value), a' = { tmps := #[(vI (n)), (Value.tuple #[]), (vI 0), (vI 0), (vI (chk1 (n) 0)), (vI (z)), (vI (n)), (vI (chk1 (n) 0)), (vI (chk1 (n) 0)), (vB false), (Value.tuple #[]), (gb1092 11), (gb1092 12), (gb1092 13), (gb1092 14), (gb1092 15), (gb1092 16), (Value.tuple #[])], defers := [] } ∧ h = h' ∧ n' = (8 - z).toNat ∧ 0 ≤ z ∧ (2 * z ≤ n + 2)) ?_ ((8 - (0 : Int)).toNat) ⟨0, (fun i => ([undef, undef, undef, undef, undef, undef, undef, undef, undef, undef, undef, (Value.tuple #[]), (Value.tuple #[]), (Value.tuple #[]), (Value.tuple #[]), (Value.tuple #[]), (Value.tuple #[])] : List Value).getD i undef), by kernel_rfl, rfl, rfl, by omega, by have hb := chk0_ok (by rw [← chk1_zero]; exact c1091); omega⟩
    rintro n' _ _ ⟨z, gb1092, rfl, rfl, m1096, i1094, i1095⟩
    have hb := chk0_ok (by rw [← chk1_zero]; exact c1091)
    by_cases c1098 : ((2 * (z)) : Int) ≤ (n)
    · have q1099 := chk1_ok (by omega) c1091
      refine wc_upd (n := 200) (T := ⟨fun r i => match r, i with | 5, 1 => some ((vI (2 * (z))), h) | 5, 3 => some ((vB true), h) | 6, 1 => some ((vI ((z) + 1)), h) | _, _ => none, fun _ => none, none⟩) (x := .normal) (h1 := h) [(11, (vI (z))), (12, (vI (2 * (z)))), (13, (vI (n))), (14, (vB true)), (15, (vI (z))), (16, (vI ((z) + 1))), (5, (vI ((z) + 1)))]
        (fun q => (binA Tryd.prog .mul 3 (vI 2) (vI (z)) = some (vI (2 * (z))) ∧ h = h) ∧ (binA Tryd.prog .leq 3 (vI (2 * (z))) (vI (n)) = some (vB true) ∧ h = h) ∧ (binA Tryd.prog .add 3 (vI (z)) (vI 1) = some (vI ((z) + 1)) ∧ h = h) ∧ q) (by intro K'; kernel_rfl) (fun _ q => ⟨⟨mul_two (by omega) (by omega), rfl⟩, ⟨cmp_leq (decide_eq_true c1098), rfl⟩, ⟨add_i64 (by omega) (by omega), rfl⟩, q⟩) ?_
      exact ⟨(8 - (z + 1)).toNat, by omega, ⟨z + 1, (fun i => ([undef, undef, undef, undef, undef, undef, undef, undef, undef, undef, undef, (vI (z)), (vI (2 * (z))), (vI (n)), (vB true), (vI (z)), (vI ((z) + 1))] : List Value).getD i undef), by kernel_rfl, rfl, rfl, by omega, by omega⟩⟩
    · refine wc_upd (n := 200) (T := ⟨fun r i => match r, i with | 5, 1 => some ((vI (2 * (z))), h) | 5, 3 => some ((vB false), h) | _, _ => none, fun _ => none, none⟩) (x := (.exit 0)) (h1 := h) [(11, (vI (z))), (12, (vI (2 * (z)))), (13, (vI (n))), (14, (vB false))]
        (fun q => (binA Tryd.prog .mul 3 (vI 2) (vI (z)) = some (vI (2 * (z))) ∧ h = h) ∧ (binA Tryd.prog .leq 3 (vI (2 * (z))) (vI (n)) = some (vB false) ∧ h = h) ∧ q) (by intro K'; kernel_rfl) (fun _ q => ⟨⟨mul_two (by omega) (by omega), rfl⟩, ⟨cmp_leq (decide_eq_false c1098), rfl⟩, q⟩) ?_
      refine wc_upd (n := 200) (T := ⟨fun r i => match r, i with | _, _ => none, fun _ => none, none⟩) (x := .ret) (h1 := h) [(17, (vI (z))), (2, (vI (z))), (3, (vI 0))]
        (fun q => q) (by intro K'; kernel_rfl) (fun _ q => q) ?_
      have q := chk1_zero n
      rw [q] at c1091
      have hz := chk0_ok c1091
      have ez : szV n = z := by rw [szV, if_pos c1091]; omega
      refine end_at (T := ⟨fun _ _ => none, fun _ => none, none⟩) (A := K (Value.tuple #[(vI (z)), (vI 0)]) h) (by kernel_rfl) ?_
      exact hK _ _ (⟨by rw [ez, c1091], (Ext.refl h)⟩)
  · refine wc_upd (n := 200) (T := ⟨fun r i => match r, i with | 2, 1 => some ((vB true), h) | _, _ => none, fun _ => none, none⟩) (x := .ret) (h1 := h) [(8, (vI (chk1 (n) 0))), (9, (vB true)), (10, (vI (chk1 (n) 0))), (2, (vI 0)), (3, (vI (chk1 (n) 0)))]
      (fun q => (binA Tryd.prog .neq 23 (vI (chk1 (n) 0)) (vI 0) = some (vB true) ∧ h = h) ∧ q) (by intro K'; kernel_rfl) (fun _ q => ⟨⟨cmp_neq (decide_eq_true c1091), rfl⟩, q⟩) ?_
    have q := chk1_zero n
    refine end_at (T := ⟨fun _ _ => none, fun _ => none, none⟩) (A := K (Value.tuple #[(vI 0), (vI (chk1 (n) 0))]) h) (by kernel_rfl) ?_
    exact hK _ _ (⟨by rw [q] at c1091 ⊢; rw [szV, if_neg c1091], (Ext.refl h)⟩)
set_option maxHeartbeats 4000000 in
theorem rall_ok (h : Heap) (n : Int) (hn : chk0 n = 0) : WCall Tryd.prog 24 #[(vI (n))] h (fun v h1 => ∃ wa wc, v = .tuple #[.slice wa (allI n).length wc, .int .i64 0] ∧ OwnAt h1 22 ucell (allI n) (.slice wa (allI n).length wc) ∧ Ext h h1 ∧ ∀ b, blk (.slice wa (allI n).length wc) b → h.size ≤ b) := by
  have hz := chk0_ok hn
  have hu := ushl_pow hz
  suffices H : ∀ K : Value → Heap → Prop, (∀ v h1, (fun v h1 => ∃ wa wc, v = .tuple #[.slice wa (allI n).length wc, .int .i64 0] ∧ OwnAt h1 22 ucell (allI n) (.slice wa (allI n).length wc) ∧ Ext h h1 ∧ ∀ b, blk (.slice wa (allI n).length wc) b → h.size ≤ b) v h1 → K v h1) → WCall Tryd.prog 24 #[(vI (n))] h K from H _ fun _ _ q => q
  intro K hK
  refine wcall_at { tmps := #[(vI (n)), (Value.tuple #[]), (Value.tuple #[]), (Value.tuple #[]), (Value.tuple #[]), (Value.tuple #[]), (Value.tuple #[]), (Value.tuple #[]), (Value.tuple #[]), (Value.tuple #[]), (Value.tuple #[]), (Value.tuple #[]), (Value.tuple #[]), (Value.tuple #[]), (Value.tuple #[]), (Value.tuple #[]), (Value.tuple #[]), (Value.tuple #[]), (Value.tuple #[]), (Value.tuple #[]), (Value.tuple #[]), (Value.tuple #[]), (Value.tuple #[]), (Value.tuple #[]), (Value.tuple #[]), (Value.tuple #[]), (Value.tuple #[]), (Value.tuple #[]), (Value.tuple #[]), (Value.tuple #[]), (Value.tuple #[])], defers := [] } (by kernel_rfl) ?_
  refine wc_seq' (subc (bodyOf Tryd.prog 24) [0]) (subc (bodyOf Tryd.prog 24) [1]) (by kernel_rfl) ?_
  refine wc_upd (n := 200) (T := ⟨fun r i => match r, i with | _, _ => none, fun _ => none, none⟩) (x := .normal) (h1 := h) [(2, (Value.slice none 0 0)), (3, (vI 0))]
    (fun q => q) (by intro K'; kernel_rfl) (fun _ q => q) ?_
  refine wc_seq' (subc (bodyOf Tryd.prog 24) [1, 0]) (subc (bodyOf Tryd.prog 24) [1, 1]) (by kernel_rfl) ?_
  obtain ⟨_, h1100, s1101, rfl, x1102⟩ := rsize_ok h (n)
  rw [sz_ok hn, hn] at s1101
  have x1103 := (Ext.refl h).trans x1102
  refine wc_upd (n := 200) (T := ⟨fun r i => match r, i with | 1, 1 => some ((Value.tuple #[(vI ((n) / 2 + 1)), (vI 0)]), h1100) | _, _ => none, fun _ => none, none⟩) (x := .normal) (h1 := h1100) [(9, (vI (n))), (10, (Value.tuple #[(vI ((n) / 2 + 1)), (vI 0)])), (8, (Value.tuple #[(vI ((n) / 2 + 1)), (vI 0)])), (11, (vI ((n) / 2 + 1))), (12, (vI 0)), (4, (vI ((n) / 2 + 1))), (5, (vI 0))]
    (fun q => SoundCall Tryd.prog 22 #[(vI (n))] h (Value.tuple #[(vI ((n) / 2 + 1)), (vI 0)]) h1100 ∧ q) (by intro K'; kernel_rfl) (fun _ q => ⟨s1101, q⟩) ?_
  refine wc_seq' (subc (bodyOf Tryd.prog 24) [1, 1, 0]) (subc (bodyOf Tryd.prog 24) [1, 1, 1]) (by kernel_rfl) ?_
  refine wc_upd (n := 200) (T := ⟨fun r i => match r, i with | _, _ => none, fun _ => none, none⟩) (x := .normal) (h1 := h1100) [(13, (vI 0)), (14, (vB false))]
    (fun q => q) (by intro K'; kernel_rfl) (fun _ q => q) ?_
  refine wc_seq' (subc (bodyOf Tryd.prog 24) [1, 1, 1, 0]) (subc (bodyOf Tryd.prog 24) [1, 1, 1, 1]) (by kernel_rfl) ?_
  refine wc_upd (n := 200) (T := ⟨fun r i => match r, i with | _, _ => none, fun _ => none, none⟩) (x := .normal) (h1 := h1100) [(6, (Value.slice none 0 0))]
    (fun q => q) (by intro K'; kernel_rfl) (fun _ q => q) ?_
  refine wc_seq' (subc (bodyOf Tryd.prog 24) [1, 1, 1, 1, 0]) (subc (bodyOf Tryd.prog 24) [1, 1, 1, 1, 1]) (by kernel_rfl) ?_
  refine wc_seq' (subc (bodyOf Tryd.prog 24) [1, 1, 1, 1, 0, 0]) (subc (bodyOf Tryd.prog 24) [1, 1, 1, 1, 0, 1]) (by kernel_rfl) ?_
  refine wc_upd (n := 200) (T := ⟨fun r i => match r, i with | _, _ => none, fun _ => none, none⟩) (x := .normal) (h1 := h1100) [(7, (Value.int .u64 0))]
    (fun q => q) (by intro K'; kernel_rfl) (fun _ q => q) ?_
  refine wc_block' 0 (subc (bodyOf Tryd.prog 24) [1, 1, 1, 1, 0, 1, 0]) (by kernel_rfl) ?_
  refine wc_loop' (subc (bodyOf Tryd.prog 24) [1, 1, 1, 1, 0, 1, 0, 0]) (by kernel_rfl) (fun n' a' h' => ∃ (c : Int) (out : List Int) (wa : Option Addr) (wc : Nat) (gb1104 : Nat → Value), a' = { tmps := #[(vI (n)), (Value.tuple #[]), (Value.slice none 0 0), (vI 0), (vI ((n) / 2 + 1)), (vI 0), (Value.slice wa (out.length) (wc)), (Value.int .u64 (c)), (Value.tuple #[(vI ((n) / 2 + 1)), (vI 0)]), (vI (n)), (Value.tuple #[(vI ((n) / 2 + 1)), (vI 0)]), (vI ((n) / 2 + 1)), (vI 0), (vI 0), (vB false), (Value.tuple #[]), (gb1104 16), (gb1104 17), (gb1104 18), (gb1104 19), (gb1104 20), (gb1104 21), (gb1104 22), (gb1104 23), (gb1104 24), (gb1104 25), (gb1104 26), (gb1104 27), (gb1104 28), (gb1104 29), (Value.tuple #[])], defers := [] } ∧ Ext h h' ∧ n' = (128 - c).toNat ∧ (0 ≤ c ∧ c ≤ ushl 1 n) ∧ out = allP n.toNat c.toNat ∧ (out.length : Int) ≤ c ∧ (∀ zz, blk (Value.slice wa (out.length) (wc)) zz → h.size ≤ zz) ∧ OwnAt h' 22 ucell out (Value.slice wa (out.length) (wc))) ?_ ((128 - (0 : Int)).toNat) ⟨0, [], none, 0, (fun i => ([undef, undef, undef, undef, undef, undef, undef, undef, undef, undef, undef, undef, undef, undef, undef, undef, (Value.tuple #[]), (Value.tuple #[]), (Value.tuple #[]), (Value.tuple #[]), (Value.tuple #[]), (Value.tuple #[]), (Value.tuple #[]), (Value.tuple #[]), (Value.tuple #[]), (Value.tuple #[]), (Value.tuple #[]), (Value.tuple #[]), (Value.tuple #[]), (Value.tuple #[])] : List Value).getD i undef), by kernel_rfl, x1103, rfl, by omega, rfl, by simp, fun zz hz => hz.elim, .inl ⟨rfl, rfl⟩⟩
  rintro n' _ h1105 ⟨c, out, wa, wc, gb1104, rfl, x1112, m1111, i1106, i1107, i1108, i1109, p1110⟩
  by_cases c1113 : ((c) : Int) < (ushl 1 (n))
  · obtain ⟨_, hh1114, sn1115, rfl, x1116⟩ := rcount_ok h1105 (c) (by omega)
    have p1117 := p1110.keep fun b r _ q => x1116 b r q
    have x1118 := x1112.trans x1116
    have := pop_le (c).toNat
    by_cases c1119 : ((((pop (c).toNat : Nat) : Int)) : Int) = ((n) / 2 + 1)
    · obtain ⟨b1122, eb1123⟩ : ∃ zq, zq = hh1114.size := ⟨_, rfl⟩
      obtain ⟨h1120, e1121⟩ : ∃ zq, zq = hh1114.push (.cells #[(Value.int .u64 (c))] 22 (0, 0)) := ⟨_, rfl⟩
      have f1124 := push_new e1121
      rw [← eb1123] at f1124
      have x1126 : Ext hh1114 h1120 := by rw [e1121]; exact Ext.push _ _
      have o1127 : h.size ≤ b1122 := by have := x1118.size; omega
      have p1128 := p1117.keep fun b r _ q => x1126 b r q
      have x1129 := x1118.trans x1126
      obtain ⟨w1130, h1131, e1132, p1133, c1134, n1135, z1136⟩ := own_append und35 sizeb22 zero22 rfl (by decide) ucell_size (x := (c : Int)) p1128 f1124 rfl (by omega) (by unfold maxLen; omega)
      obtain ⟨a1137, c1138, rfl⟩ := (p1133.slice ucell_size).len
      have z1139 : h.size ≤ h1120.size := x1129.size
      have x1140 : Ext h _ := (Chg.then (O := fun _ => False) (Chg.ext x1129) c1134 (fun b hb => .inr (i1109 b hb))).toExt'
      have o1144 : ∀ zz, blk (Value.slice a1137 ((out ++ [(c : Int)]).length) (c1138)) zz → h.size ≤ zz := fun zz hz => by have := n1135 zz hz; have := z1139; omega
      refine wc_upd (n := 200) (T := ⟨fun r i => match r, i with | 6, 2 => some ((Value.int .u64 (ushl 1 (n))), h1105) | 6, 3 => some ((vB true), h1105) | 8, 1 => some ((vI (((pop (c).toNat : Nat) : Int))), hh1114) | 8, 3 => some ((vB true), hh1114) | 9, 2 => some ((Value.slice (some ⟨b1122, 0, none⟩) 1 1), h1120) | 9, 3 => some ((Value.slice a1137 ((out ++ [(c : Int)]).length) (c1138)), h1131) | 7, 1 => some ((Value.int .u64 (uadd (c) 1)), h1131) | _, _ => none, fun _ => none, none⟩) (x := .normal) (h1 := h1131) [(16, (Value.int .u64 (c))), (17, (vI (n))), (18, (Value.int .u64 (ushl 1 (n)))), (19, (vB true)), (22, (Value.int .u64 (c))), (23, (vI (((pop (c).toNat : Nat) : Int)))), (24, (vI ((n) / 2 + 1))), (25, (vB true)), (26, (Value.slice wa (out.length) (wc))), (27, (Value.int .u64 (c))), (28, (Value.slice (some ⟨b1122, 0, none⟩) 1 1)), (29, (Value.slice a1137 ((out ++ [(c : Int)]).length) (c1138))), (6, (Value.slice a1137 ((out ++ [(c : Int)]).length) (c1138))), (20, (Value.int .u64 (c))), (21, (Value.int .u64 (uadd (c) 1))), (7, (Value.int .u64 (uadd (c) 1)))]
        (fun q => (binA Tryd.prog .shl 22 (Value.int .u64 1) (vI (n)) = some (Value.int .u64 (ushl 1 (n))) ∧ h1105 = h1105) ∧ (binA Tryd.prog .lss 22 (Value.int .u64 (c)) (Value.int .u64 (ushl 1 (n))) = some (vB true) ∧ h1105 = h1105) ∧ SoundCall Tryd.prog 27 #[(Value.int .u64 (c))] h1105 (vI (((pop (c).toNat : Nat) : Int))) hh1114 ∧ (binA Tryd.prog .eql 3 (vI (((pop (c).toNat : Nat) : Int))) (vI ((n) / 2 + 1)) = some (vB true) ∧ hh1114 = hh1114) ∧ ((Value.slice (some ⟨b1122, 0, none⟩) 1 1) = (Value.slice (some ⟨hh1114.size, 0, none⟩) 1 1) ∧ h1120 = hh1114.push (.cells #[(Value.int .u64 (c))] 22 (0, 0))) ∧ appendA Tryd.prog h1120 #[35, 35] #[(Value.slice wa (out.length) (wc)), (Value.slice (some ⟨b1122, 0, none⟩) 1 1)] = some ((Value.slice a1137 ((out ++ [(c : Int)]).length) (c1138)), h1131) ∧ (binA Tryd.prog .add 22 (Value.int .u64 (c)) (Value.int .u64 1) = some (Value.int .u64 (uadd (c) 1)) ∧ h1131 = h1131) ∧ q) (by intro K'; kernel_rfl) (fun _ q => ⟨⟨shl_raw (by omega), rfl⟩, ⟨cmp_lss (decide_eq_true c1113), rfl⟩, sn1115, ⟨cmp_eql (decide_eq_true c1119), rfl⟩, ⟨by rw [eb1123], e1121⟩, e1132, ⟨add_raw, rfl⟩, q⟩) ?_
      have ua := uadd_one (c := c) (by omega)
      exact ⟨(128 - (c + 1)).toNat, by omega, ⟨uadd (c) 1, (out ++ [(c : Int)]), a1137, c1138, (fun i => ([undef, undef, undef, undef, undef, undef, undef, undef, undef, undef, undef, undef, undef, undef, undef, undef, (Value.int .u64 (c)), (vI (n)), (Value.int .u64 (ushl 1 (n))), (vB true), (Value.int .u64 (c)), (Value.int .u64 (uadd (c) 1)), (Value.int .u64 (c)), (vI (((pop (c).toNat : Nat) : Int))), (vI ((n) / 2 + 1)), (vB true), (Value.slice wa (out.length) (wc)), (Value.int .u64 (c)), (Value.slice (some ⟨b1122, 0, none⟩) 1 1), (Value.slice a1137 ((out ++ [(c : Int)]).length) (c1138))] : List Value).getD i undef), by kernel_rfl, x1140, by rw [ua], by rw [ua]; omega, by rw [ua, show (c + 1).toNat = c.toNat + 1 by omega, allP_next, if_pos (by omega), ← i1107]; congr 2; omega, by rw [ua]; simp only [List.length_append, List.length_singleton]; omega, o1144, p1133⟩⟩
    · refine wc_upd (n := 200) (T := ⟨fun r i => match r, i with | 6, 2 => some ((Value.int .u64 (ushl 1 (n))), h1105) | 6, 3 => some ((vB true), h1105) | 8, 1 => some ((vI (((pop (c).toNat : Nat) : Int))), hh1114) | 8, 3 => some ((vB false), hh1114) | 7, 1 => some ((Value.int .u64 (uadd (c) 1)), hh1114) | _, _ => none, fun _ => none, none⟩) (x := .normal) (h1 := hh1114) [(16, (Value.int .u64 (c))), (17, (vI (n))), (18, (Value.int .u64 (ushl 1 (n)))), (19, (vB true)), (22, (Value.int .u64 (c))), (23, (vI (((pop (c).toNat : Nat) : Int)))), (24, (vI ((n) / 2 + 1))), (25, (vB false)), (20, (Value.int .u64 (c))), (21, (Value.int .u64 (uadd (c) 1))), (7, (Value.int .u64 (uadd (c) 1)))]
        (fun q => (binA Tryd.prog .shl 22 (Value.int .u64 1) (vI (n)) = some (Value.int .u64 (ushl 1 (n))) ∧ h1105 = h1105) ∧ (binA Tryd.prog .lss 22 (Value.int .u64 (c)) (Value.int .u64 (ushl 1 (n))) = some (vB true) ∧ h1105 = h1105) ∧ SoundCall Tryd.prog 27 #[(Value.int .u64 (c))] h1105 (vI (((pop (c).toNat : Nat) : Int))) hh1114 ∧ (binA Tryd.prog .eql 3 (vI (((pop (c).toNat : Nat) : Int))) (vI ((n) / 2 + 1)) = some (vB false) ∧ hh1114 = hh1114) ∧ (binA Tryd.prog .add 22 (Value.int .u64 (c)) (Value.int .u64 1) = some (Value.int .u64 (uadd (c) 1)) ∧ hh1114 = hh1114) ∧ q) (by intro K'; kernel_rfl) (fun _ q => ⟨⟨shl_raw (by omega), rfl⟩, ⟨cmp_lss (decide_eq_true c1113), rfl⟩, sn1115, ⟨cmp_eql (decide_eq_false c1119), rfl⟩, ⟨add_raw, rfl⟩, q⟩) ?_
      have ua := uadd_one (c := c) (by omega)
      exact ⟨(128 - (c + 1)).toNat, by omega, ⟨uadd (c) 1, out, wa, wc, (fun i => ([undef, undef, undef, undef, undef, undef, undef, undef, undef, undef, undef, undef, undef, undef, undef, undef, (Value.int .u64 (c)), (vI (n)), (Value.int .u64 (ushl 1 (n))), (vB true), (Value.int .u64 (c)), (Value.int .u64 (uadd (c) 1)), (Value.int .u64 (c)), (vI (((pop (c).toNat : Nat) : Int))), (vI ((n) / 2 + 1)), (vB false), (gb1104 26), (gb1104 27), (gb1104 28), (gb1104 29)] : List Value).getD i undef), by kernel_rfl, x1118, by rw [ua], by rw [ua]; omega, by rw [ua, show (c + 1).toNat = c.toNat + 1 by omega, allP_next, if_neg (by omega), ← i1107]; simp, by rw [ua]; omega, i1109, p1117⟩⟩
  · refine wc_upd (n := 200) (T := ⟨fun r i => match r, i with | 6, 2 => some ((Value.int .u64 (ushl 1 (n))), h1105) | 6, 3 => some ((vB false), h1105) | _, _ => none, fun _ => none, none⟩) (x := (.exit 0)) (h1 := h1105) [(16, (Value.int .u64 (c))), (17, (vI (n))), (18, (Value.int .u64 (ushl 1 (n)))), (19, (vB false))]
      (fun q => (binA Tryd.prog .shl 22 (Value.int .u64 1) (vI (n)) = some (Value.int .u64 (ushl 1 (n))) ∧ h1105 = h1105) ∧ (binA Tryd.prog .lss 22 (Value.int .u64 (c)) (Value.int .u64 (ushl 1 (n))) = some (vB false) ∧ h1105 = h1105) ∧ q) (by intro K'; kernel_rfl) (fun _ q => ⟨⟨shl_raw (by omega), rfl⟩, ⟨cmp_lss (decide_eq_false c1113), rfl⟩, q⟩) ?_
    refine wc_upd (n := 200) (T := ⟨fun r i => match r, i with | _, _ => none, fun _ => none, none⟩) (x := .ret) (h1 := h1105) [(30, (Value.slice wa (out.length) (wc))), (2, (Value.slice wa (out.length) (wc))), (3, (vI 0))]
      (fun q => q) (by intro K'; kernel_rfl) (fun _ q => q) ?_
    have eo : out = allI n := by rw [allI, if_pos hn, i1107]; congr 1; omega
    refine end_at (T := ⟨fun _ _ => none, fun _ => none, none⟩) (A := K (Value.tuple #[(Value.slice wa (out.length) (wc)), (vI 0)]) h1105) (by kernel_rfl) ?_
    exact hK _ _ (⟨wa, wc, by rw [← eo], by rw [← eo]; exact p1110, x1112, by rw [← eo]; exact i1109⟩)
set_option maxHeartbeats 4000000 in
theorem rall_bad (h : Heap) (n : Int) (hn : n < 1 ∨ 7 < n) : WCall Tryd.prog 24 #[(vI (n))] h (fun v h1 => v = .tuple #[.slice none 0 0, .int .i64 2] ∧ Ext h h1) := by
  have hz := m_bad hn
  suffices H : ∀ K : Value → Heap → Prop, (∀ v h1, (fun v h1 => v = .tuple #[.slice none 0 0, .int .i64 2] ∧ Ext h h1) v h1 → K v h1) → WCall Tryd.prog 24 #[(vI (n))] h K from H _ fun _ _ q => q
  intro K hK
  refine wcall_at { tmps := #[(vI (n)), (Value.tuple #[]), (Value.tuple #[]), (Value.tuple #[]), (Value.tuple #[]), (Value.tuple #[]), (Value.tuple #[]), (Value.tuple #[]), (Value.tuple #[]), (Value.tuple #[]), (Value.tuple #[]), (Value.tuple #[]), (Value.tuple #[]), (Value.tuple #[]), (Value.tuple #[]), (Value.tuple #[]), (Value.tuple #[]), (Value.tuple #[]), (Value.tuple #[]), (Value.tuple #[]), (Value.tuple #[]), (Value.tuple #[]), (Value.tuple #[]), (Value.tuple #[]), (Value.tuple #[]), (Value.tuple #[]), (Value.tuple #[]), (Value.tuple #[]), (Value.tuple #[]), (Value.tuple #[]), (Value.tuple #[])], defers := [] } (by kernel_rfl) ?_
  refine wc_seq' (subc (bodyOf Tryd.prog 24) [0]) (subc (bodyOf Tryd.prog 24) [1]) (by kernel_rfl) ?_
  refine wc_upd (n := 200) (T := ⟨fun r i => match r, i with | _, _ => none, fun _ => none, none⟩) (x := .normal) (h1 := h) [(2, (Value.slice none 0 0)), (3, (vI 0))]
    (fun q => q) (by intro K'; kernel_rfl) (fun _ q => q) ?_
  refine wc_seq' (subc (bodyOf Tryd.prog 24) [1, 0]) (subc (bodyOf Tryd.prog 24) [1, 1]) (by kernel_rfl) ?_
  obtain ⟨_, h1145, s1146, rfl, x1147⟩ := rsize_ok h (n)
  rw [hz.2.1, hz.1] at s1146
  have x1148 := (Ext.refl h).trans x1147
  refine wc_upd (n := 200) (T := ⟨fun r i => match r, i with | 1, 1 => some ((Value.tuple #[(vI 0), (vI 2)]), h1145) | _, _ => none, fun _ => none, none⟩) (x := .normal) (h1 := h1145) [(9, (vI (n))), (10, (Value.tuple #[(vI 0), (vI 2)])), (8, (Value.tuple #[(vI 0), (vI 2)])), (11, (vI 0)), (12, (vI 2)), (4, (vI 0)), (5, (vI 2))]
    (fun q => SoundCall Tryd.prog 22 #[(vI (n))] h (Value.tuple #[(vI 0), (vI 2)]) h1145 ∧ q) (by intro K'; kernel_rfl) (fun _ q => ⟨s1146, q⟩) ?_
  refine wc_seq' (subc (bodyOf Tryd.prog 24) [1, 1, 0]) (subc (bodyOf Tryd.prog 24) [1, 1, 1]) (by kernel_rfl) ?_
  refine wc_upd (n := 200) (T := ⟨fun r i => match r, i with | _, _ => none, fun _ => none, none⟩) (x := .ret) (h1 := h1145) [(13, (vI 2)), (14, (vB true)), (15, (vI 2)), (2, (Value.slice none 0 0)), (3, (vI 2))]
    (fun q => q) (by intro K'; kernel_rfl) (fun _ q => q) ?_
  refine end_at (T := ⟨fun _ _ => none, fun _ => none, none⟩) (A := K (Value.tuple #[(Value.slice none 0 0), (vI 2)]) h1145) (by kernel_rfl) ?_
  exact hK _ _ (⟨rfl, x1148⟩)
set_option maxHeartbeats 4000000 in
theorem usame (h : Heap) (xs : List Int) (sa : Option Addr) (ca : Nat) (hl1 : SliceAt h ucell 1 xs (.slice sa xs.length ca)) (sb : Option Addr) (cb : Nat) (hl2 : SliceAt h ucell 1 xs (.slice sb xs.length cb)) (hlen : xs.length ≤ 1048576) : WCall Tryd.prog 25 #[(Value.slice sa (xs.length) (ca)), (Value.slice sb (xs.length) (cb))] h (fun v h1 => v = .bool true ∧ h = h1) := by
  suffices H : ∀ K : Value → Heap → Prop, (∀ v h1, (fun v h1 => v = .bool true ∧ h = h1) v h1 → K v h1) → WCall Tryd.prog 25 #[(Value.slice sa (xs.length) (ca)), (Value.slice sb (xs.length) (cb))] h K from H _ fun _ _ q => q
  intro K hK
  refine wcall_at { tmps := #[(Value.slice sa (xs.length) (ca)), (Value.slice sb (xs.length) (cb)), (Value.tuple #[]), (Value.tuple #[]), (Value.tuple #[]), (Value.tuple #[]), (Value.tuple #[]), (Value.tuple #[]), (Value.tuple #[]), (Value.tuple #[]), (Value.tuple #[]), (Value.tuple #[]), (Value.tuple #[]), (Value.tuple #[]), (Value.tuple #[]), (Value.tuple #[]), (Value.tuple #[]), (Value.tuple #[]), (Value.tuple #[]), (Value.tuple #[]), (Value.tuple #[]), (Value.tuple #[]), (Value.tuple #[]), (Value.tuple #[]), (Value.tuple #[]), (Value.tuple #[])], defers := [] } (by kernel_rfl) ?_
  refine wc_seq' (subc (bodyOf Tryd.prog 25) [0]) (subc (bodyOf Tryd.prog 25) [1]) (by kernel_rfl) ?_
  refine wc_upd (n := 200) (T := ⟨fun r i => match r, i with | _, _ => none, fun _ => none, none⟩) (x := .normal) (h1 := h) [(4, (vB false))]
    (fun q => q) (by intro K'; kernel_rfl) (fun _ q => q) ?_
  refine wc_seq' (subc (bodyOf Tryd.prog 25) [1, 0]) (subc (bodyOf Tryd.prog 25) [1, 1]) (by kernel_rfl) ?_
  refine wc_upd (n := 200) (T := ⟨fun r i => match r, i with | 1, 4 => some ((vB false), h) | _, _ => none, fun _ => none, none⟩) (x := .normal) (h1 := h) [(6, (Value.slice sa (xs.length) (ca))), (7, (vI ((xs.length : Nat)))), (8, (Value.slice sb (xs.length) (cb))), (9, (vI ((xs.length : Nat)))), (10, (vB false))]
    (fun q => (binA Tryd.prog .neq 3 (vI ((xs.length : Nat))) (vI ((xs.length : Nat))) = some (vB false) ∧ h = h) ∧ q) (by intro K'; kernel_rfl) (fun _ q => ⟨⟨cmp_neq (decide_eq_false (not_not_intro rfl)), rfl⟩, q⟩) ?_
  refine wc_seq' (subc (bodyOf Tryd.prog 25) [1, 1, 0]) (subc (bodyOf Tryd.prog 25) [1, 1, 1]) (by kernel_rfl) ?_
  refine wc_seq' (subc (bodyOf Tryd.prog 25) [1, 1, 0, 0]) (subc (bodyOf Tryd.prog 25) [1, 1, 0, 1]) (by kernel_rfl) ?_
  refine wc_upd (n := 200) (T := ⟨fun r i => match r, i with | _, _ => none, fun _ => none, none⟩) (x := .normal) (h1 := h) [(11, (Value.slice sa (xs.length) (ca))), (12, (vI ((xs.length : Nat)))), (13, (vI 0))]
    (fun q => q) (by intro K'; kernel_rfl) (fun _ q => q) ?_
  refine wc_block' 0 (subc (bodyOf Tryd.prog 25) [1, 1, 0, 1, 0]) (by kernel_rfl) ?_
  refine wc_loop' (subc (bodyOf Tryd.prog 25) [1, 1, 0, 1, 0, 0]) (by kernel_rfl) (fun n' a' h' => ∃ (k : Int) (gb1149 : Nat → Value), a' = { tmps := #[(Value.slice sa (xs.length) (ca)), (Value.slice sb (xs.length) (cb)), (Value.tuple #[]), (Value.tuple #[]), (vB false), (gb1149 5), (Value.slice sa (xs.length) (ca)), (vI ((xs.length : Nat))), (Value.slice sb (xs.length) (cb)), (vI ((xs.length : Nat))), (vB false), (Value.slice sa (xs.length) (ca)), (vI ((xs.length : Nat))), (vI (k)), (gb1149 14), (gb1149 15), (gb1149 16), (gb1149 17), (gb1149 18), (gb1149 19), (gb1149 20), (gb1149 21), (gb1149 22), (gb1149 23), (gb1149 24), (gb1149 25)], defers := [] } ∧ h = h' ∧ n' = xs.length - k.toNat ∧ (0 ≤ k ∧ k ≤ xs.length)) ?_ (xs.length - (0 : Int).toNat) ⟨0, (fun i => ([undef, undef, undef, undef, undef, (Value.tuple #[]), undef, undef, undef, undef, undef, undef, undef, undef, (Value.tuple #[]), (Value.tuple #[]), (Value.tuple #[]), (Value.tuple #[]), (Value.tuple #[]), (Value.tuple #[]), (Value.tuple #[]), (Value.tuple #[]), (Value.tuple #[]), (Value.tuple #[]), (Value.tuple #[]), (Value.tuple #[])] : List Value).getD i undef), by kernel_rfl, rfl, rfl, by omega⟩
  rintro n' _ _ ⟨k, gb1149, rfl, rfl, m1152, i1151⟩
  by_cases c1154 : ((k) : Int) < ((xs.length : Nat))
  · obtain ⟨i1155, v1156, e1157, l1158, g1159⟩ := list_at xs (e := (k)) (by omega) (by omega)
    obtain ⟨b1160, o1161, k1162, q1163, a1164⟩ := hl1.at ucell_size g1159
    obtain ⟨b1171, o1172, k1173, q1174, a1175⟩ := hl2.at ucell_size g1159
    refine wc_upd (n := 200) (T := ⟨fun r i => match r, i with | 4, 0 => some ((vB true), h) | 6, 2 => some ((vP b1160 o1161), h) | 6, 3 => some ((Value.int .u64 (v1156)), h) | 6, 6 => some ((vP b1171 o1172), h) | 6, 7 => some ((Value.int .u64 (v1156)), h) | 6, 8 => some ((vB false), h) | 8, 0 => some ((vI ((k) + 1)), h) | _, _ => none, fun _ => none, none⟩) (x := .normal) (h1 := h) [(14, (vB true)), (15, (vI (k))), (5, (vI (k))), (16, (Value.slice sa (xs.length) (ca))), (17, (vI (k))), (18, (vP b1160 o1161)), (19, (Value.int .u64 (v1156))), (20, (Value.slice sb (xs.length) (cb))), (21, (vI (k))), (22, (vP b1171 o1172)), (23, (Value.int .u64 (v1156))), (24, (vB false)), (25, (vI ((k) + 1))), (13, (vI ((k) + 1)))]
      (fun q => (binA Tryd.prog .lss 3 (vI (k)) (vI ((xs.length : Nat))) = some (vB true) ∧ h = h) ∧ (indexAddrA Tryd.prog 35 (Value.slice sa (xs.length) (ca)) (vI (k)) = some (vP b1160 o1161) ∧ h = h) ∧ (loadT Tryd.prog h 22 (vP b1160 o1161) = some (Value.int .u64 (v1156)) ∧ h = h) ∧ (indexAddrA Tryd.prog 35 (Value.slice sb (xs.length) (cb)) (vI (k)) = some (vP b1171 o1172) ∧ h = h) ∧ (loadT Tryd.prog h 22 (vP b1171 o1172) = some (Value.int .u64 (v1156)) ∧ h = h) ∧ (binA Tryd.prog .neq 22 (Value.int .u64 (v1156)) (Value.int .u64 (v1156)) = some (vB false) ∧ h = h) ∧ (binA Tryd.prog .add 3 (vI (k)) (vI 1) = some (vI ((k) + 1)) ∧ h = h) ∧ q) (by intro K'; kernel_rfl) (fun _ q => ⟨⟨cmp_lss (decide_eq_true c1154), rfl⟩, ⟨a1164 und35 size22 e1157, rfl⟩, ⟨(k1162.keep fun b r _ q => (Ext.refl h) b r q).cell (j := 0) agg22 rfl, rfl⟩, ⟨a1175 und35 size22 e1157, rfl⟩, ⟨(k1173.keep fun b r _ q => (Ext.refl h) b r q).cell (j := 0) agg22 rfl, rfl⟩, ⟨cmp_neq (decide_eq_false (not_not_intro rfl)), rfl⟩, ⟨add_i64 (by omega) (by omega), rfl⟩, q⟩) ?_
    exact ⟨xs.length - (k + 1).toNat, by omega, ⟨k + 1, (fun i => ([undef, undef, undef, undef, undef, (vI (k)), undef, undef, undef, undef, undef, undef, undef, undef, (vB true), (vI (k)), (Value.slice sa (xs.length) (ca)), (vI (k)), (vP b1160 o1161), (Value.int .u64 (v1156)), (Value.slice sb (xs.length) (cb)), (vI (k)), (vP b1171 o1172), (Value.int .u64 (v1156)), (vB false), (vI ((k) + 1))] : List Value).getD i undef), by kernel_rfl, rfl, rfl, by omega⟩⟩
  · refine wc_upd (n := 200) (T := ⟨fun r i => match r, i with | 4, 0 => some ((vB false), h) | _, _ => none, fun _ => none, none⟩) (x := (.exit 0)) (h1 := h) [(14, (vB false))]
      (fun q => (binA Tryd.prog .lss 3 (vI (k)) (vI ((xs.length : Nat))) = some (vB false) ∧ h = h) ∧ q) (by intro K'; kernel_rfl) (fun _ q => ⟨⟨cmp_lss (decide_eq_false c1154), rfl⟩, q⟩) ?_
    refine wc_upd (n := 200) (T := ⟨fun r i => match r, i with | _, _ => none, fun _ => none, none⟩) (x := .ret) (h1 := h) [(4, (vB true))]
      (fun q => q) (by intro K'; kernel_rfl) (fun _ q => q) ?_
    refine end_at (T := ⟨fun _ _ => none, fun _ => none, none⟩) (A := K (vB true) h) (by kernel_rfl) ?_
    exact hK _ _ (⟨rfl, rfl⟩)
set_option maxHeartbeats 4000000 in
theorem isame (h : Heap) (xs : List Int) (sa : Option Addr) (ca : Nat) (hl1 : SliceAt h icell 1 xs (.slice sa xs.length ca)) (sb : Option Addr) (cb : Nat) (hl2 : SliceAt h icell 1 xs (.slice sb xs.length cb)) (hlen : xs.length ≤ 1048576) : WCall Tryd.prog 28 #[(Value.slice sa (xs.length) (ca)), (Value.slice sb (xs.length) (cb))] h (fun v h1 => v = .bool true ∧ h = h1) := by
  suffices H : ∀ K : Value → Heap → Prop, (∀ v h1, (fun v h1 => v = .bool true ∧ h = h1) v h1 → K v h1) → WCall Tryd.prog 28 #[(Value.slice sa (xs.length) (ca)), (Value.slice sb (xs.length) (cb))] h K from H _ fun _ _ q => q
  intro K hK
  refine wcall_at { tmps := #[(Value.slice sa (xs.length) (ca)), (Value.slice sb (xs.length) (cb)), (Value.tuple #[]), (Value.tuple #[]), (Value.tuple #[]), (Value.tuple #[]), (Value.tuple #[]), (Value.tuple #[]), (Value.tuple #[]), (Value.tuple #[]), (Value.tuple #[]), (Value.tuple #[]), (Value.tuple #[]), (Value.tuple #[]), (Value.tuple #[]), (Value.tuple #[]), (Value.tuple #[]), (Value.tuple #[]), (Value.tuple #[]), (Value.tuple #[]), (Value.tuple #[]), (Value.tuple #[]), (Value.tuple #[]), (Value.tuple #[]), (Value.tuple #[]), (Value.tuple #[])], defers := [] } (by kernel_rfl) ?_
  refine wc_seq' (subc (bodyOf Tryd.prog 28) [0]) (subc (bodyOf Tryd.prog 28) [1]) (by kernel_rfl) ?_
  refine wc_upd (n := 200) (T := ⟨fun r i => match r, i with | _, _ => none, fun _ => none, none⟩) (x := .normal) (h1 := h) [(4, (vB false))]
    (fun q => q) (by intro K'; kernel_rfl) (fun _ q => q) ?_
  refine wc_seq' (subc (bodyOf Tryd.prog 28) [1, 0]) (subc (bodyOf Tryd.prog 28) [1, 1]) (by kernel_rfl) ?_
  refine wc_upd (n := 200) (T := ⟨fun r i => match r, i with | 1, 4 => some ((vB false), h) | _, _ => none, fun _ => none, none⟩) (x := .normal) (h1 := h) [(6, (Value.slice sa (xs.length) (ca))), (7, (vI ((xs.length : Nat)))), (8, (Value.slice sb (xs.length) (cb))), (9, (vI ((xs.length : Nat)))), (10, (vB false))]
    (fun q => (binA Tryd.prog .neq 3 (vI ((xs.length : Nat))) (vI ((xs.length : Nat))) = some (vB false) ∧ h = h) ∧ q) (by intro K'; kernel_rfl) (fun _ q => ⟨⟨cmp_neq (decide_eq_false (not_not_intro rfl)), rfl⟩, q⟩) ?_
  refine wc_seq' (subc (bodyOf Tryd.prog 28) [1, 1, 0]) (subc (bodyOf Tryd.prog 28) [1, 1, 1]) (by kernel_rfl) ?_
  refine wc_seq' (subc (bodyOf Tryd.prog 28) [1, 1, 0, 0]) (subc (bodyOf Tryd.prog 28) [1, 1, 0, 1]) (by kernel_rfl) ?_
  refine wc_upd (n := 200) (T := ⟨fun r i => match r, i with | _, _ => none, fun _ => none, none⟩) (x := .normal) (h1 := h) [(11, (Value.slice sa (xs.length) (ca))), (12, (vI ((xs.length : Nat)))), (13, (vI 0))]
    (fun q => q) (by intro K'; kernel_rfl) (fun _ q => q) ?_
  refine wc_block' 0 (subc (bodyOf Tryd.prog 28) [1, 1, 0, 1, 0]) (by kernel_rfl) ?_
  refine wc_loop' (subc (bodyOf Tryd.prog 28) [1, 1, 0, 1, 0, 0]) (by kernel_rfl) (fun n' a' h' => ∃ (k : Int) (gb1177 : Nat → Value), a' = { tmps := #[(Value.slice sa (xs.length) (ca)), (Value.slice sb (xs.length) (cb)), (Value.tuple #[]), (Value.tuple #[]), (vB false), (gb1177 5), (Value.slice sa (xs.length) (ca)), (vI ((xs.length : Nat))), (Value.slice sb (xs.length) (cb)), (vI ((xs.length : Nat))), (vB false), (Value.slice sa (xs.length) (ca)), (vI ((xs.length : Nat))), (vI (k)), (gb1177 14), (gb1177 15), (gb1177 16), (gb1177 17), (gb1177 18), (gb1177 19), (gb1177 20), (gb1177 21), (gb1177 22), (gb1177 23), (gb1177 24), (gb1177 25)], defers := [] } ∧ h = h' ∧ n' = xs.length - k.toNat ∧ (0 ≤ k ∧ k ≤ xs.length)) ?_ (xs.length - (0 : Int).toNat) ⟨0, (fun i => ([undef, undef, undef, undef, undef, (Value.tuple #[]), undef, undef, undef, undef, undef, undef, undef, undef, (Value.tuple #[]), (Value.tuple #[]), (Value.tuple #[]), (Value.tuple #[]), (Value.tuple #[]), (Value.tuple #[]), (Value.tuple #[]), (Value.tuple #[]), (Value.tuple #[]), (Value.tuple #[]), (Value.tuple #[]), (Value.tuple #[])] : List Value).getD i undef), by kernel_rfl, rfl, rfl, by omega⟩
  rintro n' _ _ ⟨k, gb1177, rfl, rfl, m1180, i1179⟩
  by_cases c1182 : ((k) : Int) < ((xs.length : Nat))
  · obtain ⟨i1183, v1184, e1185, l1186, g1187⟩ := list_at xs (e := (k)) (by omega) (by omega)
    obtain ⟨b1188, o1189, k1190, q1191, a1192⟩ := hl1.at icell_size g1187
    obtain ⟨b1199, o1200, k1201, q1202, a1203⟩ := hl2.at icell_size g1187
    refine wc_upd (n := 200) (T := ⟨fun r i => match r, i with | 4, 0 => some ((vB true), h) | 6, 2 => some ((vP b1188 o1189), h) | 6, 3 => some ((vI (v1184)), h) | 6, 6 => some ((vP b1199 o1200), h) | 6, 7 => some ((vI (v1184)), h) | 6, 8 => some ((vB false), h) | 8, 0 => some ((vI ((k) + 1)), h) | _, _ => none, fun _ => none, none⟩) (x := .normal) (h1 := h) [(14, (vB true)), (15, (vI (k))), (5, (vI (k))), (16, (Value.slice sa (xs.length) (ca))), (17, (vI (k))), (18, (vP b1188 o1189)), (19, (vI (v1184))), (20, (Value.slice sb (xs.length) (cb))), (21, (vI (k))), (22, (vP b1199 o1200)), (23, (vI (v1184))), (24, (vB false)), (25, (vI ((k) + 1))), (13, (vI ((k) + 1)))]
      (fun q => (binA Tryd.prog .lss 3 (vI (k)) (vI ((xs.length : Nat))) = some (vB true) ∧ h = h) ∧ (indexAddrA Tryd.prog 41 (Value.slice sa (xs.length) (ca)) (vI (k)) = some (vP b1188 o1189) ∧ h = h) ∧ (loadT Tryd.prog h 3 (vP b1188 o1189) = some (vI (v1184)) ∧ h = h) ∧ (indexAddrA Tryd.prog 41 (Value.slice sb (xs.length) (cb)) (vI (k)) = some (vP b1199 o1200) ∧ h = h) ∧ (loadT Tryd.prog h 3 (vP b1199 o1200) = some (vI (v1184)) ∧ h = h) ∧ (binA Tryd.prog .neq 3 (vI (v1184)) (vI (v1184)) = some (vB false) ∧ h = h) ∧ (binA Tryd.prog .add 3 (vI (k)) (vI 1) = some (vI ((k) + 1)) ∧ h = h) ∧ q) (by intro K'; kernel_rfl) (fun _ q => ⟨⟨cmp_lss (decide_eq_true c1182), rfl⟩, ⟨a1192 und41 size3 e1185, rfl⟩, ⟨(k1190.keep fun b r _ q => (Ext.refl h) b r q).cell (j := 0) agg3 rfl, rfl⟩, ⟨a1203 und41 size3 e1185, rfl⟩, ⟨(k1201.keep fun b r _ q => (Ext.refl h) b r q).cell (j := 0) agg3 rfl, rfl⟩, ⟨cmp_neq (decide_eq_false (not_not_intro rfl)), rfl⟩, ⟨add_i64 (by omega) (by omega), rfl⟩, q⟩) ?_
    exact ⟨xs.length - (k + 1).toNat, by omega, ⟨k + 1, (fun i => ([undef, undef, undef, undef, undef, (vI (k)), undef, undef, undef, undef, undef, undef, undef, undef, (vB true), (vI (k)), (Value.slice sa (xs.length) (ca)), (vI (k)), (vP b1188 o1189), (vI (v1184)), (Value.slice sb (xs.length) (cb)), (vI (k)), (vP b1199 o1200), (vI (v1184)), (vB false), (vI ((k) + 1))] : List Value).getD i undef), by kernel_rfl, rfl, rfl, by omega⟩⟩
  · refine wc_upd (n := 200) (T := ⟨fun r i => match r, i with | 4, 0 => some ((vB false), h) | _, _ => none, fun _ => none, none⟩) (x := (.exit 0)) (h1 := h) [(14, (vB false))]
      (fun q => (binA Tryd.prog .lss 3 (vI (k)) (vI ((xs.length : Nat))) = some (vB false) ∧ h = h) ∧ q) (by intro K'; kernel_rfl) (fun _ q => ⟨⟨cmp_lss (decide_eq_false c1182), rfl⟩, q⟩) ?_
    refine wc_upd (n := 200) (T := ⟨fun r i => match r, i with | _, _ => none, fun _ => none, none⟩) (x := .ret) (h1 := h) [(4, (vB true))]
      (fun q => q) (by intro K'; kernel_rfl) (fun _ q => q) ?_
    refine end_at (T := ⟨fun _ _ => none, fun _ => none, none⟩) (A := K (vB true) h) (by kernel_rfl) ?_
    exact hK _ _ (⟨rfl, rfl⟩)
theorem chk0_bad {n : Int} (h : ¬ chk0 n = 0) : (n < 1 ∨ 7 < n) ∧ chk0 n = 2 ∧ allI n = [] := by
  refine ⟨?_, ?_, by rw [allI, if_neg h]⟩
  · unfold chk0 at h; split at h
    · assumption
    · exact absurd rfl h
  · unfold chk0 at h ⊢; split at h
    · rename_i hc; rw [if_pos hc]
    · exact absurd rfl h
theorem allI_len (n : Int) : (allI n).length ≤ 128 := by
  unfold allI
  split
  · rename_i h
    have hz := chk0_ok h
    have h1 := allP_len n.toNat (2 ^ n.toNat)
    have h2 : 2 ^ n.toNat ≤ 2 ^ 7 := Nat.pow_le_pow_right (by decide) (by omega)
    omega
  · exact Nat.zero_le _
theorem all_any (h : Heap) (n : Int) : WCall Tryd.prog 23 #[.int .i64 n] h (fun v h1 => ∃ wa wc, v = .tuple #[.slice wa (allI n).length wc, .int .i64 (chk0 n)] ∧ OwnAt h1 22 ucell (allI n) (.slice wa (allI n).length wc) ∧ Ext h h1 ∧ ∀ b, blk (.slice wa (allI n).length wc) b → h.size ≤ b) := by
  by_cases hn : chk0 n = 0
  · rw [hn]; exact all_ok h n hn
  · obtain ⟨h1, h2, h3⟩ := chk0_bad hn
    refine (all_bad h n h1).mono fun v h1 q => ?_
    obtain ⟨rfl, x⟩ := q
    rw [h2, h3]
    exact ⟨none, 0, rfl, .inl ⟨rfl, rfl⟩, x, fun b hb => hb.elim⟩
theorem rall_any (h : Heap) (n : Int) : WCall Tryd.prog 24 #[.int .i64 n] h (fun v h1 => ∃ wa wc, v = .tuple #[.slice wa (allI n).length wc, .int .i64 (chk0 n)] ∧ OwnAt h1 22 ucell (allI n) (.slice wa (allI n).length wc) ∧ Ext h h1 ∧ ∀ b, blk (.slice wa (allI n).length wc) b → h.size ≤ b) := by
  by_cases hn : chk0 n = 0
  · rw [hn]; exact rall_ok h n hn
  · obtain ⟨h1, h2, h3⟩ := chk0_bad hn
    refine (rall_bad h n h1).mono fun v h1 q => ?_
    obtain ⟨rfl, x⟩ := q
    rw [h2, h3]
    exact ⟨none, 0, rfl, .inl ⟨rfl, rfl⟩, x, fun b hb => hb.elim⟩
end C11
