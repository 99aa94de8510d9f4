/- The lowest node of a set; a function over nodes. -/
import Derived.Test.YtbjehneffpbkeaaDoorKf
import Derived.Test.YtbjehneffpbkeaaDoorBmi
import Derived.KernelRfl
open Go Go.AM Go.Proofs
namespace C11
theorem agg5 : isAggA Tryd.prog 5 = some false := by kernel_rfl
def tz (s : Int) : Int := ((Lib.ctz 64 s.toNat : Nat) : Int)
theorem tab_is : ∀ j : Fin 64, (tabL.map fun z => Value.int .u8 z).toArray[j.val]? = some (.int .u8 ((Lib.deBruijn64tab.getD j.val 0 : Nat) : Int)) := by
  intro j
  have h : ∀ j : Fin 64, tabL[j.val]? = some ((Lib.deBruijn64tab.getD j.val 0 : Nat) : Int) := by decide +kernel
  simp only [List.getElem?_toArray, List.getElem?_map, h j, Option.map_some]
theorem neg_raw {a : Int} : unA .neg (.int .u64 a) = some (.int .u64 (uneg a)) := by simp [unA, uneg]
theorem tz_at {s : Int} (hs : 0 < s ∧ s ≤ 18446744073709551615) : ∃ j : Nat, umul (uand s (uneg s)) 285870213051353865 / 288230376151711744 = (j : Int) ∧ j < 64 ∧ (tabL.map fun z => Value.int .u8 z).toArray[j]? = some (.int .u8 (tz s)) ∧ 0 ≤ tz s ∧ tz s < 64 := by
  obtain ⟨x, rfl⟩ : ∃ x : Nat, s = (x : Int) := ⟨s.toNat, by omega⟩
  have hx : x < 2 ^ 64 := by omega
  obtain ⟨hlow, hk⟩ := Lib.lowest_bit 64 x (by omega) hx
  obtain ⟨hi, htab⟩ := Lib.deBruijn64_at _ hk
  have e1 : uneg (x : Int) = ((18446744073709551616 - x : Nat) : Int) := by simp only [uneg, IntKind.wrap_u64]; omega
  have e2 : uand (x : Int) (uneg (x : Int)) = ((2 ^ Lib.ctz 64 x : Nat) : Int) := by
    rw [e1, uand_nat (by omega) (by omega)]
    have : x &&& (18446744073709551616 - x) = 2 ^ Lib.ctz 64 x := hlow
    rw [this]
  obtain ⟨j, hj⟩ : ∃ j, j = 2 ^ Lib.ctz 64 x * 285870213051353865 % 18446744073709551616 / 288230376151711744 := ⟨_, rfl⟩
  rw [← hj] at hi htab
  refine ⟨j, ?_, hi, ?_, ?_, ?_⟩
  · rw [e2]
    simp only [umul, IntKind.wrap_u64]
    rw [hj]
    obtain ⟨m, hm⟩ : ∃ m, m = 2 ^ Lib.ctz 64 x := ⟨_, rfl⟩
    rw [← hm]
    omega
  · have := tab_is ⟨j, hi⟩
    simp only at this
    rw [this, htab]
    simp [tz]
  · simp only [tz]; omega
  · simp only [tz, Int.toNat_natCast]; omega
theorem idx_tab {j : Nat} {k : IntKind} (hj : j < 64) : indexAddrA Tryd.prog 64 (.pointer (some ⟨0, 0, none⟩)) (.int k (j : Int)) = some (.pointer (some ⟨0, j, none⟩)) := by
  have h1 : Tryd.prog.underlying 64 = some (.array 64 5) := by kernel_rfl
  have h2 : (Tryd.prog.info? 5).map (·.size) = some 1 := by kernel_rfl
  obtain ⟨i, hi, he⟩ := Option.map_eq_some_iff.1 h2
  simp only [indexAddrA, h1, hi, he]
  rw [if_pos ⟨by omega, by omega⟩, addr_add _ rfl]
  simp
set_option maxHeartbeats 4000000 in
theorem tz_ok (h : Heap) (hg : At h 0 tabRow) (s : Int) (hs : 0 < s ∧ s ≤ 18446744073709551615) : WCall Tryd.prog 43 #[(Value.int .u64 (s))] h (fun v h1 => v = .int .i64 (tz s) ∧ h = h1) := by
  by_cases c310 : ((s) : Int) = 0
  · exfalso
    omega
  · obtain ⟨j, ej, lj, tj, z0, z1⟩ := tz_at (s := s) (by omega)
    exact hCall_of (n := 200) (T := ⟨fun r i => match r, i with | 1, 1 => some ((vB false), h) | 3, 2 => some ((Value.int .u64 (uneg (s))), h) | 3, 3 => some ((Value.int .u64 (uand (s) (uneg (s)))), h) | 3, 4 => some ((Value.int .u64 (umul (uand (s) (uneg (s))) 285870213051353865)), h) | 3, 5 => some ((Value.int .u64 ((umul (uand (s) (uneg (s))) 285870213051353865) / 288230376151711744)), h) | 3, 6 => some ((vP 0 j), h) | 3, 7 => some ((Value.int .u8 (tz s)), h) | 3, 8 => some ((vI (tz s)), h) | _, _ => none, fun _ => none, none⟩)
      (A := (binA Tryd.prog .eql 22 (Value.int .u64 (s)) (Value.int .u64 0) = some (vB false) ∧ h = h) ∧ (match unA .neg (Value.int .u64 (s)) with | some v' => (Value.int .u64 (uneg (s))) = v' ∧ h = h | none => False) ∧ (binA Tryd.prog .and 22 (Value.int .u64 (s)) (Value.int .u64 (uneg (s))) = some (Value.int .u64 (uand (s) (uneg (s)))) ∧ h = h) ∧ (binA Tryd.prog .mul 22 (Value.int .u64 (uand (s) (uneg (s)))) (Value.int .u64 285870213051353865) = some (Value.int .u64 (umul (uand (s) (uneg (s))) 285870213051353865)) ∧ h = h) ∧ (binA Tryd.prog .shr 22 (Value.int .u64 (umul (uand (s) (uneg (s))) 285870213051353865)) (Value.int .u64 58) = some (Value.int .u64 ((umul (uand (s) (uneg (s))) 285870213051353865) / 288230376151711744)) ∧ h = h) ∧ (indexAddrA Tryd.prog 64 (vP 0 0) (Value.int .u64 ((umul (uand (s) (uneg (s))) 285870213051353865) / 288230376151711744)) = some (vP 0 j) ∧ h = h) ∧ (loadT Tryd.prog h 5 (vP 0 j) = some (Value.int .u8 (tz s)) ∧ h = h) ∧ ((vI (tz s)) = (vI (IntKind.i64.wrap (tz s))) ∧ h = h) ∧ (fun v h1 => v = .int .i64 (tz s) ∧ h = h1) (vI (tz s)) h) (by kernel_rfl) ⟨⟨cmp_eql (decide_eq_false c310), rfl⟩, ⟨rfl, rfl⟩, ⟨and_raw, rfl⟩, ⟨mul_raw, rfl⟩, ⟨shr_lit (k := 58) (d := 288230376151711744) (by decide) (by decide) (by omega), rfl⟩, ⟨by rw [ej]; exact idx_tab lj, rfl⟩, ⟨load_cell agg5 (hg.keep fun b r _ q => (Ext.refl h) b r q) tj, rfl⟩, ⟨by congr 1; rw [IntKind.wrap_i64]; omega, rfl⟩, ⟨rfl, rfl⟩⟩
set_option maxHeartbeats 4000000 in
theorem nodes_fn (h : Heap) (s : Int) : WCall Tryd.prog 36 #[(Value.int .u64 (s))] h (fun v h1 => ∃ b, v = .func (.func 42) #[] #[.pointer (some ⟨b, 0, none⟩)] ∧ h1[b]? = some (.cells #[.int .u64 s] 22 (0, 0)) ∧ Ext h h1 ∧ h.size ≤ b) := by
  obtain ⟨b313, eb314⟩ : ∃ zq, zq = h.size := ⟨_, rfl⟩
  obtain ⟨h311, e312⟩ : ∃ zq, zq = h.push (.cells #[(Value.int .u64 (s))] 22 (0, 0)) := ⟨_, rfl⟩
  have f315 := push_new e312
  rw [← eb314] at f315
  have x316 : Ext h h311 := by rw [e312]; exact Ext.push _ _
  have o317 : h.size ≤ b313 := by have := (Ext.refl h).size; omega
  have x318 := (Ext.refl h).trans x316
  exact hCall_of (n := 200) (T := ⟨fun r i => match r, i with | 0, 0 => some ((vP b313 0), h311) | _, _ => none, fun _ => none, none⟩)
    (A := ((vP b313 0) = (Value.pointer (some ⟨h.size, 0, none⟩)) ∧ h311 = h.push (.cells #[(Value.int .u64 (s))] 22 (0, 0))) ∧ (fun v h1 => ∃ b, v = .func (.func 42) #[] #[.pointer (some ⟨b, 0, none⟩)] ∧ h1[b]? = some (.cells #[.int .u64 s] 22 (0, 0)) ∧ Ext h h1 ∧ h.size ≤ b) (Value.func (.func 42) #[] #[(vP b313 0)]) h311) (by kernel_rfl) ⟨⟨by rw [eb314], e312⟩, ⟨_, rfl, f315, x318, o317⟩⟩
set_option maxHeartbeats 4000000 in
theorem nodes_none (h : Heap) (l bx : Nat) (hx : h[bx]? = some (.cells #[.int .u64 0] 22 (0, 0))) : WCall Tryd.prog 42 #[(Value.func (.yield l) #[] #[]), (vP bx 0)] h (fun _ h1 => h = h1) := by
  suffices H : ∀ K : Value → Heap → Prop, (∀ v h1, (fun _ h1 => h = h1) v h1 → K v h1) → WCall Tryd.prog 42 #[(Value.func (.yield l) #[] #[]), (vP bx 0)] h K from H _ fun _ _ q => q
  intro K hK
  refine wcall_at { tmps := #[(Value.func (.yield l) #[] #[]), (vP bx 0), (Value.tuple #[]), (Value.tuple #[]), (Value.tuple #[]), (Value.tuple #[]), (Value.tuple #[]), (Value.tuple #[]), (Value.tuple #[]), (Value.tuple #[]), (Value.tuple #[]), (Value.tuple #[]), (Value.tuple #[]), (Value.tuple #[]), (Value.tuple #[]), (Value.tuple #[])], defers := [] } (by kernel_rfl) ?_
  refine wc_seq' (subc (bodyOf Tryd.prog 42) [0]) (subc (bodyOf Tryd.prog 42) [1]) (by kernel_rfl) ?_
  refine wc_upd (n := 200) (T := ⟨fun r i => match r, i with | 0, 0 => some ((Value.int .u64 0), h) | _, _ => none, fun _ => none, none⟩) (x := .normal) (h1 := h) [(4, (Value.int .u64 0)), (3, (Value.int .u64 0))]
    (fun q => (loadT Tryd.prog h 22 (vP bx 0) = some (Value.int .u64 0) ∧ h = h) ∧ q) (by intro K'; kernel_rfl) (fun _ q => ⟨⟨load_cell agg22 hx rfl, rfl⟩, q⟩) ?_
  refine wc_block' 0 (subc (bodyOf Tryd.prog 42) [1, 0]) (by kernel_rfl) ?_
  refine wc_once (subc (bodyOf Tryd.prog 42) [1, 0, 0]) (by kernel_rfl) ?_
  refine wc_upd (n := 200) (T := ⟨fun r i => match r, i with | _, _ => none, fun _ => none, none⟩) (x := (.exit 0)) (h1 := h) [(5, (Value.int .u64 0)), (6, (vB false))]
    (fun q => q) (by intro K'; kernel_rfl) (fun _ q => q) ?_
  refine end_at (T := ⟨fun _ _ => none, fun _ => none, none⟩) (A := K (Value.tuple #[]) h) (by kernel_rfl) ?_
  exact hK _ _ (rfl)
set_option maxHeartbeats 4000000 in
theorem nodes_first (h : Heap) (hg : At h 0 tabRow) (l bx : Nat) (s : Int) (hs : 0 < s ∧ s ≤ 18446744073709551615) (hx : h[bx]? = some (.cells #[.int .u64 s] 22 (0, 0))) (h' : Heap) (hy : SoundYield Tryd.prog l #[.int .i64 (tz s)] h (.bool false) h') : WCall Tryd.prog 42 #[(Value.func (.yield l) #[] #[]), (vP bx 0)] h (fun _ h1 => h' = h1) := by
  suffices H : ∀ K : Value → Heap → Prop, (∀ v h1, (fun _ h1 => h' = h1) v h1 → K v h1) → WCall Tryd.prog 42 #[(Value.func (.yield l) #[] #[]), (vP bx 0)] h K from H _ fun _ _ q => q
  intro K hK
  refine wcall_at { tmps := #[(Value.func (.yield l) #[] #[]), (vP bx 0), (Value.tuple #[]), (Value.tuple #[]), (Value.tuple #[]), (Value.tuple #[]), (Value.tuple #[]), (Value.tuple #[]), (Value.tuple #[]), (Value.tuple #[]), (Value.tuple #[]), (Value.tuple #[]), (Value.tuple #[]), (Value.tuple #[]), (Value.tuple #[]), (Value.tuple #[])], defers := [] } (by kernel_rfl) ?_
  refine wc_seq' (subc (bodyOf Tryd.prog 42) [0]) (subc (bodyOf Tryd.prog 42) [1]) (by kernel_rfl) ?_
  refine wc_upd (n := 200) (T := ⟨fun r i => match r, i with | 0, 0 => some ((Value.int .u64 (s)), h) | _, _ => none, fun _ => none, none⟩) (x := .normal) (h1 := h) [(4, (Value.int .u64 (s))), (3, (Value.int .u64 (s)))]
    (fun q => (loadT Tryd.prog h 22 (vP bx 0) = some (Value.int .u64 (s)) ∧ h = h) ∧ q) (by intro K'; kernel_rfl) (fun _ q => ⟨⟨load_cell agg22 hx rfl, rfl⟩, q⟩) ?_
  refine wc_block' 0 (subc (bodyOf Tryd.prog 42) [1, 0]) (by kernel_rfl) ?_
  refine wc_once (subc (bodyOf Tryd.prog 42) [1, 0, 0]) (by kernel_rfl) ?_
  by_cases c319 : ((s) : Int) = 0
  · exfalso
    omega
  · obtain ⟨_, _, sn321, rfl, rfl⟩ := tz_ok h (hg.keep fun b r _ q => (Ext.refl h) b r q) (s) (by omega)
    refine wc_upd (n := 200) (T := ⟨fun r i => match r, i with | 1, 1 => some ((vB true), h) | 3, 2 => some ((vI (tz (s))), h) | 3, 3 => some ((vB false), h') | _, _ => none, fun _ => none, none⟩) (x := .ret) (h1 := h') [(5, (Value.int .u64 (s))), (6, (vB true)), (11, (Value.func (.yield l) #[] #[])), (12, (Value.int .u64 (s))), (13, (vI (tz (s)))), (14, (vB false)), (15, (vB true))]
      (fun q => (binA Tryd.prog .neq 22 (Value.int .u64 (s)) (Value.int .u64 0) = some (vB true) ∧ h = h) ∧ SoundCall Tryd.prog 43 #[(Value.int .u64 (s))] h (vI (tz (s))) h ∧ SoundYield Tryd.prog l #[(vI (tz (s)))] h (vB false) h' ∧ q) (by intro K'; kernel_rfl) (fun _ q => ⟨⟨cmp_neq (decide_eq_true c319), rfl⟩, sn321, hy, q⟩) ?_
    refine end_at (T := ⟨fun _ _ => none, fun _ => none, none⟩) (A := K (Value.tuple #[]) h') (by kernel_rfl) ?_
    exact hK _ _ (rfl)
end C11
