/- Majorities. -/
import Derived.Test.YtbjehneffpbkeaaDoorKb
import Derived.KernelRfl
open Go Go.AM Go.Proofs
namespace C11
def swar (s : Int) : Int :=
  let a := uadd (uand (ushr s 1) 6148914691236517205) (uand s 6148914691236517205)
  let b := uadd (uand (ushr a 2) 3689348814741910323) (uand a 3689348814741910323)
  let c := uand (uadd (ushr b 4) b) 1085102592571150095
  let d := uadd c (ushr c 8)
  let e := uadd d (ushr d 16)
  let f := uadd e (ushr e 32)
  IntKind.i64.wrap (BitVec.ofInt 64 (IntKind.i64.wrap f) &&& BitVec.ofInt 64 127).toNat
theorem ones_run (s : Int) (h : Heap) : callWith Tryd.prog (evalCode Tryd.prog 60) 32 #[.int .u64 s] h = some (.int .i64 (swar s), h) := by kernel_rfl
theorem swar_small : ∀ s : Fin 128, swar (s.val : Int) = ((pop s.val : Nat) : Int) := by decide +kernel
theorem ones_small (h : Heap) (s : Int) (hs : 0 ≤ s ∧ s < 128) : WCall Tryd.prog 32 #[.int .u64 s] h (fun v h1 => v = .int .i64 ((pop s.toNat : Nat) : Int) ∧ h = h1) := by
  have e := swar_small ⟨s.toNat, by omega⟩
  simp only at e
  rw [show ((s.toNat : Nat) : Int) = s by omega] at e
  have r := ones_run s h
  rw [e] at r
  exact ⟨_, _, evalCall_sound (by kernel_rfl) 60 _ _ _ _ _ r, rfl, rfl⟩
/-- Whether a set is a majority. -/
def isB (s n : Int) : Bool := decide (chk1 n s = 0 ∧ n / 2 < ((pop s.toNat : Nat) : Int))
def comp (s n : Int) : Int := usub (usub (ushl 1 n) 1) s
def surB (s n : Int) : Bool := if chk1 n s = 0 then isB (comp s n) n else false
def surE (s n : Int) : Int := if chk1 n s = 0 then chk1 n (comp s n) else chk1 n s
def wiV (s k n : Int) : Int := if chk1 n s = 0 ∧ 0 ≤ k ∧ k < n then uor s (ushl 1 k) else 0
def wiE (s k n : Int) : Int := if chk1 n s = 0 then (if 0 ≤ k ∧ k < n then 0 else 2) else chk1 n s
theorem usub_range (a b : Int) : 0 ≤ usub a b ∧ usub a b ≤ 18446744073709551615 := by
  simp only [usub, IntKind.wrap_u64]; omega
set_option maxHeartbeats 4000000 in
theorem is_ok (h : Heap) (s : Int) (hs : 0 ≤ s ∧ s ≤ 18446744073709551615) (n : Int) : WCall Tryd.prog 12 #[(Value.int .u64 (s)), (vI (n))] h (fun v h1 => v = .tuple #[.bool (isB s n), .int .i64 (chk1 n s)] ∧ Ext h h1) := by
  obtain ⟨b72, eb73⟩ : ∃ zq, zq = h.size := ⟨_, rfl⟩
  obtain ⟨h70, e71⟩ : ∃ zq, zq = h.push (.cells #[(Value.int .u64 (s))] 22 (0, 0)) := ⟨_, rfl⟩
  have f74 := push_new e71
  rw [← eb73] at f74
  have x75 : Ext h h70 := by rw [e71]; exact Ext.push _ _
  have o76 : h.size ≤ b72 := by have := (Ext.refl h).size; omega
  have x77 := (Ext.refl h).trans x75
  obtain ⟨_, hh78, sn79, rfl, x80⟩ := check1 h70 (n) (s) (by omega) f74
  have x82 := x77.trans x80
  by_cases c83 : ((chk1 (n) (s)) : Int) = 0
  · have q84 := chk1_ok (by omega) c83
    obtain ⟨_, _, sn86, rfl, rfl⟩ := ones_small hh78 (s) (by omega)
    by_cases c88 : (((n) / 2) : Int) < (((pop (s).toNat : Nat) : Int))
    · exact hCall_of (n := 200) (T := ⟨fun r i => match r, i with | 1, 2 => some ((Value.slice (some ⟨b72, 0, none⟩) 1 1), h70) | 1, 3 => some ((vI (chk1 (n) (s))), hh78) | 2, 1 => some ((vB false), hh78) | 4, 1 => some ((vI (((pop (s).toNat : Nat) : Int))), hh78) | 4, 3 => some ((vI ((n) / 2)), hh78) | 4, 4 => some ((vB true), hh78) | _, _ => none, fun _ => none, none⟩)
        (A := ((Value.slice (some ⟨b72, 0, none⟩) 1 1) = (Value.slice (some ⟨h.size, 0, none⟩) 1 1) ∧ h70 = h.push (.cells #[(Value.int .u64 (s))] 22 (0, 0))) ∧ SoundCall Tryd.prog 34 #[(vI (n)), (Value.slice (some ⟨b72, 0, none⟩) 1 1)] h70 (vI (chk1 (n) (s))) hh78 ∧ (binA Tryd.prog .neq 23 (vI (chk1 (n) (s))) (vI 0) = some (vB false) ∧ hh78 = hh78) ∧ SoundCall Tryd.prog 32 #[(Value.int .u64 (s))] hh78 (vI (((pop (s).toNat : Nat) : Int))) hh78 ∧ (binA Tryd.prog .quo 3 (vI (n)) (vI 2) = some (vI ((n) / 2)) ∧ hh78 = hh78) ∧ (binA Tryd.prog .gtr 3 (vI (((pop (s).toNat : Nat) : Int))) (vI ((n) / 2)) = some (vB true) ∧ hh78 = hh78) ∧ (fun v h1 => v = .tuple #[.bool (isB s n), .int .i64 (chk1 n s)] ∧ Ext h h1) (Value.tuple #[(vB true), (vI 0)]) hh78) (by kernel_rfl) ⟨⟨by rw [eb73], e71⟩, sn79, ⟨cmp_neq (decide_eq_false (not_not_intro c83)), rfl⟩, sn86, ⟨half_raw (by omega) (by omega), rfl⟩, ⟨cmp_gtr (decide_eq_true c88), rfl⟩, ⟨by rw [isB, decide_eq_true ⟨c83, by omega⟩, c83], x82⟩⟩
    · exact hCall_of (n := 200) (T := ⟨fun r i => match r, i with | 1, 2 => some ((Value.slice (some ⟨b72, 0, none⟩) 1 1), h70) | 1, 3 => some ((vI (chk1 (n) (s))), hh78) | 2, 1 => some ((vB false), hh78) | 4, 1 => some ((vI (((pop (s).toNat : Nat) : Int))), hh78) | 4, 3 => some ((vI ((n) / 2)), hh78) | 4, 4 => some ((vB false), hh78) | _, _ => none, fun _ => none, none⟩)
        (A := ((Value.slice (some ⟨b72, 0, none⟩) 1 1) = (Value.slice (some ⟨h.size, 0, none⟩) 1 1) ∧ h70 = h.push (.cells #[(Value.int .u64 (s))] 22 (0, 0))) ∧ SoundCall Tryd.prog 34 #[(vI (n)), (Value.slice (some ⟨b72, 0, none⟩) 1 1)] h70 (vI (chk1 (n) (s))) hh78 ∧ (binA Tryd.prog .neq 23 (vI (chk1 (n) (s))) (vI 0) = some (vB false) ∧ hh78 = hh78) ∧ SoundCall Tryd.prog 32 #[(Value.int .u64 (s))] hh78 (vI (((pop (s).toNat : Nat) : Int))) hh78 ∧ (binA Tryd.prog .quo 3 (vI (n)) (vI 2) = some (vI ((n) / 2)) ∧ hh78 = hh78) ∧ (binA Tryd.prog .gtr 3 (vI (((pop (s).toNat : Nat) : Int))) (vI ((n) / 2)) = some (vB false) ∧ hh78 = hh78) ∧ (fun v h1 => v = .tuple #[.bool (isB s n), .int .i64 (chk1 n s)] ∧ Ext h h1) (Value.tuple #[(vB false), (vI 0)]) hh78) (by kernel_rfl) ⟨⟨by rw [eb73], e71⟩, sn79, ⟨cmp_neq (decide_eq_false (not_not_intro c83)), rfl⟩, sn86, ⟨half_raw (by omega) (by omega), rfl⟩, ⟨cmp_gtr (decide_eq_false c88), rfl⟩, ⟨by rw [isB, decide_eq_false (fun w => absurd w.2 (by omega)), c83], x82⟩⟩
  · exact hCall_of (n := 200) (T := ⟨fun r i => match r, i with | 1, 2 => some ((Value.slice (some ⟨b72, 0, none⟩) 1 1), h70) | 1, 3 => some ((vI (chk1 (n) (s))), hh78) | 2, 1 => some ((vB true), hh78) | _, _ => none, fun _ => none, none⟩)
      (A := ((Value.slice (some ⟨b72, 0, none⟩) 1 1) = (Value.slice (some ⟨h.size, 0, none⟩) 1 1) ∧ h70 = h.push (.cells #[(Value.int .u64 (s))] 22 (0, 0))) ∧ SoundCall Tryd.prog 34 #[(vI (n)), (Value.slice (some ⟨b72, 0, none⟩) 1 1)] h70 (vI (chk1 (n) (s))) hh78 ∧ (binA Tryd.prog .neq 23 (vI (chk1 (n) (s))) (vI 0) = some (vB true) ∧ hh78 = hh78) ∧ (fun v h1 => v = .tuple #[.bool (isB s n), .int .i64 (chk1 n s)] ∧ Ext h h1) (Value.tuple #[(vB false), (vI (chk1 (n) (s)))]) hh78) (by kernel_rfl) ⟨⟨by rw [eb73], e71⟩, sn79, ⟨cmp_neq (decide_eq_true c83), rfl⟩, ⟨by rw [isB, decide_eq_false (fun w => c83 w.1)], x82⟩⟩
set_option maxHeartbeats 4000000 in
theorem survives_ok (h : Heap) (s : Int) (hs : 0 ≤ s ∧ s ≤ 18446744073709551615) (n : Int) : WCall Tryd.prog 14 #[(Value.int .u64 (s)), (vI (n))] h (fun v h1 => v = .tuple #[.bool (surB s n), .int .i64 (surE s n)] ∧ Ext h h1) := by
  obtain ⟨b91, eb92⟩ : ∃ zq, zq = h.size := ⟨_, rfl⟩
  obtain ⟨h89, e90⟩ : ∃ zq, zq = h.push (.cells #[(Value.int .u64 (s))] 22 (0, 0)) := ⟨_, rfl⟩
  have f93 := push_new e90
  rw [← eb92] at f93
  have x94 : Ext h h89 := by rw [e90]; exact Ext.push _ _
  have o95 : h.size ≤ b91 := by have := (Ext.refl h).size; omega
  have x96 := (Ext.refl h).trans x94
  obtain ⟨_, hh97, sn98, rfl, x99⟩ := check1 h89 (n) (s) (by omega) f93
  have x101 := x96.trans x99
  by_cases c102 : ((chk1 (n) (s)) : Int) = 0
  · have q103 := chk1_ok (by omega) c102
    obtain ⟨_, hh104, sn105, rfl, x106⟩ := is_ok hh97 (usub (usub (ushl 1 (n)) 1) (s)) (usub_range _ _) (n)
    have x108 := x101.trans x106
    exact hCall_of (n := 200) (T := ⟨fun r i => match r, i with | 1, 2 => some ((Value.slice (some ⟨b91, 0, none⟩) 1 1), h89) | 1, 3 => some ((vI (chk1 (n) (s))), hh97) | 2, 1 => some ((vB false), hh97) | 4, 1 => some ((Value.int .u64 (ushl 1 (n))), hh97) | 4, 2 => some ((Value.int .u64 (usub (ushl 1 (n)) 1)), hh97) | 4, 4 => some ((Value.int .u64 (usub (usub (ushl 1 (n)) 1) (s))), hh97) | 4, 6 => some ((Value.tuple #[(vB (isB (usub (usub (ushl 1 (n)) 1) (s)) (n))), (vI (chk1 (n) (usub (usub (ushl 1 (n)) 1) (s))))]), hh104) | _, _ => none, fun _ => none, none⟩)
      (A := ((Value.slice (some ⟨b91, 0, none⟩) 1 1) = (Value.slice (some ⟨h.size, 0, none⟩) 1 1) ∧ h89 = h.push (.cells #[(Value.int .u64 (s))] 22 (0, 0))) ∧ SoundCall Tryd.prog 34 #[(vI (n)), (Value.slice (some ⟨b91, 0, none⟩) 1 1)] h89 (vI (chk1 (n) (s))) hh97 ∧ (binA Tryd.prog .neq 23 (vI (chk1 (n) (s))) (vI 0) = some (vB false) ∧ hh97 = hh97) ∧ (binA Tryd.prog .shl 22 (Value.int .u64 1) (vI (n)) = some (Value.int .u64 (ushl 1 (n))) ∧ hh97 = hh97) ∧ (binA Tryd.prog .sub 22 (Value.int .u64 (ushl 1 (n))) (Value.int .u64 1) = some (Value.int .u64 (usub (ushl 1 (n)) 1)) ∧ hh97 = hh97) ∧ (binA Tryd.prog .sub 22 (Value.int .u64 (usub (ushl 1 (n)) 1)) (Value.int .u64 (s)) = some (Value.int .u64 (usub (usub (ushl 1 (n)) 1) (s))) ∧ hh97 = hh97) ∧ SoundCall Tryd.prog 12 #[(Value.int .u64 (usub (usub (ushl 1 (n)) 1) (s))), (vI (n))] hh97 (Value.tuple #[(vB (isB (usub (usub (ushl 1 (n)) 1) (s)) (n))), (vI (chk1 (n) (usub (usub (ushl 1 (n)) 1) (s))))]) hh104 ∧ (fun v h1 => v = .tuple #[.bool (surB s n), .int .i64 (surE s n)] ∧ Ext h h1) (Value.tuple #[(vB (isB (usub (usub (ushl 1 (n)) 1) (s)) (n))), (vI (chk1 (n) (usub (usub (ushl 1 (n)) 1) (s))))]) hh104) (by kernel_rfl) ⟨⟨by rw [eb92], e90⟩, sn98, ⟨cmp_neq (decide_eq_false (not_not_intro c102)), rfl⟩, ⟨shl_raw (by omega), rfl⟩, ⟨sub_raw, rfl⟩, ⟨sub_raw, rfl⟩, sn105, ⟨by rw [surB, surE, if_pos c102, if_pos c102]; rfl, x108⟩⟩
  · exact hCall_of (n := 200) (T := ⟨fun r i => match r, i with | 1, 2 => some ((Value.slice (some ⟨b91, 0, none⟩) 1 1), h89) | 1, 3 => some ((vI (chk1 (n) (s))), hh97) | 2, 1 => some ((vB true), hh97) | _, _ => none, fun _ => none, none⟩)
      (A := ((Value.slice (some ⟨b91, 0, none⟩) 1 1) = (Value.slice (some ⟨h.size, 0, none⟩) 1 1) ∧ h89 = h.push (.cells #[(Value.int .u64 (s))] 22 (0, 0))) ∧ SoundCall Tryd.prog 34 #[(vI (n)), (Value.slice (some ⟨b91, 0, none⟩) 1 1)] h89 (vI (chk1 (n) (s))) hh97 ∧ (binA Tryd.prog .neq 23 (vI (chk1 (n) (s))) (vI 0) = some (vB true) ∧ hh97 = hh97) ∧ (fun v h1 => v = .tuple #[.bool (surB s n), .int .i64 (surE s n)] ∧ Ext h h1) (Value.tuple #[(vB false), (vI (chk1 (n) (s)))]) hh97) (by kernel_rfl) ⟨⟨by rw [eb92], e90⟩, sn98, ⟨cmp_neq (decide_eq_true c102), rfl⟩, ⟨by rw [surB, surE, if_neg c102, if_neg c102], x101⟩⟩
set_option maxHeartbeats 4000000 in
theorem with_ok (h : Heap) (s : Int) (hs : 0 ≤ s ∧ s ≤ 18446744073709551615) (k n : Int) : WCall Tryd.prog 16 #[(Value.int .u64 (s)), (vI (k)), (vI (n))] h (fun v h1 => v = .tuple #[.int .u64 (wiV s k n), .int .i64 (wiE s k n)] ∧ Ext h h1) := by
  obtain ⟨b111, eb112⟩ : ∃ zq, zq = h.size := ⟨_, rfl⟩
  obtain ⟨h109, e110⟩ : ∃ zq, zq = h.push (.cells #[(Value.int .u64 (s))] 22 (0, 0)) := ⟨_, rfl⟩
  have f113 := push_new e110
  rw [← eb112] at f113
  have x114 : Ext h h109 := by rw [e110]; exact Ext.push _ _
  have o115 : h.size ≤ b111 := by have := (Ext.refl h).size; omega
  have x116 := (Ext.refl h).trans x114
  obtain ⟨_, hh117, sn118, rfl, x119⟩ := check1 h109 (n) (s) (by omega) f113
  have x121 := x116.trans x119
  by_cases c122 : ((chk1 (n) (s)) : Int) = 0
  · have q123 := chk1_ok (by omega) c122
    by_cases c124 : ((k) : Int) < 0
    · exact hCall_of (n := 200) (T := ⟨fun r i => match r, i with | 1, 2 => some ((Value.slice (some ⟨b111, 0, none⟩) 1 1), h109) | 1, 3 => some ((vI (chk1 (n) (s))), hh117) | 2, 1 => some ((vB false), hh117) | 4, 1 => some ((vB true), hh117) | _, _ => none, fun _ => none, none⟩)
        (A := ((Value.slice (some ⟨b111, 0, none⟩) 1 1) = (Value.slice (some ⟨h.size, 0, none⟩) 1 1) ∧ h109 = h.push (.cells #[(Value.int .u64 (s))] 22 (0, 0))) ∧ SoundCall Tryd.prog 34 #[(vI (n)), (Value.slice (some ⟨b111, 0, none⟩) 1 1)] h109 (vI (chk1 (n) (s))) hh117 ∧ (binA Tryd.prog .neq 23 (vI (chk1 (n) (s))) (vI 0) = some (vB false) ∧ hh117 = hh117) ∧ (binA Tryd.prog .lss 3 (vI (k)) (vI 0) = some (vB true) ∧ hh117 = hh117) ∧ (fun v h1 => v = .tuple #[.int .u64 (wiV s k n), .int .i64 (wiE s k n)] ∧ Ext h h1) (Value.tuple #[(Value.int .u64 0), (vI 2)]) hh117) (by kernel_rfl) ⟨⟨by rw [eb112], e110⟩, sn118, ⟨cmp_neq (decide_eq_false (not_not_intro c122)), rfl⟩, ⟨cmp_lss (decide_eq_true c124), rfl⟩, ⟨by rw [wiV, wiE, if_neg (fun w => by omega), if_pos c122, if_neg (fun w => by omega)], x121⟩⟩
    · by_cases c125 : ((n) : Int) ≤ (k)
      · exact hCall_of (n := 200) (T := ⟨fun r i => match r, i with | 1, 2 => some ((Value.slice (some ⟨b111, 0, none⟩) 1 1), h109) | 1, 3 => some ((vI (chk1 (n) (s))), hh117) | 2, 1 => some ((vB false), hh117) | 4, 1 => some ((vB false), hh117) | 4, 5 => some ((vB true), hh117) | _, _ => none, fun _ => none, none⟩)
          (A := ((Value.slice (some ⟨b111, 0, none⟩) 1 1) = (Value.slice (some ⟨h.size, 0, none⟩) 1 1) ∧ h109 = h.push (.cells #[(Value.int .u64 (s))] 22 (0, 0))) ∧ SoundCall Tryd.prog 34 #[(vI (n)), (Value.slice (some ⟨b111, 0, none⟩) 1 1)] h109 (vI (chk1 (n) (s))) hh117 ∧ (binA Tryd.prog .neq 23 (vI (chk1 (n) (s))) (vI 0) = some (vB false) ∧ hh117 = hh117) ∧ (binA Tryd.prog .lss 3 (vI (k)) (vI 0) = some (vB false) ∧ hh117 = hh117) ∧ (binA Tryd.prog .geq 3 (vI (k)) (vI (n)) = some (vB true) ∧ hh117 = hh117) ∧ (fun v h1 => v = .tuple #[.int .u64 (wiV s k n), .int .i64 (wiE s k n)] ∧ Ext h h1) (Value.tuple #[(Value.int .u64 0), (vI 2)]) hh117) (by kernel_rfl) ⟨⟨by rw [eb112], e110⟩, sn118, ⟨cmp_neq (decide_eq_false (not_not_intro c122)), rfl⟩, ⟨cmp_lss (decide_eq_false c124), rfl⟩, ⟨cmp_geq (decide_eq_true c125), rfl⟩, ⟨by rw [wiV, wiE, if_neg (fun w => by omega), if_pos c122, if_neg (fun w => by omega)], x121⟩⟩
      · exact hCall_of (n := 200) (T := ⟨fun r i => match r, i with | 1, 2 => some ((Value.slice (some ⟨b111, 0, none⟩) 1 1), h109) | 1, 3 => some ((vI (chk1 (n) (s))), hh117) | 2, 1 => some ((vB false), hh117) | 4, 1 => some ((vB false), hh117) | 4, 5 => some ((vB false), hh117) | 6, 2 => some ((Value.int .u64 (ushl 1 (k))), hh117) | 6, 3 => some ((Value.int .u64 (uor (s) (ushl 1 (k)))), hh117) | _, _ => none, fun _ => none, none⟩)
          (A := ((Value.slice (some ⟨b111, 0, none⟩) 1 1) = (Value.slice (some ⟨h.size, 0, none⟩) 1 1) ∧ h109 = h.push (.cells #[(Value.int .u64 (s))] 22 (0, 0))) ∧ SoundCall Tryd.prog 34 #[(vI (n)), (Value.slice (some ⟨b111, 0, none⟩) 1 1)] h109 (vI (chk1 (n) (s))) hh117 ∧ (binA Tryd.prog .neq 23 (vI (chk1 (n) (s))) (vI 0) = some (vB false) ∧ hh117 = hh117) ∧ (binA Tryd.prog .lss 3 (vI (k)) (vI 0) = some (vB false) ∧ hh117 = hh117) ∧ (binA Tryd.prog .geq 3 (vI (k)) (vI (n)) = some (vB false) ∧ hh117 = hh117) ∧ (binA Tryd.prog .shl 22 (Value.int .u64 1) (vI (k)) = some (Value.int .u64 (ushl 1 (k))) ∧ hh117 = hh117) ∧ (binA Tryd.prog .or 22 (Value.int .u64 (s)) (Value.int .u64 (ushl 1 (k))) = some (Value.int .u64 (uor (s) (ushl 1 (k)))) ∧ hh117 = hh117) ∧ (fun v h1 => v = .tuple #[.int .u64 (wiV s k n), .int .i64 (wiE s k n)] ∧ Ext h h1) (Value.tuple #[(Value.int .u64 (uor (s) (ushl 1 (k)))), (vI 0)]) hh117) (by kernel_rfl) ⟨⟨by rw [eb112], e110⟩, sn118, ⟨cmp_neq (decide_eq_false (not_not_intro c122)), rfl⟩, ⟨cmp_lss (decide_eq_false c124), rfl⟩, ⟨cmp_geq (decide_eq_false c125), rfl⟩, ⟨shl_raw (by omega), rfl⟩, ⟨or_raw, rfl⟩, ⟨by rw [wiV, wiE, if_pos ⟨c122, by omega, by omega⟩, if_pos c122, if_pos ⟨by omega, by omega⟩], x121⟩⟩
  · exact hCall_of (n := 200) (T := ⟨fun r i => match r, i with | 1, 2 => some ((Value.slice (some ⟨b111, 0, none⟩) 1 1), h109) | 1, 3 => some ((vI (chk1 (n) (s))), hh117) | 2, 1 => some ((vB true), hh117) | _, _ => none, fun _ => none, none⟩)
      (A := ((Value.slice (some ⟨b111, 0, none⟩) 1 1) = (Value.slice (some ⟨h.size, 0, none⟩) 1 1) ∧ h109 = h.push (.cells #[(Value.int .u64 (s))] 22 (0, 0))) ∧ SoundCall Tryd.prog 34 #[(vI (n)), (Value.slice (some ⟨b111, 0, none⟩) 1 1)] h109 (vI (chk1 (n) (s))) hh117 ∧ (binA Tryd.prog .neq 23 (vI (chk1 (n) (s))) (vI 0) = some (vB true) ∧ hh117 = hh117) ∧ (fun v h1 => v = .tuple #[.int .u64 (wiV s k n), .int .i64 (wiE s k n)] ∧ Ext h h1) (Value.tuple #[(Value.int .u64 0), (vI (chk1 (n) (s)))]) hh117) (by kernel_rfl) ⟨⟨by rw [eb112], e110⟩, sn118, ⟨cmp_neq (decide_eq_true c122), rfl⟩, ⟨by rw [wiV, wiE, if_neg (fun w => c122 w.1), if_neg c122], x121⟩⟩
def szV (n : Int) : Int := if chk0 n = 0 then n / 2 + 1 else 0
theorem chk0_ok {n : Int} (h : chk0 n = 0) : 1 ≤ n ∧ n ≤ 7 := by
  unfold chk0 at h
  split at h
  · cases h
  · omega
set_option maxHeartbeats 4000000 in
theorem size_ok (h : Heap) (n : Int) : WCall Tryd.prog 21 #[(vI (n))] h (fun v h1 => v = .tuple #[.int .i64 (szV n), .int .i64 (chk0 n)] ∧ Ext h h1) := by
  obtain ⟨_, hh126, sn127, rfl, x128⟩ := check0 h (n)  
  have x129 := (Ext.refl h).trans x128
  by_cases c130 : ((chk0 (n)) : Int) = 0
  · have q131 := chk0_ok c130
    exact hCall_of (n := 200) (T := ⟨fun r i => match r, i with | 1, 1 => some ((vI (chk0 (n))), hh126) | 2, 1 => some ((vB false), hh126) | 4, 1 => some ((vI ((n) / 2)), hh126) | 4, 2 => some ((vI (((n) / 2) + 1)), hh126) | _, _ => none, fun _ => none, none⟩)
      (A := SoundCall Tryd.prog 34 #[(vI (n)), (Value.slice none 0 0)] h (vI (chk0 (n))) hh126 ∧ (binA Tryd.prog .neq 23 (vI (chk0 (n))) (vI 0) = some (vB false) ∧ hh126 = hh126) ∧ (binA Tryd.prog .quo 3 (vI (n)) (vI 2) = some (vI ((n) / 2)) ∧ hh126 = hh126) ∧ (binA Tryd.prog .add 3 (vI ((n) / 2)) (vI 1) = some (vI (((n) / 2) + 1)) ∧ hh126 = hh126) ∧ (fun v h1 => v = .tuple #[.int .i64 (szV n), .int .i64 (chk0 n)] ∧ Ext h h1) (Value.tuple #[(vI (((n) / 2) + 1)), (vI 0)]) hh126) (by kernel_rfl) ⟨sn127, ⟨cmp_neq (decide_eq_false (not_not_intro c130)), rfl⟩, ⟨half_raw (by omega) (by omega), rfl⟩, ⟨add_i64 (by omega) (by omega), rfl⟩, ⟨by rw [szV, if_pos c130, c130], x129⟩⟩
  · exact hCall_of (n := 200) (T := ⟨fun r i => match r, i with | 1, 1 => some ((vI (chk0 (n))), hh126) | 2, 1 => some ((vB true), hh126) | _, _ => none, fun _ => none, none⟩)
      (A := SoundCall Tryd.prog 34 #[(vI (n)), (Value.slice none 0 0)] h (vI (chk0 (n))) hh126 ∧ (binA Tryd.prog .neq 23 (vI (chk0 (n))) (vI 0) = some (vB true) ∧ hh126 = hh126) ∧ (fun v h1 => v = .tuple #[.int .i64 (szV n), .int .i64 (chk0 n)] ∧ Ext h h1) (Value.tuple #[(vI 0), (vI (chk0 (n)))]) hh126) (by kernel_rfl) ⟨sn127, ⟨cmp_neq (decide_eq_true c130), rfl⟩, ⟨by rw [szV, if_neg c130], x129⟩⟩
end C11
