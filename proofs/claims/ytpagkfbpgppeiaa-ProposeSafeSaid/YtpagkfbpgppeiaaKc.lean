/- Majorities. -/
import Derived.Test.YtpagkfbpgppeiaaKb
import Derived.KernelRfl
open Go Go.AM Go.Proofs
namespace C14
def swar (s : Int) : Int :=
  let a := uadd (uand (ushr s 1) 6148914691236517205) (uand s 6148914691236517205)
  let b := uadd (uand (ushr a 2) 3689348814741910323) (uand a 3689348814741910323)
  let c := uand (uadd (ushr b 4) b) 1085102592571150095
  let d := uadd c (ushr c 8)
  let e := uadd d (ushr d 16)
  let f := uadd e (ushr e 32)
  IntKind.i64.wrap (BitVec.ofInt 64 (IntKind.i64.wrap f) &&& BitVec.ofInt 64 127).toNat
theorem ones_run (s : Int) (h : Heap) : callWith Try.prog (evalCode Try.prog 60) 48 #[.int .u64 s] h = some (.int .i64 (swar s), h) := by kernel_rfl
theorem swar_small : ∀ s : Fin 128, swar (s.val : Int) = ((pop s.val : Nat) : Int) := by decide +kernel
theorem ones_small (h : Heap) (s : Int) (hs : 0 ≤ s ∧ s < 128) : WCall Try.prog 48 #[.int .u64 s] h (fun v h1 => v = .int .i64 ((pop s.toNat : Nat) : Int) ∧ h = h1) := by
  have e := swar_small ⟨s.toNat, by omega⟩
  simp only at e
  rw [show ((s.toNat : Nat) : Int) = s by omega] at e
  have r := ones_run s h
  rw [e] at r
  exact ⟨_, _, evalCall_sound (by kernel_rfl) 60 _ _ _ _ _ r, rfl, rfl⟩
/-- Whether a set is a majority. -/
def isB (s n : Int) : Bool := decide (chk1 n s = 0 ∧ n / 2 < ((pop s.toNat : Nat) : Int))
def comp (s n : Int) : Int := usub (usub (ushl 1 n) 1) s
def surB (s n : Int) : Bool := if chk1 n s = 0 then isB (comp s n) n else false
def surE (s n : Int) : Int := if chk1 n s = 0 then chk1 n (comp s n) else chk1 n s
def wiV (s k n : Int) : Int := if chk1 n s = 0 ∧ 0 ≤ k ∧ k < n then uor s (ushl 1 k) else 0
def wiE (s k n : Int) : Int := if chk1 n s = 0 then (if 0 ≤ k ∧ k < n then 0 else 2) else chk1 n s
theorem usub_range (a b : Int) : 0 ≤ usub a b ∧ usub a b ≤ 18446744073709551615 := by
  simp only [usub, IntKind.wrap_u64]; omega
set_option maxHeartbeats 4000000 in
theorem is_ok (h : Heap) (s : Int) (hs : 0 ≤ s ∧ s ≤ 18446744073709551615) (n : Int) : WCall Try.prog 37 #[(Value.int .u64 (s)), (vI (n))] h (fun v h1 => v = .tuple #[.bool (isB s n), .int .i64 (chk1 n s)] ∧ Ext h h1) := by
  obtain ⟨b72, eb73⟩ : ∃ zq, zq = h.size := ⟨_, rfl⟩
  obtain ⟨h70, e71⟩ : ∃ zq, zq = h.push (.cells #[(Value.int .u64 (s))] 52 (0, 0)) := ⟨_, rfl⟩
  have f74 := push_new e71
  rw [← eb73] at f74
  have x75 : Ext h h70 := by rw [e71]; exact Ext.push _ _
  have o76 : h.size ≤ b72 := by have := (Ext.refl h).size; omega
  have x77 := (Ext.refl h).trans x75
  obtain ⟨_, hh78, sn79, rfl, x80⟩ := check1 h70 (n) (s) (by omega) f74
  have x82 := x77.trans x80
  by_cases c83 : ((chk1 (n) (s)) : Int) = 0
  · have q84 := chk1_ok (by omega) c83
    obtain ⟨_, _, sn86, rfl, rfl⟩ := ones_small hh78 (s) (by omega)
    by_cases c88 : (((n) / 2) : Int) < (((pop (s).toNat : Nat) : Int))
    · exact hCall_ev [evS 1 2 1 eb73 e71, evF 1 3 sn79, neF 2 1 31 c83, evF 4 1 sn86, evV 4 3 (vI ((n) / 2)) (show binA Try.prog .quo 3 (vI n) (vI 2) = some (vI ((n) / 2)) from half_raw (by omega) (by omega)), gtT 4 4 3 c88] [] (vT #[(vB true), (vI 0)]) hh78 ⟨by rw [isB, decide_eq_true ⟨c83, by omega⟩, c83], x82⟩
    · exact hCall_ev [evS 1 2 1 eb73 e71, evF 1 3 sn79, neF 2 1 31 c83, evF 4 1 sn86, evV 4 3 (vI ((n) / 2)) (show binA Try.prog .quo 3 (vI n) (vI 2) = some (vI ((n) / 2)) from half_raw (by omega) (by omega)), gtF 4 4 3 c88] [] (vT #[(vB false), (vI 0)]) hh78 ⟨by rw [isB, decide_eq_false (fun w => absurd w.2 (by omega)), c83], x82⟩
  · exact hCall_ev [evS 1 2 1 eb73 e71, evF 1 3 sn79, neT 2 1 31 c83] [] (vT #[(vB false), (vI (chk1 (n) (s)))]) hh78 ⟨by rw [isB, decide_eq_false (fun w => c83 w.1)], x82⟩
end C14
