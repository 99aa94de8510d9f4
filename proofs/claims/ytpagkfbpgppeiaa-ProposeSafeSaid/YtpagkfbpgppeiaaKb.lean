/- Whether sets are sets of a group. -/
import Derived.Test.YtpagkfbpgppeiaaKa
import Derived.KernelRfl
open Go Go.AM Go.Proofs
namespace C14
theorem agg3 : isAggA Try.prog 3 = some false := by kernel_rfl
theorem agg52 : isAggA Try.prog 52 = some false := by kernel_rfl
def len8tab : ByteArray := ⟨#[0, 1, 2, 2, 3, 3, 3, 3, 4, 4, 4, 4, 4, 4, 4, 4, 5, 5, 5, 5, 5, 5, 5, 5, 5, 5, 5, 5, 5, 5, 5, 5, 6, 6, 6, 6, 6, 6, 6, 6, 6, 6, 6, 6, 6, 6, 6, 6, 6, 6, 6, 6, 6, 6, 6, 6, 6, 6, 6, 6, 6, 6, 6, 6, 7, 7, 7, 7, 7, 7, 7, 7, 7, 7, 7, 7, 7, 7, 7, 7, 7, 7, 7, 7, 7, 7, 7, 7, 7, 7, 7, 7, 7, 7, 7, 7, 7, 7, 7, 7, 7, 7, 7, 7, 7, 7, 7, 7, 7, 7, 7, 7, 7, 7, 7, 7, 7, 7, 7, 7, 7, 7, 7, 7, 7, 7, 7, 7, 8, 8, 8, 8, 8, 8, 8, 8, 8, 8, 8, 8, 8, 8, 8, 8, 8, 8, 8, 8, 8, 8, 8, 8, 8, 8, 8, 8, 8, 8, 8, 8, 8, 8, 8, 8, 8, 8, 8, 8, 8, 8, 8, 8, 8, 8, 8, 8, 8, 8, 8, 8, 8, 8, 8, 8, 8, 8, 8, 8, 8, 8, 8, 8, 8, 8, 8, 8, 8, 8, 8, 8, 8, 8, 8, 8, 8, 8, 8, 8, 8, 8, 8, 8, 8, 8, 8, 8, 8, 8, 8, 8, 8, 8, 8, 8, 8, 8, 8, 8, 8, 8, 8, 8, 8, 8, 8, 8, 8, 8, 8, 8, 8, 8, 8, 8, 8, 8, 8, 8, 8, 8, 8, 8, 8, 8, 8, 8]⟩
theorem len8_at : ∀ x : Fin 256, (len8tab[x.val]?).map (fun b => (b.toNat : Int)) = some ((Lib.bitLen x.val : Nat) : Int) := by decide +kernel
theorem str9 : Try.prog.underlying 9 = some .string := by kernel_rfl
theorem index_len8 {x : Int} (h0 : 0 ≤ x) (h1 : x ≤ 255) : indexA Try.prog 9 (.string len8tab) (.int .u8 x) = some (.int .u8 ((Lib.bitLen x.toNat : Nat) : Int)) := by
  have h := len8_at ⟨x.toNat, by omega⟩
  simp only [indexA, str9]
  rw [if_pos h0]
  obtain ⟨b, hb, he⟩ := Option.map_eq_some_iff.1 h
  rw [hb]
  simp only [Option.map_some]
  rw [he]
theorem len_sh32 {s : Int} (h : 4294967296 ≤ s) (h1 : s ≤ 18446744073709551615) : Lib.bitLen s.toNat = 32 + Lib.bitLen (s / 4294967296).toNat := by
  rw [Lib.bitLen_shift 32 s.toNat (by omega) (by omega), show s.toNat / 2 ^ 32 = (s / 4294967296).toNat by omega]
theorem len_sh16 {s : Int} (h : 65536 ≤ s) (h1 : s ≤ 18446744073709551615) : Lib.bitLen s.toNat = 16 + Lib.bitLen (s / 65536).toNat := by
  rw [Lib.bitLen_shift 16 s.toNat (by omega) (by omega), show s.toNat / 2 ^ 16 = (s / 65536).toNat by omega]
theorem len_sh8 {s : Int} (h : 256 ≤ s) (h1 : s ≤ 18446744073709551615) : Lib.bitLen s.toNat = 8 + Lib.bitLen (s / 256).toNat := by
  rw [Lib.bitLen_shift 8 s.toNat (by omega) (by omega), show s.toNat / 2 ^ 8 = (s / 256).toNat by omega]
/-- Whether a set has a node beyond n. -/
def big (n s : Int) : Bool := decide (n < ((Lib.bitLen s.toNat : Nat) : Int))
def chk0 (n : Int) : Int := if n < 1 ∨ 7 < n then 2 else 0
def chk1 (n s : Int) : Int := if n < 1 ∨ 7 < n ∨ big n s = true then 2 else 0
def chk2 (n s t : Int) : Int := if n < 1 ∨ 7 < n ∨ big n s = true ∨ big n t = true then 2 else 0
theorem big_iff {n s : Int} (h0 : 0 ≤ n) (h1 : n ≤ 63) (hs : 0 ≤ s ∧ s ≤ 18446744073709551615) : big n s = true ↔ ((2 ^ n.toNat : Nat) : Int) ≤ s := by
  have hp : 2 ^ n.toNat ≤ 2 ^ 63 := Nat.pow_le_pow_right (by decide) (by omega)
  simp only [big, decide_eq_true_eq]
  constructor
  · intro h
    by_cases hc : ((2 ^ n.toNat : Nat) : Int) ≤ s
    · exact hc
    · have := Lib.bitLen_le s.toNat n.toNat (by omega) (by omega)
      omega
  · intro h
    have e := Lib.bitLen_shift n.toNat s.toNat (by omega) (by omega)
    have hq : 1 ≤ s.toNat / 2 ^ n.toNat := (Nat.le_div_iff_mul_le (Nat.two_pow_pos _)).2 (by omega)
    have hne : Lib.bitLen (s.toNat / 2 ^ n.toNat) ≠ 0 := by
      have hlt : s.toNat / 2 ^ n.toNat < 2 ^ 64 := Nat.lt_of_le_of_lt (Nat.div_le_self _ _) (by omega)
      rw [Lib.bitLen_half _ (by omega) hlt]; omega
    omega
theorem chk1_ok {n s : Int} (hs : 0 ≤ s ∧ s ≤ 18446744073709551615) (h : chk1 n s = 0) : 1 ≤ n ∧ n ≤ 7 ∧ s < ((2 ^ n.toNat : Nat) : Int) ∧ s < 128 := by
  unfold chk1 at h
  split at h
  · cases h
  · rename_i hc
    have hb : ¬ big n s = true := fun w => hc (.inr (.inr w))
    have h1 : 1 ≤ n := by omega
    have h7 : n ≤ 7 := by omega
    rw [big_iff (by omega) (by omega) hs] at hb
    have hp : 2 ^ n.toNat ≤ 2 ^ 7 := Nat.pow_le_pow_right (by decide) (by omega)
    exact ⟨h1, h7, by omega, by omega⟩
set_option maxHeartbeats 4000000 in
theorem len64_ok (h : Heap) (s : Int) (hs : 0 ≤ s ∧ s ≤ 18446744073709551615) : WCall Try.prog 54 #[(Value.int .u64 (s))] h (fun v h1 => v = .int .i64 ((Lib.bitLen s.toNat : Nat) : Int) ∧ h = h1) := by
  by_cases c1 : (4294967296 : Int) ≤ (s)
  · by_cases c2 : (65536 : Int) ≤ ((s) / 4294967296)
    · by_cases c3 : (256 : Int) ≤ (((s) / 4294967296) / 65536)
      · have := Lib.bitLen_le8' ((((s) / 4294967296) / 65536) / 256) (by omega) (by omega)
        have l32 := len_sh32 (s := s) c1 (by omega)
        have l16 := len_sh16 (s := (s) / 4294967296) c2 (by omega)
        have l8 := len_sh8 (s := ((s) / 4294967296) / 65536) c3 (by omega)
        exact hCall_ev [evV 1 1 (vB true) (show binA Try.prog .geq 52 (Value.int .u64 (s)) (Value.int .u64 4294967296) = some (vB true) from cmp_geq (decide_eq_true c1)), evV 2 1 (Value.int .u64 ((s) / 4294967296)) (show binA Try.prog .shr 52 (Value.int .u64 (s)) (Value.int .u64 32) = some (Value.int .u64 ((s) / 4294967296)) from shr_lit (k := 32) (d := 4294967296) (by decide) (by decide) (by omega)), evV 4 1 (vB true) (show binA Try.prog .geq 52 (Value.int .u64 ((s) / 4294967296)) (Value.int .u64 65536) = some (vB true) from cmp_geq (decide_eq_true c2)), evV 5 1 (Value.int .u64 (((s) / 4294967296) / 65536)) (show binA Try.prog .shr 52 (Value.int .u64 ((s) / 4294967296)) (Value.int .u64 16) = some (Value.int .u64 (((s) / 4294967296) / 65536)) from shr_lit (k := 16) (d := 65536) (by decide) (by decide) (by omega)), evV 7 1 (vB true) (show binA Try.prog .geq 52 (Value.int .u64 (((s) / 4294967296) / 65536)) (Value.int .u64 256) = some (vB true) from cmp_geq (decide_eq_true c3)), evV 8 1 (Value.int .u64 ((((s) / 4294967296) / 65536) / 256)) (show binA Try.prog .shr 52 (Value.int .u64 (((s) / 4294967296) / 65536)) (Value.int .u64 8) = some (Value.int .u64 ((((s) / 4294967296) / 65536) / 256)) from shr_lit (k := 8) (d := 256) (by decide) (by decide) (by omega)), evV 10 2 (Value.int .u8 ((((s) / 4294967296) / 65536) / 256)) (show (Value.int .u8 ((((s) / 4294967296) / 65536) / 256)) = (Value.int .u8 (IntKind.u8.wrap ((((s) / 4294967296) / 65536) / 256))) from by congr 1; rw [IntKind.wrap_u8]; omega), evV 10 3 (Value.int .u8 (((Lib.bitLen ((((s) / 4294967296) / 65536) / 256).toNat : Nat) : Int))) (show indexA Try.prog 9 (.string len8tab) (Value.int .u8 ((((s) / 4294967296) / 65536) / 256)) = some (Value.int .u8 (((Lib.bitLen ((((s) / 4294967296) / 65536) / 256).toNat : Nat) : Int))) from index_len8 (by omega) (by omega)), evV 10 4 (vI (((Lib.bitLen ((((s) / 4294967296) / 65536) / 256).toNat : Nat) : Int))) (show (vI (((Lib.bitLen ((((s) / 4294967296) / 65536) / 256).toNat : Nat) : Int))) = (vI (IntKind.i64.wrap (((Lib.bitLen ((((s) / 4294967296) / 65536) / 256).toNat : Nat) : Int)))) from by congr 1; rw [IntKind.wrap_i64]; omega), evV 10 5 (vI (56 + (((Lib.bitLen ((((s) / 4294967296) / 65536) / 256).toNat : Nat) : Int)))) (show binA Try.prog .add 3 (vI 56) (vI (((Lib.bitLen ((((s) / 4294967296) / 65536) / 256).toNat : Nat) : Int))) = some (vI (56 + (((Lib.bitLen ((((s) / 4294967296) / 65536) / 256).toNat : Nat) : Int)))) from add_i64 (by omega) (by omega))] [] (vI (56 + (((Lib.bitLen ((((s) / 4294967296) / 65536) / 256).toNat : Nat) : Int)))) h ⟨by congr 1; omega, rfl⟩
      · have := Lib.bitLen_le8' (((s) / 4294967296) / 65536) (by omega) (by omega)
        have l32 := len_sh32 (s := s) c1 (by omega)
        have l16 := len_sh16 (s := (s) / 4294967296) c2 (by omega)
        exact hCall_ev [evV 1 1 (vB true) (show binA Try.prog .geq 52 (Value.int .u64 (s)) (Value.int .u64 4294967296) = some (vB true) from cmp_geq (decide_eq_true c1)), evV 2 1 (Value.int .u64 ((s) / 4294967296)) (show binA Try.prog .shr 52 (Value.int .u64 (s)) (Value.int .u64 32) = some (Value.int .u64 ((s) / 4294967296)) from shr_lit (k := 32) (d := 4294967296) (by decide) (by decide) (by omega)), evV 4 1 (vB true) (show binA Try.prog .geq 52 (Value.int .u64 ((s) / 4294967296)) (Value.int .u64 65536) = some (vB true) from cmp_geq (decide_eq_true c2)), evV 5 1 (Value.int .u64 (((s) / 4294967296) / 65536)) (show binA Try.prog .shr 52 (Value.int .u64 ((s) / 4294967296)) (Value.int .u64 16) = some (Value.int .u64 (((s) / 4294967296) / 65536)) from shr_lit (k := 16) (d := 65536) (by decide) (by decide) (by omega)), evV 7 1 (vB false) (show binA Try.prog .geq 52 (Value.int .u64 (((s) / 4294967296) / 65536)) (Value.int .u64 256) = some (vB false) from cmp_geq (decide_eq_false c3)), evV 10 2 (Value.int .u8 (((s) / 4294967296) / 65536)) (show (Value.int .u8 (((s) / 4294967296) / 65536)) = (Value.int .u8 (IntKind.u8.wrap (((s) / 4294967296) / 65536))) from by congr 1; rw [IntKind.wrap_u8]; omega), evV 10 3 (Value.int .u8 (((Lib.bitLen (((s) / 4294967296) / 65536).toNat : Nat) : Int))) (show indexA Try.prog 9 (.string len8tab) (Value.int .u8 (((s) / 4294967296) / 65536)) = some (Value.int .u8 (((Lib.bitLen (((s) / 4294967296) / 65536).toNat : Nat) : Int))) from index_len8 (by omega) (by omega)), evV 10 4 (vI (((Lib.bitLen (((s) / 4294967296) / 65536).toNat : Nat) : Int))) (show (vI (((Lib.bitLen (((s) / 4294967296) / 65536).toNat : Nat) : Int))) = (vI (IntKind.i64.wrap (((Lib.bitLen (((s) / 4294967296) / 65536).toNat : Nat) : Int)))) from by congr 1; rw [IntKind.wrap_i64]; omega), evV 10 5 (vI (48 + (((Lib.bitLen (((s) / 4294967296) / 65536).toNat : Nat) : Int)))) (show binA Try.prog .add 3 (vI 48) (vI (((Lib.bitLen (((s) / 4294967296) / 65536).toNat : Nat) : Int))) = some (vI (48 + (((Lib.bitLen (((s) / 4294967296) / 65536).toNat : Nat) : Int)))) from add_i64 (by omega) (by omega))] [] (vI (48 + (((Lib.bitLen (((s) / 4294967296) / 65536).toNat : Nat) : Int)))) h ⟨by congr 1; omega, rfl⟩
    · by_cases c4 : (256 : Int) ≤ ((s) / 4294967296)
      · have := Lib.bitLen_le8' (((s) / 4294967296) / 256) (by omega) (by omega)
        have l32 := len_sh32 (s := s) c1 (by omega)
        have l8 := len_sh8 (s := (s) / 4294967296) c4 (by omega)
        exact hCall_ev [evV 1 1 (vB true) (show binA Try.prog .geq 52 (Value.int .u64 (s)) (Value.int .u64 4294967296) = some (vB true) from cmp_geq (decide_eq_true c1)), evV 2 1 (Value.int .u64 ((s) / 4294967296)) (show binA Try.prog .shr 52 (Value.int .u64 (s)) (Value.int .u64 32) = some (Value.int .u64 ((s) / 4294967296)) from shr_lit (k := 32) (d := 4294967296) (by decide) (by decide) (by omega)), evV 4 1 (vB false) (show binA Try.prog .geq 52 (Value.int .u64 ((s) / 4294967296)) (Value.int .u64 65536) = some (vB false) from cmp_geq (decide_eq_false c2)), evV 7 1 (vB true) (show binA Try.prog .geq 52 (Value.int .u64 ((s) / 4294967296)) (Value.int .u64 256) = some (vB true) from cmp_geq (decide_eq_true c4)), evV 8 1 (Value.int .u64 (((s) / 4294967296) / 256)) (show binA Try.prog .shr 52 (Value.int .u64 ((s) / 4294967296)) (Value.int .u64 8) = some (Value.int .u64 (((s) / 4294967296) / 256)) from shr_lit (k := 8) (d := 256) (by decide) (by decide) (by omega)), evV 10 2 (Value.int .u8 (((s) / 4294967296) / 256)) (show (Value.int .u8 (((s) / 4294967296) / 256)) = (Value.int .u8 (IntKind.u8.wrap (((s) / 4294967296) / 256))) from by congr 1; rw [IntKind.wrap_u8]; omega), evV 10 3 (Value.int .u8 (((Lib.bitLen (((s) / 4294967296) / 256).toNat : Nat) : Int))) (show indexA Try.prog 9 (.string len8tab) (Value.int .u8 (((s) / 4294967296) / 256)) = some (Value.int .u8 (((Lib.bitLen (((s) / 4294967296) / 256).toNat : Nat) : Int))) from index_len8 (by omega) (by omega)), evV 10 4 (vI (((Lib.bitLen (((s) / 4294967296) / 256).toNat : Nat) : Int))) (show (vI (((Lib.bitLen (((s) / 4294967296) / 256).toNat : Nat) : Int))) = (vI (IntKind.i64.wrap (((Lib.bitLen (((s) / 4294967296) / 256).toNat : Nat) : Int)))) from by congr 1; rw [IntKind.wrap_i64]; omega), evV 10 5 (vI (40 + (((Lib.bitLen (((s) / 4294967296) / 256).toNat : Nat) : Int)))) (show binA Try.prog .add 3 (vI 40) (vI (((Lib.bitLen (((s) / 4294967296) / 256).toNat : Nat) : Int))) = some (vI (40 + (((Lib.bitLen (((s) / 4294967296) / 256).toNat : Nat) : Int)))) from add_i64 (by omega) (by omega))] [] (vI (40 + (((Lib.bitLen (((s) / 4294967296) / 256).toNat : Nat) : Int)))) h ⟨by congr 1; omega, rfl⟩
      · have := Lib.bitLen_le8' ((s) / 4294967296) (by omega) (by omega)
        have l32 := len_sh32 (s := s) c1 (by omega)
        exact hCall_ev [evV 1 1 (vB true) (show binA Try.prog .geq 52 (Value.int .u64 (s)) (Value.int .u64 4294967296) = some (vB true) from cmp_geq (decide_eq_true c1)), evV 2 1 (Value.int .u64 ((s) / 4294967296)) (show binA Try.prog .shr 52 (Value.int .u64 (s)) (Value.int .u64 32) = some (Value.int .u64 ((s) / 4294967296)) from shr_lit (k := 32) (d := 4294967296) (by decide) (by decide) (by omega)), evV 4 1 (vB false) (show binA Try.prog .geq 52 (Value.int .u64 ((s) / 4294967296)) (Value.int .u64 65536) = some (vB false) from cmp_geq (decide_eq_false c2)), evV 7 1 (vB false) (show binA Try.prog .geq 52 (Value.int .u64 ((s) / 4294967296)) (Value.int .u64 256) = some (vB false) from cmp_geq (decide_eq_false c4)), evV 10 2 (Value.int .u8 ((s) / 4294967296)) (show (Value.int .u8 ((s) / 4294967296)) = (Value.int .u8 (IntKind.u8.wrap ((s) / 4294967296))) from by congr 1; rw [IntKind.wrap_u8]; omega), evV 10 3 (Value.int .u8 (((Lib.bitLen ((s) / 4294967296).toNat : Nat) : Int))) (show indexA Try.prog 9 (.string len8tab) (Value.int .u8 ((s) / 4294967296)) = some (Value.int .u8 (((Lib.bitLen ((s) / 4294967296).toNat : Nat) : Int))) from index_len8 (by omega) (by omega)), evV 10 4 (vI (((Lib.bitLen ((s) / 4294967296).toNat : Nat) : Int))) (show (vI (((Lib.bitLen ((s) / 4294967296).toNat : Nat) : Int))) = (vI (IntKind.i64.wrap (((Lib.bitLen ((s) / 4294967296).toNat : Nat) : Int)))) from by congr 1; rw [IntKind.wrap_i64]; omega), evV 10 5 (vI (32 + (((Lib.bitLen ((s) / 4294967296).toNat : Nat) : Int)))) (show binA Try.prog .add 3 (vI 32) (vI (((Lib.bitLen ((s) / 4294967296).toNat : Nat) : Int))) = some (vI (32 + (((Lib.bitLen ((s) / 4294967296).toNat : Nat) : Int)))) from add_i64 (by omega) (by omega))] [] (vI (32 + (((Lib.bitLen ((s) / 4294967296).toNat : Nat) : Int)))) h ⟨by congr 1; omega, rfl⟩
  · by_cases c5 : (65536 : Int) ≤ (s)
    · by_cases c6 : (256 : Int) ≤ ((s) / 65536)
      · have := Lib.bitLen_le8' (((s) / 65536) / 256) (by omega) (by omega)
        have l16 := len_sh16 (s := s) c5 (by omega)
        have l8 := len_sh8 (s := (s) / 65536) c6 (by omega)
        exact hCall_ev [evV 1 1 (vB false) (show binA Try.prog .geq 52 (Value.int .u64 (s)) (Value.int .u64 4294967296) = some (vB false) from cmp_geq (decide_eq_false c1)), evV 4 1 (vB true) (show binA Try.prog .geq 52 (Value.int .u64 (s)) (Value.int .u64 65536) = some (vB true) from cmp_geq (decide_eq_true c5)), evV 5 1 (Value.int .u64 ((s) / 65536)) (show binA Try.prog .shr 52 (Value.int .u64 (s)) (Value.int .u64 16) = some (Value.int .u64 ((s) / 65536)) from shr_lit (k := 16) (d := 65536) (by decide) (by decide) (by omega)), evV 7 1 (vB true) (show binA Try.prog .geq 52 (Value.int .u64 ((s) / 65536)) (Value.int .u64 256) = some (vB true) from cmp_geq (decide_eq_true c6)), evV 8 1 (Value.int .u64 (((s) / 65536) / 256)) (show binA Try.prog .shr 52 (Value.int .u64 ((s) / 65536)) (Value.int .u64 8) = some (Value.int .u64 (((s) / 65536) / 256)) from shr_lit (k := 8) (d := 256) (by decide) (by decide) (by omega)), evV 10 2 (Value.int .u8 (((s) / 65536) / 256)) (show (Value.int .u8 (((s) / 65536) / 256)) = (Value.int .u8 (IntKind.u8.wrap (((s) / 65536) / 256))) from by congr 1; rw [IntKind.wrap_u8]; omega), evV 10 3 (Value.int .u8 (((Lib.bitLen (((s) / 65536) / 256).toNat : Nat) : Int))) (show indexA Try.prog 9 (.string len8tab) (Value.int .u8 (((s) / 65536) / 256)) = some (Value.int .u8 (((Lib.bitLen (((s) / 65536) / 256).toNat : Nat) : Int))) from index_len8 (by omega) (by omega)), evV 10 4 (vI (((Lib.bitLen (((s) / 65536) / 256).toNat : Nat) : Int))) (show (vI (((Lib.bitLen (((s) / 65536) / 256).toNat : Nat) : Int))) = (vI (IntKind.i64.wrap (((Lib.bitLen (((s) / 65536) / 256).toNat : Nat) : Int)))) from by congr 1; rw [IntKind.wrap_i64]; omega), evV 10 5 (vI (24 + (((Lib.bitLen (((s) / 65536) / 256).toNat : Nat) : Int)))) (show binA Try.prog .add 3 (vI 24) (vI (((Lib.bitLen (((s) / 65536) / 256).toNat : Nat) : Int))) = some (vI (24 + (((Lib.bitLen (((s) / 65536) / 256).toNat : Nat) : Int)))) from add_i64 (by omega) (by omega))] [] (vI (24 + (((Lib.bitLen (((s) / 65536) / 256).toNat : Nat) : Int)))) h ⟨by congr 1; omega, rfl⟩
      · have := Lib.bitLen_le8' ((s) / 65536) (by omega) (by omega)
        have l16 := len_sh16 (s := s) c5 (by omega)
        exact hCall_ev [evV 1 1 (vB false) (show binA Try.prog .geq 52 (Value.int .u64 (s)) (Value.int .u64 4294967296) = some (vB false) from cmp_geq (decide_eq_false c1)), evV 4 1 (vB true) (show binA Try.prog .geq 52 (Value.int .u64 (s)) (Value.int .u64 65536) = some (vB true) from cmp_geq (decide_eq_true c5)), evV 5 1 (Value.int .u64 ((s) / 65536)) (show binA Try.prog .shr 52 (Value.int .u64 (s)) (Value.int .u64 16) = some (Value.int .u64 ((s) / 65536)) from shr_lit (k := 16) (d := 65536) (by decide) (by decide) (by omega)), evV 7 1 (vB false) (show binA Try.prog .geq 52 (Value.int .u64 ((s) / 65536)) (Value.int .u64 256) = some (vB false) from cmp_geq (decide_eq_false c6)), evV 10 2 (Value.int .u8 ((s) / 65536)) (show (Value.int .u8 ((s) / 65536)) = (Value.int .u8 (IntKind.u8.wrap ((s) / 65536))) from by congr 1; rw [IntKind.wrap_u8]; omega), evV 10 3 (Value.int .u8 (((Lib.bitLen ((s) / 65536).toNat : Nat) : Int))) (show indexA Try.prog 9 (.string len8tab) (Value.int .u8 ((s) / 65536)) = some (Value.int .u8 (((Lib.bitLen ((s) / 65536).toNat : Nat) : Int))) from index_len8 (by omega) (by omega)), evV 10 4 (vI (((Lib.bitLen ((s) / 65536).toNat : Nat) : Int))) (show (vI (((Lib.bitLen ((s) / 65536).toNat : Nat) : Int))) = (vI (IntKind.i64.wrap (((Lib.bitLen ((s) / 65536).toNat : Nat) : Int)))) from by congr 1; rw [IntKind.wrap_i64]; omega), evV 10 5 (vI (16 + (((Lib.bitLen ((s) / 65536).toNat : Nat) : Int)))) (show binA Try.prog .add 3 (vI 16) (vI (((Lib.bitLen ((s) / 65536).toNat : Nat) : Int))) = some (vI (16 + (((Lib.bitLen ((s) / 65536).toNat : Nat) : Int)))) from add_i64 (by omega) (by omega))] [] (vI (16 + (((Lib.bitLen ((s) / 65536).toNat : Nat) : Int)))) h ⟨by congr 1; omega, rfl⟩
    · by_cases c7 : (256 : Int) ≤ (s)
      · have := Lib.bitLen_le8' ((s) / 256) (by omega) (by omega)
        have l8 := len_sh8 (s := s) c7 (by omega)
        exact hCall_ev [evV 1 1 (vB false) (show binA Try.prog .geq 52 (Value.int .u64 (s)) (Value.int .u64 4294967296) = some (vB false) from cmp_geq (decide_eq_false c1)), evV 4 1 (vB false) (show binA Try.prog .geq 52 (Value.int .u64 (s)) (Value.int .u64 65536) = some (vB false) from cmp_geq (decide_eq_false c5)), evV 7 1 (vB true) (show binA Try.prog .geq 52 (Value.int .u64 (s)) (Value.int .u64 256) = some (vB true) from cmp_geq (decide_eq_true c7)), evV 8 1 (Value.int .u64 ((s) / 256)) (show binA Try.prog .shr 52 (Value.int .u64 (s)) (Value.int .u64 8) = some (Value.int .u64 ((s) / 256)) from shr_lit (k := 8) (d := 256) (by decide) (by decide) (by omega)), evV 10 2 (Value.int .u8 ((s) / 256)) (show (Value.int .u8 ((s) / 256)) = (Value.int .u8 (IntKind.u8.wrap ((s) / 256))) from by congr 1; rw [IntKind.wrap_u8]; omega), evV 10 3 (Value.int .u8 (((Lib.bitLen ((s) / 256).toNat : Nat) : Int))) (show indexA Try.prog 9 (.string len8tab) (Value.int .u8 ((s) / 256)) = some (Value.int .u8 (((Lib.bitLen ((s) / 256).toNat : Nat) : Int))) from index_len8 (by omega) (by omega)), evV 10 4 (vI (((Lib.bitLen ((s) / 256).toNat : Nat) : Int))) (show (vI (((Lib.bitLen ((s) / 256).toNat : Nat) : Int))) = (vI (IntKind.i64.wrap (((Lib.bitLen ((s) / 256).toNat : Nat) : Int)))) from by congr 1; rw [IntKind.wrap_i64]; omega), evV 10 5 (vI (8 + (((Lib.bitLen ((s) / 256).toNat : Nat) : Int)))) (show binA Try.prog .add 3 (vI 8) (vI (((Lib.bitLen ((s) / 256).toNat : Nat) : Int))) = some (vI (8 + (((Lib.bitLen ((s) / 256).toNat : Nat) : Int)))) from add_i64 (by omega) (by omega))] [] (vI (8 + (((Lib.bitLen ((s) / 256).toNat : Nat) : Int)))) h ⟨by congr 1; omega, rfl⟩
      · have := Lib.bitLen_le8' (s) (by omega) (by omega)
        exact hCall_ev [evV 1 1 (vB false) (show binA Try.prog .geq 52 (Value.int .u64 (s)) (Value.int .u64 4294967296) = some (vB false) from cmp_geq (decide_eq_false c1)), evV 4 1 (vB false) (show binA Try.prog .geq 52 (Value.int .u64 (s)) (Value.int .u64 65536) = some (vB false) from cmp_geq (decide_eq_false c5)), evV 7 1 (vB false) (show binA Try.prog .geq 52 (Value.int .u64 (s)) (Value.int .u64 256) = some (vB false) from cmp_geq (decide_eq_false c7)), evV 10 2 (Value.int .u8 (s)) (show (Value.int .u8 (s)) = (Value.int .u8 (IntKind.u8.wrap (s))) from by congr 1; rw [IntKind.wrap_u8]; omega), evV 10 3 (Value.int .u8 (((Lib.bitLen (s).toNat : Nat) : Int))) (show indexA Try.prog 9 (.string len8tab) (Value.int .u8 (s)) = some (Value.int .u8 (((Lib.bitLen (s).toNat : Nat) : Int))) from index_len8 (by omega) (by omega)), evV 10 4 (vI (((Lib.bitLen (s).toNat : Nat) : Int))) (show (vI (((Lib.bitLen (s).toNat : Nat) : Int))) = (vI (IntKind.i64.wrap (((Lib.bitLen (s).toNat : Nat) : Int)))) from by congr 1; rw [IntKind.wrap_i64]; omega), evV 10 5 (vI (0 + (((Lib.bitLen (s).toNat : Nat) : Int)))) (show binA Try.prog .add 3 (vI 0) (vI (((Lib.bitLen (s).toNat : Nat) : Int))) = some (vI (0 + (((Lib.bitLen (s).toNat : Nat) : Int)))) from add_i64 (by omega) (by omega))] [] (vI (0 + (((Lib.bitLen (s).toNat : Nat) : Int)))) h ⟨by congr 1; omega, rfl⟩
set_option maxHeartbeats 4000000 in
theorem clo_ok (h : Heap) (n : Int) (s : Int) (hs : 0 ≤ s ∧ s ≤ 18446744073709551615) {c : Nat} (hc : h[c]? = some (.cells #[.int .i64 n] 3 (0, 0))) : WCall Try.prog 53 #[(Value.int .u64 (s)), (vP c 0)] h (fun v h1 => v = .bool (big n s) ∧ h = h1) := by
  obtain ⟨_, _, sn9, rfl, rfl⟩ := len64_ok h (s) (by omega)
  by_cases c11 : ((n) : Int) < (((Lib.bitLen (s).toNat : Nat) : Int))
  · exact hCall_ev [evC 1 2 0 agg3 hc, evF 1 1 sn9, evC 99 0 0 agg3 hc, gtT 1 3 3 c11] [] (vB true) h ⟨by rw [big, decide_eq_true c11], rfl⟩
  · exact hCall_ev [evC 1 2 0 agg3 hc, evF 1 1 sn9, evC 99 0 0 agg3 hc, gtF 1 3 3 c11] [] (vB false) h ⟨by rw [big, decide_eq_false c11], rfl⟩
set_option maxHeartbeats 4000000 in
theorem index0 (h : Heap) (n : Int) {c : Nat} (hc : h[c]? = some (.cells #[.int .i64 n] 3 (0, 0))) : WCall Try.prog 56 #[(Value.slice none 0 0), (Value.func (.func 53) #[] #[(vP c 0)])] h (fun v h1 => v = .int .i64 (-1) ∧ h = h1) := by
  refine wcall_by fun K hK => ?_
  refine wcall_at { tmps := #[(vL none 0 0), (Value.func (.func 53) #[] #[(vP c 0)]), vZ, vZ, vZ, vZ, vZ, vZ, vZ, vZ, vZ, vZ, vZ, vZ, vZ, vZ, vZ, vZ, vZ], defers := [] } (by kernel_rfl) ?_
  refine wc_seq' (subc (bodyOf Try.prog 56) [0]) (subc (bodyOf Try.prog 56) [1]) (by kernel_rfl) ?_
  refine wc_ev [] .normal h [(4, (vI 0))] ?_
  refine wc_seq' (subc (bodyOf Try.prog 56) [1, 0]) (subc (bodyOf Try.prog 56) [1, 1]) (by kernel_rfl) ?_
  refine wc_seq' (subc (bodyOf Try.prog 56) [1, 0, 0]) (subc (bodyOf Try.prog 56) [1, 0, 1]) (by kernel_rfl) ?_
  refine wc_ev [] .normal h [(6, (vL none 0 0)), (7, (vI 0)), (8, (vI 0))] ?_
  refine wc_block' 0 (subc (bodyOf Try.prog 56) [1, 0, 1, 0]) (by kernel_rfl) ?_
  refine wc_once (subc (bodyOf Try.prog 56) [1, 0, 1, 0, 0]) (by kernel_rfl) ?_
  refine wc_ev [] (.exit 0) h [(9, (vB false))] ?_
  refine wc_ev [] .ret h [(4, (vI (-1)))] ?_
  exact end_ev [] (vI (-1)) (hK _ _ (⟨rfl, rfl⟩))
set_option maxHeartbeats 4000000 in
theorem index1 (h : Heap) (n : Int) (s : Int) (hs : 0 ≤ s ∧ s ≤ 18446744073709551615) {c : Nat} (hc : h[c]? = some (.cells #[.int .i64 n] 3 (0, 0))) {b : Nat} (hb : h[b]? = some (.cells #[.int .u64 s] 52 (0, 0))) : WCall Try.prog 56 #[(Value.slice (some ⟨b, 0, none⟩) 1 1), (Value.func (.func 53) #[] #[(vP c 0)])] h (fun v h1 => v = .int .i64 (bif big n s then 0 else -1) ∧ h = h1) := by
  refine wcall_by fun K hK => ?_
  refine wcall_at { tmps := #[(vL (some ⟨b, 0, none⟩) 1 1), (Value.func (.func 53) #[] #[(vP c 0)]), vZ, vZ, vZ, vZ, vZ, vZ, vZ, vZ, vZ, vZ, vZ, vZ, vZ, vZ, vZ, vZ, vZ], defers := [] } (by kernel_rfl) ?_
  refine wc_seq' (subc (bodyOf Try.prog 56) [0]) (subc (bodyOf Try.prog 56) [1]) (by kernel_rfl) ?_
  refine wc_ev [] .normal h [(4, (vI 0))] ?_
  refine wc_seq' (subc (bodyOf Try.prog 56) [1, 0]) (subc (bodyOf Try.prog 56) [1, 1]) (by kernel_rfl) ?_
  refine wc_seq' (subc (bodyOf Try.prog 56) [1, 0, 0]) (subc (bodyOf Try.prog 56) [1, 0, 1]) (by kernel_rfl) ?_
  refine wc_ev [] .normal h [(6, (vL (some ⟨b, 0, none⟩) 1 1)), (7, (vI 1)), (8, (vI 0))] ?_
  refine wc_block' 0 (subc (bodyOf Try.prog 56) [1, 0, 1, 0]) (by kernel_rfl) ?_
  refine wc_once (subc (bodyOf Try.prog 56) [1, 0, 1, 0, 0]) (by kernel_rfl) ?_
  obtain ⟨_, _, sn13, rfl, rfl⟩ := clo_ok h (n) (s) (by omega) hc
  rcases Bool.eq_false_or_eq_true ((big (n) (s))) with c15 | c15
  · refine wc_ev [evC 4 4 0 agg52 hb, evFb 4 5 c15 sn13] .ret h [(9, (vB true)), (10, (vI 0)), (5, (vI 0)), (11, (Value.func (.func 53) #[] #[(vP c 0)])), (12, (vL (some ⟨b, 0, none⟩) 1 1)), (13, (vI 0)), (14, (vP b 0)), (15, (Value.int .u64 (s))), (16, (vB true)), (17, (vI 0)), (4, (vI 0))] ?_
    exact end_ev [] (vI 0) (hK _ _ (⟨by rw [c15]; rfl, rfl⟩))
  · refine wc_ev [evC 4 4 0 agg52 hb, evFb 4 5 c15 sn13] .normal h [(9, (vB true)), (10, (vI 0)), (5, (vI 0)), (11, (Value.func (.func 53) #[] #[(vP c 0)])), (12, (vL (some ⟨b, 0, none⟩) 1 1)), (13, (vI 0)), (14, (vP b 0)), (15, (Value.int .u64 (s))), (16, (vB false)), (18, (vI 1)), (8, (vI 1))] ?_
    refine wc_once (subc (bodyOf Try.prog 56) [1, 0, 1, 0, 0]) rfl ?_
    refine wc_ev [] (.exit 0) h [(9, (vB false))] ?_
    refine wc_ev [] .ret h [(4, (vI (-1)))] ?_
    exact end_ev [] (vI (-1)) (hK _ _ (⟨by rw [c15]; rfl, rfl⟩))
set_option maxHeartbeats 4000000 in
theorem index2 (h : Heap) (n : Int) (s : Int) (hs : 0 ≤ s ∧ s ≤ 18446744073709551615) (t : Int) (ht : 0 ≤ t ∧ t ≤ 18446744073709551615) {c : Nat} (hc : h[c]? = some (.cells #[.int .i64 n] 3 (0, 0))) {b : Nat} (hb : h[b]? = some (.cells #[.int .u64 s, .int .u64 t] 52 (0, 0))) : WCall Try.prog 56 #[(Value.slice (some ⟨b, 0, none⟩) 2 2), (Value.func (.func 53) #[] #[(vP c 0)])] h (fun v h1 => v = .int .i64 (bif big n s then 0 else bif big n t then 1 else -1) ∧ h = h1) := by
  refine wcall_by fun K hK => ?_
  refine wcall_at { tmps := #[(vL (some ⟨b, 0, none⟩) 2 2), (Value.func (.func 53) #[] #[(vP c 0)]), vZ, vZ, vZ, vZ, vZ, vZ, vZ, vZ, vZ, vZ, vZ, vZ, vZ, vZ, vZ, vZ, vZ], defers := [] } (by kernel_rfl) ?_
  refine wc_seq' (subc (bodyOf Try.prog 56) [0]) (subc (bodyOf Try.prog 56) [1]) (by kernel_rfl) ?_
  refine wc_ev [] .normal h [(4, (vI 0))] ?_
  refine wc_seq' (subc (bodyOf Try.prog 56) [1, 0]) (subc (bodyOf Try.prog 56) [1, 1]) (by kernel_rfl) ?_
  refine wc_seq' (subc (bodyOf Try.prog 56) [1, 0, 0]) (subc (bodyOf Try.prog 56) [1, 0, 1]) (by kernel_rfl) ?_
  refine wc_ev [] .normal h [(6, (vL (some ⟨b, 0, none⟩) 2 2)), (7, (vI 2)), (8, (vI 0))] ?_
  refine wc_block' 0 (subc (bodyOf Try.prog 56) [1, 0, 1, 0]) (by kernel_rfl) ?_
  refine wc_once (subc (bodyOf Try.prog 56) [1, 0, 1, 0, 0]) (by kernel_rfl) ?_
  obtain ⟨_, _, sn17, rfl, rfl⟩ := clo_ok h (n) (s) (by omega) hc
  rcases Bool.eq_false_or_eq_true ((big (n) (s))) with c19 | c19
  · refine wc_ev [evC 4 4 0 agg52 hb, evFb 4 5 c19 sn17] .ret h [(9, (vB true)), (10, (vI 0)), (5, (vI 0)), (11, (Value.func (.func 53) #[] #[(vP c 0)])), (12, (vL (some ⟨b, 0, none⟩) 2 2)), (13, (vI 0)), (14, (vP b 0)), (15, (Value.int .u64 (s))), (16, (vB true)), (17, (vI 0)), (4, (vI 0))] ?_
    exact end_ev [] (vI 0) (hK _ _ (⟨by rw [c19]; rfl, rfl⟩))
  · refine wc_ev [evC 4 4 0 agg52 hb, evFb 4 5 c19 sn17] .normal h [(9, (vB true)), (10, (vI 0)), (5, (vI 0)), (11, (Value.func (.func 53) #[] #[(vP c 0)])), (12, (vL (some ⟨b, 0, none⟩) 2 2)), (13, (vI 0)), (14, (vP b 0)), (15, (Value.int .u64 (s))), (16, (vB false)), (18, (vI 1)), (8, (vI 1))] ?_
    refine wc_once (subc (bodyOf Try.prog 56) [1, 0, 1, 0, 0]) rfl ?_
    obtain ⟨_, _, sn21, rfl, rfl⟩ := clo_ok h (n) (t) (by omega) hc
    rcases Bool.eq_false_or_eq_true ((big (n) (t))) with c23 | c23
    · refine wc_ev [evC 4 4 1 agg52 hb, evFb 4 5 c23 sn21] .ret h [(9, (vB true)), (10, (vI 1)), (5, (vI 1)), (11, (Value.func (.func 53) #[] #[(vP c 0)])), (12, (vL (some ⟨b, 0, none⟩) 2 2)), (13, (vI 1)), (14, (vP b 1)), (15, (Value.int .u64 (t))), (16, (vB true)), (17, (vI 1)), (4, (vI 1))] ?_
      exact end_ev [] (vI 1) (hK _ _ (⟨by rw [c19, c23]; rfl, rfl⟩))
    · refine wc_ev [evC 4 4 1 agg52 hb, evFb 4 5 c23 sn21] .normal h [(9, (vB true)), (10, (vI 1)), (5, (vI 1)), (11, (Value.func (.func 53) #[] #[(vP c 0)])), (12, (vL (some ⟨b, 0, none⟩) 2 2)), (13, (vI 1)), (14, (vP b 1)), (15, (Value.int .u64 (t))), (16, (vB false)), (18, (vI 2)), (8, (vI 2))] ?_
      refine wc_once (subc (bodyOf Try.prog 56) [1, 0, 1, 0, 0]) rfl ?_
      refine wc_act { tmps := #[(vL (some ⟨b, 0, none⟩) 2 2), (Value.func (.func 53) #[] #[(vP c 0)]), vZ, vZ, (vI 0), (vI 1), (vL (some ⟨b, 0, none⟩) 2 2), (vI 2), (vI 2), (vB true), (vI 1), (Value.func (.func 53) #[] #[(vP c 0)]), (vL (some ⟨b, 0, none⟩) 2 2), (vI 1), (vP b 1), (Value.int .u64 (t)), (vB false), vZ, (vI 2)], defers := [] } (by as_aux_lemma => kernel_rfl) ?_
      refine wc_ev [] (.exit 0) h [(9, (vB false))] ?_
      refine wc_ev [] .ret h [(4, (vI (-1)))] ?_
      exact end_ev [] (vI (-1)) (hK _ _ (⟨by rw [c19, c23]; rfl, rfl⟩))
set_option maxHeartbeats 4000000 in
theorem contains0 (h : Heap) (n : Int) {c : Nat} (hc : h[c]? = some (.cells #[.int .i64 n] 3 (0, 0))) : WCall Try.prog 52 #[(Value.slice none 0 0), (Value.func (.func 53) #[] #[(vP c 0)])] h (fun v h1 => v = .bool false ∧ h = h1) := by
  obtain ⟨_, _, s24, rfl, rfl⟩ := index0 h (n)  hc
  exact hCall_ev [evF 1 2 s24] [] (vB false) h ⟨rfl, rfl⟩
set_option maxHeartbeats 4000000 in
theorem contains1 (h : Heap) (n : Int) (s : Int) (hs : 0 ≤ s ∧ s ≤ 18446744073709551615) {c : Nat} (hc : h[c]? = some (.cells #[.int .i64 n] 3 (0, 0))) {b : Nat} (hb : h[b]? = some (.cells #[.int .u64 s] 52 (0, 0))) : WCall Try.prog 52 #[(Value.slice (some ⟨b, 0, none⟩) 1 1), (Value.func (.func 53) #[] #[(vP c 0)])] h (fun v h1 => v = .bool (big n s) ∧ h = h1) := by
  obtain ⟨_, _, s25, rfl, rfl⟩ := index1 h (n) (s) (by omega) hc hb
  rcases Bool.eq_false_or_eq_true ((big (n) (s))) with c26 | c26
  · rw [c26] at s25
    exact hCall_ev [evF 1 2 s25] [] (vB true) h ⟨by rw [c26], rfl⟩
  · rw [c26] at s25
    exact hCall_ev [evF 1 2 s25] [] (vB false) h ⟨by rw [c26], rfl⟩
set_option maxHeartbeats 4000000 in
theorem contains2 (h : Heap) (n : Int) (s : Int) (hs : 0 ≤ s ∧ s ≤ 18446744073709551615) (t : Int) (ht : 0 ≤ t ∧ t ≤ 18446744073709551615) {c : Nat} (hc : h[c]? = some (.cells #[.int .i64 n] 3 (0, 0))) {b : Nat} (hb : h[b]? = some (.cells #[.int .u64 s, .int .u64 t] 52 (0, 0))) : WCall Try.prog 52 #[(Value.slice (some ⟨b, 0, none⟩) 2 2), (Value.func (.func 53) #[] #[(vP c 0)])] h (fun v h1 => v = .bool (big n s || big n t) ∧ h = h1) := by
  obtain ⟨_, _, s27, rfl, rfl⟩ := index2 h (n) (s) (by omega) (t) (by omega) hc hb
  rcases Bool.eq_false_or_eq_true ((big (n) (s))) with c28 | c28
  · rw [c28] at s27
    exact hCall_ev [evF 1 2 s27] [] (vB true) h ⟨by rw [c28]; rfl, rfl⟩
  · rcases Bool.eq_false_or_eq_true ((big (n) (t))) with c29 | c29
    · rw [c28, c29] at s27
      exact hCall_ev [evF 1 2 s27] [] (vB true) h ⟨by rw [c28, c29]; rfl, rfl⟩
    · rw [c28, c29] at s27
      exact hCall_ev [evF 1 2 s27] [] (vB false) h ⟨by rw [c28, c29]; rfl, rfl⟩
set_option maxHeartbeats 4000000 in
theorem check0 (h : Heap) (n : Int) : WCall Try.prog 47 #[(vI (n)), (Value.slice none 0 0)] h (fun v h1 => v = .int .i64 (chk0 n) ∧ Ext h h1) := by
  obtain ⟨b32, eb33⟩ : ∃ zq, zq = h.size := ⟨_, rfl⟩
  obtain ⟨h30, e31⟩ : ∃ zq, zq = h.push (.cells #[(vI (n))] 3 (0, 0)) := ⟨_, rfl⟩
  have f34 := push_new e31
  rw [← eb33] at f34
  have x35 : Ext h h30 := by rw [e31]; exact Ext.push _ _
  have o36 : h.size ≤ b32 := by have := (Ext.refl h).size; omega
  have x37 := (Ext.refl h).trans x35
  by_cases c38 : ((n) : Int) < 1
  · exact hCall_ev [evA 0 0 eb33 e31, evC 1 0 0 agg3 f34, ltT 1 1 3 c38] [] (vI 2) h30 ⟨by unfold chk0; rw [if_pos (.inl c38)], x37⟩
  · by_cases c39 : (7 : Int) < (n)
    · exact hCall_ev [evA 0 0 eb33 e31, evC 1 0 0 agg3 f34, ltF 1 1 3 c38, evC 1 3 0 agg3 f34, gtT 1 4 3 c39] [] (vI 2) h30 ⟨by unfold chk0; rw [if_pos (.inr c39)], x37⟩
    · obtain ⟨_, _, s40, rfl, rfl⟩ := contains0 h30 (n)  f34
      exact hCall_ev [evA 0 0 eb33 e31, evC 1 0 0 agg3 f34, ltF 1 1 3 c38, evC 1 3 0 agg3 f34, gtF 1 4 3 c39, evF 1 9 s40] [] (vI 0) h30 ⟨by unfold chk0; rw [if_neg (fun w => by rcases w with w | w; omega; omega)], x37⟩
set_option maxHeartbeats 4000000 in
theorem check1 (h : Heap) (n : Int) (s : Int) (hs : 0 ≤ s ∧ s ≤ 18446744073709551615) {b : Nat} (hb : h[b]? = some (.cells #[.int .u64 s] 52 (0, 0))) : WCall Try.prog 47 #[(vI (n)), (Value.slice (some ⟨b, 0, none⟩) 1 1)] h (fun v h1 => v = .int .i64 (chk1 n s) ∧ Ext h h1) := by
  obtain ⟨b43, eb44⟩ : ∃ zq, zq = h.size := ⟨_, rfl⟩
  obtain ⟨h41, e42⟩ : ∃ zq, zq = h.push (.cells #[(vI (n))] 3 (0, 0)) := ⟨_, rfl⟩
  have f45 := push_new e42
  rw [← eb44] at f45
  have x47 : Ext h h41 := by rw [e42]; exact Ext.push _ _
  have o48 : h.size ≤ b43 := by have := (Ext.refl h).size; omega
  have f49 := x47 _ _ hb
  have x50 := (Ext.refl h).trans x47
  by_cases c51 : ((n) : Int) < 1
  · exact hCall_ev [evA 0 0 eb44 e42, evC 1 0 0 agg3 f45, ltT 1 1 3 c51] [] (vI 2) h41 ⟨by unfold chk1; rw [if_pos (.inl c51)], x50⟩
  · by_cases c52 : (7 : Int) < (n)
    · exact hCall_ev [evA 0 0 eb44 e42, evC 1 0 0 agg3 f45, ltF 1 1 3 c51, evC 1 3 0 agg3 f45, gtT 1 4 3 c52] [] (vI 2) h41 ⟨by unfold chk1; rw [if_pos (.inr (.inl c52))], x50⟩
    · obtain ⟨_, _, s53, rfl, rfl⟩ := contains1 h41 (n) (s) (by omega) f45 f49
      rcases Bool.eq_false_or_eq_true ((big (n) (s))) with c54 | c54
      · rw [c54] at s53
        exact hCall_ev [evA 0 0 eb44 e42, evC 1 0 0 agg3 f45, ltF 1 1 3 c51, evC 1 3 0 agg3 f45, gtF 1 4 3 c52, evF 1 9 s53] [] (vI 2) h41 ⟨by unfold chk1; rw [if_pos (.inr (.inr c54))], x50⟩
      · rw [c54] at s53
        exact hCall_ev [evA 0 0 eb44 e42, evC 1 0 0 agg3 f45, ltF 1 1 3 c51, evC 1 3 0 agg3 f45, gtF 1 4 3 c52, evF 1 9 s53] [] (vI 0) h41 ⟨by unfold chk1; rw [if_neg (fun w => by rcases w with w | w | w; omega; omega; (rw [c54] at w; cases w))], x50⟩
set_option maxHeartbeats 4000000 in
theorem check2 (h : Heap) (n : Int) (s : Int) (hs : 0 ≤ s ∧ s ≤ 18446744073709551615) (t : Int) (ht : 0 ≤ t ∧ t ≤ 18446744073709551615) {b : Nat} (hb : h[b]? = some (.cells #[.int .u64 s, .int .u64 t] 52 (0, 0))) : WCall Try.prog 47 #[(vI (n)), (Value.slice (some ⟨b, 0, none⟩) 2 2)] h (fun v h1 => v = .int .i64 (chk2 n s t) ∧ Ext h h1) := by
  obtain ⟨b57, eb58⟩ : ∃ zq, zq = h.size := ⟨_, rfl⟩
  obtain ⟨h55, e56⟩ : ∃ zq, zq = h.push (.cells #[(vI (n))] 3 (0, 0)) := ⟨_, rfl⟩
  have f59 := push_new e56
  rw [← eb58] at f59
  have x61 : Ext h h55 := by rw [e56]; exact Ext.push _ _
  have o62 : h.size ≤ b57 := by have := (Ext.refl h).size; omega
  have f63 := x61 _ _ hb
  have x64 := (Ext.refl h).trans x61
  by_cases c65 : ((n) : Int) < 1
  · exact hCall_ev [evA 0 0 eb58 e56, evC 1 0 0 agg3 f59, ltT 1 1 3 c65] [] (vI 2) h55 ⟨by unfold chk2; rw [if_pos (.inl c65)], x64⟩
  · by_cases c66 : (7 : Int) < (n)
    · exact hCall_ev [evA 0 0 eb58 e56, evC 1 0 0 agg3 f59, ltF 1 1 3 c65, evC 1 3 0 agg3 f59, gtT 1 4 3 c66] [] (vI 2) h55 ⟨by unfold chk2; rw [if_pos (.inr (.inl c66))], x64⟩
    · obtain ⟨_, _, s67, rfl, rfl⟩ := contains2 h55 (n) (s) (by omega) (t) (by omega) f59 f63
      rcases Bool.eq_false_or_eq_true ((big (n) (s))) with c68 | c68
      · rw [c68, Bool.true_or] at s67
        exact hCall_ev [evA 0 0 eb58 e56, evC 1 0 0 agg3 f59, ltF 1 1 3 c65, evC 1 3 0 agg3 f59, gtF 1 4 3 c66, evF 1 9 s67] [] (vI 2) h55 ⟨by unfold chk2; rw [if_pos (.inr (.inr (.inl c68)))], x64⟩
      · rcases Bool.eq_false_or_eq_true ((big (n) (t))) with c69 | c69
        · rw [c68, c69, Bool.false_or] at s67
          exact hCall_ev [evA 0 0 eb58 e56, evC 1 0 0 agg3 f59, ltF 1 1 3 c65, evC 1 3 0 agg3 f59, gtF 1 4 3 c66, evF 1 9 s67] [] (vI 2) h55 ⟨by unfold chk2; rw [if_pos (.inr (.inr (.inr c69)))], x64⟩
        · rw [c68, c69, Bool.false_or] at s67
          exact hCall_ev [evA 0 0 eb58 e56, evC 1 0 0 agg3 f59, ltF 1 1 3 c65, evC 1 3 0 agg3 f59, gtF 1 4 3 c66, evF 1 9 s67] [] (vI 0) h55 ⟨by unfold chk2; rw [if_neg (fun w => by rcases w with w | w | w | w; omega; omega; (rw [c68] at w; cases w); (rw [c69] at w; cases w))], x64⟩
end C14
