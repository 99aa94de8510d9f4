/- How many nodes a set has, whatever set. -/
import Derived.Test.YtbjehneffpbkeaaDoorKd
import Derived.KernelRfl
open Go Go.AM Go.Proofs
namespace C11
theorem and_split {lo p : Nat} (hlo : lo < 256) (hp : p < 256) (hi q : Nat) : (lo + 256 * hi) &&& (p + 256 * q) = (lo &&& p) + 256 * (hi &&& q) := by
  have hl : lo &&& p < 2 ^ 8 := Nat.lt_of_le_of_lt Nat.and_le_left hlo
  apply Nat.eq_of_testBit_eq
  intro i
  rw [show lo + 256 * hi = 2 ^ 8 * hi + lo by omega, show p + 256 * q = 2 ^ 8 * q + p by omega, show (lo &&& p) + 256 * (hi &&& q) = 2 ^ 8 * (hi &&& q) + (lo &&& p) by omega]
  rw [Nat.testBit_and, Nat.testBit_two_pow_mul_add _ (by omega), Nat.testBit_two_pow_mul_add _ (by omega), Nat.testBit_two_pow_mul_add _ hl]
  split
  · rw [Nat.testBit_and]
  · rw [Nat.testBit_and]
def bMask (x : Nat) : Nat → Nat
  | 0 => 0
  | k + 1 => x + 256 * bMask x k
def sA (k s : Nat) : Nat := (s / 2 &&& bMask 85 k) + (s &&& bMask 85 k)
def sB (k s : Nat) : Nat := (s / 4 &&& bMask 51 k) + (s &&& bMask 51 k)
def sC (k s : Nat) : Nat := (s / 16 + s) &&& bMask 15 k
def a8 (s : Nat) : Nat := (s / 2 &&& 85) + (s &&& 85)
def b8 (s : Nat) : Nat := (s / 4 &&& 51) + (s &&& 51)
def c8 (s : Nat) : Nat := (s / 16 + s) &&& 15
theorem fA : ∀ lo : Fin 256, ∀ t : Fin 2, (decide ((lo.val / 2 + 128 * t.val) &&& 85 = lo.val / 2 &&& 85) && decide (a8 lo.val < 256)) = true := by decide +kernel
theorem fB : ∀ lo : Fin 256, ∀ t : Fin 4, (decide ((lo.val / 4 + 64 * t.val) &&& 51 = lo.val / 4 &&& 51) && (decide (b8 lo.val % 16 ≤ 6) && decide (b8 lo.val ≤ 102))) = true := by decide +kernel
theorem fC : ∀ lo : Fin 103, ∀ t : Fin 7, (decide ((lo.val / 16 + lo.val + 16 * t.val) &&& 15 = c8 lo.val)) = true := by decide +kernel
def p8 (s : Nat) : Nat := c8 (b8 (a8 s))
theorem fP : ∀ s : Fin 256, (decide (p8 s.val = ((List.range 8).filter fun i => s.val.testBit i).length) && decide (p8 s.val ≤ 8)) = true := by decide +kernel
theorem sA_step {lo : Nat} (h : lo < 256) (k hi : Nat) : sA (k + 1) (lo + 256 * hi) = a8 lo + 256 * sA k hi := by
  have f := fA ⟨lo, h⟩ ⟨hi % 2, by omega⟩
  simp only [Bool.and_eq_true, decide_eq_true_eq] at f
  have e : (lo + 256 * hi) / 2 = (lo / 2 + 128 * (hi % 2)) + 256 * (hi / 2) := by omega
  simp only [sA, bMask, a8]
  rw [e, and_split (by omega) (by decide), and_split h (by decide), f.1]
  omega
theorem sB_step {lo : Nat} (h : lo < 256) (k hi : Nat) : sB (k + 1) (lo + 256 * hi) = b8 lo + 256 * sB k hi := by
  have f := fB ⟨lo, h⟩ ⟨hi % 4, by omega⟩
  simp only [Bool.and_eq_true, decide_eq_true_eq] at f
  have e : (lo + 256 * hi) / 4 = (lo / 4 + 64 * (hi % 4)) + 256 * (hi / 4) := by omega
  simp only [sB, bMask, b8]
  rw [e, and_split (by omega) (by decide), and_split h (by decide), f.1]
  omega
theorem sC_step {lo : Nat} (h : lo ≤ 102) (k : Nat) {hi : Nat} (ht : hi % 16 ≤ 6) : sC (k + 1) (lo + 256 * hi) = c8 lo + 256 * sC k hi := by
  have f := fC ⟨lo, by omega⟩ ⟨hi % 16, by omega⟩
  simp only [decide_eq_true_eq] at f
  have e : (lo + 256 * hi) / 16 + (lo + 256 * hi) = (lo / 16 + lo + 16 * (hi % 16)) + 256 * (hi / 16 + hi) := by omega
  simp only [sC, bMask]
  rw [e, and_split (by omega) (by decide), f]
def sF (k s : Nat) : Nat := sC k (sB k (sA k s))
theorem sB_mod : ∀ (k s : Nat), sB k (sA k s) % 16 ≤ 6
  | 0, s => by simp [sB, sA, bMask]
  | k + 1, s => by
    have h : s % 256 < 256 := by omega
    have f := fA ⟨s % 256, h⟩ ⟨0, by omega⟩
    simp only [Bool.and_eq_true, decide_eq_true_eq] at f
    have g := fB ⟨a8 (s % 256), f.2⟩ ⟨0, by omega⟩
    simp only [Bool.and_eq_true, decide_eq_true_eq] at g
    have e := sA_step h k (s / 256)
    rw [show s % 256 + 256 * (s / 256) = s by omega] at e
    rw [e, sB_step f.2]
    omega
theorem sF_step (k s : Nat) : sF (k + 1) s = p8 (s % 256) + 256 * sF k (s / 256) := by
  have h : s % 256 < 256 := by omega
  have f := fA ⟨s % 256, h⟩ ⟨0, by omega⟩
  simp only [Bool.and_eq_true, decide_eq_true_eq] at f
  have g := fB ⟨a8 (s % 256), f.2⟩ ⟨0, by omega⟩
  simp only [Bool.and_eq_true, decide_eq_true_eq] at g
  have e := sA_step h k (s / 256)
  rw [show s % 256 + 256 * (s / 256) = s by omega] at e
  unfold sF p8
  rw [e, sB_step f.2, sC_step g.2.2 k (sB_mod k (s / 256))]
def popK (r s : Nat) : Nat := ((List.range r).filter fun i => s.testBit i).length
theorem popK_step (r s : Nat) : popK (8 + r) s = p8 (s % 256) + popK r (s / 256) := by
  have f := fP ⟨s % 256, by omega⟩
  simp only [Bool.and_eq_true, decide_eq_true_eq] at f
  unfold popK
  rw [List.range_add, List.filter_append, List.length_append, f.1]
  congr 1
  · congr 1
    refine List.filter_congr fun i hi => ?_
    have := List.mem_range.1 hi
    rw [show s % 256 = s % 2 ^ 8 by rfl, Nat.testBit_mod_two_pow, decide_eq_true this, Bool.true_and]
  · rw [List.filter_map, List.length_map]
    congr 1
    refine List.filter_congr fun i _ => ?_
    show s.testBit (8 + i) = (s / 256).testBit i
    rw [show s / 256 = s / 2 ^ 8 by rfl, Nat.testBit_div_two_pow, Nat.add_comm]
theorem swar_sum (s : Nat) : ∃ p0 p1 p2 p3 p4 p5 p6 p7 : Nat, p0 ≤ 8 ∧ p1 ≤ 8 ∧ p2 ≤ 8 ∧ p3 ≤ 8 ∧ p4 ≤ 8 ∧ p5 ≤ 8 ∧ p6 ≤ 8 ∧ p7 ≤ 8 ∧ sF 8 s = p0 + 256 * (p1 + 256 * (p2 + 256 * (p3 + 256 * (p4 + 256 * (p5 + 256 * (p6 + 256 * (p7 + 256 * 0))))))) ∧ pop s = p0 + p1 + p2 + p3 + p4 + p5 + p6 + p7 := by
  have hb : ∀ x : Nat, p8 (x % 256) ≤ 8 := fun x => by
    have f := fP ⟨x % 256, by omega⟩
    simp only [Bool.and_eq_true, decide_eq_true_eq] at f
    exact f.2
  have hz : ∀ x, sF 0 x = 0 := fun x => by simp [sF, sC, bMask]
  have hp : pop s = popK 64 s := rfl
  have q0 : popK 0 (s / 256 / 256 / 256 / 256 / 256 / 256 / 256 / 256) = 0 := rfl
  refine ⟨_, _, _, _, _, _, _, _, hb s, hb (s / 256), hb (s / 256 / 256), hb (s / 256 / 256 / 256), hb (s / 256 / 256 / 256 / 256), hb (s / 256 / 256 / 256 / 256 / 256), hb (s / 256 / 256 / 256 / 256 / 256 / 256), hb (s / 256 / 256 / 256 / 256 / 256 / 256 / 256), ?_, ?_⟩
  · rw [sF_step, sF_step, sF_step, sF_step, sF_step, sF_step, sF_step, sF_step, hz]
  · rw [hp, show (64 : Nat) = 8 + (8 + (8 + (8 + (8 + (8 + (8 + (8 + 0))))))) from rfl, popK_step, popK_step, popK_step, popK_step, popK_step, popK_step, popK_step, popK_step, q0]
    omega
theorem h_add (a b X Y : Nat) : (a + 256 * X) + (b + 256 * Y) = (a + b) + 256 * (X + Y) := by omega
theorem h_div {a : Nat} (X : Nat) (h : a < 256) : (a + 256 * X) / 256 = X := by omega
theorem byte_le {a X A : Nat} (ha : a ≤ 8) (hX : X ≤ A) : a + 256 * X ≤ 8 + 256 * A := by omega
theorem bytes_le {p0 p1 p2 p3 p4 p5 p6 p7 : Nat} (l0 : p0 ≤ 8) (l1 : p1 ≤ 8) (l2 : p2 ≤ 8) (l3 : p3 ≤ 8) (l4 : p4 ≤ 8) (l5 : p5 ≤ 8) (l6 : p6 ≤ 8) (l7 : p7 ≤ 8) : p0 + 256 * (p1 + 256 * (p2 + 256 * (p3 + 256 * (p4 + 256 * (p5 + 256 * (p6 + 256 * (p7 + 256 * 0))))))) ≤ 578721382704613384 :=
  Nat.le_trans (byte_le l0 (byte_le l1 (byte_le l2 (byte_le l3 (byte_le l4 (byte_le l5 (byte_le l6 (byte_le l7 (Nat.le_refl 0))))))))) (by decide)
def wA (s : Int) : Int := uadd (uand (ushr s 1) 6148914691236517205) (uand s 6148914691236517205)
def wB (a : Int) : Int := uadd (uand (ushr a 2) 3689348814741910323) (uand a 3689348814741910323)
def wC (b : Int) : Int := uand (uadd (ushr b 4) b) 1085102592571150095
def wD (c : Int) : Int := uadd c (ushr c 8)
def wE (d : Int) : Int := uadd d (ushr d 16)
def wF (e : Int) : Int := uadd e (ushr e 32)
def wG (f : Int) : Int := IntKind.i64.wrap (BitVec.ofInt 64 (IntKind.i64.wrap f) &&& BitVec.ofInt 64 127).toNat
def swar2 (s : Int) : Int := wG (wF (wE (wD (wC (wB (wA s))))))
theorem ones_run2 (s : Int) (h : Heap) : callWith Tryd.prog (evalCode Tryd.prog 60) 32 #[.int .u64 s] h = some (.int .i64 (swar2 s), h) := by kernel_rfl
theorem fold_bytes {p0 p1 p2 p3 p4 p5 p6 p7 : Nat} (l0 : p0 ≤ 8) (l1 : p1 ≤ 8) (l2 : p2 ≤ 8) (l3 : p3 ≤ 8) (l4 : p4 ≤ 8) (l5 : p5 ≤ 8) (l6 : p6 ≤ 8) (l7 : p7 ≤ 8) {c d e f : Nat} (hc : c = p0 + 256 * (p1 + 256 * (p2 + 256 * (p3 + 256 * (p4 + 256 * (p5 + 256 * (p6 + 256 * (p7 + 256 * 0))))))))
    (hd : d = c + c / 256) (he : e = d + d / 65536) (hf : f = e + e / 4294967296) : f % 128 = p0 + p1 + p2 + p3 + p4 + p5 + p6 + p7 := by
  have d1 : c / 256 = p1 + 256 * (p2 + 256 * (p3 + 256 * (p4 + 256 * (p5 + 256 * (p6 + 256 * (p7 + 256 * 0)))))) := by rw [hc, h_div _ (by omega)]
  rw [d1, hc] at hd
  simp only [h_add] at hd
  simp only [Nat.mul_zero, Nat.add_zero] at hd
  have e1 : d / 65536 = p2 + p3 + 256 * (p3 + p4 + 256 * (p4 + p5 + 256 * (p5 + p6 + 256 * (p6 + p7 + 256 * p7)))) := by
    rw [show d / 65536 = d / 256 / 256 by rw [Nat.div_div_eq_div_mul], hd, h_div _ (by omega), h_div _ (by omega)]
  rw [e1, hd] at he
  simp only [h_add] at he
  have e4 : e / 4294967296 = e / 256 / 256 / 256 / 256 := by rw [Nat.div_div_eq_div_mul, Nat.div_div_eq_div_mul, Nat.div_div_eq_div_mul]
  have hmod : ∀ a X : Nat, a < 128 → (a + 256 * X) % 128 = a := fun a X h => by omega
  obtain ⟨R, hR⟩ : ∃ R, e = (p0 + p1 + (p2 + p3)) + 256 * ((p1 + p2 + (p3 + p4)) + 256 * ((p2 + p3 + (p4 + p5)) + 256 * ((p3 + p4 + (p5 + p6)) + 256 * ((p4 + p5 + (p6 + p7)) + 256 * R)))) := ⟨p5 + p6 + p7 + 256 * (p6 + p7 + 256 * p7), by rw [he]; omega⟩
  rw [e4] at hf
  have q : e / 256 / 256 / 256 / 256 = (p4 + p5 + (p6 + p7)) + 256 * R := by
    rw [hR, h_div _ (by omega), h_div _ (by omega), h_div _ (by omega), h_div _ (by omega)]
  rw [q, hR, h_add] at hf
  rw [hf, hmod _ _ (by omega)]
  omega
theorem ofInt127 : (BitVec.ofInt 64 127).toNat = 127 := by decide
theorem wG_nat {f : Nat} (bf : f < 9223372036854775808) : wG (f : Int) = ((f % 128 : Nat) : Int) := by
  have hw : IntKind.i64.wrap (f : Int) = (f : Int) := by rw [IntKind.wrap_i64]; omega
  have h127 : f &&& 127 = f % 128 := by
    have := Nat.and_two_pow_sub_one_eq_mod f 7
    simpa using this
  have ht : (BitVec.ofInt 64 (f : Int) &&& BitVec.ofInt 64 127).toNat = f % 128 := by
    rw [BitVec.toNat_and, ofInt127, BitVec.ofInt_natCast, BitVec.toNat_ofNat, Nat.mod_eq_of_lt (by omega), h127]
  rw [wG, hw, ht, IntKind.wrap_i64]
  have := Nat.mod_lt f (show 0 < 128 by decide)
  omega
theorem swar_pop {s : Int} (hs : 0 ≤ s ∧ s ≤ 18446744073709551615) : swar2 s = ((pop s.toNat : Nat) : Int) := by
  obtain ⟨x, rfl⟩ : ∃ x : Nat, s = (x : Int) := ⟨s.toNat, by omega⟩
  simp only [Int.toNat_natCast]
  obtain ⟨p0, p1, p2, p3, p4, p5, p6, p7, l0, l1, l2, l3, l4, l5, l6, l7, hF, hP⟩ := swar_sum x
  have m0 : bMask 85 8 = 6148914691236517205 := by decide
  have m1 : bMask 51 8 = 3689348814741910323 := by decide
  have m2 : bMask 15 8 = 1085102592571150095 := by decide
  have p1' : 2 ^ (1 : Int).toNat = 2 := by decide
  have p2' : 2 ^ (2 : Int).toNat = 4 := by decide
  have p4' : 2 ^ (4 : Int).toNat = 16 := by decide
  have p8' : 2 ^ (8 : Int).toNat = 256 := by decide
  have p16' : 2 ^ (16 : Int).toNat = 65536 := by decide
  have p32' : 2 ^ (32 : Int).toNat = 4294967296 := by decide
  have sh1 : ∀ y : Nat, ushr (y : Int) 1 = ((y / 2 : Nat) : Int) := fun y => by rw [ushr_eq (by omega), p1']; omega
  have sh2 : ∀ y : Nat, ushr (y : Int) 2 = ((y / 4 : Nat) : Int) := fun y => by rw [ushr_eq (by omega), p2']; omega
  have sh4 : ∀ y : Nat, ushr (y : Int) 4 = ((y / 16 : Nat) : Int) := fun y => by rw [ushr_eq (by omega), p4']; omega
  have sh8 : ∀ y : Nat, ushr (y : Int) 8 = ((y / 256 : Nat) : Int) := fun y => by rw [ushr_eq (by omega), p8']; omega
  have sh16 : ∀ y : Nat, ushr (y : Int) 16 = ((y / 65536 : Nat) : Int) := fun y => by rw [ushr_eq (by omega), p16']; omega
  have sh32 : ∀ y : Nat, ushr (y : Int) 32 = ((y / 4294967296 : Nat) : Int) := fun y => by rw [ushr_eq (by omega), p32']; omega
  obtain ⟨M0, hM0⟩ : ∃ M0 : Nat, M0 = 6148914691236517205 := ⟨_, rfl⟩
  obtain ⟨M1, hM1⟩ : ∃ M1 : Nat, M1 = 3689348814741910323 := ⟨_, rfl⟩
  obtain ⟨M2, hM2⟩ : ∃ M2 : Nat, M2 = 1085102592571150095 := ⟨_, rfl⟩
  have i0 : (6148914691236517205 : Int) = (M0 : Int) := by omega
  have i1 : (3689348814741910323 : Int) = (M1 : Int) := by omega
  have i2 : (1085102592571150095 : Int) = (M2 : Int) := by omega
  rw [← hM0] at m0
  rw [← hM1] at m1
  rw [← hM2] at m2
  have ad : ∀ a b : Nat, a + b < 18446744073709551616 → uadd (a : Int) (b : Int) = ((a + b : Nat) : Int) := fun a b h => by
    simp only [uadd, IntKind.wrap_u64]; omega
  have an : ∀ a b : Nat, a < 18446744073709551616 → b < 18446744073709551616 → uand (a : Int) (b : Int) = ((a &&& b : Nat) : Int) := fun a b h1 h2 => uand_nat h1 h2
  have eA : uadd (uand (ushr (x : Int) 1) 6148914691236517205) (uand (x : Int) 6148914691236517205) = ((sA 8 x : Nat) : Int) := by
    have h1 := Nat.and_le_right (n := x / 2) (m := M0)
    have h2 := Nat.and_le_right (n := x) (m := M0)
    rw [i0, sh1, an _ _ (by omega) (by omega), an _ _ (by omega) (by omega), ad _ _ (by omega)]
    unfold sA; rw [m0]
  have bA : sA 8 x ≤ 12297829382473034410 := by
    unfold sA; rw [m0]
    have h1 := Nat.and_le_right (n := x / 2) (m := M0)
    have h2 := Nat.and_le_right (n := x) (m := M0)
    omega
  obtain ⟨a, ha⟩ : ∃ a, a = sA 8 x := ⟨_, rfl⟩
  rw [← ha] at eA bA
  have eB : uadd (uand (ushr (a : Int) 2) 3689348814741910323) (uand (a : Int) 3689348814741910323) = ((sB 8 a : Nat) : Int) := by
    have h1 := Nat.and_le_right (n := a / 4) (m := M1)
    have h2 := Nat.and_le_right (n := a) (m := M1)
    rw [i1, sh2, an _ _ (by omega) (by omega), an _ _ (by omega) (by omega), ad _ _ (by omega)]
    unfold sB; rw [m1]
  have bB : sB 8 a ≤ 7378697629483820646 := by
    unfold sB; rw [m1]
    have h1 := Nat.and_le_right (n := a / 4) (m := M1)
    have h2 := Nat.and_le_right (n := a) (m := M1)
    omega
  obtain ⟨b, hb⟩ : ∃ b, b = sB 8 a := ⟨_, rfl⟩
  rw [← hb] at eB bB
  have eC : uand (uadd (ushr (b : Int) 4) (b : Int)) 1085102592571150095 = ((sC 8 b : Nat) : Int) := by
    rw [i2, sh4, ad _ _ (by omega), an _ _ (by omega) (by omega)]
    unfold sC; rw [m2]
  have hc : sC 8 b = sF 8 x := by rw [hb, ha]; rfl
  rw [hc, hF] at eC
  obtain ⟨c, hcc⟩ : ∃ c, c = p0 + 256 * (p1 + 256 * (p2 + 256 * (p3 + 256 * (p4 + 256 * (p5 + 256 * (p6 + 256 * (p7 + 256 * 0))))))) := ⟨_, rfl⟩
  rw [← hcc] at eC
  obtain ⟨d, hd⟩ : ∃ d, d = c + c / 256 := ⟨_, rfl⟩
  have eD : uadd (c : Int) (ushr (c : Int) 8) = (d : Int) := by
    have bc : c ≤ 578721382704613384 := by rw [hcc]; exact bytes_le l0 l1 l2 l3 l4 l5 l6 l7
    rw [sh8, ad _ _ (by have := Nat.div_le_self c 256; omega), hd]
  obtain ⟨e, he⟩ : ∃ e, e = d + d / 65536 := ⟨_, rfl⟩
  have eE : uadd (d : Int) (ushr (d : Int) 16) = (e : Int) := by
    rw [sh16, ad _ _ (by have := Nat.div_le_self d 65536; omega), he]
  obtain ⟨f, hf⟩ : ∃ f, f = e + e / 4294967296 := ⟨_, rfl⟩
  have eF : uadd (e : Int) (ushr (e : Int) 32) = (f : Int) := by
    rw [sh32, ad _ _ (by have := Nat.div_le_self e 4294967296; omega), hf]
  have vf := fold_bytes l0 l1 l2 l3 l4 l5 l6 l7 hcc hd he hf
  have bc : c ≤ 578721382704613384 := by rw [hcc]; exact bytes_le l0 l1 l2 l3 l4 l5 l6 l7
  have bd : d ≤ 2 * c := by rw [hd]; have := Nat.div_le_self c 256; omega
  have be : e ≤ 2 * d := by rw [he]; have := Nat.div_le_self d 65536; omega
  have bf : f < 9223372036854775808 := by rw [hf]; have := Nat.div_le_self e 4294967296; omega
  have gA : wA (x : Int) = (a : Int) := eA
  have gB : wB (a : Int) = (b : Int) := eB
  have gC : wC (b : Int) = (c : Int) := eC
  have gD : wD (c : Int) = (d : Int) := eD
  have gE : wE (d : Int) = (e : Int) := eE
  have gF : wF (e : Int) = (f : Int) := eF
  rw [swar2, gA, gB, gC, gD, gE, gF, hP, ← vf]
  exact wG_nat bf
theorem ones_ok (h : Heap) (s : Int) (hs : 0 ≤ s ∧ s ≤ 18446744073709551615) : WCall Tryd.prog 32 #[.int .u64 s] h (fun v h1 => v = .int .i64 ((pop s.toNat : Nat) : Int) ∧ h = h1) := by
  have r := ones_run2 s h
  rw [swar_pop hs] at r
  exact ⟨_, _, evalCall_sound (by kernel_rfl) 60 _ _ _ _ _ r, rfl, rfl⟩
end C11
