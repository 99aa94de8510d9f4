/- Numbers of the chapter, and their bits. -/
import Derived.Test.YtpagkfbpgppeiaaProg
import Derived.Test.YtpagkfbpgppeiaaBmg
import Derived.Laws.Bits64
import Derived.Laws.BitsLemmas
import Derived.Lib.BitFns
import Derived.Lib.TrailingZeros
import Derived.KernelRfl
open Go Go.AM Go.Proofs
namespace C14
abbrev vI (n : Int) : Value := .int .i64 n
abbrev vS (s : ByteArray) : Value := .string s
abbrev vB (b : Bool) : Value := .bool b
abbrev vP (b o : Nat) : Value := .pointer (some ⟨b, o, none⟩)
abbrev vL (a : Option Addr) (n c : Nat) : Value := .slice a n c
abbrev vA (c : Array Value) : Value := .agg c
abbrev vT (c : Array Value) : Value := .tuple c
abbrev vZ : Value := .tuple #[]
abbrev vN : Value := .pointer none
abbrev vU : Value := undef
section
variable {a b : Int} (r i t : Nat)
abbrev eqT (c : a = b) : Ev := Go.AM.eqT (P := Try.prog) (k := .i64) r i t c
abbrev eqF (c : ¬ a = b) : Ev := Go.AM.eqF (P := Try.prog) (k := .i64) r i t c
abbrev neT (c : ¬ a = b) : Ev := Go.AM.neT (P := Try.prog) (k := .i64) r i t c
abbrev neF (c : a = b) : Ev := Go.AM.neF (P := Try.prog) (k := .i64) r i t c
abbrev ltT (c : a < b) : Ev := Go.AM.ltT (P := Try.prog) (k := .i64) r i t c
abbrev ltF (c : ¬ a < b) : Ev := Go.AM.ltF (P := Try.prog) (k := .i64) r i t c
abbrev leT (c : a ≤ b) : Ev := Go.AM.leT (P := Try.prog) (k := .i64) r i t c
abbrev leF (c : ¬ a ≤ b) : Ev := Go.AM.leF (P := Try.prog) (k := .i64) r i t c
abbrev gtT (c : b < a) : Ev := Go.AM.gtT (P := Try.prog) (k := .i64) r i t c
abbrev gtF (c : ¬ b < a) : Ev := Go.AM.gtF (P := Try.prog) (k := .i64) r i t c
abbrev geT (c : b ≤ a) : Ev := Go.AM.geT (P := Try.prog) (k := .i64) r i t c
abbrev geF (c : ¬ b ≤ a) : Ev := Go.AM.geF (P := Try.prog) (k := .i64) r i t c
end
section
variable {a b : ByteArray} (r i t : Nat)
abbrev seT (c : a = b) : Ev := Go.AM.seT (P := Try.prog) r i t c
abbrev seF (c : ¬ a = b) : Ev := Go.AM.seF (P := Try.prog) r i t c
abbrev snT (c : ¬ a = b) : Ev := Go.AM.snT (P := Try.prog) r i t c
abbrev snF (c : a = b) : Ev := Go.AM.snF (P := Try.prog) r i t c
end
theorem sb_eql (b : Bool) : binA Try.prog .eql 4 (.bool b) (.bool b) = some (.bool true) := by cases b <;> kernel_rfl
theorem sb_neq (b : Bool) : binA Try.prog .neq 4 (.bool b) (.bool b) = some (.bool false) := by cases b <;> kernel_rfl
def icell (n : Int) : Array Value := #[.int .i64 n]
theorem icell_size (n : Int) : (icell n).size = 1 := rfl
def ucell (n : Int) : Array Value := #[.int .u64 n]
theorem ucell_size (n : Int) : (ucell n).size = 1 := rfl
def uand (a b : Int) : Int := IntKind.u64.wrap (BitVec.ofInt 64 a &&& BitVec.ofInt 64 b).toNat
def uor (a b : Int) : Int := IntKind.u64.wrap (BitVec.ofInt 64 a ||| BitVec.ofInt 64 b).toNat
def uxor (a b : Int) : Int := IntKind.u64.wrap (BitVec.ofInt 64 a ^^^ BitVec.ofInt 64 b).toNat
def uandnot (a b : Int) : Int := IntKind.u64.wrap (BitVec.ofInt 64 a &&& ~~~BitVec.ofInt 64 b).toNat
def ushl (a n : Int) : Int := IntKind.u64.wrap (a * 2 ^ (min n.toNat IntKind.u64.bits))
def ushr (a n : Int) : Int := a.fdiv (2 ^ (min n.toNat IntKind.u64.bits))
def uadd (a b : Int) : Int := IntKind.u64.wrap (a + b)
def usub (a b : Int) : Int := IntKind.u64.wrap (a - b)
def umul (a b : Int) : Int := IntKind.u64.wrap (a * b)
def uneg (a : Int) : Int := IntKind.u64.wrap (0 - a)
section
variable {t : TypeId} {a b n : Int} {k : IntKind}
theorem and_raw : binA Try.prog .and t (.int .u64 a) (.int .u64 b) = some (.int .u64 (uand a b)) := by simp only [binA, intBinA]; rw [if_neg (by decide), if_pos trivial]; rfl
theorem or_raw : binA Try.prog .or t (.int .u64 a) (.int .u64 b) = some (.int .u64 (uor a b)) := by simp only [binA, intBinA]; rw [if_neg (by decide), if_pos trivial]; rfl
theorem xor_raw : binA Try.prog .xor t (.int .u64 a) (.int .u64 b) = some (.int .u64 (uxor a b)) := by simp only [binA, intBinA]; rw [if_neg (by decide), if_pos trivial]; rfl
theorem andNot_raw : binA Try.prog .andNot t (.int .u64 a) (.int .u64 b) = some (.int .u64 (uandnot a b)) := by simp only [binA, intBinA]; rw [if_neg (by decide), if_pos trivial]; rfl
theorem add_raw : binA Try.prog .add t (.int .u64 a) (.int .u64 b) = some (.int .u64 (uadd a b)) := by simp [binA, intBinA, uadd]
theorem sub_raw : binA Try.prog .sub t (.int .u64 a) (.int .u64 b) = some (.int .u64 (usub a b)) := by simp [binA, intBinA, usub]
theorem mul_raw : binA Try.prog .mul t (.int .u64 a) (.int .u64 b) = some (.int .u64 (umul a b)) := by simp [binA, intBinA, umul]
theorem shl_raw (h : 0 ≤ n) : binA Try.prog .shl t (.int .u64 a) (.int k n) = some (.int .u64 (ushl a n)) := by
  simp only [binA, shiftA, ushl]
  rw [if_pos (.inl trivial), if_neg (by omega)]
theorem shr_raw (h : 0 ≤ n) : binA Try.prog .shr t (.int .u64 a) (.int k n) = some (.int .u64 (ushr a n)) := by
  simp only [binA, shiftA, ushr]
  rw [if_pos (.inr trivial), if_neg (by omega)]
theorem shr_lit {k : Nat} {d : Int} (hd : d = 2 ^ k) (hk : k ≤ 63) (h : 0 ≤ a) : binA Try.prog .shr t (.int .u64 a) (.int .u64 (k : Int)) = some (.int .u64 (a / d)) := by
  rw [shr_raw (by omega), hd]
  simp only [ushr]
  rw [show min ((k : Int)).toNat IntKind.u64.bits = k by simp [IntKind.bits]; omega, Int.fdiv_eq_ediv_of_nonneg _ (Int.le_of_lt (Int.pow_pos (by decide)))]
theorem urem_raw (h : 0 ≤ a) (hb : 0 < b) : binA Try.prog .rem t (.int .u64 a) (.int .u64 b) = some (.int .u64 (a % b)) := by
  simp only [binA, intBinA]
  rw [if_neg (by decide), if_pos trivial, if_neg (by omega), Int.tmod_eq_emod_of_nonneg h]
theorem half_raw (h : 0 ≤ a) (h1 : a ≤ 9223372036854775807) : binA Try.prog .quo t (.int .i64 a) (.int .i64 2) = some (.int .i64 (a / 2)) := by
  simp only [binA, intBinA]
  rw [if_neg (by decide), if_pos trivial, if_neg (by decide), Int.tdiv_eq_ediv_of_nonneg h, IntKind.wrap_i64]
  congr 2; omega
end
/-- What the library's table of deBruijn holds. -/
def tabL : List Int := [0, 1, 56, 2, 57, 49, 28, 3, 61, 58, 42, 50, 38, 29, 17, 4, 62, 47, 59, 36, 45, 43, 51, 22, 53, 39, 33, 30, 24, 18, 12, 5,
  63, 55, 48, 27, 60, 41, 37, 16, 46, 35, 44, 21, 52, 32, 23, 11, 54, 26, 40, 15, 34, 20, 31, 10, 25, 14, 19, 9, 13, 8, 7, 6]
def tabRow : Obj := .cells (tabL.map fun z => Value.int .u8 z).toArray 64 (0, 0)
/-- The nodes of a set. -/
def nodesL (s : Nat) : List Nat := (List.range 64).filter fun i => s.testBit i
def pop (s : Nat) : Nat := (nodesL s).length
theorem ushl_one {n : Int} (h0 : 0 ≤ n) (h1 : n ≤ 63) : ushl 1 n = ((2 ^ n.toNat : Nat) : Int) := by
  have hp : 2 ^ n.toNat ≤ 2 ^ 63 := Nat.pow_le_pow_right (by decide) (by omega)
  simp only [ushl]
  rw [show min n.toNat IntKind.u64.bits = n.toNat by simp [IntKind.bits]; omega, IntKind.wrap_u64, Int.one_mul]
  have : ((2 : Int) ^ n.toNat) = ((2 ^ n.toNat : Nat) : Int) := by simp
  rw [this]
  obtain ⟨m, hm⟩ : ∃ m, m = 2 ^ n.toNat := ⟨_, rfl⟩
  rw [← hm] at hp ⊢
  omega
theorem uand_nat {a b : Nat} (ha : a < 18446744073709551616) (hb : b < 18446744073709551616) : uand a b = ((a &&& b : Nat) : Int) := by
  have h := Nat.and_le_left (n := a) (m := b)
  simp only [uand, IntKind.wrap_u64, BitVec.ofInt_natCast, BitVec.toNat_and, BitVec.toNat_ofNat]
  rw [Nat.mod_eq_of_lt (by omega), Nat.mod_eq_of_lt (by omega)]
  omega
end C14
