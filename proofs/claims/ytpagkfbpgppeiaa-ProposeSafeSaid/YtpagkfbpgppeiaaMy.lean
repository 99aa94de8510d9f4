/- Promises that can be read, in the canonical heap. -/
import Derived.Test.YtpagkfbpgppeiaaMc
import Derived.Test.YtpagkfbpgppeiaaBmf
import Derived.KernelRfl
open Go Go.AM Go.Proofs
namespace C14
/-- A promise of a script. -/
structure ToldM where
  node : Int
  upto : Int
  l : List EntM
abbrev ToldA := ToldM × Option Addr × Nat
/-- Where its list lies. -/
def tav (x : ToldA) : Value := .slice x.2.1 x.1.l.length x.2.2
def toldc (x : ToldA) : Array Value := #[.int .i64 x.1.node, .int .i64 x.1.upto, .slice x.2.1 x.1.l.length x.2.2]
theorem toldc_size (x : ToldA) : (toldc x).size = 3 := rfl
def bcell (x : Int) : Array Value := #[.int .u8 x]
theorem bcell_size (x : Int) : (bcell x).size = 1 := rfl
def I64 (x : Int) : Prop := -9223372036854775808 ≤ x ∧ x ≤ 9223372036854775807
def toldR (x : ToldA) : Prop := I64 x.1.node ∧ I64 x.1.upto ∧ x.1.l.length ≤ 9223372036854775807
theorem und1_3 : Try.prog.underlying 3 = some (.int .i64) := by kernel_rfl
theorem und1_5 : Try.prog.underlying 5 = some (.int .u8) := by kernel_rfl
theorem und1_9 : Try.prog.underlying 9 = some (.string) := by kernel_rfl
theorem und1_34 : Try.prog.underlying 34 = some (.slice 38) := by kernel_rfl
theorem und1_43 : Try.prog.underlying 43 = some (.slice 5) := by kernel_rfl
theorem und1_46 : Try.prog.underlying 46 = some (.slice 49) := by kernel_rfl
theorem open49 {H : Type} {enc : TypeId × Value → H} {W : World} {cs : List Value} (h : Reads enc Try.prog W 49 cs) : ∃ (n0 : Int) (n1 : Int) (v2 : Value), cs = [.int .i64 n0, .int .i64 n1, v2] ∧ (IntKind.min .i64 ≤ n0 ∧ n0 ≤ IntKind.max .i64) ∧ (IntKind.min .i64 ≤ n1 ∧ n1 ≤ IntKind.max .i64) ∧ Reads enc Try.prog W 34 [v2] ∧ True := by
  have hl : cs.length = 3 := (reads_size (fs := (match Try.prog.underlying 49 with | some (.struct fs) => fs | _ => #[])) (by kernel_rfl) h).trans (by kernel_rfl)
  match cs, hl, h with
  | [c0, c1, c2], _, h =>
    obtain ⟨w0, e0, r0⟩ := reads_at 12 (o := 0) (u := 3) h (by kernel_rfl)
    have q0 : c0 = w0 := by simpa using e0
    obtain ⟨n0, z0, l0⟩ := reads_int und1_3 r0
    simp only [List.cons.injEq, and_true] at z0; subst q0; subst z0
    obtain ⟨w1, e1, r1⟩ := reads_at 12 (o := 1) (u := 3) h (by kernel_rfl)
    have q1 : c1 = w1 := by simpa using e1
    obtain ⟨n1, z1, l1⟩ := reads_int und1_3 r1
    simp only [List.cons.injEq, and_true] at z1; subst q1; subst z1
    obtain ⟨w2, e2, r2⟩ := reads_at 12 (o := 2) (u := 34) h (by kernel_rfl)
    have q2 : c2 = w2 := by simpa using e2
    subst q2
    exact ⟨_, _, _, rfl, l0, l1, r2, trivial⟩
theorem open38 {H : Type} {enc : TypeId × Value → H} {W : World} {cs : List Value} (h : Reads enc Try.prog W 38 cs) : ∃ (n0 : Int) (n1 : Int) (n2 : Int) (s3 : ByteArray), cs = [.int .i64 n0, .int .i64 n1, .int .i64 n2, .string s3] ∧ (IntKind.min .i64 ≤ n0 ∧ n0 ≤ IntKind.max .i64) ∧ (IntKind.min .i64 ≤ n1 ∧ n1 ≤ IntKind.max .i64) ∧ (IntKind.min .i64 ≤ n2 ∧ n2 ≤ IntKind.max .i64) ∧ s3.size ≤ maxLen ∧ True := by
  have hl : cs.length = 4 := (reads_size (fs := (match Try.prog.underlying 38 with | some (.struct fs) => fs | _ => #[])) (by kernel_rfl) h).trans (by kernel_rfl)
  match cs, hl, h with
  | [c0, c1, c2, c3], _, h =>
    obtain ⟨w0, e0, r0⟩ := reads_at 12 (o := 0) (u := 3) h (by kernel_rfl)
    have q0 : c0 = w0 := by simpa using e0
    obtain ⟨n0, z0, l0⟩ := reads_int und1_3 r0
    simp only [List.cons.injEq, and_true] at z0; subst q0; subst z0
    obtain ⟨w1, e1, r1⟩ := reads_at 12 (o := 1) (u := 3) h (by kernel_rfl)
    have q1 : c1 = w1 := by simpa using e1
    obtain ⟨n1, z1, l1⟩ := reads_int und1_3 r1
    simp only [List.cons.injEq, and_true] at z1; subst q1; subst z1
    obtain ⟨w2, e2, r2⟩ := reads_at 12 (o := 2) (u := 3) h (by kernel_rfl)
    have q2 : c2 = w2 := by simpa using e2
    obtain ⟨n2, z2, l2⟩ := reads_int und1_3 r2
    simp only [List.cons.injEq, and_true] at z2; subst q2; subst z2
    obtain ⟨w3, e3, r3⟩ := reads_at 12 (o := 3) (u := 9) h (by kernel_rfl)
    have q3 : c3 = w3 := by simpa using e3
    obtain ⟨s3, z3, l3⟩ := reads_string und1_9 r3
    simp only [List.cons.injEq, and_true] at z3; subst q3; subst z3
    exact ⟨_, _, _, _, rfl, l0, l1, l2, l3, trivial⟩
theorem open29 {H : Type} {enc : TypeId × Value → H} {W : World} {cs : List Value} (h : Reads enc Try.prog W 29 cs) : ∃ (n0 : Int) (n1 : Int), cs = [.int .i64 n0, .int .i64 n1] ∧ (IntKind.min .i64 ≤ n0 ∧ n0 ≤ IntKind.max .i64) ∧ (IntKind.min .i64 ≤ n1 ∧ n1 ≤ IntKind.max .i64) ∧ True := by
  have hl : cs.length = 2 := (reads_size (fs := (match Try.prog.underlying 29 with | some (.struct fs) => fs | _ => #[])) (by kernel_rfl) h).trans (by kernel_rfl)
  match cs, hl, h with
  | [c0, c1], _, h =>
    obtain ⟨w0, e0, r0⟩ := reads_at 12 (o := 0) (u := 3) h (by kernel_rfl)
    have q0 : c0 = w0 := by simpa using e0
    obtain ⟨n0, z0, l0⟩ := reads_int und1_3 r0
    simp only [List.cons.injEq, and_true] at z0; subst q0; subst z0
    obtain ⟨w1, e1, r1⟩ := reads_at 12 (o := 1) (u := 3) h (by kernel_rfl)
    have q1 : c1 = w1 := by simpa using e1
    obtain ⟨n1, z1, l1⟩ := reads_int und1_3 r1
    simp only [List.cons.injEq, and_true] at z1; subst q1; subst z1
    exact ⟨_, _, rfl, l0, l1, trivial⟩
theorem bridge_ents {H : Type} {enc : TypeId × Value → H} {W : World} {L : List Addr} {v : Value} (h : Reads enc Try.prog W 34 [v]) (hv : Listed L v) :
    ∃ (xs : List EntM) (sa : Option Addr) (cp : Nat), canonV W L v = .slice sa xs.length cp ∧ SliceAt (heap0 W L) entc 4 xs (.slice sa xs.length cp) ∧ xs.length ≤ maxLen := by
  obtain ⟨xs, sa, cp, e, k, l, _⟩ := bridge_slice (Q := fun _ : EntM => True) und1_34 (by kernel_rfl) (by decide) entc_size h hv fun cs hr _ => by
    obtain ⟨n0, n1, n2, s3, rfl, _⟩ := open38 hr
    exact ⟨⟨n0, n1, n2, s3⟩, by simp [entc, canonV], trivial⟩
  exact ⟨xs, sa, cp, e, k, l⟩
theorem bridge_bytes {H : Type} {enc : TypeId × Value → H} {W : World} {L : List Addr} {v : Value} (h : Reads enc Try.prog W 43 [v]) (hv : Listed L v) :
    ∃ (xs : List Int) (sa : Option Addr) (cp : Nat), canonV W L v = .slice sa xs.length cp ∧ SliceAt (heap0 W L) bcell 1 xs (.slice sa xs.length cp) ∧ xs.length ≤ 9223372036854775807 ∧ ∀ x ∈ xs, 0 ≤ x ∧ x ≤ 255 :=
  bridge_slice und1_43 (by kernel_rfl) (by decide) bcell_size h hv fun cs hr _ => by
    obtain ⟨n, rfl, l0⟩ := reads_int und1_5 hr
    exact ⟨n, by simp [bcell, canonV], by simpa [IntKind.min, IntKind.max, IntKind.signed, IntKind.bits] using l0⟩
/-- Promises that can be read. -/
theorem bridge_told {H : Type} {enc : TypeId × Value → H} {W : World} {args : Array Value} {v : Value} (h : Reads enc Try.prog W 46 [v]) (hv : Listed (badL W args) v) :
    ∃ (xs : List ToldA) (sa : Option Addr) (cp : Nat), canonV W (badL W args) v = .slice sa xs.length cp ∧ SliceAt (heap0 W (badL W args)) toldc 3 xs (.slice sa xs.length cp) ∧ xs.length ≤ 9223372036854775807 ∧
      SubAt (heap0 W (badL W args)) entc 4 (fun x : ToldA => x.1.l) tav xs ∧ ∀ x ∈ xs, toldR x := by
  obtain ⟨xs, sa, cp, e, k, l, q⟩ := bridge_slice (Q := fun x : ToldA => SliceAt (heap0 W (badL W args)) entc 4 x.1.l (tav x) ∧ toldR x) und1_46 (by kernel_rfl) (by decide) toldc_size h hv fun cs hr hocc => by
    obtain ⟨n0, n1, v2, rfl, l0, l1, r2, _⟩ := open49 hr
    obtain ⟨bb, cc, ee, ff, g1, g2⟩ := hocc v2 (by simp)
    obtain ⟨ss, sa, cp, e, k, l⟩ := bridge_ents r2 (listed_heap g1 g2)
    exact ⟨(⟨n0, n1, ss⟩, sa, cp), by simp [toldc, canonV, e], k, by simpa [I64, IntKind.min, IntKind.max, IntKind.signed, IntKind.bits] using l0, by simpa [I64, IntKind.min, IntKind.max, IntKind.signed, IntKind.bits] using l1, l⟩
  exact ⟨xs, sa, cp, e, k, l, fun x hx => (q x hx).1, fun x hx => (q x hx).2⟩
end C14
