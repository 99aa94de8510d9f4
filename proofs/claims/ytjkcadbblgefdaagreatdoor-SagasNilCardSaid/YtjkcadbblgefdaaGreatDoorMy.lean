/- Arguments that can be read, in the canonical heap. -/
import Derived.Test.YtjkcadbblgefdaaGreatDoorTj
import Derived.Test.YtjkcadbblgefdaaGreatDoorBmf
import Derived.KernelRfl
open Go Go.AM Go.Proofs
namespace C29
theorem und1_5 : Tryz.prog.underlying 5 = some (.int .u8) := by kernel_rfl
theorem und1_69 : Tryz.prog.underlying 69 = some (.slice 71) := by kernel_rfl
theorem und1_71 : Tryz.prog.underlying 71 = some (.int .u16) := by kernel_rfl
theorem und1_77 : Tryz.prog.underlying 77 = some (.slice 81) := by kernel_rfl
theorem open81 {H : Type} {enc : TypeId × Value → H} {W : World} {cs : List Value} (h : Reads enc Tryz.prog W 81 cs) : ∃ (n0 : Int) (n1 : Int) (n2 : Int) (n3 : Int), cs = [.int .u8 n0, .int .u8 n1, .int .u8 n2, .int .u8 n3] ∧ (IntKind.min .u8 ≤ n0 ∧ n0 ≤ IntKind.max .u8) ∧ (IntKind.min .u8 ≤ n1 ∧ n1 ≤ IntKind.max .u8) ∧ (IntKind.min .u8 ≤ n2 ∧ n2 ≤ IntKind.max .u8) ∧ (IntKind.min .u8 ≤ n3 ∧ n3 ≤ IntKind.max .u8) ∧ True := by
  have hl : cs.length = 4 := (reads_size (fs := (match Tryz.prog.underlying 81 with | some (.struct fs) => fs | _ => #[])) (by kernel_rfl) h).trans (by kernel_rfl)
  match cs, hl, h with
  | [c0, c1, c2, c3], _, h =>
    obtain ⟨w0, e0, r0⟩ := reads_at 12 (o := 0) (u := 5) h (by kernel_rfl)
    have q0 : c0 = w0 := by simpa using e0
    obtain ⟨n0, z0, l0⟩ := reads_int und1_5 r0
    simp only [List.cons.injEq, and_true] at z0; subst q0; subst z0
    obtain ⟨w1, e1, r1⟩ := reads_at 12 (o := 1) (u := 5) h (by kernel_rfl)
    have q1 : c1 = w1 := by simpa using e1
    obtain ⟨n1, z1, l1⟩ := reads_int und1_5 r1
    simp only [List.cons.injEq, and_true] at z1; subst q1; subst z1
    obtain ⟨w2, e2, r2⟩ := reads_at 12 (o := 2) (u := 5) h (by kernel_rfl)
    have q2 : c2 = w2 := by simpa using e2
    obtain ⟨n2, z2, l2⟩ := reads_int und1_5 r2
    simp only [List.cons.injEq, and_true] at z2; subst q2; subst z2
    obtain ⟨w3, e3, r3⟩ := reads_at 12 (o := 3) (u := 5) h (by kernel_rfl)
    have q3 : c3 = w3 := by simpa using e3
    obtain ⟨n3, z3, l3⟩ := reads_int und1_5 r3
    simp only [List.cons.injEq, and_true] at z3; subst q3; subst z3
    exact ⟨_, _, _, _, rfl, l0, l1, l2, l3, trivial⟩
theorem slack0 (W : World) (L : List Addr) (b : Nat) : slackElem (heap0 W L) b = none := by
  have key : ∀ o, (heap0 W L)[b]? = some o → isSlack (some o) = false := by
    intro o hb
    simp only [heap0] at hb
    rw [Array.getElem?_append] at hb
    split at hb
    · rw [Array.getElem?_map] at hb
      cases ho : W.heap[b]? with
      | none => rw [ho] at hb; cases hb
      | some o' =>
        rw [ho] at hb
        simp only [Option.map_some, Option.some.injEq] at hb
        subst hb
        cases o' with
        | cells c e fr => exact isSlack_canon _ _ _
        | _ => rfl
    · simp only [List.getElem?_toArray, List.getElem?_map] at hb
      simp only [Option.map_eq_some_iff] at hb
      obtain ⟨a, _, rfl⟩ := hb
      rfl
  unfold slackElem
  split
  · rename_i c e fr hb
    have := key _ hb
    simp only [isSlack, decide_eq_false_iff_not] at this
    rw [if_neg this]
  · rfl
def hc16 (x : Int) : Array Value := #[.int .u16 x]
theorem hc16_size (x : Int) : (hc16 x).size = 1 := rfl
theorem bridge_deeds {H : Type} {enc : TypeId × Value → H} {W : World} {L : List Addr} {v : Value} (h : Reads enc Tryz.prog W 77 [v]) (hv : Listed L v) :
    ∃ (xs : List DeedM) (sa : Option Addr) (cp : Nat), canonV W L v = .slice sa xs.length cp ∧ LAt (heap0 W L) deedc 4 xs (.slice sa xs.length cp) ∧ xs.length ≤ 9223372036854775807 ∧ ∀ x ∈ xs, DOk x := by
  obtain ⟨xs, sa, cp, e, k, l, q⟩ := bridge_slice (Q := DOk) und1_77 (by kernel_rfl) (by decide) deedc_size h hv fun cs hr _ => by
    obtain ⟨n0, n1, n2, n3, rfl, l0, l1, l2, l3, _⟩ := open81 hr
    exact ⟨⟨n0, n1, n2, n3⟩, by simp [deedc, canonV], by simpa [DOk, IntKind.min, IntKind.max, IntKind.signed, IntKind.bits] using And.intro l0 (And.intro l1 (And.intro l2 l3))⟩
  exact ⟨xs, sa, cp, e, C29.lat_of k fun b _ => slack0 W L b, l, q⟩
theorem bridge_nums {H : Type} {enc : TypeId × Value → H} {W : World} {L : List Addr} {v : Value} (h : Reads enc Tryz.prog W 69 [v]) (hv : Listed L v) :
    ∃ (xs : List Int) (sa : Option Addr) (cp : Nat), canonV W L v = .slice sa xs.length cp ∧ LAt (heap0 W L) hc16 1 xs (.slice sa xs.length cp) ∧ xs.length ≤ 9223372036854775807 ∧ ∀ x ∈ xs, 0 ≤ x ∧ x ≤ 65535 := by
  obtain ⟨xs, sa, cp, e, k, l, q⟩ := bridge_slice (Q := fun x : Int => 0 ≤ x ∧ x ≤ 65535) und1_69 (by kernel_rfl) (by decide) hc16_size h hv fun cs hr _ => by
    obtain ⟨n0, rfl, l0⟩ := reads_int und1_71 hr
    exact ⟨n0, by simp [hc16, canonV], by simpa [IntKind.min, IntKind.max, IntKind.signed, IntKind.bits] using l0⟩
  exact ⟨xs, sa, cp, e, C29.lat_of k fun b _ => slack0 W L b, l, q⟩
end C29
