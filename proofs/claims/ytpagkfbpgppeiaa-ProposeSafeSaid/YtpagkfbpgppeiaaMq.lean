/- Proposers in the laws. -/
import Derived.Test.YtpagkfbpgppeiaaMk
import Derived.Test.YtpagkfbpgppeiaaMp
import Derived.KernelRfl
open Go Go.AM Go.Proofs
namespace C14
theorem add_yes (h : Heap) {F : Nat → Prop} {t : Nat} {m : PropM} (hT : PropAt h F t m) (hm : m.ok) (xs : List EntM) (sa : Option Addr) (cp : Nat) (hl : SliceAt h entc 4 xs (.slice sa xs.length cp)) (hlen : xs.length ≤ 1048576) (k u : Int) (h0 : addE m k xs u = 0) : WCall Try.prog 12 #[.pointer (some ⟨t, 0, none⟩), .int .i64 k, .slice sa xs.length cp, .int .i64 u] h
    (fun v h1 => v = .tuple #[.bool (readyB (m.told k.toNat xs u)), .int .i64 0] ∧ Chg (fun b => b = t) h h1 ∧ ∃ F', PropAt h1 F' t (m.told k.toNat xs u) ∧ ∀ b, F' b → F b ∨ h.size ≤ b) := by
  refine (add_ok h hT hm xs sa cp hl hlen k u).mono fun v h1 q => ?_
  obtain ⟨q1, q2, _, q4⟩ := q
  have e : addM m k xs u = m.told k.toNat xs u := by unfold addM; rw [if_pos h0]
  rw [e] at q4
  rw [h0] at q1
  exact ⟨q1, q2, q4⟩
theorem add_no (h : Heap) {F : Nat → Prop} {t : Nat} {m : PropM} (hT : PropAt h F t m) (hm : m.ok) (xs : List EntM) (sa : Option Addr) (cp : Nat) (hl : SliceAt h entc 4 xs (.slice sa xs.length cp)) (hlen : xs.length ≤ 1048576) (k u : Int) (h0 : ¬ addE m k xs u = 0) : WCall Try.prog 12 #[.pointer (some ⟨t, 0, none⟩), .int .i64 k, .slice sa xs.length cp, .int .i64 u] h
    (fun v h1 => v = .tuple #[.bool false, .int .i64 (addE m k xs u)] ∧ Ext h h1) := by
  refine (add_ok h hT hm xs sa cp hl hlen k u).mono fun v h1 q => ?_
  obtain ⟨q1, _, q3, _⟩ := q
  rw [decide_eq_false h0] at q1
  exact ⟨q1, q3 h0⟩
theorem values_yes (h : Heap) {F : Nat → Prop} {t : Nat} {m : PropM} (hT : PropAt h F t m) (hm : m.ok) (hr : readyB m = true) : WCall Try.prog 13 #[.pointer (some ⟨t, 0, none⟩)] h
    (fun v h1 => ∃ oa oc, v = .tuple #[.slice oa (valuesM m).length oc, .int .i64 0] ∧ OwnAt h1 38 entc (valuesM m) (.slice oa (valuesM m).length oc) ∧ Ext h h1 ∧ ∀ b, blk (.slice oa (valuesM m).length oc) b → h.size ≤ b) := by
  refine (values_ok h hT hm).mono fun v h1 q => ?_
  obtain ⟨_, q2, q3⟩ := q
  obtain ⟨oa, oc, e, o, w⟩ := q3 hr
  exact ⟨oa, oc, e, o, q2, w⟩
theorem values_no (h : Heap) {F : Nat → Prop} {t : Nat} {m : PropM} (hT : PropAt h F t m) (hm : m.ok) (hr : readyB m = false) : WCall Try.prog 13 #[.pointer (some ⟨t, 0, none⟩)] h (fun v h1 => v = .tuple #[.slice none 0 0, .int .i64 9] ∧ Ext h h1) :=
  (values_ok h hT hm).mono fun v h1 q => ⟨q.1 hr, q.2.1⟩
theorem vals_len {m : PropM} (hm : m.ok) : (valuesM m).length ≤ 4096 := by
  have := lenOf_bound hm (entM m 7).length
  rw [List.take_length] at this
  simpa [valuesM] using this
theorem new_yes (h : Heap) (n rd nd frm : Int) (h0 : newE n rd nd frm = 0) : WCall Try.prog 11 #[.int .i64 n, .agg #[.int .i64 rd, .int .i64 nd], .int .i64 frm] h
    (fun v h1 => ∃ b F, v = .tuple #[.pointer (some ⟨b, 0, none⟩), .int .i64 0] ∧ PropAt h1 F b (newM n rd nd frm) ∧ Ext h h1 ∧ ∀ z, F z → h.size ≤ z) :=
  (new_ok h n rd nd frm).mono fun v h1 q => q.2 h0
theorem new_no (h : Heap) (n rd nd frm : Int) (h0 : ¬ newE n rd nd frm = 0) : WCall Try.prog 11 #[.int .i64 n, .agg #[.int .i64 rd, .int .i64 nd], .int .i64 frm] h
    (fun v h1 => v = .tuple #[.pointer none, .int .i64 2] ∧ Ext h h1) := (new_ok h n rd nd frm).mono fun v h1 q => q.1 h0
end C14
