/- What a proposer shows. -/
import Derived.Test.YtpagkfbpgppeiaaMb
import Derived.KernelRfl
open Go Go.AM Go.Proofs
namespace C14
theorem agg4 : isAggA Try.prog 4 = some false := by kernel_rfl
theorem agg67 : isAggA Try.prog 67 = some true := by kernel_rfl
theorem agg69 : isAggA Try.prog 69 = some true := by kernel_rfl
theorem size66 : (Try.prog.info? 66).map (·.size) = some 3 := by kernel_rfl
theorem size67 : (Try.prog.info? 67).map (·.size) = some 21 := by kernel_rfl
theorem size69 : (Try.prog.info? 69).map (·.size) = some 25 := by kernel_rfl
theorem max_ite {a b : Int} : (if b > a then b else a) = max a b := by rw [Int.max_def]; split <;> split <;> omega
def upM (m : PropM) : Nat → Int
  | 0 => 0
  | k + 1 => max (upM m k) (m.ps k).upto
def setM (m : PropM) : Nat → Int
  | 0 => 0
  | k + 1 => if (m.ps k).made = true then uor (setM m k) (ushl 1 (k : Int)) else setM m k
def entM (m : PropM) : Nat → List EntM
  | 0 => []
  | k + 1 => entM m k ++ (m.ps k).list
theorem uor_range (a b : Int) : 0 ≤ uor a b ∧ uor a b ≤ 18446744073709551615 := by simp only [uor, IntKind.wrap_u64]; omega
theorem setM_range (m : PropM) : ∀ k, 0 ≤ setM m k ∧ setM m k ≤ 18446744073709551615
  | 0 => by simp [setM]
  | k + 1 => by
    unfold setM
    split
    · exact uor_range _ _
    · exact setM_range m k
def readyB (m : PropM) : Bool := isB (setM m 7) m.n
theorem upM_range {m : PropM} (hm : m.ok) : ∀ k, 0 ≤ upM m k ∧ upM m k ≤ 4096
  | 0 => by simp [upM]
  | k + 1 => by
    have := upM_range hm k
    have := hm.up k
    simp only [upM]; omega
set_option maxHeartbeats 4000000 in
theorem valid_nil (h : Heap)  : WCall Try.prog 31 #[(Value.pointer none)] h (fun v h1 => v = .bool false ∧ h = h1) := by
  exact hCall_ev [] [] (vB false) h ⟨rfl, rfl⟩
set_option maxHeartbeats 4000000 in
theorem valid_ok (h : Heap) {F : Nat → Prop} {t : Nat} {m : PropM} (hT : PropAt h F t m) (hm : m.ok) : WCall Try.prog 31 #[(vP t 0)] h (fun v h1 => v = .bool true ∧ h = h1) := by
  obtain ⟨ra, T⟩ := hT
  have hrow : h[t]? = some (.cells #[(vI (m.n)), (vI (m.frm)), (vI (m.rd)), (vI (m.nd)), (Value.slice (ra 0).1 ((m.ps 0).list.length) ((ra 0).2)), (vI ((m.ps 0).upto)), (vB (m.ps 0).made), (Value.slice (ra 1).1 ((m.ps 1).list.length) ((ra 1).2)), (vI ((m.ps 1).upto)), (vB (m.ps 1).made), (Value.slice (ra 2).1 ((m.ps 2).list.length) ((ra 2).2)), (vI ((m.ps 2).upto)), (vB (m.ps 2).made), (Value.slice (ra 3).1 ((m.ps 3).list.length) ((ra 3).2)), (vI ((m.ps 3).upto)), (vB (m.ps 3).made), (Value.slice (ra 4).1 ((m.ps 4).list.length) ((ra 4).2)), (vI ((m.ps 4).upto)), (vB (m.ps 4).made), (Value.slice (ra 5).1 ((m.ps 5).list.length) ((ra 5).2)), (vI ((m.ps 5).upto)), (vB (m.ps 5).made), (Value.slice (ra 6).1 ((m.ps 6).list.length) ((ra 6).2)), (vI ((m.ps 6).upto)), (vB (m.ps 6).made)] 69 (0, 0)) := T.row
  have k1 := hm.n1
  have k2 := hm.n7
  have k3 := hm.f0
  have k4 := hm.f1
  by_cases c251 : (0 : Int) < (m.n)
  · exact hCall_ev [evC 1 6 0 agg3 hrow, gtT 1 7 3 c251] [] (vB true) h ⟨rfl, rfl⟩
  · exfalso
    omega
set_option maxHeartbeats 4000000 in
theorem ballot_ok (h : Heap) {F : Nat → Prop} {t : Nat} {m : PropM} (hT : PropAt h F t m) (hm : m.ok) : WCall Try.prog 26 #[(vP t 0)] h (fun v h1 => v = .agg #[.int .i64 m.rd, .int .i64 m.nd] ∧ Ext h h1) := by
  have hT' := hT
  obtain ⟨ra, T⟩ := hT
  have hrow : h[t]? = some (.cells #[(vI (m.n)), (vI (m.frm)), (vI (m.rd)), (vI (m.nd)), (Value.slice (ra 0).1 ((m.ps 0).list.length) ((ra 0).2)), (vI ((m.ps 0).upto)), (vB (m.ps 0).made), (Value.slice (ra 1).1 ((m.ps 1).list.length) ((ra 1).2)), (vI ((m.ps 1).upto)), (vB (m.ps 1).made), (Value.slice (ra 2).1 ((m.ps 2).list.length) ((ra 2).2)), (vI ((m.ps 2).upto)), (vB (m.ps 2).made), (Value.slice (ra 3).1 ((m.ps 3).list.length) ((ra 3).2)), (vI ((m.ps 3).upto)), (vB (m.ps 3).made), (Value.slice (ra 4).1 ((m.ps 4).list.length) ((ra 4).2)), (vI ((m.ps 4).upto)), (vB (m.ps 4).made), (Value.slice (ra 5).1 ((m.ps 5).list.length) ((ra 5).2)), (vI ((m.ps 5).upto)), (vB (m.ps 5).made), (Value.slice (ra 6).1 ((m.ps 6).list.length) ((ra 6).2)), (vI ((m.ps 6).upto)), (vB (m.ps 6).made)] 69 (0, 0)) := T.row
  have k1 := hm.n1
  have k2 := hm.n7
  have k3 := hm.f0
  have k4 := hm.f1
  obtain ⟨b254, eb255⟩ : ∃ zq, zq = h.size := ⟨_, rfl⟩
  obtain ⟨h252, e253⟩ : ∃ zq, zq = h.push (.cells #[(vI 0), (vI 0)] 29 (0, 0)) := ⟨_, rfl⟩
  have f256 := push_new e253
  rw [← eb255] at f256
  have x258 : Ext h h252 := by rw [e253]; exact Ext.push _ _
  have o259 : h.size ≤ b254 := by have := (Ext.refl h).size; omega
  have f260 := x258 _ _ hrow
  have x261 := (Ext.refl h).trans x258
  obtain ⟨_, _, sn263, rfl, rfl⟩ := valid_ok h252 (hT'.keep fun b r _ q => x261 b r q) hm
  obtain ⟨h265, e266⟩ : ∃ zq, zq = h252.setIfInBounds b254 (.cells #[(vI (m.rd)), (vI (m.nd))] 29 (0, 0)) := ⟨_, rfl⟩
  have f267 := set_same e266 f256
  have x270 := Ext.setNew x261 e266 o259
  exact hCall_ev [evA 0 0 eb255 e253, evF 1 1 sn263, evV 3 3 (vA #[(vI m.rd), (vI m.nd)]) (show loadT Try.prog h252 29 (vP t 2) = some (vA #[(vI m.rd), (vI m.nd)]) from load_agg agg29 size29 f260 (by simp) (by kernel_rfl)), evUw 3 4 size29 f256 e266] [evLw 0 0 agg29 size29 f267] (vA #[(vI m.rd), (vI m.nd)]) h265 ⟨rfl, x270⟩
theorem upM_next (m : PropM) {k : Int} (h : 0 ≤ k) : upM m (k + 1).toNat = max (upM m k.toNat) (m.ps k.toNat).upto := by rw [show (k + 1).toNat = k.toNat + 1 by omega]; rfl
theorem setM_yes {m : PropM} {k : Int} (h : 0 ≤ k) (hc : (m.ps k.toNat).made = true) : setM m (k + 1).toNat = uor (setM m k.toNat) (ushl 1 k) := by rw [show (k + 1).toNat = k.toNat + 1 by omega]; simp only [setM]; rw [if_pos hc, show ((k.toNat : Nat) : Int) = k by omega]
theorem setM_no {m : PropM} {k : Int} (h : 0 ≤ k) (hc : (m.ps k.toNat).made = false) : setM m (k + 1).toNat = setM m k.toNat := by rw [show (k + 1).toNat = k.toNat + 1 by omega]; simp only [setM]; rw [if_neg (by rw [hc]; decide)]
set_option maxHeartbeats 4000000 in
theorem upto_ok (h : Heap) {F : Nat → Prop} {t : Nat} {m : PropM} (hT : PropAt h F t m) (hm : m.ok) : WCall Try.prog 17 #[(vP t 0)] h (fun v h1 => v = .int .i64 (upM m 7) ∧ Ext h h1) := by
  have hT' := hT
  obtain ⟨ra, T⟩ := hT
  have hrow : h[t]? = some (.cells #[(vI (m.n)), (vI (m.frm)), (vI (m.rd)), (vI (m.nd)), (Value.slice (ra 0).1 ((m.ps 0).list.length) ((ra 0).2)), (vI ((m.ps 0).upto)), (vB (m.ps 0).made), (Value.slice (ra 1).1 ((m.ps 1).list.length) ((ra 1).2)), (vI ((m.ps 1).upto)), (vB (m.ps 1).made), (Value.slice (ra 2).1 ((m.ps 2).list.length) ((ra 2).2)), (vI ((m.ps 2).upto)), (vB (m.ps 2).made), (Value.slice (ra 3).1 ((m.ps 3).list.length) ((ra 3).2)), (vI ((m.ps 3).upto)), (vB (m.ps 3).made), (Value.slice (ra 4).1 ((m.ps 4).list.length) ((ra 4).2)), (vI ((m.ps 4).upto)), (vB (m.ps 4).made), (Value.slice (ra 5).1 ((m.ps 5).list.length) ((ra 5).2)), (vI ((m.ps 5).upto)), (vB (m.ps 5).made), (Value.slice (ra 6).1 ((m.ps 6).list.length) ((ra 6).2)), (vI ((m.ps 6).upto)), (vB (m.ps 6).made)] 69 (0, 0)) := T.row
  have k1 := hm.n1
  have k2 := hm.n7
  have k3 := hm.f0
  have k4 := hm.f1
  refine wcall_by fun K hK => ?_
  refine wcall_at { tmps := #[(vP t 0), vZ, vZ, vZ, vZ, vZ, vZ, vZ, vZ, vZ, vZ, vZ, vZ, vZ, vZ, vZ, vZ, vZ, vZ, vZ, vZ, vZ], defers := [] } (by kernel_rfl) ?_
  refine wc_seq' (subc (bodyOf Try.prog 17) [0]) (subc (bodyOf Try.prog 17) [1]) (by kernel_rfl) ?_
  refine wc_ev [] .normal h [(2, (vI 0))] ?_
  refine wc_seq' (subc (bodyOf Try.prog 17) [1, 0]) (subc (bodyOf Try.prog 17) [1, 1]) (by kernel_rfl) ?_
  obtain ⟨_, _, sn272, rfl, rfl⟩ := valid_ok h (hT'.keep fun b r _ q => (Ext.refl h) b r q) hm
  refine wc_ev [evF 1 1 sn272] .normal h [(6, (vP t 0)), (7, (vB true)), (8, (vB false))] ?_
  refine wc_seq' (subc (bodyOf Try.prog 17) [1, 1, 0]) (subc (bodyOf Try.prog 17) [1, 1, 1]) (by kernel_rfl) ?_
  refine wc_ev [] .normal h [(3, (vI 0))] ?_
  refine wc_seq' (subc (bodyOf Try.prog 17) [1, 1, 1, 0]) (subc (bodyOf Try.prog 17) [1, 1, 1, 1]) (by kernel_rfl) ?_
  refine wc_seq' (subc (bodyOf Try.prog 17) [1, 1, 1, 0, 0]) (subc (bodyOf Try.prog 17) [1, 1, 1, 0, 1]) (by kernel_rfl) ?_
  refine wc_ev [evV 4 3 (vA #[(Value.slice (ra 0).1 ((m.ps 0).list.length) ((ra 0).2)), (vI ((m.ps 0).upto)), (vB (m.ps 0).made), (Value.slice (ra 1).1 ((m.ps 1).list.length) ((ra 1).2)), (vI ((m.ps 1).upto)), (vB (m.ps 1).made), (Value.slice (ra 2).1 ((m.ps 2).list.length) ((ra 2).2)), (vI ((m.ps 2).upto)), (vB (m.ps 2).made), (Value.slice (ra 3).1 ((m.ps 3).list.length) ((ra 3).2)), (vI ((m.ps 3).upto)), (vB (m.ps 3).made), (Value.slice (ra 4).1 ((m.ps 4).list.length) ((ra 4).2)), (vI ((m.ps 4).upto)), (vB (m.ps 4).made), (Value.slice (ra 5).1 ((m.ps 5).list.length) ((ra 5).2)), (vI ((m.ps 5).upto)), (vB (m.ps 5).made), (Value.slice (ra 6).1 ((m.ps 6).list.length) ((ra 6).2)), (vI ((m.ps 6).upto)), (vB (m.ps 6).made)]) (show loadT Try.prog h 67 (vP t 4) = some (vA #[(Value.slice (ra 0).1 ((m.ps 0).list.length) ((ra 0).2)), (vI ((m.ps 0).upto)), (vB (m.ps 0).made), (Value.slice (ra 1).1 ((m.ps 1).list.length) ((ra 1).2)), (vI ((m.ps 1).upto)), (vB (m.ps 1).made), (Value.slice (ra 2).1 ((m.ps 2).list.length) ((ra 2).2)), (vI ((m.ps 2).upto)), (vB (m.ps 2).made), (Value.slice (ra 3).1 ((m.ps 3).list.length) ((ra 3).2)), (vI ((m.ps 3).upto)), (vB (m.ps 3).made), (Value.slice (ra 4).1 ((m.ps 4).list.length) ((ra 4).2)), (vI ((m.ps 4).upto)), (vB (m.ps 4).made), (Value.slice (ra 5).1 ((m.ps 5).list.length) ((ra 5).2)), (vI ((m.ps 5).upto)), (vB (m.ps 5).made), (Value.slice (ra 6).1 ((m.ps 6).list.length) ((ra 6).2)), (vI ((m.ps 6).upto)), (vB (m.ps 6).made)]) from load_agg agg67 size67 hrow (by simp) (by kernel_rfl))] .normal h [(9, (vP t 0)), (10, (vP t 0)), (11, (vP t 4)), (12, (vA #[(Value.slice (ra 0).1 ((m.ps 0).list.length) ((ra 0).2)), (vI ((m.ps 0).upto)), (vB (m.ps 0).made), (Value.slice (ra 1).1 ((m.ps 1).list.length) ((ra 1).2)), (vI ((m.ps 1).upto)), (vB (m.ps 1).made), (Value.slice (ra 2).1 ((m.ps 2).list.length) ((ra 2).2)), (vI ((m.ps 2).upto)), (vB (m.ps 2).made), (Value.slice (ra 3).1 ((m.ps 3).list.length) ((ra 3).2)), (vI ((m.ps 3).upto)), (vB (m.ps 3).made), (Value.slice (ra 4).1 ((m.ps 4).list.length) ((ra 4).2)), (vI ((m.ps 4).upto)), (vB (m.ps 4).made), (Value.slice (ra 5).1 ((m.ps 5).list.length) ((ra 5).2)), (vI ((m.ps 5).upto)), (vB (m.ps 5).made), (Value.slice (ra 6).1 ((m.ps 6).list.length) ((ra 6).2)), (vI ((m.ps 6).upto)), (vB (m.ps 6).made)])), (13, (vI 0))] ?_
  refine wc_block' 0 (subc (bodyOf Try.prog 17) [1, 1, 1, 0, 1, 0]) (by kernel_rfl) ?_
  refine wc_loop' (subc (bodyOf Try.prog 17) [1, 1, 1, 0, 1, 0, 0]) (by kernel_rfl) (fun n' a' h' => ∃ (k : Int) (w : Int) (g0 : Nat → Value), a' = { tmps := #[(vP t 0), vZ, (vI 0), (vI w), vZ, (g0 5), (vP t 0), (vB true), (vB false), (vP t 0), (vP t 0), (vP t 4), (vA #[(Value.slice (ra 0).1 ((m.ps 0).list.length) ((ra 0).2)), (vI ((m.ps 0).upto)), (vB (m.ps 0).made), (Value.slice (ra 1).1 ((m.ps 1).list.length) ((ra 1).2)), (vI ((m.ps 1).upto)), (vB (m.ps 1).made), (Value.slice (ra 2).1 ((m.ps 2).list.length) ((ra 2).2)), (vI ((m.ps 2).upto)), (vB (m.ps 2).made), (Value.slice (ra 3).1 ((m.ps 3).list.length) ((ra 3).2)), (vI ((m.ps 3).upto)), (vB (m.ps 3).made), (Value.slice (ra 4).1 ((m.ps 4).list.length) ((ra 4).2)), (vI ((m.ps 4).upto)), (vB (m.ps 4).made), (Value.slice (ra 5).1 ((m.ps 5).list.length) ((ra 5).2)), (vI ((m.ps 5).upto)), (vB (m.ps 5).made), (Value.slice (ra 6).1 ((m.ps 6).list.length) ((ra 6).2)), (vI ((m.ps 6).upto)), (vB (m.ps 6).made)]), (vI k), (g0 14), (g0 15), (g0 16), (g0 17), (g0 18), (g0 19), (g0 20), vZ], defers := [] } ∧ Ext h h' ∧ n' = 7 - k.toNat ∧ (0 ≤ k ∧ k ≤ 7) ∧ w = upM m k.toNat) ?_ (7 - (0 : Int).toNat) ⟨0, 0, (fun i => ([vU, vU, vU, vU, vU, vZ, vU, vU, vU, vU, vU, vU, vU, vU, vZ, vZ, vZ, vZ, vZ, vZ, vZ] : List Value).getD i undef), by as_aux_lemma => kernel_rfl, (Ext.refl h), rfl, by omega, rfl⟩
  rintro n' _ h275 ⟨k, w, g0, rfl, x279, m278, i276, i277⟩
  by_cases c280 : ((k) : Int) < 7
  · obtain ⟨b283, eb284⟩ : ∃ zq, zq = h275.size := ⟨_, rfl⟩
    obtain ⟨h281, e282⟩ : ∃ zq, zq = h275.push (.cells #[(Value.slice none 0 0), (vI 0), (vB false)] 66 (0, 0)) := ⟨_, rfl⟩
    have f285 := push_new e282
    rw [← eb284] at f285
    have x286 : Ext h275 h281 := by rw [e282]; exact Ext.push _ _
    have o287 : h.size ≤ b283 := by have := x279.size; omega
    have x288 := x279.trans x286
    obtain ⟨h289, e290⟩ : ∃ zq, zq = h281.setIfInBounds b283 (.cells #[(Value.slice (ra k.toNat).1 ((m.ps k.toNat).list.length) ((ra k.toNat).2)), (vI ((m.ps k.toNat).upto)), (vB (m.ps k.toNat).made)] 66 (0, 0)) := ⟨_, rfl⟩
    have f291 := set_same e290 f285
    have x293 := Ext.setNew x288 e290 o287
    refine wc_ev [ltT 5 0 3 c280, evV 6 0 (vA #[(Value.slice (ra k.toNat).1 ((m.ps k.toNat).list.length) ((ra k.toNat).2)), (vI ((m.ps k.toNat).upto)), (vB (m.ps k.toNat).made)]) (show indexA Try.prog 67 (vA #[(Value.slice (ra 0).1 ((m.ps 0).list.length) ((ra 0).2)), (vI ((m.ps 0).upto)), (vB (m.ps 0).made), (Value.slice (ra 1).1 ((m.ps 1).list.length) ((ra 1).2)), (vI ((m.ps 1).upto)), (vB (m.ps 1).made), (Value.slice (ra 2).1 ((m.ps 2).list.length) ((ra 2).2)), (vI ((m.ps 2).upto)), (vB (m.ps 2).made), (Value.slice (ra 3).1 ((m.ps 3).list.length) ((ra 3).2)), (vI ((m.ps 3).upto)), (vB (m.ps 3).made), (Value.slice (ra 4).1 ((m.ps 4).list.length) ((ra 4).2)), (vI ((m.ps 4).upto)), (vB (m.ps 4).made), (Value.slice (ra 5).1 ((m.ps 5).list.length) ((ra 5).2)), (vI ((m.ps 5).upto)), (vB (m.ps 5).made), (Value.slice (ra 6).1 ((m.ps 6).list.length) ((ra 6).2)), (vI ((m.ps 6).upto)), (vB (m.ps 6).made)]) (vI k) = some (vA #[(Value.slice (ra k.toNat).1 ((m.ps k.toNat).list.length) ((ra k.toNat).2)), (vI ((m.ps k.toNat).upto)), (vB (m.ps k.toNat).made)]) from idx_ps (by omega) (by omega)), evA 6 1 eb284 e282, evUw 6 2 size66 f285 e290, evC 7 2 1 agg3 f291, evV 7 3 (vI (max (w) ((m.ps k.toNat).upto))) (show (vI (max (w) ((m.ps k.toNat).upto))) = (vI (if ((m.ps k.toNat).upto) > (w) then ((m.ps k.toNat).upto) else (w))) from by rw [max_ite]), evV 8 0 (vI ((k) + 1)) (show binA Try.prog .add 3 (vI k) (vI 1) = some (vI ((k) + 1)) from add_i64 (by omega) (by omega))] .normal h289 [(14, (vB true)), (15, (vA #[(Value.slice (ra k.toNat).1 ((m.ps k.toNat).list.length) ((ra k.toNat).2)), (vI ((m.ps k.toNat).upto)), (vB (m.ps k.toNat).made)])), (5, (vP b283 0)), (16, (vI w)), (17, (vP b283 1)), (18, (vI ((m.ps k.toNat).upto))), (19, (vI (max (w) ((m.ps k.toNat).upto)))), (3, (vI (max (w) ((m.ps k.toNat).upto)))), (20, (vI ((k) + 1))), (13, (vI ((k) + 1)))] ?_
    exact ⟨7 - (k + 1).toNat, by omega, ⟨k + 1, max (w) ((m.ps k.toNat).upto), (fun i => ([vU, vU, vU, vU, vU, (vP b283 0), vU, vU, vU, vU, vU, vU, vU, vU, (vB true), (vA #[(Value.slice (ra k.toNat).1 ((m.ps k.toNat).list.length) ((ra k.toNat).2)), (vI ((m.ps k.toNat).upto)), (vB (m.ps k.toNat).made)]), (vI w), (vP b283 1), (vI ((m.ps k.toNat).upto)), (vI (max (w) ((m.ps k.toNat).upto))), (vI ((k) + 1))] : List Value).getD i undef), by as_aux_lemma => kernel_rfl, x293, rfl, by omega, by rw [upM_next m (by omega), ← i277]⟩⟩
  · refine wc_ev [ltF 5 0 3 c280] (.exit 0) h275 [(14, (vB false))] ?_
    refine wc_ev [] .ret h275 [(21, (vI w)), (2, (vI w))] ?_
    have e7 : k.toNat = 7 := by omega
    exact end_ev [] (vI w) (hK _ _ (⟨by rw [i277, e7], x279⟩))
set_option maxHeartbeats 4000000 in
theorem nodes_ok (h : Heap) {F : Nat → Prop} {t : Nat} {m : PropM} (hT : PropAt h F t m) (hm : m.ok) : WCall Try.prog 19 #[(vP t 0)] h (fun v h1 => v = .int .u64 (setM m 7) ∧ Ext h h1) := by
  have hT' := hT
  obtain ⟨ra, T⟩ := hT
  have hrow : h[t]? = some (.cells #[(vI (m.n)), (vI (m.frm)), (vI (m.rd)), (vI (m.nd)), (Value.slice (ra 0).1 ((m.ps 0).list.length) ((ra 0).2)), (vI ((m.ps 0).upto)), (vB (m.ps 0).made), (Value.slice (ra 1).1 ((m.ps 1).list.length) ((ra 1).2)), (vI ((m.ps 1).upto)), (vB (m.ps 1).made), (Value.slice (ra 2).1 ((m.ps 2).list.length) ((ra 2).2)), (vI ((m.ps 2).upto)), (vB (m.ps 2).made), (Value.slice (ra 3).1 ((m.ps 3).list.length) ((ra 3).2)), (vI ((m.ps 3).upto)), (vB (m.ps 3).made), (Value.slice (ra 4).1 ((m.ps 4).list.length) ((ra 4).2)), (vI ((m.ps 4).upto)), (vB (m.ps 4).made), (Value.slice (ra 5).1 ((m.ps 5).list.length) ((ra 5).2)), (vI ((m.ps 5).upto)), (vB (m.ps 5).made), (Value.slice (ra 6).1 ((m.ps 6).list.length) ((ra 6).2)), (vI ((m.ps 6).upto)), (vB (m.ps 6).made)] 69 (0, 0)) := T.row
  have k1 := hm.n1
  have k2 := hm.n7
  have k3 := hm.f0
  have k4 := hm.f1
  refine wcall_by fun K hK => ?_
  refine wcall_at { tmps := #[(vP t 0), vZ, vZ, vZ, vZ, vZ, vZ, vZ, vZ, vZ, vZ, vZ, vZ, vZ, vZ, vZ, vZ, vZ, vZ, vZ, vZ, vZ, vZ, vZ, vZ, vZ], defers := [] } (by kernel_rfl) ?_
  refine wc_seq' (subc (bodyOf Try.prog 19) [0]) (subc (bodyOf Try.prog 19) [1]) (by kernel_rfl) ?_
  refine wc_ev [] .normal h [(2, (Value.int .u64 0))] ?_
  refine wc_seq' (subc (bodyOf Try.prog 19) [1, 0]) (subc (bodyOf Try.prog 19) [1, 1]) (by kernel_rfl) ?_
  refine wc_ev [] .normal h [(3, (Value.int .u64 0))] ?_
  refine wc_seq' (subc (bodyOf Try.prog 19) [1, 1, 0]) (subc (bodyOf Try.prog 19) [1, 1, 1]) (by kernel_rfl) ?_
  obtain ⟨_, _, sn295, rfl, rfl⟩ := valid_ok h (hT'.keep fun b r _ q => (Ext.refl h) b r q) hm
  refine wc_ev [evF 2 1 sn295] .normal h [(6, (vP t 0)), (7, (vB true)), (8, (vB false))] ?_
  refine wc_seq' (subc (bodyOf Try.prog 19) [1, 1, 1, 0]) (subc (bodyOf Try.prog 19) [1, 1, 1, 1]) (by kernel_rfl) ?_
  refine wc_seq' (subc (bodyOf Try.prog 19) [1, 1, 1, 0, 0]) (subc (bodyOf Try.prog 19) [1, 1, 1, 0, 1]) (by kernel_rfl) ?_
  refine wc_ev [evV 4 3 (vA #[(Value.slice (ra 0).1 ((m.ps 0).list.length) ((ra 0).2)), (vI ((m.ps 0).upto)), (vB (m.ps 0).made), (Value.slice (ra 1).1 ((m.ps 1).list.length) ((ra 1).2)), (vI ((m.ps 1).upto)), (vB (m.ps 1).made), (Value.slice (ra 2).1 ((m.ps 2).list.length) ((ra 2).2)), (vI ((m.ps 2).upto)), (vB (m.ps 2).made), (Value.slice (ra 3).1 ((m.ps 3).list.length) ((ra 3).2)), (vI ((m.ps 3).upto)), (vB (m.ps 3).made), (Value.slice (ra 4).1 ((m.ps 4).list.length) ((ra 4).2)), (vI ((m.ps 4).upto)), (vB (m.ps 4).made), (Value.slice (ra 5).1 ((m.ps 5).list.length) ((ra 5).2)), (vI ((m.ps 5).upto)), (vB (m.ps 5).made), (Value.slice (ra 6).1 ((m.ps 6).list.length) ((ra 6).2)), (vI ((m.ps 6).upto)), (vB (m.ps 6).made)]) (show loadT Try.prog h 67 (vP t 4) = some (vA #[(Value.slice (ra 0).1 ((m.ps 0).list.length) ((ra 0).2)), (vI ((m.ps 0).upto)), (vB (m.ps 0).made), (Value.slice (ra 1).1 ((m.ps 1).list.length) ((ra 1).2)), (vI ((m.ps 1).upto)), (vB (m.ps 1).made), (Value.slice (ra 2).1 ((m.ps 2).list.length) ((ra 2).2)), (vI ((m.ps 2).upto)), (vB (m.ps 2).made), (Value.slice (ra 3).1 ((m.ps 3).list.length) ((ra 3).2)), (vI ((m.ps 3).upto)), (vB (m.ps 3).made), (Value.slice (ra 4).1 ((m.ps 4).list.length) ((ra 4).2)), (vI ((m.ps 4).upto)), (vB (m.ps 4).made), (Value.slice (ra 5).1 ((m.ps 5).list.length) ((ra 5).2)), (vI ((m.ps 5).upto)), (vB (m.ps 5).made), (Value.slice (ra 6).1 ((m.ps 6).list.length) ((ra 6).2)), (vI ((m.ps 6).upto)), (vB (m.ps 6).made)]) from load_agg agg67 size67 hrow (by simp) (by kernel_rfl))] .normal h [(10, (vP t 0)), (11, (vP t 0)), (12, (vP t 4)), (13, (vA #[(Value.slice (ra 0).1 ((m.ps 0).list.length) ((ra 0).2)), (vI ((m.ps 0).upto)), (vB (m.ps 0).made), (Value.slice (ra 1).1 ((m.ps 1).list.length) ((ra 1).2)), (vI ((m.ps 1).upto)), (vB (m.ps 1).made), (Value.slice (ra 2).1 ((m.ps 2).list.length) ((ra 2).2)), (vI ((m.ps 2).upto)), (vB (m.ps 2).made), (Value.slice (ra 3).1 ((m.ps 3).list.length) ((ra 3).2)), (vI ((m.ps 3).upto)), (vB (m.ps 3).made), (Value.slice (ra 4).1 ((m.ps 4).list.length) ((ra 4).2)), (vI ((m.ps 4).upto)), (vB (m.ps 4).made), (Value.slice (ra 5).1 ((m.ps 5).list.length) ((ra 5).2)), (vI ((m.ps 5).upto)), (vB (m.ps 5).made), (Value.slice (ra 6).1 ((m.ps 6).list.length) ((ra 6).2)), (vI ((m.ps 6).upto)), (vB (m.ps 6).made)])), (14, (vI 0))] ?_
  refine wc_block' 0 (subc (bodyOf Try.prog 19) [1, 1, 1, 0, 1, 0]) (by kernel_rfl) ?_
  refine wc_loop' (subc (bodyOf Try.prog 19) [1, 1, 1, 0, 1, 0, 0]) (by kernel_rfl) (fun n' a' h' => ∃ (k : Int) (w : Int) (g0 : Nat → Value), a' = { tmps := #[(vP t 0), vZ, (Value.int .u64 0), (Value.int .u64 (w)), (g0 4), (g0 5), (vP t 0), (vB true), (vB false), vZ, (vP t 0), (vP t 0), (vP t 4), (vA #[(Value.slice (ra 0).1 ((m.ps 0).list.length) ((ra 0).2)), (vI ((m.ps 0).upto)), (vB (m.ps 0).made), (Value.slice (ra 1).1 ((m.ps 1).list.length) ((ra 1).2)), (vI ((m.ps 1).upto)), (vB (m.ps 1).made), (Value.slice (ra 2).1 ((m.ps 2).list.length) ((ra 2).2)), (vI ((m.ps 2).upto)), (vB (m.ps 2).made), (Value.slice (ra 3).1 ((m.ps 3).list.length) ((ra 3).2)), (vI ((m.ps 3).upto)), (vB (m.ps 3).made), (Value.slice (ra 4).1 ((m.ps 4).list.length) ((ra 4).2)), (vI ((m.ps 4).upto)), (vB (m.ps 4).made), (Value.slice (ra 5).1 ((m.ps 5).list.length) ((ra 5).2)), (vI ((m.ps 5).upto)), (vB (m.ps 5).made), (Value.slice (ra 6).1 ((m.ps 6).list.length) ((ra 6).2)), (vI ((m.ps 6).upto)), (vB (m.ps 6).made)]), (vI k), (g0 15), (g0 16), (g0 17), (g0 18), (g0 19), (g0 20), (g0 21), (g0 22), (g0 23), (g0 24), vZ], defers := [] } ∧ Ext h h' ∧ n' = 7 - k.toNat ∧ (0 ≤ k ∧ k ≤ 7) ∧ w = setM m k.toNat) ?_ (7 - (0 : Int).toNat) ⟨0, 0, (fun i => ([vU, vU, vU, vU, vZ, vZ, vU, vU, vU, vU, vU, vU, vU, vU, vU, vZ, vZ, vZ, vZ, vZ, vZ, vZ, vZ, vZ, vZ] : List Value).getD i undef), by as_aux_lemma => kernel_rfl, (Ext.refl h), rfl, by omega, rfl⟩
  rintro n' _ h298 ⟨k, w, g0, rfl, x302, m301, i299, i300⟩
  by_cases c303 : ((k) : Int) < 7
  · obtain ⟨b306, eb307⟩ : ∃ zq, zq = h298.size := ⟨_, rfl⟩
    obtain ⟨h304, e305⟩ : ∃ zq, zq = h298.push (.cells #[(Value.slice none 0 0), (vI 0), (vB false)] 66 (0, 0)) := ⟨_, rfl⟩
    have f308 := push_new e305
    rw [← eb307] at f308
    have x309 : Ext h298 h304 := by rw [e305]; exact Ext.push _ _
    have o310 : h.size ≤ b306 := by have := x302.size; omega
    have x311 := x302.trans x309
    obtain ⟨h312, e313⟩ : ∃ zq, zq = h304.setIfInBounds b306 (.cells #[(Value.slice (ra k.toNat).1 ((m.ps k.toNat).list.length) ((ra k.toNat).2)), (vI ((m.ps k.toNat).upto)), (vB (m.ps k.toNat).made)] 66 (0, 0)) := ⟨_, rfl⟩
    have f314 := set_same e313 f308
    have x316 := Ext.setNew x311 e313 o310
    rcases Bool.eq_false_or_eq_true ((m.ps k.toNat).made) with c317 | c317
    · refine wc_ev [ltT 5 0 3 c303, evV 6 1 (vA #[(Value.slice (ra k.toNat).1 ((m.ps k.toNat).list.length) ((ra k.toNat).2)), (vI ((m.ps k.toNat).upto)), (vB (m.ps k.toNat).made)]) (show indexA Try.prog 67 (vA #[(Value.slice (ra 0).1 ((m.ps 0).list.length) ((ra 0).2)), (vI ((m.ps 0).upto)), (vB (m.ps 0).made), (Value.slice (ra 1).1 ((m.ps 1).list.length) ((ra 1).2)), (vI ((m.ps 1).upto)), (vB (m.ps 1).made), (Value.slice (ra 2).1 ((m.ps 2).list.length) ((ra 2).2)), (vI ((m.ps 2).upto)), (vB (m.ps 2).made), (Value.slice (ra 3).1 ((m.ps 3).list.length) ((ra 3).2)), (vI ((m.ps 3).upto)), (vB (m.ps 3).made), (Value.slice (ra 4).1 ((m.ps 4).list.length) ((ra 4).2)), (vI ((m.ps 4).upto)), (vB (m.ps 4).made), (Value.slice (ra 5).1 ((m.ps 5).list.length) ((ra 5).2)), (vI ((m.ps 5).upto)), (vB (m.ps 5).made), (Value.slice (ra 6).1 ((m.ps 6).list.length) ((ra 6).2)), (vI ((m.ps 6).upto)), (vB (m.ps 6).made)]) (vI k) = some (vA #[(Value.slice (ra k.toNat).1 ((m.ps k.toNat).list.length) ((ra k.toNat).2)), (vI ((m.ps k.toNat).upto)), (vB (m.ps k.toNat).made)]) from idx_ps (by omega) (by omega)), evA 6 2 eb307 e305, evUw 6 4 size66 f308 e313, evCb 7 1 2 agg4 f314 c317, evV 8 2 (Value.int .u64 (ushl 1 (k))) (show binA Try.prog .shl 52 (Value.int .u64 1) (vI k) = some (Value.int .u64 (ushl 1 (k))) from shl_raw (by omega)), evV 8 3 (Value.int .u64 (uor (w) (ushl 1 (k)))) (show binA Try.prog .or 52 (Value.int .u64 (w)) (Value.int .u64 (ushl 1 (k))) = some (Value.int .u64 (uor (w) (ushl 1 (k)))) from or_raw), evV 9 0 (vI ((k) + 1)) (show binA Try.prog .add 3 (vI k) (vI 1) = some (vI ((k) + 1)) from add_i64 (by omega) (by omega))] .normal h312 [(15, (vB true)), (16, (vI k)), (17, (vA #[(Value.slice (ra k.toNat).1 ((m.ps k.toNat).list.length) ((ra k.toNat).2)), (vI ((m.ps k.toNat).upto)), (vB (m.ps k.toNat).made)])), (5, (vP b306 0)), (4, (vI k)), (18, (vP b306 2)), (19, (vB true)), (20, (Value.int .u64 (w))), (21, (vI k)), (22, (Value.int .u64 (ushl 1 (k)))), (23, (Value.int .u64 (uor (w) (ushl 1 (k))))), (3, (Value.int .u64 (uor (w) (ushl 1 (k))))), (24, (vI ((k) + 1))), (14, (vI ((k) + 1)))] ?_
      exact ⟨7 - (k + 1).toNat, by omega, ⟨k + 1, uor (w) (ushl 1 (k)), (fun i => ([vU, vU, vU, vU, (vI k), (vP b306 0), vU, vU, vU, vU, vU, vU, vU, vU, vU, (vB true), (vI k), (vA #[(Value.slice (ra k.toNat).1 ((m.ps k.toNat).list.length) ((ra k.toNat).2)), (vI ((m.ps k.toNat).upto)), (vB (m.ps k.toNat).made)]), (vP b306 2), (vB true), (Value.int .u64 (w)), (vI k), (Value.int .u64 (ushl 1 (k))), (Value.int .u64 (uor (w) (ushl 1 (k)))), (vI ((k) + 1))] : List Value).getD i undef), by as_aux_lemma => kernel_rfl, x316, rfl, by omega, by rw [setM_yes (by omega) c317, ← i300]⟩⟩
    · refine wc_ev [ltT 5 0 3 c303, evV 6 1 (vA #[(Value.slice (ra k.toNat).1 ((m.ps k.toNat).list.length) ((ra k.toNat).2)), (vI ((m.ps k.toNat).upto)), (vB (m.ps k.toNat).made)]) (show indexA Try.prog 67 (vA #[(Value.slice (ra 0).1 ((m.ps 0).list.length) ((ra 0).2)), (vI ((m.ps 0).upto)), (vB (m.ps 0).made), (Value.slice (ra 1).1 ((m.ps 1).list.length) ((ra 1).2)), (vI ((m.ps 1).upto)), (vB (m.ps 1).made), (Value.slice (ra 2).1 ((m.ps 2).list.length) ((ra 2).2)), (vI ((m.ps 2).upto)), (vB (m.ps 2).made), (Value.slice (ra 3).1 ((m.ps 3).list.length) ((ra 3).2)), (vI ((m.ps 3).upto)), (vB (m.ps 3).made), (Value.slice (ra 4).1 ((m.ps 4).list.length) ((ra 4).2)), (vI ((m.ps 4).upto)), (vB (m.ps 4).made), (Value.slice (ra 5).1 ((m.ps 5).list.length) ((ra 5).2)), (vI ((m.ps 5).upto)), (vB (m.ps 5).made), (Value.slice (ra 6).1 ((m.ps 6).list.length) ((ra 6).2)), (vI ((m.ps 6).upto)), (vB (m.ps 6).made)]) (vI k) = some (vA #[(Value.slice (ra k.toNat).1 ((m.ps k.toNat).list.length) ((ra k.toNat).2)), (vI ((m.ps k.toNat).upto)), (vB (m.ps k.toNat).made)]) from idx_ps (by omega) (by omega)), evA 6 2 eb307 e305, evUw 6 4 size66 f308 e313, evCb 7 1 2 agg4 f314 c317, evV 9 0 (vI ((k) + 1)) (show binA Try.prog .add 3 (vI k) (vI 1) = some (vI ((k) + 1)) from add_i64 (by omega) (by omega))] .normal h312 [(15, (vB true)), (16, (vI k)), (17, (vA #[(Value.slice (ra k.toNat).1 ((m.ps k.toNat).list.length) ((ra k.toNat).2)), (vI ((m.ps k.toNat).upto)), (vB (m.ps k.toNat).made)])), (5, (vP b306 0)), (4, (vI k)), (18, (vP b306 2)), (19, (vB false)), (24, (vI ((k) + 1))), (14, (vI ((k) + 1)))] ?_
      exact ⟨7 - (k + 1).toNat, by omega, ⟨k + 1, w, (fun i => ([vU, vU, vU, vU, (vI k), (vP b306 0), vU, vU, vU, vU, vU, vU, vU, vU, vU, (vB true), (vI k), (vA #[(Value.slice (ra k.toNat).1 ((m.ps k.toNat).list.length) ((ra k.toNat).2)), (vI ((m.ps k.toNat).upto)), (vB (m.ps k.toNat).made)]), (vP b306 2), (vB false), (g0 20), (g0 21), (g0 22), (g0 23), (vI ((k) + 1))] : List Value).getD i undef), by as_aux_lemma => kernel_rfl, x316, rfl, by omega, by rw [setM_no (by omega) c317, ← i300]⟩⟩
  · refine wc_ev [ltF 5 0 3 c303] (.exit 0) h298 [(15, (vB false))] ?_
    refine wc_ev [] .ret h298 [(25, (Value.int .u64 (w))), (2, (Value.int .u64 (w)))] ?_
    have e7 : k.toNat = 7 := by omega
    exact end_ev [] (Value.int .u64 (w)) (hK _ _ (⟨by rw [i300, e7], x302⟩))
set_option maxHeartbeats 4000000 in
theorem ready_ok (h : Heap) {F : Nat → Prop} {t : Nat} {m : PropM} (hT : PropAt h F t m) (hm : m.ok) : WCall Try.prog 14 #[(vP t 0)] h (fun v h1 => v = .bool (readyB m) ∧ Ext h h1) := by
  have hT' := hT
  obtain ⟨ra, T⟩ := hT
  have hrow : h[t]? = some (.cells #[(vI (m.n)), (vI (m.frm)), (vI (m.rd)), (vI (m.nd)), (Value.slice (ra 0).1 ((m.ps 0).list.length) ((ra 0).2)), (vI ((m.ps 0).upto)), (vB (m.ps 0).made), (Value.slice (ra 1).1 ((m.ps 1).list.length) ((ra 1).2)), (vI ((m.ps 1).upto)), (vB (m.ps 1).made), (Value.slice (ra 2).1 ((m.ps 2).list.length) ((ra 2).2)), (vI ((m.ps 2).upto)), (vB (m.ps 2).made), (Value.slice (ra 3).1 ((m.ps 3).list.length) ((ra 3).2)), (vI ((m.ps 3).upto)), (vB (m.ps 3).made), (Value.slice (ra 4).1 ((m.ps 4).list.length) ((ra 4).2)), (vI ((m.ps 4).upto)), (vB (m.ps 4).made), (Value.slice (ra 5).1 ((m.ps 5).list.length) ((ra 5).2)), (vI ((m.ps 5).upto)), (vB (m.ps 5).made), (Value.slice (ra 6).1 ((m.ps 6).list.length) ((ra 6).2)), (vI ((m.ps 6).upto)), (vB (m.ps 6).made)] 69 (0, 0)) := T.row
  have k1 := hm.n1
  have k2 := hm.n7
  have k3 := hm.f0
  have k4 := hm.f1
  obtain ⟨_, _, sn319, rfl, rfl⟩ := valid_ok h (hT'.keep fun b r _ q => (Ext.refl h) b r q) hm
  obtain ⟨_, hh321, sn322, rfl, x323⟩ := nodes_ok h (hT'.keep fun b r _ q => (Ext.refl h) b r q) hm
  have f324 := x323 _ _ hrow
  have x325 := (Ext.refl h).trans x323
  have ux323 := setM_range m 7
  obtain ⟨_, hh326, sn327, rfl, x328⟩ := is_ok hh321 (setM m 7) (by omega) (m.n)
  have x330 := x325.trans x328
  exact hCall_ev [evF 1 1 sn319, evC 3 5 0 agg3 hrow, evF 3 1 sn322, evC 99 0 0 agg3 f324, evF 3 6 sn327] [] (vB (isB (setM m 7) (m.n))) hh326 ⟨rfl, x330⟩
set_option maxHeartbeats 4000000 in
theorem copy_ok (h : Heap) {F : Nat → Prop} {t : Nat} {m : PropM} (hT : PropAt h F t m) (hm : m.ok) : WCall Try.prog 20 #[(vP t 0)] h (fun v h1 => ∃ b F', v = .pointer (some ⟨b, 0, none⟩) ∧ PropAt h1 F' b m ∧ Ext h h1 ∧ h.size ≤ b ∧ ∀ z, F' z ↔ z = b ∨ F z ∧ z ≠ t) := by
  have hT' := hT
  obtain ⟨ra, T⟩ := hT
  have hrow : h[t]? = some (.cells #[(vI (m.n)), (vI (m.frm)), (vI (m.rd)), (vI (m.nd)), (Value.slice (ra 0).1 ((m.ps 0).list.length) ((ra 0).2)), (vI ((m.ps 0).upto)), (vB (m.ps 0).made), (Value.slice (ra 1).1 ((m.ps 1).list.length) ((ra 1).2)), (vI ((m.ps 1).upto)), (vB (m.ps 1).made), (Value.slice (ra 2).1 ((m.ps 2).list.length) ((ra 2).2)), (vI ((m.ps 2).upto)), (vB (m.ps 2).made), (Value.slice (ra 3).1 ((m.ps 3).list.length) ((ra 3).2)), (vI ((m.ps 3).upto)), (vB (m.ps 3).made), (Value.slice (ra 4).1 ((m.ps 4).list.length) ((ra 4).2)), (vI ((m.ps 4).upto)), (vB (m.ps 4).made), (Value.slice (ra 5).1 ((m.ps 5).list.length) ((ra 5).2)), (vI ((m.ps 5).upto)), (vB (m.ps 5).made), (Value.slice (ra 6).1 ((m.ps 6).list.length) ((ra 6).2)), (vI ((m.ps 6).upto)), (vB (m.ps 6).made)] 69 (0, 0)) := T.row
  have k1 := hm.n1
  have k2 := hm.n7
  have k3 := hm.f0
  have k4 := hm.f1
  obtain ⟨_, _, sn332, rfl, rfl⟩ := valid_ok h (hT'.keep fun b r _ q => (Ext.refl h) b r q) hm
  obtain ⟨b336, eb337⟩ : ∃ zq, zq = h.size := ⟨_, rfl⟩
  obtain ⟨h334, e335⟩ : ∃ zq, zq = h.push (.cells #[(vI 0), (vI 0), (vI 0), (vI 0), (Value.slice none 0 0), (vI 0), (vB false), (Value.slice none 0 0), (vI 0), (vB false), (Value.slice none 0 0), (vI 0), (vB false), (Value.slice none 0 0), (vI 0), (vB false), (Value.slice none 0 0), (vI 0), (vB false), (Value.slice none 0 0), (vI 0), (vB false), (Value.slice none 0 0), (vI 0), (vB false)] 69 (0, 0)) := ⟨_, rfl⟩
  have f338 := push_new e335
  rw [← eb337] at f338
  have x340 : Ext h h334 := by rw [e335]; exact Ext.push _ _
  have o341 : h.size ≤ b336 := by have := (Ext.refl h).size; omega
  have x343 := (Ext.refl h).trans x340
  obtain ⟨h344, e345⟩ : ∃ zq, zq = h334.setIfInBounds b336 (.cells #[(vI (m.n)), (vI (m.frm)), (vI (m.rd)), (vI (m.nd)), (Value.slice (ra 0).1 ((m.ps 0).list.length) ((ra 0).2)), (vI ((m.ps 0).upto)), (vB (m.ps 0).made), (Value.slice (ra 1).1 ((m.ps 1).list.length) ((ra 1).2)), (vI ((m.ps 1).upto)), (vB (m.ps 1).made), (Value.slice (ra 2).1 ((m.ps 2).list.length) ((ra 2).2)), (vI ((m.ps 2).upto)), (vB (m.ps 2).made), (Value.slice (ra 3).1 ((m.ps 3).list.length) ((ra 3).2)), (vI ((m.ps 3).upto)), (vB (m.ps 3).made), (Value.slice (ra 4).1 ((m.ps 4).list.length) ((ra 4).2)), (vI ((m.ps 4).upto)), (vB (m.ps 4).made), (Value.slice (ra 5).1 ((m.ps 5).list.length) ((ra 5).2)), (vI ((m.ps 5).upto)), (vB (m.ps 5).made), (Value.slice (ra 6).1 ((m.ps 6).list.length) ((ra 6).2)), (vI ((m.ps 6).upto)), (vB (m.ps 6).made)] 69 (0, 0)) := ⟨_, rfl⟩
  have f346 := set_same e345 f338
  have x349 := Ext.setNew x343 e345 o341
  have nt : ∀ z, lfoot m ra z → z ≠ t := fun z ⟨i, hi, hz⟩ => (T.lists i hi).ne hrow (by decide) hz
  exact hCall_ev [evF 1 1 sn332, evLw 3 2 agg69 size69 hrow, evA 3 3 eb337 e335, evUw 3 4 size69 f338 e345] [] (vP b336 0) h344 ⟨_, fun z => z = b336 ∨ F z ∧ z ≠ t, rfl, ⟨ra, f346, fun i hi => (T.lists i hi).keep fun b r _ q => x349 b r q, fun z => ⟨fun w => w.imp id fun w => ((T.foot z).1 w.1).elim (fun e => absurd e w.2) id, fun w => w.imp id fun w => ⟨(T.foot z).2 (.inr w), nt z w⟩⟩⟩, x349, o341, fun z => Iff.rfl⟩
end C14
