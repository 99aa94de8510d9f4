/- Texts; the letters of names. -/
import Derived.Test.YtghcfpoccafbjaaDoorProg
import Derived.Test.YtghcfpoccafbjaaDoorBmj
import Derived.KernelRfl
open Go Go.AM Go.Proofs
namespace C32
theorem agg4 : isAggA Tryd.prog 4 = some false := by kernel_rfl
abbrev vI (n : Int) : Value := .int .i64 n
abbrev vS (s : ByteArray) : Value := .string s
abbrev vB (b : Bool) : Value := .bool b
abbrev vP (b o : Nat) : Value := .pointer (some ⟨b, o, none⟩)
abbrev vL (a : Option Addr) (n c : Nat) : Value := .slice a n c
abbrev vA (c : Array Value) : Value := .agg c
abbrev vT (c : Array Value) : Value := .tuple c
abbrev vZ : Value := .tuple #[]
abbrev vN : Value := .pointer none
abbrev vU : Value := undef
/-- A byte of a text. -/
def byt (s : ByteArray) (k : Nat) : Int := ((s.data[k]?.getD 0).toNat : Int)
theorem byt_range (s : ByteArray) (k : Nat) : 0 ≤ byt s k ∧ byt s k ≤ 255 := by
  unfold byt
  have := (s.data[k]?.getD 0).toNat_lt
  omega
theorem str_und : Tryd.prog.underlying 9 = some .string := by kernel_rfl
theorem index_byt {s : ByteArray} {i : Int} {k : IntKind} (h0 : 0 ≤ i) (h1 : i < (s.size : Nat)) : indexA Tryd.prog 9 (.string s) (.int k i) = some (.int .u8 (byt s i.toNat)) := by
  have hl : i.toNat < s.data.size := by have : s.size = s.data.size := rfl; omega
  have e : s[i.toNat]? = some s.data[i.toNat] := by
    have : s.size = s.data.size := rfl
    rw [getElem?_pos s i.toNat (by omega)]; rfl
  simp only [indexA, str_und, h0, if_true, e, Option.map_some, byt]
  rw [Array.getElem?_eq_getElem hl]; rfl
theorem bnd_int {k : IntKind} {i : Int} {n : Nat} (h0 : 0 ≤ i) (h1 : i ≤ n) : bndA (.int k i) n = some i.toNat := by
  unfold bndA
  simp only
  first
    | rw [if_pos (by omega)]
    | rw [if_pos ⟨h0, by omega⟩]
theorem slice_hi {h : Heap} {s : ByteArray} {i : Int} {k : IntKind} (h0 : 0 ≤ i) (h1 : i ≤ (s.size : Nat)) : sliceA Tryd.prog h 9 (.string s) none (some (.int k i)) none = some (.string (s.extract 0 i.toNat)) := by
  simp only [sliceA, str_und, boundsA, bnd_int h0 h1, Option.isSome_none, Bool.false_eq_true, if_false]
theorem slice_lo {h : Heap} {s : ByteArray} {i : Int} {k : IntKind} (h0 : 0 ≤ i) (h1 : i ≤ (s.size : Nat)) : sliceA Tryd.prog h 9 (.string s) (some (.int k i)) none none = some (.string (s.extract i.toNat s.size)) := by
  simp only [sliceA, str_und, boundsA, bnd_int h0 h1, Option.isSome_none, Bool.false_eq_true, if_false, false_or, Nat.lt_irrefl]
theorem ext_size (s : ByteArray) (a b : Nat) : (s.extract a b).size = min b s.size - a := by simp [ByteArray.size_extract]
theorem byt_ext {s : ByteArray} {a b k : Nat} (h : a + k < b) (hb : b ≤ s.size) : byt (s.extract a b) k = byt s (a + k) := by
  have e1 : (s.extract a b).data[k]? = s.data[a + k]? := by
    have hs : s.size = s.data.size := rfl
    rw [ByteArray.data_extract, Array.getElem?_extract]
    rw [if_pos (by omega)]
  unfold byt; rw [e1]
theorem ext_all (s : ByteArray) : s.extract 0 s.size = s := by
  apply ByteArray.ext
  have hs : s.size = s.data.size := rfl
  rw [ByteArray.data_extract, hs, Array.extract_size]
theorem ext_pre (s : ByteArray) {a b : Nat} (h : b ≤ a) : (s.extract 0 a).extract 0 b = s.extract 0 b := by
  apply ByteArray.ext
  simp only [ByteArray.data_extract, Array.extract_extract]
  congr 1 <;> omega
theorem ext_step {s t : ByteArray} {a b : Nat} (e : t = s.extract 0 a) (h : b ≤ a) : t.extract 0 b = s.extract 0 b := by rw [e, ext_pre s h]
theorem ext_suf (s : ByteArray) {a : Nat} (h : a ≤ s.size) : (s.extract a s.size).extract 1 (s.extract a s.size).size = s.extract (a + 1) s.size := by
  apply ByteArray.ext
  have hs : s.size = s.data.size := rfl
  simp only [ByteArray.data_extract, Array.extract_extract, ext_size]
  congr 1
  omega
theorem emp_iff (t : ByteArray) : t = .empty ↔ t.size = 0 := by
  constructor
  · rintro rfl; rfl
  · intro h
    apply ByteArray.ext
    have hs : t.size = t.data.size := rfl
    exact Array.eq_empty_of_size_eq_zero (by omega)
/-- The letters and digits of names. -/
def okB (c : Int) : Bool := decide (97 ≤ c ∧ c ≤ 122 ∨ 48 ≤ c ∧ c ≤ 57)
def cutset : ByteArray := ⟨#[97, 98, 99, 100, 101, 102, 103, 104, 105, 106, 107, 108, 109, 110, 111, 112, 113, 114, 115, 116, 117, 118, 119, 120, 121, 122, 48, 49, 50, 51, 52, 53, 54, 55, 56, 57]⟩
def nameset : Array Value := #[.bool false, .bool false, .bool false, .bool false, .bool false, .bool false, .bool false, .bool false, .bool false, .bool false, .bool false, .bool false, .bool false, .bool false, .bool false, .bool false, .bool false, .bool false, .bool false, .bool false, .bool false, .bool false, .bool false, .bool false, .bool false, .bool false, .bool false, .bool false, .bool false, .bool false, .bool false, .bool false, .bool false, .bool false, .bool false, .bool false, .bool false, .bool false, .bool false, .bool false, .bool false, .bool false, .bool false, .bool false, .bool false, .bool false, .bool false, .bool false, .bool true, .bool true, .bool true, .bool true, .bool true, .bool true, .bool true, .bool true, .bool true, .bool true, .bool false, .bool false, .bool false, .bool false, .bool false, .bool false, .bool false, .bool false, .bool false, .bool false, .bool false, .bool false, .bool false, .bool false, .bool false, .bool false, .bool false, .bool false, .bool false, .bool false, .bool false, .bool false, .bool false, .bool false, .bool false, .bool false, .bool false, .bool false, .bool false, .bool false, .bool false, .bool false, .bool false, .bool false, .bool false, .bool false, .bool false, .bool false, .bool false, .bool true, .bool true, .bool true, .bool true, .bool true, .bool true, .bool true, .bool true, .bool true, .bool true, .bool true, .bool true, .bool true, .bool true, .bool true, .bool true, .bool true, .bool true, .bool true, .bool true, .bool true, .bool true, .bool true, .bool true, .bool true, .bool true, .bool false, .bool false, .bool false, .bool false, .bool false, .bool false, .bool false, .bool false, .bool false, .bool false, .bool false, .bool false, .bool false, .bool false, .bool false, .bool false, .bool false, .bool false, .bool false, .bool false, .bool false, .bool false, .bool false, .bool false, .bool false, .bool false, .bool false, .bool false, .bool false, .bool false, .bool false, .bool false, .bool false, .bool false, .bool false, .bool false, .bool false, .bool false, .bool false, .bool false, .bool false, .bool false, .bool false, .bool false, .bool false, .bool false, .bool false, .bool false, .bool false, .bool false, .bool false, .bool false, .bool false, .bool false, .bool false, .bool false, .bool false, .bool false, .bool false, .bool false, .bool false, .bool false, .bool false, .bool false, .bool false, .bool false, .bool false, .bool false, .bool false, .bool false, .bool false, .bool false, .bool false, .bool false, .bool false, .bool false, .bool false, .bool false, .bool false, .bool false, .bool false, .bool false, .bool false, .bool false, .bool false, .bool false, .bool false, .bool false, .bool false, .bool false, .bool false, .bool false, .bool false, .bool false, .bool false, .bool false, .bool false, .bool false, .bool false, .bool false, .bool false, .bool false, .bool false, .bool false, .bool false, .bool false, .bool false, .bool false, .bool false, .bool false, .bool false, .bool false, .bool false, .bool false, .bool false, .bool false, .bool false, .bool false, .bool false, .bool false, .bool false, .bool false, .bool false, .bool false, .bool false, .bool false, .bool false, .bool false, .bool false, .bool false, .bool false, .bool false, .bool false]
theorem nameset_eq : nameset = ((List.range 256).map fun (i : Nat) => Value.bool (okB (i : Int))).toArray := by kernel_rfl
theorem nameset_at {c : Int} (h0 : 0 ≤ c) (h1 : c ≤ 255) : nameset[c.toNat]? = some (.bool (okB c)) := by
  rw [nameset_eq, List.getElem?_toArray, List.getElem?_map, List.getElem?_range (by omega)]
  simp only [Option.map_some]
  rw [Int.toNat_of_nonneg h0]
def allB (s : ByteArray) : Bool := (List.range s.size).all fun j => okB (byt s j)
theorem allB_iff (s : ByteArray) : allB s = true ↔ ∀ j, j < s.size → okB (byt s j) = true := by simp [allB, List.all_eq_true]
def nameB (s : ByteArray) : Bool := decide (1 ≤ s.size ∧ s.size ≤ 16) && allB s
theorem okB_lt {c : Int} (h : okB c = true) : 48 ≤ c ∧ c ≤ 122 := by unfold okB at h; have := of_decide_eq_true h; omega
theorem index_set {b : Nat} {c : Int} (h0 : 0 ≤ c) (h1 : c ≤ 255) : indexAddrA Tryd.prog 90 (.pointer (some ⟨b, 0, none⟩)) (.int .u8 c) = some (.pointer (some ⟨b, c.toNat, none⟩)) := by
  have e : indexAddrA Tryd.prog 90 (.pointer (some ⟨b, 0, none⟩)) (.int .u8 c) = if 0 ≤ c ∧ c < 256 then some (.pointer (some ((⟨b, 0, none⟩ : Addr).add (c.toNat * 1)))) else none := by kernel_rfl
  rw [e, if_pos (by omega), addr_add _ rfl]
  simp
set_option maxHeartbeats 4000000 in
theorem contains_ok (h : Heap) (b : Nat) (hb : h[b]? = some (.cells nameset 90 (0, 0))) (c : Int) (hc : 0 ≤ c ∧ c ≤ 255) : WCall Tryd.prog 69 #[(vP b 0), (Value.int .u8 (c))] h (fun v h1 => v = .bool (okB c) ∧ h = h1) := by
  exact hCall_of (n := 200) (T := ⟨fun r i => match r, i with | 1, 3 => some ((Value.pointer (some ⟨b, (c).toNat, none⟩)), h) | 1, 4 => some ((vB (okB c)), h) | _, _ => none, fun _ => none, none⟩)
    (A := (indexAddrA Tryd.prog 90 (vP b 0) (Value.int .u8 (c)) = some (Value.pointer (some ⟨b, (c).toNat, none⟩)) ∧ h = h) ∧ (loadT Tryd.prog h 4 (Value.pointer (some ⟨b, (c).toNat, none⟩)) = some (vB (okB c)) ∧ h = h) ∧ (fun v h1 => v = .bool (okB c) ∧ h = h1) (vB (okB c)) h) (by kernel_rfl) ⟨⟨index_set (by omega) (by omega), rfl⟩, ⟨load_cell agg4 hb (nameset_at (by omega) (by omega)), rfl⟩, ⟨rfl, rfl⟩⟩
set_option maxHeartbeats 4000000 in
theorem trimR_ok (h : Heap) (b : Nat) (hb : h[b]? = some (.cells nameset 90 (0, 0))) (s : ByteArray) (hsz : s.size ≤ 1048576) : WCall Tryd.prog 64 #[(vS s), (vP b 0)] h (fun v h1 => ∃ k : Nat, k ≤ s.size ∧ v = .string (s.extract 0 k) ∧ (∀ j, k ≤ j → j < s.size → okB (byt s j) = true) ∧ (k = 0 ∨ okB (byt s (k - 1)) = false) ∧ h = h1) := by
  suffices H : ∀ K : Value → Heap → Prop, (∀ v h1, (fun v h1 => ∃ k : Nat, k ≤ s.size ∧ v = .string (s.extract 0 k) ∧ (∀ j, k ≤ j → j < s.size → okB (byt s j) = true) ∧ (k = 0 ∨ okB (byt s (k - 1)) = false) ∧ h = h1) v h1 → K v h1) → WCall Tryd.prog 64 #[(vS s), (vP b 0)] h K from H _ fun _ _ q => q
  intro K hK
  refine wcall_at { tmps := #[(vS s), (vP b 0), vZ, vZ, vZ, vZ, vZ, vZ, vZ, vZ, vZ, vZ, vZ, vZ, vZ, vZ, vZ, vZ, vZ, vZ, vZ, vZ], defers := [] } (by kernel_rfl) ?_
  refine wc_seq' (subc (bodyOf Tryd.prog 64) [0]) (subc (bodyOf Tryd.prog 64) [1]) (by kernel_rfl) ?_
  refine wc_upd (n := 200) (T := ⟨fun r i => match r, i with | _, _ => none, fun _ => none, none⟩) (x := .normal) (h1 := h) [(4, (vS .empty))]
    (fun q => q) (by intro K'; as_aux_lemma => kernel_rfl) (fun _ q => q) ?_
  refine wc_seq' (subc (bodyOf Tryd.prog 64) [1, 0]) (subc (bodyOf Tryd.prog 64) [1, 1]) (by kernel_rfl) ?_
  refine wc_block' 0 (subc (bodyOf Tryd.prog 64) [1, 0, 0]) (by kernel_rfl) ?_
  refine wc_loop' (subc (bodyOf Tryd.prog 64) [1, 0, 0, 0]) (by kernel_rfl) (fun n' a' h' => ∃ (k : Int) (t : ByteArray) (gb1 : Nat → Value), a' = { tmps := #[(vS t), (vP b 0), vZ, vZ, (vS .empty), (gb1 5), (gb1 6), (gb1 7), (gb1 8), (gb1 9), (gb1 10), (gb1 11), (gb1 12), (gb1 13), (gb1 14), (gb1 15), (gb1 16), (gb1 17), (gb1 18), (gb1 19), (gb1 20), vZ], defers := [] } ∧ h = h' ∧ n' = k.toNat ∧ (0 ≤ k ∧ k ≤ (s.size : Nat)) ∧ t = s.extract 0 k.toNat ∧ (∀ j, k.toNat ≤ j → j < s.size → okB (byt s j) = true) ∧ ((t.size : Nat) : Int) = k) ?_ (((s.size : Nat) : Int).toNat) ⟨((s.size : Nat) : Int), s, (fun i => ([vU, vU, vU, vU, vU, vZ, vZ, vZ, vZ, vZ, vZ, vZ, vZ, vZ, vZ, vZ, vZ, vZ, vZ, vZ, vZ] : List Value).getD i undef), by as_aux_lemma => kernel_rfl, rfl, rfl, by omega, by rw [Int.toNat_natCast, ext_all], fun j g1 g2 => by omega, rfl⟩
  rintro n' _ _ ⟨k, t, gb1, rfl, rfl, m7, i3, i4, i5, i6⟩
  by_cases c9 : (0 : Int) < ((t.size : Nat))
  · have t10 := byt_range t (((((t.size : Nat)) - 1) : Int).toNat)
    obtain ⟨_, _, sn12, rfl, rfl⟩ := contains_ok h _ hb (byt t (((((t.size : Nat)) - 1) : Int).toNat)) (by omega)
    rcases Bool.eq_false_or_eq_true ((okB (byt t (((((t.size : Nat)) - 1) : Int).toNat)))) with c14 | c14
    · refine wc_upd (n := 200) (T := ⟨fun r i => match r, i with | 1, 2 => some ((vB true), h) | 2, 4 => some ((vI (((t.size : Nat)) - 1)), h) | 2, 5 => some ((Value.int .u8 (byt t (((((t.size : Nat)) - 1) : Int).toNat))), h) | 2, 6 => some ((vB true), h) | 3, 3 => some ((vI (((t.size : Nat)) - 1)), h) | 3, 4 => some ((vS (t.extract 0 (((((t.size : Nat)) - 1) : Int).toNat))), h) | _, _ => none, fun _ => none, none⟩) (x := .normal) (h1 := h) [(5, (vS t)), (6, (vI ((t.size : Nat)))), (7, (vB true)), (8, (vP b 0)), (9, (vS t)), (10, (vS t)), (11, (vI ((t.size : Nat)))), (12, (vI (((t.size : Nat)) - 1))), (13, (Value.int .u8 (byt t (((((t.size : Nat)) - 1) : Int).toNat)))), (14, (vB true)), (15, (vB false)), (16, (vS t)), (17, (vS t)), (18, (vI ((t.size : Nat)))), (19, (vI (((t.size : Nat)) - 1))), (20, (vS (t.extract 0 (((((t.size : Nat)) - 1) : Int).toNat)))), (0, (vS (t.extract 0 (((((t.size : Nat)) - 1) : Int).toNat))))]
        (fun q => (binA Tryd.prog .gtr 3 (vI ((t.size : Nat))) (vI 0) = some (vB true) ∧ h = h) ∧ (binA Tryd.prog .sub 3 (vI ((t.size : Nat))) (vI 1) = some (vI (((t.size : Nat)) - 1)) ∧ h = h) ∧ (indexA Tryd.prog 9 (vS t) (vI (((t.size : Nat)) - 1)) = some (Value.int .u8 (byt t (((((t.size : Nat)) - 1) : Int).toNat))) ∧ h = h) ∧ SoundCall Tryd.prog 69 #[(vP b 0), (Value.int .u8 (byt t (((((t.size : Nat)) - 1) : Int).toNat)))] h (vB true) h ∧ (binA Tryd.prog .sub 3 (vI ((t.size : Nat))) (vI 1) = some (vI (((t.size : Nat)) - 1)) ∧ h = h) ∧ (sliceA Tryd.prog h 9 (vS t) none (some (vI (((t.size : Nat)) - 1))) none = some (vS (t.extract 0 (((((t.size : Nat)) - 1) : Int).toNat))) ∧ h = h) ∧ q) (by intro K'; as_aux_lemma => kernel_rfl) (fun _ q => ⟨⟨cmp_gtr (decide_eq_true c9), rfl⟩, ⟨sub_i64 (by omega) (by omega), rfl⟩, ⟨index_byt (by omega) (by omega), rfl⟩, (by rw [← c14]; exact sn12), ⟨sub_i64 (by omega) (by omega), rfl⟩, ⟨slice_hi (by omega) (by omega), rfl⟩, q⟩) ?_
      exact ⟨(k - 1).toNat, by omega, ⟨k - 1, (t.extract 0 (((((t.size : Nat)) - 1) : Int).toNat)), (fun i => ([vU, vU, vU, vU, vU, (vS t), (vI ((t.size : Nat))), (vB true), (vP b 0), (vS t), (vS t), (vI ((t.size : Nat))), (vI (((t.size : Nat)) - 1)), (Value.int .u8 (byt t (((((t.size : Nat)) - 1) : Int).toNat))), (vB true), (vB false), (vS t), (vS t), (vI ((t.size : Nat))), (vI (((t.size : Nat)) - 1)), (vS (t.extract 0 (((((t.size : Nat)) - 1) : Int).toNat)))] : List Value).getD i undef), by as_aux_lemma => kernel_rfl, rfl, rfl, by omega, (ext_step i4 (by omega)).trans (by rw [show (((t.size : Nat) : Int) - 1).toNat = (k - 1).toNat by omega]), fun j g1 g2 => by
          by_cases g3 : k.toNat ≤ j
          · exact i5 j g3 g2
          · have g4 : j = 0 + (((t.size : Nat) : Int) - 1).toNat := by omega
            rw [g4, ← byt_ext (b := k.toNat) (by omega) (by omega), ← i4]; exact c14, by rw [ext_size]; omega⟩⟩
    · refine wc_upd (n := 200) (T := ⟨fun r i => match r, i with | 1, 2 => some ((vB true), h) | 2, 4 => some ((vI (((t.size : Nat)) - 1)), h) | 2, 5 => some ((Value.int .u8 (byt t (((((t.size : Nat)) - 1) : Int).toNat))), h) | 2, 6 => some ((vB false), h) | _, _ => none, fun _ => none, none⟩) (x := (.exit 0)) (h1 := h) [(5, (vS t)), (6, (vI ((t.size : Nat)))), (7, (vB true)), (8, (vP b 0)), (9, (vS t)), (10, (vS t)), (11, (vI ((t.size : Nat)))), (12, (vI (((t.size : Nat)) - 1))), (13, (Value.int .u8 (byt t (((((t.size : Nat)) - 1) : Int).toNat)))), (14, (vB false)), (15, (vB true))]
        (fun q => (binA Tryd.prog .gtr 3 (vI ((t.size : Nat))) (vI 0) = some (vB true) ∧ h = h) ∧ (binA Tryd.prog .sub 3 (vI ((t.size : Nat))) (vI 1) = some (vI (((t.size : Nat)) - 1)) ∧ h = h) ∧ (indexA Tryd.prog 9 (vS t) (vI (((t.size : Nat)) - 1)) = some (Value.int .u8 (byt t (((((t.size : Nat)) - 1) : Int).toNat))) ∧ h = h) ∧ SoundCall Tryd.prog 69 #[(vP b 0), (Value.int .u8 (byt t (((((t.size : Nat)) - 1) : Int).toNat)))] h (vB false) h ∧ q) (by intro K'; as_aux_lemma => kernel_rfl) (fun _ q => ⟨⟨cmp_gtr (decide_eq_true c9), rfl⟩, ⟨sub_i64 (by omega) (by omega), rfl⟩, ⟨index_byt (by omega) (by omega), rfl⟩, (by rw [← c14]; exact sn12), q⟩) ?_
      refine wc_upd (n := 200) (T := ⟨fun r i => match r, i with | _, _ => none, fun _ => none, none⟩) (x := .ret) (h1 := h) [(21, (vS t)), (4, (vS t))]
        (fun q => q) (by intro K'; as_aux_lemma => kernel_rfl) (fun _ q => q) ?_
      refine end_at (T := ⟨fun _ _ => none, fun _ => none, none⟩) (A := K (vS t) h) (by kernel_rfl) ?_
      exact hK _ _ (⟨k.toNat, by omega, by rw [i4], i5, .inr (by rw [show k.toNat - 1 = 0 + (((t.size : Nat) : Int) - 1).toNat by omega, ← byt_ext (b := k.toNat) (by omega) (by omega), ← i4]; exact c14), rfl⟩)
  · refine wc_upd (n := 200) (T := ⟨fun r i => match r, i with | 1, 2 => some ((vB false), h) | _, _ => none, fun _ => none, none⟩) (x := (.exit 0)) (h1 := h) [(5, (vS t)), (6, (vI ((t.size : Nat)))), (7, (vB false))]
      (fun q => (binA Tryd.prog .gtr 3 (vI ((t.size : Nat))) (vI 0) = some (vB false) ∧ h = h) ∧ q) (by intro K'; as_aux_lemma => kernel_rfl) (fun _ q => ⟨⟨cmp_gtr (decide_eq_false c9), rfl⟩, q⟩) ?_
    refine wc_upd (n := 200) (T := ⟨fun r i => match r, i with | _, _ => none, fun _ => none, none⟩) (x := .ret) (h1 := h) [(21, (vS t)), (4, (vS t))]
      (fun q => q) (by intro K'; as_aux_lemma => kernel_rfl) (fun _ q => q) ?_
    refine end_at (T := ⟨fun _ _ => none, fun _ => none, none⟩) (A := K (vS t) h) (by kernel_rfl) ?_
    exact hK _ _ (⟨k.toNat, by omega, by rw [i4], i5, .inl (by omega), rfl⟩)
set_option maxHeartbeats 4000000 in
theorem trimL_ok (h : Heap) (b : Nat) (hb : h[b]? = some (.cells nameset 90 (0, 0))) (s : ByteArray) (hsz : s.size ≤ 1048576) : WCall Tryd.prog 63 #[(vS s), (vP b 0)] h (fun v h1 => ∃ k : Nat, k ≤ s.size ∧ v = .string (s.extract k s.size) ∧ (∀ j, j < k → okB (byt s j) = true) ∧ (k = s.size ∨ okB (byt s k) = false) ∧ h = h1) := by
  suffices H : ∀ K : Value → Heap → Prop, (∀ v h1, (fun v h1 => ∃ k : Nat, k ≤ s.size ∧ v = .string (s.extract k s.size) ∧ (∀ j, j < k → okB (byt s j) = true) ∧ (k = s.size ∨ okB (byt s k) = false) ∧ h = h1) v h1 → K v h1) → WCall Tryd.prog 63 #[(vS s), (vP b 0)] h K from H _ fun _ _ q => q
  intro K hK
  refine wcall_at { tmps := #[(vS s), (vP b 0), vZ, vZ, vZ, vZ, vZ, vZ, vZ, vZ, vZ, vZ, vZ, vZ, vZ, vZ], defers := [] } (by kernel_rfl) ?_
  refine wc_seq' (subc (bodyOf Tryd.prog 63) [0]) (subc (bodyOf Tryd.prog 63) [1]) (by kernel_rfl) ?_
  refine wc_upd (n := 200) (T := ⟨fun r i => match r, i with | _, _ => none, fun _ => none, none⟩) (x := .normal) (h1 := h) [(4, (vS .empty))]
    (fun q => q) (by intro K'; as_aux_lemma => kernel_rfl) (fun _ q => q) ?_
  refine wc_seq' (subc (bodyOf Tryd.prog 63) [1, 0]) (subc (bodyOf Tryd.prog 63) [1, 1]) (by kernel_rfl) ?_
  refine wc_block' 0 (subc (bodyOf Tryd.prog 63) [1, 0, 0]) (by kernel_rfl) ?_
  refine wc_loop' (subc (bodyOf Tryd.prog 63) [1, 0, 0, 0]) (by kernel_rfl) (fun n' a' h' => ∃ (k : Int) (t : ByteArray) (gb15 : Nat → Value), a' = { tmps := #[(vS t), (vP b 0), vZ, vZ, (vS .empty), (gb15 5), (gb15 6), (gb15 7), (gb15 8), (gb15 9), (gb15 10), (gb15 11), (gb15 12), (gb15 13), (gb15 14), vZ], defers := [] } ∧ h = h' ∧ n' = s.size - k.toNat ∧ (0 ≤ k ∧ k ≤ (s.size : Nat)) ∧ t = s.extract k.toNat s.size ∧ (∀ j, j < k.toNat → okB (byt s j) = true) ∧ ((t.size : Nat) : Int) = (s.size : Nat) - k) ?_ (s.size - (0 : Int).toNat) ⟨0, s, (fun i => ([vU, vU, vU, vU, vU, vZ, vZ, vZ, vZ, vZ, vZ, vZ, vZ, vZ, vZ] : List Value).getD i undef), by as_aux_lemma => kernel_rfl, rfl, rfl, by omega, by rw [show ((0 : Int)).toNat = 0 from rfl, ext_all], fun j g1 => by omega, by omega⟩
  rintro n' _ _ ⟨k, t, gb15, rfl, rfl, m21, i17, i18, i19, i20⟩
  by_cases c23 : (0 : Int) < ((t.size : Nat))
  · have t24 := byt_range t (0)
    obtain ⟨_, _, sn26, rfl, rfl⟩ := contains_ok h _ hb (byt t (0)) (by omega)
    rcases Bool.eq_false_or_eq_true ((okB (byt t (0)))) with c28 | c28
    · refine wc_upd (n := 200) (T := ⟨fun r i => match r, i with | 1, 2 => some ((vB true), h) | 2, 2 => some ((Value.int .u8 (byt t (0))), h) | 2, 3 => some ((vB true), h) | 3, 1 => some ((vS (t.extract 1 t.size)), h) | _, _ => none, fun _ => none, none⟩) (x := .normal) (h1 := h) [(5, (vS t)), (6, (vI ((t.size : Nat)))), (7, (vB true)), (8, (vP b 0)), (9, (vS t)), (10, (Value.int .u8 (byt t (0)))), (11, (vB true)), (12, (vB false)), (13, (vS t)), (14, (vS (t.extract 1 t.size))), (0, (vS (t.extract 1 t.size)))]
        (fun q => (binA Tryd.prog .gtr 3 (vI ((t.size : Nat))) (vI 0) = some (vB true) ∧ h = h) ∧ (indexA Tryd.prog 9 (vS t) (vI 0) = some (Value.int .u8 (byt t (0))) ∧ h = h) ∧ SoundCall Tryd.prog 69 #[(vP b 0), (Value.int .u8 (byt t (0)))] h (vB true) h ∧ (sliceA Tryd.prog h 9 (vS t) (some (vI 1)) none none = some (vS (t.extract 1 t.size)) ∧ h = h) ∧ q) (by intro K'; as_aux_lemma => kernel_rfl) (fun _ q => ⟨⟨cmp_gtr (decide_eq_true c23), rfl⟩, ⟨index_byt (by omega) (by omega), rfl⟩, (by rw [← c28]; exact sn26), ⟨slice_lo (by omega) (by omega), rfl⟩, q⟩) ?_
      exact ⟨s.size - (k + 1).toNat, by omega, ⟨k + 1, (t.extract 1 t.size), (fun i => ([vU, vU, vU, vU, vU, (vS t), (vI ((t.size : Nat))), (vB true), (vP b 0), (vS t), (Value.int .u8 (byt t (0))), (vB true), (vB false), (vS t), (vS (t.extract 1 t.size))] : List Value).getD i undef), by as_aux_lemma => kernel_rfl, rfl, rfl, by omega, by rw [i18, ext_suf s (by omega)]; congr 1; omega, fun j g2 => by
          by_cases g3 : j < k.toNat
          · exact i19 j g3
          · have g4 : j = k.toNat + 0 := by omega
            rw [g4, ← byt_ext (b := s.size) (by omega) (by omega), ← i18]; exact c28, by rw [ext_size]; omega⟩⟩
    · refine wc_upd (n := 200) (T := ⟨fun r i => match r, i with | 1, 2 => some ((vB true), h) | 2, 2 => some ((Value.int .u8 (byt t (0))), h) | 2, 3 => some ((vB false), h) | _, _ => none, fun _ => none, none⟩) (x := (.exit 0)) (h1 := h) [(5, (vS t)), (6, (vI ((t.size : Nat)))), (7, (vB true)), (8, (vP b 0)), (9, (vS t)), (10, (Value.int .u8 (byt t (0)))), (11, (vB false)), (12, (vB true))]
        (fun q => (binA Tryd.prog .gtr 3 (vI ((t.size : Nat))) (vI 0) = some (vB true) ∧ h = h) ∧ (indexA Tryd.prog 9 (vS t) (vI 0) = some (Value.int .u8 (byt t (0))) ∧ h = h) ∧ SoundCall Tryd.prog 69 #[(vP b 0), (Value.int .u8 (byt t (0)))] h (vB false) h ∧ q) (by intro K'; as_aux_lemma => kernel_rfl) (fun _ q => ⟨⟨cmp_gtr (decide_eq_true c23), rfl⟩, ⟨index_byt (by omega) (by omega), rfl⟩, (by rw [← c28]; exact sn26), q⟩) ?_
      refine wc_upd (n := 200) (T := ⟨fun r i => match r, i with | _, _ => none, fun _ => none, none⟩) (x := .ret) (h1 := h) [(15, (vS t)), (4, (vS t))]
        (fun q => q) (by intro K'; as_aux_lemma => kernel_rfl) (fun _ q => q) ?_
      refine end_at (T := ⟨fun _ _ => none, fun _ => none, none⟩) (A := K (vS t) h) (by kernel_rfl) ?_
      exact hK _ _ (⟨k.toNat, by omega, by rw [i18], i19, .inr (by rw [show k.toNat = k.toNat + 0 by omega, ← byt_ext (b := s.size) (by omega) (by omega), ← i18]; exact c28), rfl⟩)
  · refine wc_upd (n := 200) (T := ⟨fun r i => match r, i with | 1, 2 => some ((vB false), h) | _, _ => none, fun _ => none, none⟩) (x := (.exit 0)) (h1 := h) [(5, (vS t)), (6, (vI ((t.size : Nat)))), (7, (vB false))]
      (fun q => (binA Tryd.prog .gtr 3 (vI ((t.size : Nat))) (vI 0) = some (vB false) ∧ h = h) ∧ q) (by intro K'; as_aux_lemma => kernel_rfl) (fun _ q => ⟨⟨cmp_gtr (decide_eq_false c23), rfl⟩, q⟩) ?_
    refine wc_upd (n := 200) (T := ⟨fun r i => match r, i with | _, _ => none, fun _ => none, none⟩) (x := .ret) (h1 := h) [(15, (vS t)), (4, (vS t))]
      (fun q => q) (by intro K'; as_aux_lemma => kernel_rfl) (fun _ q => q) ?_
    refine end_at (T := ⟨fun _ _ => none, fun _ => none, none⟩) (A := K (vS t) h) (by kernel_rfl) ?_
    exact hK _ _ (⟨k.toNat, by omega, by rw [i18], i19, .inl (by omega), rfl⟩)
theorem makeset_run : callWith Tryd.prog (evalCode Tryd.prog 400) 62 #[.string cutset] #[] = some (.tuple #[.agg nameset, .bool true], ((callWith Tryd.prog (evalCode Tryd.prog 400) 62 #[.string cutset] #[]).map (·.2)).getD #[]) := by kernel_rfl
theorem makeset_ok (h : Heap) : WCall Tryd.prog 62 #[.string cutset] h (fun v h1 => v = .tuple #[.agg nameset, .bool true] ∧ h = h1) := by
  refine ⟨_, _, closed_call2 (evalCall_sound (by kernel_rfl) 400 _ _ _ _ _ makeset_run) (by intro x hx; simp only [List.mem_toArray, List.mem_cons, List.not_mem_nil, or_false] at hx; subst hx; rfl) (by kernel_rfl) rfl h, rfl, rfl⟩
end C32
