/- An abstract machine for Go, part 26: what is known of a heap behind each of its steps. -/
import Derived.Test.YtghcfpoccafbjaaDoorAmy
namespace Go.AM

section
variable {P : Program} {h h1 : Heap}

theorem push_new {o : Obj} (e : h1 = h.push o) : h1[h.size]? = some o := by subst e; simp
theorem push_old {o o' : Obj} {b : Nat} (e : h1 = h.push o) (hb : h[b]? = some o') : h1[b]? = some o' := by
  subst e
  have := (Array.getElem?_eq_some_iff.1 hb).1
  rw [Array.getElem?_push, if_neg (by omega)]; exact hb
theorem push_size {o : Obj} (e : h1 = h.push o) : h1.size = h.size + 1 := by subst e; simp
theorem row_lt {o : Obj} {b : Nat} (hb : h[b]? = some o) : b < h.size := (Array.getElem?_eq_some_iff.1 hb).1
theorem set_same {o o' : Obj} {b : Nat} (e : h1 = h.setIfInBounds b o) (hb : h[b]? = some o') : h1[b]? = some o := by
  subst e
  have := (Array.getElem?_eq_some_iff.1 hb).1
  simp [this]
theorem set_other {o o' : Obj} {b c : Nat} (e : h1 = h.setIfInBounds b o) (hc : h[c]? = some o') (hne : b ≠ c) : h1[c]? = some o' := by
  subst e
  rw [Array.getElem?_setIfInBounds, if_neg hne]; exact hc
theorem set_size {o : Obj} {b : Nat} (e : h1 = h.setIfInBounds b o) : h1.size = h.size := by subst e; simp

theorem Ext.setNew {h0 : Heap} {o : Obj} {b : Nat} (x : Ext h0 h) (e : h1 = h.setIfInBounds b o) (hb : h0.size ≤ b) : Ext h0 h1 := by
  intro c p hc
  subst e
  have := row_lt hc
  rw [Array.getElem?_setIfInBounds, if_neg (by omega)]
  exact x c p hc

/-- A cell is read. -/
theorem load_cell {t : TypeId} {b off : Nat} {c : Array Value} {e : TypeId} {fr : Nat × Nat} {v : Value} (ht : isAggA P t = some false) (hb : h[b]? = some (.cells c e fr)) (hv : c[off]? = some v) :
    loadT P h t (.pointer (some ⟨b, off, none⟩)) = some v := by
  have hlt := (Array.getElem?_eq_some_iff.1 hv).1
  have hx : off + 1 ≤ c.size := hlt
  simp only [loadT, ht, loadN, hb, true_and, hx, if_true, Option.bind_some]
  rw [Array.getElem?_extract, if_pos (by omega)]
  simpa using hv
theorem info_of {t : TypeId} {n : Nat} (hi : (P.info? t).map (·.size) = some n) : ∃ i, P.info? t = some i ∧ i.size = n := by
  simpa using hi
/-- Some cells are read. -/
theorem load_agg {t : TypeId} {b off n : Nat} {c d : Array Value} {e : TypeId} {fr : Nat × Nat} (ht : isAggA P t = some true) (hi : (P.info? t).map (·.size) = some n) (hb : h[b]? = some (.cells c e fr)) (hs : off + n ≤ c.size) (hd : c.extract off (off + n) = d) :
    loadT P h t (.pointer (some ⟨b, off, none⟩)) = some (.agg d) := by
  obtain ⟨i, hi', rfl⟩ := info_of hi
  simp only [loadT, ht, hi', loadN, hb, true_and, hs, if_true, Option.map_some, hd]
/-- Cells are written. -/
theorem store_cells {t : TypeId} {b off n : Nat} {c : Array Value} {e : TypeId} {fr : Nat × Nat} {v : Value} (hi : (P.info? t).map (·.size) = some n) (hs : v.cells.size = n) (hb : h[b]? = some (.cells c e fr)) (hf : fr.2 ≤ fr.1) (hsz : off + n ≤ c.size) (ho : v.cells.toList.all (·.oneCell') = true)
    {d : Array Value} (hd : splice c off v.cells.toList = d) : storeT P h t (.pointer (some ⟨b, off, none⟩)) v = some (h.setIfInBounds b (.cells d e fr)) := by
  obtain ⟨i, hi', rfl⟩ := info_of hi
  have h1 : off + v.cells.toList.length ≤ c.size := by simpa [hs] using hsz
  simp only [storeT, hi', hs, if_true, storeN, hb]
  rw [if_pos ⟨trivial, h1, hf, ho⟩, hd]

/-- An element's address. -/
theorem index_addr {t e : TypeId} {b off n cp z : Nat} {k : IntKind} {j : Int} (ht : P.underlying t = some (.slice e)) (hi : (P.info? e).map (·.size) = some z) (h0 : 0 ≤ j) (hn : j < n) :
    indexAddrA P t (.slice (some ⟨b, off, none⟩) n cp) (.int k j) = some (.pointer (some ((⟨b, off, none⟩ : Addr).add (j.toNat * z)))) := by
  obtain ⟨i, hi', rfl⟩ := info_of hi
  simp only [indexAddrA, ht, hi']
  rw [if_pos (by constructor <;> omega)]

/-! ### comparisons and sums of whole numbers -/
theorem cmp_lss {t : TypeId} {k : IntKind} {a b : Int} {r : Bool} (e : decide (a < b) = r) : binA P .lss t (.int k a) (.int k b) = some (.bool r) := by subst e; simp [binA, intBinA]
theorem cmp_leq {t : TypeId} {k : IntKind} {a b : Int} {r : Bool} (e : decide (a ≤ b) = r) : binA P .leq t (.int k a) (.int k b) = some (.bool r) := by subst e; simp [binA, intBinA]
theorem cmp_gtr {t : TypeId} {k : IntKind} {a b : Int} {r : Bool} (e : decide (b < a) = r) : binA P .gtr t (.int k a) (.int k b) = some (.bool r) := by subst e; simp [binA, intBinA]
theorem cmp_geq {t : TypeId} {k : IntKind} {a b : Int} {r : Bool} (e : decide (b ≤ a) = r) : binA P .geq t (.int k a) (.int k b) = some (.bool r) := by subst e; simp [binA, intBinA]
theorem cmp_eql {t : TypeId} {k : IntKind} {a b : Int} {r : Bool} (e : decide (a = b) = r) : binA P .eql t (.int k a) (.int k b) = some (.bool r) := by
  subst e; simp [binA, intBinA]; by_cases e : a = b <;> simp [e]
theorem cmp_neq {t : TypeId} {k : IntKind} {a b : Int} {r : Bool} (e : decide (a ≠ b) = r) : binA P .neq t (.int k a) (.int k b) = some (.bool r) := by
  subst e; simp [binA, intBinA]; by_cases e : a = b <;> simp [e]
theorem add_i64 {t : TypeId} {a b : Int} (h0 : -9223372036854775808 ≤ a + b) (h1 : a + b ≤ 9223372036854775807) : binA P .add t (.int .i64 a) (.int .i64 b) = some (.int .i64 (a + b)) := by
  have : IntKind.i64.wrap (a + b) = a + b := by rw [IntKind.wrap_i64]; omega
  simp [binA, intBinA, this]
theorem sub_i64 {t : TypeId} {a b : Int} (h0 : -9223372036854775808 ≤ a - b) (h1 : a - b ≤ 9223372036854775807) : binA P .sub t (.int .i64 a) (.int .i64 b) = some (.int .i64 (a - b)) := by
  have : IntKind.i64.wrap (a - b) = a - b := by rw [IntKind.wrap_i64]; omega
  simp [binA, intBinA, this]
end
end Go.AM
