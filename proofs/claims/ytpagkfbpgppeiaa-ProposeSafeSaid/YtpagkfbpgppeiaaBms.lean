/- An abstract machine for Go, part 45: slices that were made with a length: they own their row, and have no room more. -/
import Derived.Test.YtpagkfbpgppeiaaBmj
namespace Go.AM

/-- A slice that was made, and holds a list. -/
def MadeAt {α : Type} (h : Heap) (e : TypeId) (f : α → Array Value) (xs : List α) (v : Value) : Prop := ∃ b, v = .slice (some ⟨b, 0, none⟩) xs.length xs.length ∧ h[b]? = some (.cells (flat f xs) e (0, 0))

section
variable {α : Type} {P : Program} {h h1 : Heap} {O : Nat → Prop} {f : α → Array Value} {z : Nat} {e : TypeId} {xs : List α} {v : Value}
theorem MadeAt.keep (k : MadeAt h e f xs v) (w : ∀ b r, blk v b → h[b]? = some r → h1[b]? = some r) : MadeAt h1 e f xs v := by
  obtain ⟨b, rfl, k⟩ := k; exact ⟨b, rfl, w _ _ rfl k⟩
theorem MadeAt.ext (k : MadeAt h e f xs v) (x : Ext h h1) : MadeAt h1 e f xs v := k.keep fun b r _ q => x b r q
theorem MadeAt.chg (k : MadeAt h e f xs v) (c : Chg O h h1) (w : ∀ b, blk v b → ¬ O b) : MadeAt h1 e f xs v := k.keep fun b r q hr => c.same b r hr (w b q)
theorem MadeAt.blk_lt (k : MadeAt h e f xs v) {b : Nat} (hb : blk v b) : b < h.size := by
  obtain ⟨b', rfl, k⟩ := k; cases hb; exact row_lt k
theorem MadeAt.ne {e2 : TypeId} (k : MadeAt h e f xs v) {b b2 : Nat} {c : Array Value} {fr : Nat × Nat} (hb2 : h[b2]? = some (.cells c e2 fr)) (he : e ≠ e2) (hb : blk v b) : b ≠ b2 := by
  rintro rfl
  obtain ⟨b', rfl, k⟩ := k
  cases hb; rw [hb2] at k; cases k; exact he rfl
theorem MadeAt.celled (k : MadeAt h e f xs v) : Celled h (blk v) := by
  obtain ⟨b', rfl, k⟩ := k
  intro b hb; cases hb; exact ⟨_, _, _, k⟩
theorem MadeAt.apart {β : Type} {g : β → Array Value} {e2 : TypeId} {ys : List β} {w : Value} (k : MadeAt h e f xs v) (k2 : OwnAt h e2 g ys w) (he : e ≠ e2) {b : Nat} (hb : blk v b) (hb2 : blk w b) : False := by
  obtain ⟨b', rfl, k⟩ := k
  cases hb; exact k2.ne k (Ne.symm he) hb2 rfl
theorem MadeAt.slice (k : MadeAt h e f xs v) (hf : ∀ x, (f x).size = z) : SliceAt h f z xs v := by
  obtain ⟨b', rfl, k⟩ := k
  exact .inr ⟨b', 0, _, _, _, _, rfl, ⟨k, by decide, Nat.le_refl _, by rw [flat_size hf]; omega, by rw [Nat.zero_add, flat_all hf]⟩⟩
/-- An element is turned. -/
theorem MadeAt.store (hf : ∀ x, (f x).size = z) (k : MadeAt h e f xs v) {i : Nat} {x : α} (hx : xs[i]? = some x) :
    ∃ b o, blk v b ∧ (∀ {P : Program} {t e : TypeId} {kd : IntKind} {j : Int}, P.underlying t = some (.slice e) → (P.info? e).map (·.size) = some z → j = (i : Int) → indexAddrA P t v (.int kd j) = some (.pointer (some ⟨b, o, none⟩))) ∧
      (CellsAt h b o (f x)) ∧ ∀ {P : Program} {t : TypeId} {n j : Nat} {y : α} {u : Value}, (P.info? t).map (·.size) = some n → u.cells.size = n → u.cells.toList.all (·.oneCell') = true → j + n ≤ z → splice (f x) j u.cells.toList = f y →
        ∃ h1, storeT P h t (.pointer (some ⟨b, o + j, none⟩)) u = some h1 ∧ MadeAt h1 e f (xs.set i y) v ∧ Chg (fun q => q = b) h h1 ∧ h1.size = h.size := by
  have hlt : i < xs.length := (List.getElem?_eq_some_iff.1 hx).1
  obtain ⟨b, rfl, k⟩ := k
  have hsz := flat_size hf xs
  have hle : i * z + z ≤ xs.length * z := by
    have := Nat.mul_le_mul_right z (show i + 1 ≤ xs.length from hlt)
    rw [Nat.succ_mul] at this; exact this
  refine ⟨b, i * z, rfl, fun {P t e2 kd j} ht hi hj => ?_, ⟨_, _, _, k, by rw [hf, hsz]; omega, fun j hj => ?_⟩, fun {P t n j y u} hi hu ho hj hs => ?_⟩
  · subst hj
    rw [index_addr ht hi (by omega) (by omega), addr_add _ rfl]
    simp
  · rw [hf] at hj; exact flat_get hf xs i j x hx hj
  · have hul : u.cells.toList.length = n := by simpa using hu
    exact ⟨_, store_cells hi hu k (by decide) (by omega) ho (flat_splice hf hx (by omega) hs), ⟨b, by simp, set_same rfl k⟩, Chg.set rfl, by simp⟩
theorem flat_rep {x : α} (hf : ∀ x, (f x).size = z) (hz0 : z ≠ 0) : ∀ n, (Array.range (n * z)).map (fun i => (f x)[i % z]!) = flat f (List.replicate n x)
  | 0 => by simp [flat]
  | n + 1 => by
    have ih := flat_rep (x := x) hf hz0 n
    have e1 : List.replicate (n + 1) x = List.replicate n x ++ [x] := List.replicate_succ'
    rw [e1, flat_append, ← ih, flat_one]
    apply Array.ext
    · simp [hf, Nat.succ_mul]
    · intro i h1 h2
      simp only [Array.getElem_map, Array.getElem_range, Array.getElem_append, Array.size_map, Array.size_range]
      split
      · rfl
      · rename_i hi
        simp only [Array.size_map, Array.size_range, Nat.succ_mul] at h1
        have hm : i % z = i - n * z := by
          have hz : 0 < z := Nat.pos_of_ne_zero hz0
          obtain ⟨d, rfl⟩ : ∃ d, i = n * z + d := ⟨i - n * z, by omega⟩
          rw [Nat.add_comm, Nat.add_mul_mod_self_right, Nat.mod_eq_of_lt (by omega)]; omega
        rw [hm, getElem!_pos (f x) (i - n * z) (by rw [hf]; omega)]
/-- make, with a length. -/
theorem made_slice {t : TypeId} {k1 k2 : IntKind} {n : Int} {bytes : Nat} {x : α} {zv : Value} (ht : P.underlying t = some (.slice e)) (hi : (P.info? e).map (fun i => (i.size, i.bytes)) = some (z, bytes)) (hz : zeroA P e = some zv) (hx : zv.cells = f x) (hf : ∀ x, (f x).size = z) (hz0 : z ≠ 0)
    (h0 : 0 ≤ n) (h1' : n ≤ 9223372036854775807) (hb : (bytes : Int) * n ≤ 281474976710656) :
    ∃ h1, makeSliceA P h t (.int k1 n) (.int k2 n) = some (.slice (some ⟨h.size, 0, none⟩) n.toNat n.toNat, h1) ∧ h1 = h.push (.cells (flat f (List.replicate n.toNat x)) e (0, 0)) ∧ MadeAt h1 e f (List.replicate n.toNat x) (.slice (some ⟨h.size, 0, none⟩) n.toNat n.toNat) := by
  simp only [Option.map_eq_some_iff, Prod.mk.injEq] at hi
  obtain ⟨i, hi, rfl, rfl⟩ := hi
  have hs : zv.cells.size = i.size := by rw [hx, hf]
  refine ⟨h.push (.cells (flat f (List.replicate n.toNat x)) e (0, 0)), ?_, rfl, h.size, by simp, by simp⟩
  simp only [makeSliceA, ht, hi, hz]
  rw [if_pos ⟨h0, Int.le_refl _, h1', hb, hs, hz0⟩]
  have := flat_rep (x := x) hf hz0 n.toNat
  rw [← this, hx, hf]
end
end Go.AM
