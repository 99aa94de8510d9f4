/- An abstract machine for Go, part 29: slices that hold a list. -/
import Derived.Test.YtjkcadbblgefdaaGreatDoorBmb
namespace Go.AM

/-- A slice that is there and holds the list xs, its elements' cells being f's. -/
structure RowAt {α:Type} (h:Heap) (f:α→Array Value) (z:Nat) (xs:List α) (b off cp:Nat) (c:Array Value) (e:TypeId) (fr:Nat × Nat):Prop where
  row:h[b]?=some (.cells c e fr)
  live:fr ≠ (2,2)
  len:xs.length≤cp
  fits:off + xs.length * z≤c.size
  cells:c.extract off (off + xs.length * z)=flat f xs

/-- A value of a slice type that holds the list xs. -/
def SliceAt {α:Type} (h:Heap) (f:α→Array Value) (z:Nat) (xs:List α) (v:Value):Prop :=
  (v=.slice none 0 0∧xs=[]) ∨ ∃ b off cp c e fr,v=.slice (some ⟨b,off,none⟩) xs.length cp∧RowAt h f z xs b off cp c e fr

section
variable {α : Type} {f : α → Array Value} {z : Nat} {P : Program} {h h1 : Heap}

theorem SliceAt.len {xs:List α} {v:Value} (k:SliceAt h f z xs v):∃ a cp,v=.slice a xs.length cp:=by
  rcases k with ⟨rfl,rfl⟩ | ⟨b,off,cp,c,e,fr,hv,k⟩
  · exact ⟨none,0,rfl⟩
  · exact ⟨_,_,hv⟩

/-- A cell of an element. -/
theorem RowAt.get (hf:∀ x,(f x).size=z) {xs:List α} {b off cp:Nat} {c:Array Value} {e:TypeId} {fr:Nat × Nat} (k:RowAt h f z xs b off cp c e fr) {i j:Nat} {x:α} (hi:xs[i]?=some x) (hj:j < z):c[off + (i * z + j)]?=(f x)[j]?:=by
  have hlt:i < xs.length:=(List.getElem?_eq_some_iff.1 hi).1
  have hle:i * z + z≤xs.length * z:=by
    have:=Nat.mul_le_mul_right z (show i + 1≤xs.length from hlt)
    rw [Nat.succ_mul] at this; exact this
  have:=flat_get hf xs i j x hi hj
  rw [← k.cells,Array.getElem?_extract,if_pos (by have:=k.fits; omega)] at this
  exact this

/-- An element as a whole. -/
theorem RowAt.elem (hf:∀ x,(f x).size=z) {xs:List α} {b off cp:Nat} {c:Array Value} {e:TypeId} {fr:Nat × Nat} (k:RowAt h f z xs b off cp c e fr) {i:Nat} {x:α} (hi:xs[i]?=some x) :
    off + i * z + z≤c.size∧c.extract (off + i * z) (off + i * z + z)=f x:=by
  have hlt:i < xs.length:=(List.getElem?_eq_some_iff.1 hi).1
  have hle:i * z + z≤xs.length * z:=by
    have:=Nat.mul_le_mul_right z (show i + 1≤xs.length from hlt)
    rw [Nat.succ_mul] at this; exact this
  have hfit:=k.fits
  refine ⟨by omega,?_⟩
  apply Array.ext_getElem?
  intro j
  rw [Array.getElem?_extract]
  split
  · rename_i hj
    have:=k.get hf hi (j:=j) (by omega)
    rw [← this]
    congr 1; omega
  · rename_i hj
    rw [Array.getElem?_eq_none]
    rw [hf]; omega
end
end Go.AM
