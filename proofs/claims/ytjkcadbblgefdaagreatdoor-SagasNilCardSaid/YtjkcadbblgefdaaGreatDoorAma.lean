/- An abstract machine for Go, part 1: canonical heaps, the renaming of blocks, and what it means that a canonical heap stands for a world. -/
import Derived.RangeFuncLeaves
import Derived.RangeFuncRecord
import Derived.RangeFuncSeq
import Derived.Orders
import Derived.Laws.Cells
import Derived.Laws.Entries
import Derived.Laws.AppendOwn
namespace Go.AM

abbrev Heap := Array Obj
/-- The program's variables that may be named. -/
def globList : List Nat := [0, 1]
/-- The heap as a function. -/
def hget (h : Heap) : Nat → Option Obj := fun b => h[b]?

/-- A renaming: canonical blocks to the world's; which canonical rows may have hidden room behind them (the cells of an element, the cells of the world's row); which are dead; for which address of an empty slice without room a canonical block stands that stands for no block. -/
structure Ren where
  map : Nat → Option Nat
  slack : Nat → Option (Nat × Nat)
  dead : Nat → Bool
  ghost : Nat → Option Addr

def BR (R : Ren) (b b' : Nat) : Prop := R.dead b = true ∨ R.map b = some b'
def AR (R : Ren) (a a' : Addr) : Prop := a.spot = none ∧ a'.spot = none ∧ (R.dead a.block = true ∨ (R.map a.block = some a'.block ∧ a'.off = a.off))
/-- The address of a slice of n elements (an empty slice without room may lie anywhere in its row). -/
def SAR (R : Ren) (a a' : Addr) (n c' : Nat) : Prop := a.spot = none ∧ a'.spot = none ∧ (R.dead a.block = true ∨ (R.map a.block = some a'.block ∧ (a'.off = a.off ∨ (n = 0 ∧ c' = 0 ∧ R.slack a.block ≠ none))))
def CapR (R : Ren) (a : Addr) (c c' : Nat) : Prop :=
  c' = c ∨ (∃ z r, R.slack a.block = some (z, r) ∧ ¬(c = 0 ∧ a.off = 0) ∧ c ≤ c' ∧ a.off + c' * z ≤ r) ∨ R.dead a.block = true
def GhR (R : Ren) (a a' : Addr) (n c c' : Nat) : Prop := R.ghost a.block = some a' ∧ n = 0 ∧ c = 0 ∧ c' = 0 ∧ a.off = 0 ∧ a.spot = none
def FnR (R : Ren) : Fn → Fn → Prop
  | .yield l, f => ∃ l', f = .yield l' ∧ BR R l l'
  | g, f => f = g
def ArrR (X : Value → Value → Prop) (cs cs' : Array Value) : Prop :=
  cs'.size = cs.size ∧ ∀ (i : Nat) (v v' : Value), cs[i]? = some v → cs'[i]? = some v' → X v v'

/-- What a token may stand for. -/
def opq : Value → Bool
  | .agg _ | .tuple _ | .bool _ | .nilIface => false
  | _ => true
theorem opq_cells {v : Value} (h : opq v = true) : v.cells = #[v] := by cases v <;> first | rfl | simp [opq] at h

/-- One layer of the relation between values. -/
def VStep (R : Ren) (X : Value → Value → Prop) : Value → Value → Prop
  | .bool b, v => v = .bool b
  | .int k n, v => v = .int k n
  | .float k b, v => v = .float k b
  | .complex k x y, v => v = .complex k x y
  | .string s, v => v = .string s
  | .pointer none, v => v = .pointer none
  | .pointer (some a), v => ∃ a', v = .pointer (some a') ∧ AR R a a'
  | .slice none n c, v => v = .slice none n c
  | .slice (some a) n c, v => ∃ a' c', v = .slice (some a') n c' ∧ (SAR R a a' n c' ∧ CapR R a c c' ∨ GhR R a a' n c c')
  | .map none, v => v = .map none
  | .map (some r), v => ∃ r', v = .map (some r') ∧ BR R r r'
  | .nilFunc, v => v = .nilFunc
  | .iface _ u, v => v = u ∧ opq v = true
  | .nilIface, v => v = .nilIface
  | .func fn first cap, v => ∃ fn' first' cap', v = .func fn' first' cap' ∧ FnR R fn fn' ∧ ArrR X first first' ∧ ArrR X cap cap'
  | .agg cs, v => ∃ cs', v = .agg cs' ∧ ArrR X cs cs'
  | .tuple cs, v => ∃ cs', v = .tuple cs' ∧ ArrR X cs cs'
  | _, _ => False

theorem ArrR.mono {X Y : Value → Value → Prop} (h : ∀ u u', X u u' → Y u u') {cs cs' : Array Value} (k : ArrR X cs cs') : ArrR Y cs cs' :=
  ⟨k.1, fun i v v' hv hv' => h _ _ (k.2 i v v' hv hv')⟩

/-- Renamings grow; blocks may die. -/
structure Ren.le (R R' : Ren) : Prop where
  map : ∀ b g, R.map b = some g → R'.map b = some g ∨ R'.dead b = true
  dead : ∀ b, R.dead b = true → R'.dead b = true
  slack : ∀ b g, R.map b = some g → R'.slack b = R.slack b ∨ R'.dead b = true
  ghost : R'.ghost = R.ghost

theorem Ren.le.refl (R : Ren) : R.le R := ⟨fun _ _ h => .inl h, fun _ h => h, fun _ _ _ => .inl rfl, rfl⟩

theorem BR.mono {R R' : Ren} (h : R.le R') {b b' : Nat} (k : BR R b b') : BR R' b b' := by
  rcases k with k | k
  · exact .inl (h.dead _ k)
  · rcases h.map _ _ k with k | k
    · exact .inr k
    · exact .inl k

theorem AR.mono {R R' : Ren} (h : R.le R') {a a' : Addr} (k : AR R a a') : AR R' a a' := by
  refine ⟨k.1, k.2.1, ?_⟩
  rcases k.2.2 with k | ⟨k, ko⟩
  · exact .inl (h.dead _ k)
  · rcases h.map _ _ k with k | k
    · exact .inr ⟨k, ko⟩
    · exact .inl k

theorem SAR.mono {R R' : Ren} (h : R.le R') {a a' : Addr} {n c' : Nat} (k : SAR R a a' n c') : SAR R' a a' n c' := by
  refine ⟨k.1, k.2.1, ?_⟩
  rcases k.2.2 with k | ⟨k, ko⟩
  · exact .inl (h.dead _ k)
  · rcases h.map _ _ k with k1 | k1
    · rcases h.slack _ _ k with e | e
      · exact .inr ⟨k1, by rw [e]; exact ko⟩
      · exact .inl e
    · exact .inl k1

theorem CapR.mono {R R' : Ren} (h : R.le R') {a a' : Addr} {n : Nat} {c c' : Nat} (ha : SAR R a a' n c') (k : CapR R a c c') : CapR R' a c c' := by
  rcases k with k | k | k
  · exact .inl k
  · rcases ha.2.2 with hd | ⟨hm, _⟩
    · exact .inr (.inr (h.dead _ hd))
    · rcases h.slack _ _ hm with e | e
      · exact .inr (.inl (by rw [e]; exact k))
      · exact .inr (.inr e)
  · exact .inr (.inr (h.dead _ k))

theorem FnR.mono {R R' : Ren} (h : R.le R') {f f' : Fn} (k : FnR R f f') : FnR R' f f' := by
  cases f <;> simp only [FnR] at k ⊢ <;> try exact k
  obtain ⟨l', e, hb⟩ := k
  exact ⟨l', e, hb.mono h⟩

theorem VStep.mono {R R' : Ren} {X Y : Value → Value → Prop} (hR : R.le R') (h : ∀ u u', X u u' → Y u u') {v v' : Value} (k : VStep R X v v') : VStep R' Y v v' := by
  unfold VStep at k ⊢
  split at k <;> try exact k
  · obtain ⟨a', e, ha⟩ := k; exact ⟨a', e, ha.mono hR⟩
  · obtain ⟨a', c', e, hq⟩ := k
    refine ⟨a', c', e, ?_⟩
    rcases hq with ⟨ha, hc⟩ | hg
    · exact .inl ⟨ha.mono hR, hc.mono hR ha⟩
    · exact .inr (by unfold GhR at hg ⊢; rw [hR.ghost]; exact hg)
  · obtain ⟨r', e, hb⟩ := k; exact ⟨r', e, hb.mono hR⟩
  · obtain ⟨fn', first', cap', e, hf, h1, h2⟩ := k; exact ⟨fn', first', cap', e, hf.mono hR, h1.mono h, h2.mono h⟩
  · obtain ⟨cs', e, hc⟩ := k; exact ⟨cs', e, hc.mono h⟩
  · obtain ⟨cs', e, hc⟩ := k; exact ⟨cs', e, hc.mono h⟩

/-- The relation between a canonical value and a value of the world: the greatest one that each layer bears. -/
def VR (R : Ren) (v v' : Value) : Prop := ∃ X : Value → Value → Prop, (∀ u u', X u u' → VStep R X u u') ∧ X v v'

theorem VR.step {R : Ren} {v v' : Value} (h : VR R v v') : VStep R (VR R) v v' := by
  obtain ⟨X, hX, hv⟩ := h
  exact (hX _ _ hv).mono (.refl R) fun u u' hu => ⟨X, hX, hu⟩

theorem VR.mk {R : Ren} {v v' : Value} (h : VStep R (VR R) v v') : VR R v v' :=
  ⟨VStep R (VR R), fun _ _ hu => hu.mono (.refl R) fun _ _ k => k.step, h⟩

theorem VR.mono {R R' : Ren} (h : R.le R') {v v' : Value} (k : VR R v v') : VR R' v v' :=
  ⟨VR R, fun _ _ hu => hu.step.mono h fun _ _ k => k, k⟩

section inv
variable {R : Ren} {v : Value}
theorem VR_iff {u : Value} : VR R u v ↔ VStep R (VR R) u v := ⟨VR.step, VR.mk⟩
@[simp] theorem VR_bool {b : Bool} : VR R (.bool b) v ↔ v = .bool b := VR_iff
@[simp] theorem VR_int {k : IntKind} {n : Int} : VR R (.int k n) v ↔ v = .int k n := VR_iff
@[simp] theorem VR_float {k : FloatKind} {n : Nat} : VR R (.float k n) v ↔ v = .float k n := VR_iff
@[simp] theorem VR_complex {k : FloatKind} {n m : Nat} : VR R (.complex k n m) v ↔ v = .complex k n m := VR_iff
@[simp] theorem VR_string {s : ByteArray} : VR R (.string s) v ↔ v = .string s := VR_iff
@[simp] theorem VR_nilptr : VR R (.pointer none) v ↔ v = .pointer none := VR_iff
@[simp] theorem VR_ptr {a : Addr} : VR R (.pointer (some a)) v ↔ ∃ a', v = .pointer (some a') ∧ AR R a a' := VR_iff
@[simp] theorem VR_nilslice {n c : Nat} : VR R (.slice none n c) v ↔ v = .slice none n c := VR_iff
@[simp] theorem VR_slice {a : Addr} {n c : Nat} : VR R (.slice (some a) n c) v ↔ ∃ a' c', v = .slice (some a') n c' ∧ (SAR R a a' n c' ∧ CapR R a c c' ∨ GhR R a a' n c c') := VR_iff
@[simp] theorem VR_nilmap : VR R (.map none) v ↔ v = .map none := VR_iff
@[simp] theorem VR_map {r : Nat} : VR R (.map (some r)) v ↔ ∃ r', v = .map (some r') ∧ BR R r r' := VR_iff
@[simp] theorem VR_nilfunc : VR R .nilFunc v ↔ v = .nilFunc := VR_iff
@[simp] theorem VR_niliface : VR R .nilIface v ↔ v = .nilIface := VR_iff
@[simp] theorem VR_func {fn : Fn} {fs cap : Array Value} : VR R (.func fn fs cap) v ↔ ∃ fn' first' cap', v = .func fn' first' cap' ∧ FnR R fn fn' ∧ ArrR (VR R) fs first' ∧ ArrR (VR R) cap cap' := VR_iff
@[simp] theorem VR_agg {cs : Array Value} : VR R (.agg cs) v ↔ ∃ cs', v = .agg cs' ∧ ArrR (VR R) cs cs' := VR_iff
@[simp] theorem VR_tuple {cs : Array Value} : VR R (.tuple cs) v ↔ ∃ cs', v = .tuple cs' ∧ ArrR (VR R) cs cs' := VR_iff
@[simp] theorem VR_chan {r : Option Nat} : VR R (.chan r) v ↔ False := by rw [VR_iff]; simp [VStep]
theorem VR_tok {t : TypeId} {u : Value} : VR R (.iface t u) v ↔ v = u ∧ opq v = true := VR_iff
end inv

section arr
variable {R : Ren}
theorem ArrR.empty (X : Value → Value → Prop) : ArrR X #[] #[] := ⟨rfl, by simp⟩
theorem ArrR.get {X : Value → Value → Prop} {cs cs' : Array Value} (h : ArrR X cs cs') {i : Nat} {v : Value} (hv : cs[i]? = some v) : ∃ v', cs'[i]? = some v' ∧ X v v' := by
  have hi : i < cs'.size := by rw [h.1]; exact (Array.getElem?_eq_some_iff.1 hv).1
  exact ⟨cs'[i], by simp [hi], h.2 i v _ hv (by simp [hi])⟩
theorem ArrR.push {X : Value → Value → Prop} {cs cs' : Array Value} (h : ArrR X cs cs') {v v' : Value} (hv : X v v') : ArrR X (cs.push v) (cs'.push v') := by
  refine ⟨by simp [h.1], fun i u u' hu hu' => ?_⟩
  rw [Array.getElem?_push] at hu hu'
  rw [h.1] at hu'
  split at hu
  · rename_i hi; rw [if_pos hi] at hu'; cases hu; cases hu'; exact hv
  · rename_i hi; rw [if_neg hi] at hu'; exact h.2 i _ _ hu hu'
theorem ArrR.append {X : Value → Value → Prop} {a a' b b' : Array Value} (h : ArrR X a a') (k : ArrR X b b') : ArrR X (a ++ b) (a' ++ b') := by
  refine ⟨by simp [h.1, k.1], fun i u u' hu hu' => ?_⟩
  rw [Array.getElem?_append] at hu hu'
  rw [h.1] at hu'
  split at hu
  · rename_i hi; rw [if_pos hi] at hu'; exact h.2 _ _ _ hu hu'
  · rename_i hi; rw [if_neg hi] at hu'; exact k.2 _ _ _ hu hu'
theorem ArrR.set {X : Value → Value → Prop} {cs cs' : Array Value} (h : ArrR X cs cs') (j : Nat) {v v' : Value} (hv : X v v') : ArrR X (cs.setIfInBounds j v) (cs'.setIfInBounds j v') := by
  refine ⟨by simp [h.1], fun i u u' hu hu' => ?_⟩
  rw [Array.getElem?_setIfInBounds] at hu hu'
  rw [h.1] at hu'
  split at hu
  · rename_i e
    rw [if_pos e] at hu'
    split at hu
    · rename_i hlt; rw [if_pos hlt] at hu'; cases hu; cases hu'; exact hv
    · cases hu
  · rename_i e; rw [if_neg e] at hu'; exact h.2 _ _ _ hu hu'
theorem ArrR.extract {X : Value → Value → Prop} {cs cs' : Array Value} (h : ArrR X cs cs') (i j : Nat) : ArrR X (cs.extract i j) (cs'.extract i j) := by
  refine ⟨by simp [h.1], fun k u u' hu hu' => ?_⟩
  rw [Array.getElem?_extract] at hu hu'
  rw [h.1] at hu'
  split at hu
  · rename_i hk; rw [if_pos hk] at hu'; exact h.2 _ _ _ hu hu'
  · cases hu
theorem ArrR.one {X : Value → Value → Prop} {v v' : Value} (h : X v v') : ArrR X #[v] #[v'] := by
  have := (ArrR.empty X).push h
  simpa using this
theorem ArrR.replicate {X : Value → Value → Prop} (n : Nat) {v v' : Value} (h : X v v') : ArrR X (Array.replicate n v) (Array.replicate n v') :=
  ⟨by simp, fun i u u' hu hu' => by
    rw [Array.getElem?_replicate] at hu hu'
    split at hu
    · rename_i hi; rw [if_pos hi] at hu'; cases hu; cases hu'; exact h
    · cases hu⟩
theorem VR.cells {v v' : Value} (h : VR R v v') : ArrR (VR R) v.cells v'.cells := by
  have h0 := h
  cases v
  case agg cs => rw [VR_agg] at h; obtain ⟨cs', rfl, hc⟩ := h; exact hc
  case pointer a => cases a <;> simp at h <;> first | (subst h; exact ArrR.one h0) | (obtain ⟨_, rfl, _⟩ := h; exact ArrR.one h0)
  case slice a n c => cases a <;> simp at h <;> first | (subst h; exact ArrR.one h0) | (obtain ⟨_, rfl, _⟩ := h; exact ArrR.one h0) | (obtain ⟨_, _, rfl, _⟩ := h; exact ArrR.one h0)
  case map r => cases r <;> simp at h <;> first | (subst h; exact ArrR.one h0) | (obtain ⟨_, rfl, _⟩ := h; exact ArrR.one h0)
  case func f a b => rw [VR_func] at h; obtain ⟨_, _, _, rfl, _⟩ := h; exact ArrR.one h0
  case tuple cs => rw [VR_tuple] at h; obtain ⟨_, rfl, _⟩ := h; exact ArrR.one h0
  case chan r => simp at h
  case iface t u => rw [VR_tok] at h; rw [opq_cells h.2]; exact ArrR.one h0
  all_goals (simp at h; subst h; exact ArrR.one h0)
end arr

end Go.AM
