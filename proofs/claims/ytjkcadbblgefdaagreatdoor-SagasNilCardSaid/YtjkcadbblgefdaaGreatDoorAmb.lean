/- An abstract machine for Go, part 2: a canonical heap stands for a world; the steps of heaps that keep this. -/
import Derived.Test.YtjkcadbblgefdaaGreatDoorAma
namespace Go.AM

def isSlack : Option Obj → Bool
  | some (.cells _ _ fr) => decide (fr = (1, 1))
  | _ => false
def inFr (fr : Nat × Nat) (i : Nat) : Bool := decide (fr.1 ≤ i) && decide (i < fr.2)

/-- Two maps with numbers as keys hold the same pairs, in whatever orders. -/
structure Shuf (R : Ren) (es es' : List MapEntry) (ck' : Nat) : Prop where
  ints : ∀ e ∈ es, ∃ x, e.key = .int .i64 x
  apart : (es.map (·.key)).Nodup
  perm : (es'.map (·.key)).Perm (es.map (·.key))
  vals : ∀ e ∈ es, ∀ e' ∈ es', e'.key = e.key → VR R e.val e'.val
  born : ∀ e' ∈ es', e'.born < ck'
  borns : (es'.map (·.born)).Nodup

structure LoopR (R : Ren) (l l' : Loop) : Prop where
  state : l'.state = l.state
  pending : l'.pending = l.pending
  tmps : ArrR (VR R) l.tmps l'.tmps
  params : l'.params = l.params
  assign : l'.assign = l.assign
  body : l'.body = l.body
  defers : BR R l.defers l'.defers

def ObjR (R : Ren) : Obj → Obj → Prop
  | .cells c e fr, o => ∃ c' e' fr', o = .cells c' e' fr' ∧ c.size ≤ c'.size ∧ (∀ (i : Nat) (v : Value), c[i]? = some v → ∃ v', c'[i]? = some v' ∧ VR R v v') ∧
      (∀ i, i < c.size → inFr fr' i = inFr fr i)
  | .map es _, o => ∃ es' ck', o = .map es' ck' ∧ Shuf R es.toList es'.toList ck'
  | .loop l, o => ∃ l', o = .loop l' ∧ LoopR R l l'
  | .deferred d, o => o = .deferred d ∧ (d = none ∨ d = some [])
  | .stringIter s p, o => o = .stringIter s p
  | _, _ => False

theorem Shuf.mono {R R' : Ren} (h : R.le R') {es es' : List MapEntry} {ck' : Nat} (k : Shuf R es es' ck') : Shuf R' es es' ck' := ⟨k.ints, k.apart, k.perm, fun e he e' he' q => (k.vals e he e' he' q).mono h, k.born, k.borns⟩
theorem ArrR.monoR {R R' : Ren} (h : R.le R') {c c' : Array Value} (k : ArrR (VR R) c c') : ArrR (VR R') c c' := ArrR.mono (fun _ _ hu => hu.mono h) k
theorem LoopR.mono {R R' : Ren} (h : R.le R') {l l' : Loop} (k : LoopR R l l') : LoopR R' l l' :=
  ⟨k.state, k.pending, k.tmps.monoR h, k.params, k.assign, k.body, k.defers.mono h⟩
theorem ObjR.mono {R R' : Ren} (h : R.le R') {o o' : Obj} (k : ObjR R o o') : ObjR R' o o' := by
  cases o <;> simp only [ObjR] at k ⊢ <;> try exact k
  · obtain ⟨c', e', fr', e, hs, hv, hf⟩ := k
    exact ⟨c', e', fr', e, hs, fun i v hi => let ⟨v', h1, h2⟩ := hv i v hi; ⟨v', h1, h2.mono h⟩, hf⟩
  · obtain ⟨es', ck', e, hs⟩ := k
    exact ⟨es', ck', e, hs.mono h⟩
  · obtain ⟨l', e, hl⟩ := k
    exact ⟨l', e, hl.mono h⟩

/-- How many cells a value of a type has. -/
def tsz (P : Program) (t : TypeId) : Nat := ((P.info? t).map (·.size)).getD 0

/-- What is known of the hidden room of a row. -/
def SlackOk (P : Program) (sl : Option (Nat × Nat)) (o o' : Obj) : Prop :=
  isSlack (some o) = sl.isSome ∧ ∀ z r, sl = some (z, r) → (∃ c e, o = .cells c e (1, 1) ∧ z = tsz P e) ∧ ∃ c' e' fr', o' = .cells c' e' fr' ∧ c'.size = r ∧ ∀ i, i < r → inFr fr' i = false

/-- What a row that was let go has become. -/
def deadRow : Obj := .cells #[] 0 (2, 2)

/-- The canonical heap m stands for the world w, by R. -/
structure Rel (P : Program) (R : Ren) (m : Nat → Option Obj) (w : World) : Prop where
  inj : ∀ b b' g, R.map b = some g → R.map b' = some g → b = b'
  obj : ∀ b g, R.map b = some g → ∃ o o', m b = some o ∧ w.heap[g]? = some o' ∧ ObjR R o o' ∧ SlackOk P (R.slack b) o o'
  dead : ∀ b, R.dead b = true → R.map b = none ∧ m b = some deadRow
  glob : ∀ g ∈ globList, R.dead g = true ∨ R.map g = some g

/-- A row keeps its length, its type and its marks. -/
def sameShape : Option Obj → Option Obj → Prop
  | some (.cells c e fr), o' => ∃ c', o' = some (.cells c' e fr) ∧ c'.size = c.size
  | _, _ => True
theorem sameShape.refl (o : Option Obj) : sameShape o o := by
  unfold sameShape
  split
  · exact ⟨_, rfl, rfl⟩
  · trivial
theorem sameShape.trans {o o' o'' : Option Obj} (a : sameShape o o') (b : sameShape o' o'') : sameShape o o'' := by
  unfold sameShape at a
  split at a
  · obtain ⟨c', rfl, h1⟩ := a
    obtain ⟨c'', h2, h3⟩ := b
    exact ⟨c'', h2, h3.trans h1⟩
  · unfold sameShape
    split
    · rename_i h; exact absurd rfl (h _ _ _)
    · trivial

/-- What a piece of a run has done, on both sides. -/
structure Sim (P : Program) (R : Ren) (h : Heap) (w : World) (R' : Ren) (h' : Heap) (w' : World) : Prop where
  rel : Rel P R' (hget h') w'
  le : R.le R'
  hsz : h.size ≤ h'.size
  canon : ∀ b, b < h.size → R.map b = none → h'[b]? = h[b]?
  old : ∀ b, b < h.size → R.map b = none → R'.map b = none ∧ R'.dead b = R.dead b
  os : w'.os = w.os
  tape : w'.tape = w.tape
  output : w'.output = w.output
  wsz : w.heap.size ≤ w'.heap.size
  conc : ∀ k, k < w.heap.size → (∀ b, R.map b ≠ some k) → w'.heap[k]? = w.heap[k]?
  newc : ∀ b g, R'.map b = some g → R.map b = some g ∨ (h.size ≤ b ∧ (w.heap.size ≤ g ∨ ∃ b0, R.map b0 = some g ∧ R.slack b0 ≠ none))
  shape : ∀ g, g < w.heap.size → (∀ b, R.map b = some g → R.slack b = none) → sameShape (w.heap[g]?) (w'.heap[g]?)

section
variable {P : Program} {R R' R'' : Ren} {h h' h'' : Heap} {w w' w'' : World}

theorem Rel.lt (k : Rel P R (hget h) w) {b g : Nat} (e : R.map b = some g) : b < h.size ∧ g < w.heap.size := by
  obtain ⟨o, o', h1, h2, _, _⟩ := k.obj b g e
  exact ⟨(Array.getElem?_eq_some_iff.1 h1).1, (Array.getElem?_eq_some_iff.1 h2).1⟩
theorem Rel.dead_lt (k : Rel P R (hget h) w) {b : Nat} (e : R.dead b = true) : b < h.size := by
  obtain ⟨_, h1⟩ := k.dead b e
  exact (Array.getElem?_eq_some_iff.1 h1).1

theorem Sim.refl (k : Rel P R (hget h) w) : Sim P R h w R h w :=
  ⟨k, .refl R, Nat.le_refl _, fun _ _ _ => rfl, fun _ _ e => ⟨e, rfl⟩, rfl, rfl, rfl, Nat.le_refl _, fun _ _ _ => rfl, fun _ _ e => .inl e, fun _ _ _ => sameShape.refl _⟩

theorem Ren.le.trans (a : R.le R') (b : R'.le R'') : R.le R'' :=
  ⟨fun x g e => by
    rcases a.map x g e with e' | e'
    · exact b.map x g e'
    · exact .inr (b.dead x e'),
   fun x e => b.dead x (a.dead x e),
   fun x g e => by
    rcases a.map x g e with e' | e'
    · rcases b.slack x g e' with s | s
      · rcases a.slack x g e with t | t
        · exact .inl (s.trans t)
        · exact .inr (b.dead x t)
      · exact .inr s
    · exact .inr (b.dead x e'), b.ghost.trans a.ghost⟩

theorem Sim.trans (a : Sim P R h w R' h' w') (b : Sim P R' h' w' R'' h'' w'') : Sim P R h w R'' h'' w'' where
  rel := b.rel
  le := a.le.trans b.le
  hsz := Nat.le_trans a.hsz b.hsz
  canon := fun x hx e => (b.canon x (Nat.lt_of_lt_of_le hx a.hsz) (a.old x hx e).1).trans (a.canon x hx e)
  old := fun x hx e => by
    obtain ⟨e1, e2⟩ := a.old x hx e
    obtain ⟨f1, f2⟩ := b.old x (Nat.lt_of_lt_of_le hx a.hsz) e1
    exact ⟨f1, f2.trans e2⟩
  os := b.os.trans a.os
  tape := b.tape.trans a.tape
  output := b.output.trans a.output
  wsz := Nat.le_trans a.wsz b.wsz
  conc := fun k hk e => by
    refine (b.conc k (Nat.lt_of_lt_of_le hk a.wsz) fun x ex => ?_).trans (a.conc k hk e)
    rcases a.newc x k ex with e1 | ⟨_, e1 | ⟨b0, e1, _⟩⟩
    · exact e x e1
    · omega
    · exact e b0 e1
  newc := fun x g e => by
    rcases b.newc x g e with e1 | ⟨h1, e1⟩
    · exact a.newc x g e1
    · refine .inr ⟨Nat.le_trans a.hsz h1, ?_⟩
      rcases e1 with e1 | ⟨b0, e1, e3⟩
      · exact .inl (Nat.le_trans a.wsz e1)
      · rcases a.newc b0 g e1 with e2 | ⟨_, e2⟩
        · rcases a.le.slack b0 g e2 with e4 | e4
          · exact .inr ⟨b0, e2, by rw [← e4]; exact e3⟩
          · have := (a.rel.dead b0 e4).1; rw [e1] at this; cases this
        · exact e2
  shape := fun g hg hs => (a.shape g hg hs).trans (b.shape g (Nat.lt_of_lt_of_le hg a.wsz) fun x hx => by
    rcases a.newc x g hx with e1 | ⟨_, e1 | ⟨b0, e1, e2⟩⟩
    · rcases a.le.slack x g e1 with e4 | e4
      · rw [e4]; exact hs x e1
      · have := (a.rel.dead x e4).1; rw [hx] at this; cases this
    · omega
    · exact absurd (hs b0 e1) e2)

/-- A draw turns nothing. -/
theorem Rel.of_heap {m : Nat → Option Obj} (k : Rel P R m w) (e : w'.heap = w.heap) : Rel P R m w' :=
  ⟨k.inj, fun b g hb => by rw [e]; exact k.obj b g hb, k.dead, k.glob⟩
/-- The variables stay where they are. -/
theorem Rel.glob_le {m : Nat → Option Obj} (k : Rel P R m w) (hle : R.le R') : ∀ g ∈ globList, R'.dead g = true ∨ R'.map g = some g := fun g hg => by
  rcases k.glob g hg with q | q
  · exact .inl (hle.dead _ q)
  · rcases hle.map _ _ q with q | q
    · exact .inr q
    · exact .inl q
theorem Sim.same (k : Rel P R (hget h) w) (e : w'.heap = w.heap) (e1 : w'.os = w.os) (e2 : w'.tape = w.tape) (e3 : w'.output = w.output) : Sim P R h w R h w' :=
  ⟨k.of_heap e, .refl R, Nat.le_refl _, fun _ _ _ => rfl, fun _ _ e => ⟨e, rfl⟩, e1, e2, e3, by rw [e]; exact Nat.le_refl _, fun _ _ _ => by rw [e], fun _ _ e => .inl e, fun _ _ _ => by rw [e]; exact sameShape.refl _⟩

/-- The renaming with one pair more. -/
def Ren.bind (R : Ren) (b g : Nat) (sl : Option (Nat × Nat)) : Ren :=
  { map := fun x => if x = b then some g else R.map x, slack := fun x => if x = b then sl else R.slack x, dead := R.dead, ghost := R.ghost }

theorem Ren.le_bind (k : Rel P R (hget h) w) (g : Nat) (sl : Option (Nat × Nat)) : R.le (R.bind h.size g sl) :=
  ⟨fun x g' e => .inl (by have := (k.lt e).1; simp [Ren.bind, e]; omega),
   fun x e => e,
   fun x g' e => .inl (by have := (k.lt e).1; simp [Ren.bind]; omega), rfl⟩

theorem hget_push (h : Heap) (o : Obj) (b : Nat) : hget (h.push o) b = if b = h.size then some o else hget h b := by
  simp [hget, Array.getElem?_push]

theorem hget_set (h : Heap) (b : Nat) (o : Obj) (x : Nat) : hget (h.setIfInBounds b o) x = if b = x then (if b < h.size then some o else none) else hget h x := by
  simp [hget, Array.getElem?_setIfInBounds]

/-- A new block on the canonical side that stands for a block g of the new world to which no other belongs. -/
theorem Sim.bindNew (k : Rel P R (hget h) w) {o o' : Obj} {g : Nat} {sl : Option (Nat × Nat)} (hsl : SlackOk P sl o o') (hfree : ∀ b, R.map b ≠ some g) (hg : w'.heap[g]? = some o')
    (hother : ∀ b x, R.map b = some x → w'.heap[x]? = w.heap[x]?) (ho : ObjR (R.bind h.size g sl) o o')
    (e1 : w'.os = w.os) (e2 : w'.tape = w.tape) (e3 : w'.output = w.output) (hsz : w.heap.size ≤ w'.heap.size)
    (hc : ∀ x, x < w.heap.size → x ≠ g → w'.heap[x]? = w.heap[x]?) (hnew : w.heap.size ≤ g ) :
    Sim P R h w (R.bind h.size g sl) (h.push o) w' := by
  have hle := Ren.le_bind k g sl
  refine ⟨⟨?_, ?_, ?_, k.glob_le hle⟩, hle, by simp, ?_, ?_, e1, e2, e3, hsz, fun x hx _ => hc x hx (by omega), ?_, fun x hx _ => by rw [hc x hx (by omega)]; exact sameShape.refl _⟩
  · intro b b' x hb hb'
    simp only [Ren.bind] at hb hb'
    split at hb <;> split at hb'
    · omega
    · cases hb; exact absurd hb' (hfree _)
    · cases hb'; exact absurd hb (hfree _)
    · exact k.inj _ _ _ hb hb'
  · intro b x hb
    simp only [Ren.bind] at hb
    rw [hget_push]
    split at hb
    · rename_i e; cases hb; rw [if_pos e]; exact ⟨o, o', rfl, hg, ho, by simp only [Ren.bind]; rw [if_pos e]; exact hsl⟩
    · rename_i e
      rw [if_neg e]
      obtain ⟨p, p', h1, h2, h3, h4⟩ := k.obj b x hb
      exact ⟨p, p', h1, (hother b x hb).trans h2, h3.mono hle, by simp only [Ren.bind]; rw [if_neg e]; exact h4⟩
  · intro b hb
    obtain ⟨h1, h2⟩ := k.dead b hb
    have := k.dead_lt hb
    rw [hget_push, if_neg (by omega)]
    exact ⟨by simp only [Ren.bind]; rw [if_neg (by omega)]; exact h1, h2⟩
  · intro b hb _
    rw [Array.getElem?_push, if_neg (by omega)]
  · intro b hb e
    exact ⟨by simp only [Ren.bind]; rw [if_neg (by omega)]; exact e, rfl⟩
  · intro b x hb
    simp only [Ren.bind] at hb
    split at hb
    · rename_i e; cases hb; exact .inr ⟨by omega, .inl hnew⟩
    · exact .inl hb

/-- A new block on both sides. -/
theorem Sim.alloc (k : Rel P R (hget h) w) {o o' : Obj} {sl : Option (Nat × Nat)} (hsl : SlackOk P sl o o') (ho : ObjR (R.bind h.size w.heap.size sl) o o') :
    Sim P R h w (R.bind h.size w.heap.size sl) (h.push o) (w.alloc o') := by
  refine Sim.bindNew k (g := w.heap.size) hsl (fun b e => by have := (k.lt e).2; omega) (World.alloc_heap_new w o') ?_ ho rfl rfl rfl (by simp) ?_ (Nat.le_refl _)
  · intro b x hb
    have := (k.lt hb).2
    exact heap_alloc_old w o' x this
  · intro x hx _
    exact heap_alloc_old w o' x hx

/-- A block turned on both sides. -/
theorem Sim.put (k : Rel P R (hget h) w) {b g : Nat} (hb : R.map b = some g) {o o' : Obj} (ho : ObjR R o o') (hs : SlackOk P (R.slack b) o o')
    (hg : w'.heap[g]? = some o') (hother : ∀ x, x ≠ g → w'.heap[x]? = w.heap[x]?) (hsz : w'.heap.size = w.heap.size)
    (e1 : w'.os = w.os) (e2 : w'.tape = w.tape) (e3 : w'.output = w.output) (hsh : R.slack b = none → sameShape (w.heap[g]?) (some o')) : Sim P R h w R (h.setIfInBounds b o) w' := by
  have hlt := (k.lt hb).1
  refine ⟨⟨k.inj, ?_, ?_, k.glob⟩, .refl R, by simp, ?_, fun _ _ e => ⟨e, rfl⟩, e1, e2, e3, by omega, ?_, fun _ _ e => .inl e, ?_⟩
  · intro x y hx
    rw [hget_set]
    split
    · rename_i e; subst e; rw [hb] at hx; cases hx; exact ⟨o, o', rfl, hg, ho, hs⟩
    · rename_i e
      obtain ⟨p, p', h1, h2, h3, h4⟩ := k.obj x y hx
      exact ⟨p, p', h1, (hother y fun e' => e (k.inj _ _ _ hb (e' ▸ hx))).trans h2, h3, h4⟩
  · intro x hx
    obtain ⟨h1, h2⟩ := k.dead x hx
    refine ⟨h1, ?_⟩
    rw [hget_set, if_neg (fun e => by subst e; rw [hb] at h1; cases h1)]
    exact h2
  · intro x hx e
    rw [Array.getElem?_setIfInBounds, if_neg (fun e' => by subst e'; rw [hb] at e; cases e)]
  · intro x hx e
    exact hother x fun e' => e b (e' ▸ hb)
  · intro x hx hs
    by_cases e : x = g
    · subst e; rw [hg]; exact hsh (hs b hb)
    · rw [hother x e]; exact sameShape.refl _
end
end Go.AM
