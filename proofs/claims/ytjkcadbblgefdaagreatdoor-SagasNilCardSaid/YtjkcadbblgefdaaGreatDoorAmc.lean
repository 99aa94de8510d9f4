/- An abstract machine for Go, part 3: reading, writing and growing rows of cells, on both sides. -/
import Derived.Test.YtjkcadbblgefdaaGreatDoorAmb
namespace Go.AM

section
variable {P : Program} {R R' : Ren} {h h' : Heap} {w w' : World}

/-- n cells from a on. -/
def loadN (h : Heap) (a : Addr) (n : Nat) : Option (Array Value) :=
  match h[a.block]? with
  | some (.cells c _ _) => if a.spot = none ∧ a.off + n ≤ c.size then some (c.extract a.off (a.off + n)) else none
  | _ => none

def splice (c : Array Value) (o : Nat) : List Value → Array Value
  | [] => c
  | v :: r => splice (c.setIfInBounds o v) (o + 1) r

theorem size_splice (vs : List Value) : ∀ (c : Array Value) (o : Nat), (splice c o vs).size = c.size := by
  induction vs with
  | nil => intro c o; rfl
  | cons v r ih => intro c o; simp [splice, ih]

/-- The cells from a on become vs. -/
def storeN (h : Heap) (a : Addr) (vs : List Value) : Option Heap :=
  match h[a.block]? with
  | some (.cells c e fr) =>
    if a.spot = none ∧ a.off + vs.length ≤ c.size ∧ fr.2 ≤ fr.1 ∧ vs.all (·.oneCell') = true then some (h.setIfInBounds a.block (.cells (splice c a.off vs) e fr)) else none
  | _ => none

theorem addr_add (a : Addr) (h : a.spot = none) (j : Nat) : a.add j = ⟨a.block, a.off + j, none⟩ := by
  unfold Addr.add
  split
  · rename_i e; subst e; cases a; simp_all
  · simp_all

theorem world_cell {w : World} {a : Addr} {c : Array Value} {e : TypeId} {fr : Nat × Nat} (hs : a.spot = none) (h : w.heap[a.block]? = some (.cells c e fr)) (j : Nat) :
    w.cell? (a.add j) = c[a.off + j]? := by
  rw [addr_add a hs]
  simp [World.cell?, h]

/-- What a live or dead address leads to. -/
theorem Rel.row (k : Rel P R (hget h) w) {a a' : Addr} (ha : AR R a a') {c : Array Value} {e : TypeId} {fr : Nat × Nat} (hc : h[a.block]? = some (.cells c e fr)) :
    c = #[] ∨ ∃ c' e' fr', R.map a.block = some a'.block ∧ a'.off = a.off ∧ w.heap[a'.block]? = some (.cells c' e' fr') ∧ c.size ≤ c'.size ∧
      (∀ (i : Nat) (v : Value), c[i]? = some v → ∃ v', c'[i]? = some v' ∧ VR R v v') ∧ (∀ i, i < c.size → inFr fr' i = inFr fr i) ∧ SlackOk P (R.slack a.block) (.cells c e fr) (.cells c' e' fr') := by
  rcases ha.2.2 with hd | ⟨hm, ho⟩
  · obtain ⟨_, h2⟩ := k.dead _ hd
    simp only [hget, hc, deadRow] at h2
    cases h2
    exact .inl rfl
  · obtain ⟨o, o', h1, h2, h3, h4⟩ := k.obj _ _ hm
    simp only [hget, hc] at h1
    cases h1
    obtain ⟨c', e', fr', e1, hs, hv, hf⟩ := h3
    exact .inr ⟨c', e', fr', hm, ho, by rw [h2, e1], hs, hv, hf, e1 ▸ h4⟩

theorem loadN_sim (k : Rel P R (hget h) w) {a a' : Addr} (ha : AR R a a') {n : Nat} {cs : Array Value} (hl : loadN h a n = some cs) :
    ∃ cs', (∀ w2 : World, w2.heap = w.heap → (loadCells a' n).run P w2 = .ok cs' w2) ∧ ArrR (VR R) cs cs' ∧ cs.size = n := by
  unfold loadN at hl
  split at hl
  · rename_i c e fr hc
    split at hl
    · rename_i hh
      cases hl
      rcases k.row ha hc with rfl | ⟨c', e', fr', hm, ho, hw, hs, hv, _, _⟩
      · have hn : n = 0 := by have := hh.2; simp at this; omega
        subst hn
        exact ⟨#[], fun _ _ => by simp [loadCells, loadCellsFrom], by simpa using ArrR.empty _, by simp⟩
      · refine ⟨((List.range n).map fun j => (c'[a'.off + j]?).getD undef).toArray, ?_, ⟨by simp; omega, ?_⟩, by simp; omega⟩
        · intro w2 hw2
          apply run_loadCells
          intro j hj
          rw [world_cell ha.2.1 (by rw [hw2]; exact hw)]
          have : a'.off + j < c'.size := by omega
          simp [this]
        · intro i v v' h1 h2
          rw [Array.getElem?_extract] at h1
          split at h1
          · rename_i hi
            obtain ⟨u, hu, hr⟩ := hv _ _ h1
            simp only [List.getElem?_toArray, List.getElem?_map] at h2
            rw [List.getElem?_range (by omega)] at h2
            simp only [Option.map_some, ho, hu, Option.getD_some] at h2
            cases h2; exact hr
          · cases h1
    · cases hl
  · cases hl

theorem VR.oneCell {v v' : Value} (h : VR R v v') (ho : v.oneCell' = true) : v'.oneCell' = true := by
  cases v
  case agg cs => simp [Value.oneCell'] at ho
  case tuple cs => simp [Value.oneCell'] at ho
  case pointer a => cases a <;> simp at h <;> first | (subst h; rfl) | (obtain ⟨_, rfl, _⟩ := h; rfl)
  case slice a n c => cases a <;> simp at h <;> first | (subst h; rfl) | (obtain ⟨_, _, rfl, _⟩ := h; rfl)
  case map r => cases r <;> simp at h <;> first | (subst h; rfl) | (obtain ⟨_, rfl, _⟩ := h; rfl)
  case func f a b => rw [VR_func] at h; obtain ⟨_, _, _, rfl, _⟩ := h; rfl
  case chan r => simp at h
  case iface t u => rw [VR_tok] at h; have := h.2; cases v' <;> first | rfl | simp [opq] at this
  all_goals (simp at h; subst h; rfl)

theorem setCell_row {w : World} {g o : Nat} {c : Array Value} {e : TypeId} {fr : Nat × Nat} (h : w.heap[g]? = some (.cells c e fr)) (v : Value) :
    (w.setCell ⟨g, o, none⟩ v).heap[g]? = some (.cells (c.setIfInBounds o v) e fr) ∧ (∀ x, x ≠ g → (w.setCell ⟨g, o, none⟩ v).heap[x]? = w.heap[x]?) := by
  constructor
  · simp only [World.setCell, Array.getElem?_modify]
    simp [h]
  · intro x hx
    simp only [World.setCell, Array.getElem?_modify]
    rw [if_neg (by omega)]

theorem storeCells_run (a : Addr) (ha : a.spot = none) : ∀ (vs : List Value) (i : Nat) (w : World) (c : Array Value) (e : TypeId) (fr : Nat × Nat),
    w.heap[a.block]? = some (.cells c e fr) → a.off + i + vs.length ≤ c.size → (∀ j, a.off + i ≤ j → j < a.off + i + vs.length → inFr fr j = false) → (∀ v ∈ vs, v.oneCell' = true) →
    ∃ w', (storeCells a vs i).run P w = .ok () w' ∧ w'.heap[a.block]? = some (.cells (splice c (a.off + i) vs) e fr) ∧ (∀ x, x ≠ a.block → w'.heap[x]? = w.heap[x]?) ∧
      w'.heap.size = w.heap.size ∧ w'.os = w.os ∧ w'.tape = w.tape ∧ w'.output = w.output := by
  intro vs
  induction vs with
  | nil => intro i w c e fr h1 h2 h3 h4; exact ⟨w, by simp [storeCells], h1, fun _ _ => rfl, rfl, rfl, rfl, rfl⟩
  | cons v r ih =>
    intro i w c e fr h1 h2 h3 h4
    simp only [List.length_cons] at h2 h3
    have hcell : w.cell? (a.add i) = some c[a.off + i] := by
      rw [world_cell ha h1]; simp
    have hfr : w.frozen? (a.add i) = false := by
      rw [addr_add a ha]
      have := h3 (a.off + i) (by omega) (by omega)
      simp only [World.frozen?, h1]
      simpa [inFr] using this
    have hrow := setCell_row (o := a.off + i) h1 v
    obtain ⟨w', g1, g2, g3, g4, g5, g6, g7⟩ := ih (i + 1) (w.setCell ⟨a.block, a.off + i, none⟩ v) _ e fr hrow.1 (by simp; omega) (fun j hj hj' => h3 j (by omega) (by omega)) (fun u hu => h4 u (by simp [hu]))
    refine ⟨w', ?_, ?_, fun x hx => (g3 x hx).trans (hrow.2 x hx), by rw [g4]; simp, g5, g6, g7⟩
    · simp only [storeCells, Sem.run_bind, run_store P w _ v _ (h4 v (by simp)), hcell, hfr, Result.andThen]
      rw [addr_add a ha]
      simpa using g1
    · simp only [splice]
      rw [show a.off + i + 1 = a.off + (i + 1) from by omega]
      exact g2

theorem splice_get (vs : List Value) : ∀ (c : Array Value) (o i : Nat), o + vs.length ≤ c.size →
    (splice c o vs)[i]? = if o ≤ i ∧ i < o + vs.length then vs[i - o]? else c[i]? := by
  induction vs with
  | nil => intro c o i h; simp [splice]; omega
  | cons v r ih =>
    intro c o i h
    simp only [splice, List.length_cons] at h ⊢
    rw [ih _ _ _ (by simp; omega)]
    by_cases h1 : o + 1 ≤ i ∧ i < o + 1 + r.length
    · rw [if_pos h1, if_pos (by omega)]
      rw [show i - o = (i - (o + 1)) + 1 from by omega]
      simp
    · rw [if_neg h1, Array.getElem?_setIfInBounds]
      by_cases h2 : o = i
      · subst h2; simp; omega
      · rw [if_neg h2, if_neg (by omega)]

theorem storeN_sim (k : Rel P R (hget h) w) {a a' : Addr} (ha : AR R a a') {vs vs' : List Value} (hvs : ArrR (VR R) vs.toArray vs'.toArray) (hst : storeN h a vs = some h') :
    ∃ w', (storeCells a' vs' 0).run P w = .ok () w' ∧ Sim P R h w R h' w' := by
  unfold storeN at hst
  have hlen : vs'.length = vs.length := by simpa using hvs.1
  split at hst
  · rename_i c e fr hc
    split at hst
    · rename_i hh
      obtain ⟨hsp, hsz, hfr, hone⟩ := hh
      cases hst
      have hone' : ∀ v ∈ vs', v.oneCell' = true := by
        intro v' hv'
        obtain ⟨i, hi, e⟩ := List.mem_iff_getElem.1 hv'
        have hi0 : i < vs.length := by omega
        have := hvs.2 i vs[i] v' (by simp [hi0]) (by simp [hi, e])
        exact this.oneCell (List.all_eq_true.1 hone _ (List.getElem_mem hi0))
      rcases k.row ha hc with rfl | ⟨c', e', fr', hm, ho, hw, hs, hv, hf, hsl⟩
      · have hn : vs = [] := List.eq_nil_of_length_eq_zero (by have h0 : (#[] : Array Value).size = 0 := rfl; omega)
        subst hn
        have hn' : vs' = [] := List.eq_nil_of_length_eq_zero (by simpa using hlen)
        subst hn'
        refine ⟨w, by simp [storeCells], ?_⟩
        have : h.setIfInBounds a.block (.cells (splice #[] a.off []) e fr) = h := by
          apply Array.ext_getElem?
          intro i
          rw [Array.getElem?_setIfInBounds]
          split
          · rename_i e1; subst e1
            have := (Array.getElem?_eq_some_iff.1 hc).1
            simp only [this, if_true, splice]
            exact hc.symm
          · rfl
        rw [this]
        exact .refl k
      · obtain ⟨w', g1, g2, g3, g4, g5, g6, g7⟩ := storeCells_run (P := P) a' ha.2.1 vs' 0 w c' e' fr' hw (by omega)
          (fun j hj hj' => by rw [hf j (by omega)]; simp [inFr]; omega) hone'
        refine ⟨w', g1, ?_⟩
        refine Sim.put k hm (o' := .cells (splice c' a'.off vs') e' fr') ?_ ?_ (by simpa using g2) g3 g4 g5 g6 g7 (fun _ => by rw [hw]; exact ⟨_, rfl, by simp [size_splice]⟩)
        · refine ⟨_, _, _, rfl, by simp [size_splice, hs], ?_, fun i hi => hf i (by simpa [size_splice] using hi)⟩
          intro i v hi
          rw [splice_get _ _ _ _ hsz] at hi
          rw [splice_get _ _ _ _ (by omega), ho, hlen]
          split at hi
          · rename_i hb
            rw [if_pos hb]
            have hlt : i - a.off < vs'.length := by omega
            refine ⟨vs'[i - a.off], by simp [hlt], ?_⟩
            exact hvs.2 (i - a.off) v _ (by simpa using hi) (by simp [hlt])
          · rename_i hb
            rw [if_neg hb]
            exact hv i v hi
        · refine ⟨by simpa [isSlack] using hsl.1, fun z r hzr => ?_⟩
          obtain ⟨⟨c0, e0, q1, q2⟩, c1, e1, f1, q3, q4, q5⟩ := hsl.2 z r hzr
          cases q1; cases q3
          exact ⟨⟨_, _, rfl, q2⟩, _, _, _, rfl, by rw [size_splice]; exact q4, q5⟩
    · cases hst
  · cases hst

/-! ### A row that grows -/

def Ren.kill (R : Ren) (A : Nat) : Ren := { map := fun x => if x = A then none else R.map x, slack := R.slack, dead := fun x => decide (x = A) || R.dead x, ghost := R.ghost }

theorem Ren.le_kill (R : Ren) (A : Nat) : R.le (R.kill A) :=
  ⟨fun x g e => by
    by_cases hx : x = A
    · exact .inr (by simp [Ren.kill, hx])
    · exact .inl (by simp [Ren.kill, hx, e]),
   fun x e => by simp [Ren.kill, e], fun x g e => .inl rfl, rfl⟩

theorem Rel.kill (k : Rel P R (hget h) w) {A : Nat} (hA : A < h.size) : Rel P (R.kill A) (hget (h.setIfInBounds A deadRow)) w := by
  refine ⟨?_, ?_, ?_, k.glob_le (Ren.le_kill R A)⟩
  · intro b b' g hb hb'
    simp only [Ren.kill] at hb hb'
    split at hb; · cases hb
    split at hb'; · cases hb'
    exact k.inj _ _ _ hb hb'
  · intro b g hb
    simp only [Ren.kill] at hb
    split at hb; · cases hb
    rename_i hne
    obtain ⟨o, o', h1, h2, h3, h4⟩ := k.obj b g hb
    exact ⟨o, o', by rw [hget_set, if_neg (by omega)]; exact h1, h2, h3.mono (Ren.le_kill R A), h4⟩
  · intro b hb
    by_cases hx : b = A
    · subst hx
      exact ⟨by simp [Ren.kill], by rw [hget_set, if_pos rfl, if_pos hA]⟩
    · obtain ⟨h1, h2⟩ := k.dead b (by simpa [Ren.kill, hx] using hb)
      exact ⟨by simp [Ren.kill, hx, h1], by rw [hget_set, if_neg (by omega)]; exact h2⟩

/-- The row A is let go; a new canonical row stands for A's block in the world, or for a new one. -/
theorem Sim.regrow (k : Rel P R (hget h) w) {A g : Nat} (hA : R.map A = some g) (hslA : R.slack A ≠ none) {o o' : Obj} {g' : Nat} {sl : Option (Nat × Nat)} (hsl : SlackOk P sl o o') (hg' : g' = g ∨ g' = w.heap.size) (hg : w'.heap[g']? = some o')
    (hother : ∀ x, x ≠ g' → x < w.heap.size → w'.heap[x]? = w.heap[x]?) (ho : ObjR ((R.kill A).bind h.size g' sl) o o')
    (e1 : w'.os = w.os) (e2 : w'.tape = w.tape) (e3 : w'.output = w.output) (hsz : w.heap.size ≤ w'.heap.size) :
    Sim P R h w ((R.kill A).bind h.size g' sl) ((h.setIfInBounds A deadRow).push o) w' := by
  have hAlt := (k.lt hA).1
  have kk := k.kill hAlt
  have hsz' : (h.setIfInBounds A deadRow).size = h.size := by simp
  have hle : (R.kill A).le ((R.kill A).bind h.size g' sl) := by
    have := Ren.le_bind kk g' sl; rwa [hsz'] at this
  have hfree : ∀ b, (R.kill A).map b ≠ some g' := by
    intro b hb
    have hb0 : R.map b = some g' ∧ b ≠ A := by
      simp only [Ren.kill] at hb
      split at hb; · cases hb
      exact ⟨hb, by assumption⟩
    rcases hg' with rfl | rfl
    · exact hb0.2 (k.inj _ _ _ hb0.1 hA)
    · have := (k.lt hb0.1).2; omega
  refine ⟨⟨?_, ?_, ?_, k.glob_le ((Ren.le_kill R A).trans hle)⟩, (Ren.le_kill R A).trans hle, by simp, ?_, ?_, e1, e2, e3, hsz, ?_, ?_, ?_⟩
  · intro b b' x hb hb'
    simp only [Ren.bind] at hb hb'
    split at hb <;> split at hb'
    · omega
    · cases hb; exact absurd hb' (hfree _)
    · cases hb'; exact absurd hb (hfree _)
    · exact kk.inj _ _ _ hb hb'
  · intro b x hb
    simp only [Ren.bind] at hb
    rw [hget_push, hsz']
    split at hb
    · rename_i e; cases hb; rw [if_pos e]; exact ⟨o, o', rfl, hg, ho, by simp only [Ren.bind]; rw [if_pos e]; exact hsl⟩
    · rename_i e
      rw [if_neg e]
      obtain ⟨p, p', h1, h2, h3, h4⟩ := kk.obj b x hb
      exact ⟨p, p', h1, (hother x (fun e' => hfree b (e' ▸ hb)) (kk.lt hb).2).trans h2, h3.mono hle, by simp only [Ren.bind]; rw [if_neg e]; exact h4⟩
  · intro b hb
    obtain ⟨h1, h2⟩ := kk.dead b hb
    have := kk.dead_lt hb
    rw [hsz'] at this
    rw [hget_push, hsz', if_neg (by omega)]
    exact ⟨by simp only [Ren.bind]; rw [if_neg (by omega)]; exact h1, h2⟩
  · intro b hb e
    rw [Array.getElem?_push, hsz', if_neg (by omega), Array.getElem?_setIfInBounds, if_neg (fun e' => by subst e'; rw [hA] at e; cases e)]
  · intro b hb e
    have hbA : b ≠ A := fun e' => by subst e'; rw [hA] at e; cases e
    refine ⟨?_, ?_⟩
    · simp only [Ren.bind, Ren.kill]; rw [if_neg (by omega), if_neg hbA]; exact e
    · simp [Ren.bind, Ren.kill, hbA]
  · intro x hx e
    exact hother x (fun e' => by
      rcases hg' with rfl | rfl
      · exact e A (e' ▸ hA)
      · omega) hx
  · intro b x hb
    simp only [Ren.bind, Ren.kill] at hb
    split at hb
    · rename_i e; cases hb
      refine .inr ⟨by omega, ?_⟩
      rcases hg' with rfl | rfl
      · exact .inr ⟨A, hA, hslA⟩
      · exact .inl (Nat.le_refl _)
    · split at hb; · cases hb
      exact .inl hb
  · intro x hx hs
    by_cases e : x = g'
    · subst e
      rcases hg' with e | e
      · exact absurd (hs A (e ▸ hA)) hslA
      · omega
    · rw [hother x e hx]; exact sameShape.refl _
end
end Go.AM
