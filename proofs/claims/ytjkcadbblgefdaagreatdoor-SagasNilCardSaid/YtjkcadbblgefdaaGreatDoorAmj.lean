/- An abstract machine for Go, part 10: len, make, maps, texts of bytes, the least and the greatest. -/
import Derived.Test.YtjkcadbblgefdaaGreatDoorAmi
import Derived.Laws.BytesString
namespace Go.AM

section
variable {P : Program} {R : Ren} {h h' : Heap} {w w' : World}

/-! ### maps -/
theorem Rel.mapObj (k : Rel P R (hget h) w) {r r' : Nat} (hr : BR R r r') {es : Array MapEntry} {ck : Nat} (ho : h[r]? = some (.map es ck)) :
    R.map r = some r' ∧ ∃ es' ck', w.heap[r']? = some (.map es' ck') ∧ Shuf R es.toList es'.toList ck' ∧ R.slack r = none := by
  rcases hr with hd | hm
  · have := (k.dead r hd).2
    simp only [hget, ho, deadRow] at this
    cases this
  · obtain ⟨o, o', h1, h2, h3, h4, _⟩ := k.obj r r' hm
    simp only [hget, ho] at h1
    cases h1
    obtain ⟨es', ck', e, hs⟩ := h3
    refine ⟨hm, es', ck', by rw [h2, e], hs, ?_⟩
    cases hq : R.slack r with
    | none => rfl
    | some p => rw [hq] at h4; simp [isSlack] at h4
theorem Shuf.size {es es' : Array MapEntry} {ck' : Nat} (s : Shuf R es.toList es'.toList ck') : es'.size = es.size := by
  have := s.perm.length_eq
  simpa using this

def lenA (P : Program) (h : Heap) (t : TypeId) (x : Value) : Option Value :=
  match P.underlying t, x with
  | some .string, .string s => some (goInt s.size)
  | some (.array n _), _ => some (goInt n)
  | some (.slice _), .slice _ n _ => some (goInt n)
  | some (.map _ _), .map none => some (goInt 0)
  | some (.map _ _), .map (some r) => match h[r]? with
    | some (.map es _) => some (goInt es.size)
    | _ => none
  | _, _ => none

theorem lenA_sim (k : Rel P R (hget h) w) {t : TypeId} {ty : TypeId} {ts : Array TypeId} {args' : Array Value} (ht : ts[0]? = some t) {x x' : Value} (hx' : args'[0]? = some x') (hx : VR R x x') {v : Value} (hv : lenA P h t x = some v) :
    (Builtin.len_ ts ty args').run P w = .ok v w ∧ VR R v v := by
  unfold lenA at hv
  split at hv
  · rename_i hu; cases hv; rw [VR_string] at hx; subst hx
    exact ⟨by simp [Builtin.len_, ht, hx', run_underlying hu], by simp [goInt]⟩
  · rename_i hu; cases hv
    refine ⟨?_, by simp [goInt]⟩
    simp only [Builtin.len_, ht, hx', Sem.run_bind, run_underlying hu, Result.andThen_ok]
    cases x' <;> rfl
  · rename_i a n c hu; cases hv
    cases a with
    | none => rw [VR_nilslice] at hx; subst hx; exact ⟨by simp [Builtin.len_, ht, hx', run_underlying hu], by simp [goInt]⟩
    | some a => rw [VR_slice] at hx; obtain ⟨_, _, rfl, _⟩ := hx; exact ⟨by simp [Builtin.len_, ht, hx', run_underlying hu], by simp [goInt]⟩
  · rename_i hu; cases hv; rw [VR_nilmap] at hx; subst hx
    exact ⟨by simp [Builtin.len_, ht, hx', run_underlying hu], by simp [goInt]⟩
  · rename_i r hu
    rw [VR_map] at hx
    obtain ⟨r', rfl, hr⟩ := hx
    split at hv
    · rename_i es ck ho
      cases hv
      obtain ⟨_, es', ck', h1, h2, _⟩ := k.mapObj hr ho
      refine ⟨?_, by simp [goInt]⟩
      simp [Builtin.len_, ht, hx', run_underlying hu, getObj, Sem.run, h1, h2.size]
    · cases hv
  · cases hv

theorem flatV_eq {R : Ren} {v v' : Value} (h : flatV v = true) (k : VR R v v') : v' = v := by
  unfold flatV at h
  split at h
  · rename_i cs
    rw [VR_agg] at k
    obtain ⟨cs', rfl, h1, h2⟩ := k
    congr 1
    apply Array.ext
    · exact h1
    · intro i hi hi'
      exact flatC_eq (Array.all_eq_true_iff_forall_mem.1 h _ (Array.getElem_mem hi')) (h2 i _ _ (by simp [hi']) (by simp [hi]))
  · exact flatC_eq h k

/-- Keys that are numbers. -/
def keyOk (P : Program) (_ : Nat) (t : TypeId) (v : Value) : Bool :=
  match P.underlying t, v with
  | some (.int _), .int .i64 _ => true
  | _, _ => false
theorem keyOk_inv {d : Nat} {t : TypeId} {v : Value} (h : keyOk P d t v = true) : ∃ q x, P.underlying t = some (.int q) ∧ v = .int .i64 x := by
  unfold keyOk at h
  split at h
  · rename_i q x hu; exact ⟨q, x, hu, rfl⟩
  · cases h
theorem checkKey_run (d n : Nat) (b : Bool) (kt : TypeId) (v : Value) (hn : d ≤ n) (hd : 0 < d) (h : keyOk P d kt v = true) : (Instr.checkKey b n kt v).run P w = .ok () w := by
  obtain ⟨q, x, hu, rfl⟩ := keyOk_inv h
  obtain ⟨n, rfl⟩ : ∃ m, n = m + 1 := ⟨n - 1, by omega⟩
  simp only [Instr.checkKey, Sem.run_bind, run_underlying hu, Result.andThen_ok]; rfl

def findA (P : Program) (kt : TypeId) (k : Value) (es : Array MapEntry) : Option (Option (Nat × Value)) :=
  match P.underlying kt with
  | some (.int q) => Instr.findNow (.int q) k es.toList 0
  | _ => none

theorem findNow_no {q : IntKind} {x : Int} : ∀ (L : List MapEntry) (i : Nat), (∀ e ∈ L, ∃ y, e.key = .int .i64 y) → (∀ e ∈ L, e.key ≠ .int .i64 x) → Instr.findNow (.int q) (.int .i64 x) L i = some none
  | [], _, _, _ => rfl
  | e :: L, i, h1, h2 => by
    obtain ⟨y, hy⟩ := h1 e (List.mem_cons_self ..)
    have hne : ¬ x = y := fun w => h2 e (List.mem_cons_self ..) (by rw [hy, w])
    have ih := findNow_no (q := q) (x := x) L (i + 1) (fun e he => h1 e (List.mem_cons_of_mem _ he)) (fun e he => h2 e (List.mem_cons_of_mem _ he))
    simp only [Instr.findNow, hy, Instr.sameNow, if_true]
    rw [show (x == y) = false by simpa using hne]
    exact ih
theorem findNow_yes {q : IntKind} {x : Int} : ∀ (L : List MapEntry) (i : Nat) (e : MapEntry), (∀ e ∈ L, ∃ y, e.key = .int .i64 y) → (L.map (·.key)).Nodup → e ∈ L → e.key = .int .i64 x → ∃ j, Instr.findNow (.int q) (.int .i64 x) L i = some (some (i + j, e.val)) ∧ L[j]? = some e
  | [], _, _, _, _, h, _ => by cases h
  | a :: L, i, e, h1, h2, h3, h4 => by
    obtain ⟨y, hy⟩ := h1 a (List.mem_cons_self ..)
    rw [List.map_cons, List.nodup_cons] at h2
    by_cases hxy : x = y
    · have : e = a := by
        rcases List.mem_cons.1 h3 with w | w
        · exact w
        · exact absurd (List.mem_map_of_mem (f := fun e : MapEntry => e.key) w) (by rw [h4, hxy, ← hy]; exact h2.1)
      subst this
      refine ⟨0, ?_, rfl⟩
      simp only [Instr.findNow, hy, Instr.sameNow, if_true, hxy, beq_self_eq_true, Nat.add_zero]
    · have hL : e ∈ L := by
        rcases List.mem_cons.1 h3 with w | w
        · subst w; rw [hy] at h4; cases h4; exact absurd rfl hxy
        · exact w
      obtain ⟨j, q1, q2⟩ := findNow_yes (q := q) (x := x) L (i + 1) e (fun e he => h1 e (List.mem_cons_of_mem _ he)) h2.2 hL h4
      refine ⟨j + 1, ?_, by simpa using q2⟩
      simp only [Instr.findNow, hy, Instr.sameNow, if_true]
      rw [show (x == y) = false by simpa using hxy, show i + (j + 1) = i + 1 + j by omega]
      exact q1

theorem Shuf.ints' {es es' : List MapEntry} {ck' : Nat} (s : Shuf R es es' ck') : ∀ e ∈ es', ∃ x, e.key = .int .i64 x := by
  intro e he
  have := s.perm.mem_iff.1 (List.mem_map_of_mem (f := fun e : MapEntry => e.key) he)
  obtain ⟨a, ha, e1⟩ := List.mem_map.1 this
  obtain ⟨x, hx⟩ := s.ints a ha
  exact ⟨x, by rw [← hx]; exact e1.symm⟩
theorem Shuf.apart' {es es' : List MapEntry} {ck' : Nat} (s : Shuf R es es' ck') : (es'.map (·.key)).Nodup := s.perm.nodup_iff.2 s.apart
theorem Shuf.other {es es' : List MapEntry} {ck' : Nat} (s : Shuf R es es' ck') {e : MapEntry} (he : e ∈ es) : ∃ e' ∈ es', e'.key = e.key := by
  have := s.perm.mem_iff.2 (List.mem_map_of_mem (f := fun e : MapEntry => e.key) he)
  obtain ⟨a, ha, e1⟩ := List.mem_map.1 this
  exact ⟨a, ha, e1⟩
theorem Shuf.other' {es es' : List MapEntry} {ck' : Nat} (s : Shuf R es es' ck') {e' : MapEntry} (he : e' ∈ es') : ∃ e ∈ es, e.key = e'.key := by
  have := s.perm.mem_iff.1 (List.mem_map_of_mem (f := fun e : MapEntry => e.key) he)
  obtain ⟨a, ha, e1⟩ := List.mem_map.1 this
  exact ⟨a, ha, e1⟩

/-- What a search finds, on both sides. -/
theorem findA_sim {kt : TypeId} {k : Value} (hk : keyOk P 8 kt k = true) {es es' : Array MapEntry} {ck' : Nat} (s : Shuf R es.toList es'.toList ck') {r : Option (Nat × Value)} (hf : findA P kt k es = some r) :
    (r = none → (Instr.findKey kt k es'.toList).run P w = .ok none w ∧ ∀ e ∈ es.toList, e.key ≠ k) ∧
    (∀ j v, r = some (j, v) → ∃ e j' e', es.toList[j]? = some e ∧ e.key = k ∧ e.val = v ∧ (Instr.findKey kt k es'.toList).run P w = .ok (some (j', e'.val)) w ∧ VR R v e'.val ∧ es'.toList[j']? = some e' ∧ e'.key = k) := by
  obtain ⟨q, x, hu, rfl⟩ := keyOk_inv hk
  simp only [findA, hu] at hf
  by_cases hx : ∃ e ∈ es.toList, e.key = .int .i64 x
  · obtain ⟨e, he, hek⟩ := hx
    obtain ⟨e', he', hek'⟩ := s.other he
    obtain ⟨j, q1, q2⟩ := findNow_yes (q := q) es.toList 0 e s.ints s.apart he hek
    obtain ⟨j', p1, p2⟩ := findNow_yes (q := q) es'.toList 0 e' s.ints' s.apart' he' (hek'.trans hek)
    rw [q1] at hf
    cases hf
    refine ⟨fun w => (by cases w), fun i v hv => ?_⟩
    cases hv
    refine ⟨e, 0 + j', e', by simpa using q2, hek, rfl, ?_, s.vals e he e' he' hek', by simpa using p2, hek'.trans hek⟩
    simp [Instr.findKey, run_underlying hu, p1]
  · have hno : ∀ e ∈ es.toList, e.key ≠ .int .i64 x := fun e he w => hx ⟨e, he, w⟩
    have hno' : ∀ e ∈ es'.toList, e.key ≠ .int .i64 x := fun e' he' w => by
      obtain ⟨e, he, h1⟩ := s.other' he'
      exact hno e he (h1.trans w)
    rw [findNow_no es.toList 0 s.ints hno] at hf
    cases hf
    refine ⟨fun _ => ⟨?_, hno⟩, fun i v hv => (by cases hv)⟩
    simp [Instr.findKey, run_underlying hu, findNow_no es'.toList 0 s.ints' hno']

/-- The entries of a map value. -/
def entriesA (h : Heap) (x : Value) : Option (Array MapEntry) :=
  match x with
  | .map none => some #[]
  | .map (some r) => match h[r]? with
    | some (.map es _) => some es
    | _ => none
  | _ => none

def lookupA (P : Program) (h : Heap) (t : TypeId) (x key : Value) (commaOk : Bool) : Option Value :=
  match P.underlying t with
  | some (.map kt et) =>
    if keyOk P 8 kt key = true ∧ flatV key = true then
      match entriesA h x with
      | some es => match findA P kt key es with
        | some (some (_, v)) => some (if commaOk then .tuple #[v, .bool true] else v)
        | some none => (zeroA P et).map fun z => if commaOk then .tuple #[z, .bool false] else z
        | none => none
      | none => none
    else none
  | _ => none

theorem VR_tuple2 {a a' b b' : Value} (ha : VR R a a') (hb : VR R b b') : VR R (.tuple #[a, b]) (.tuple #[a', b']) := by
  rw [VR_tuple]
  exact ⟨_, rfl, ((ArrR.empty _).push ha).push hb⟩

theorem lookupA_val (k : Rel P R (hget h) w) {t : TypeId} {x x' key key' v : Value} {ok : Bool} (hx : VR R x x') (hk : VR R key key') (hv : lookupA P h t x key ok = some v) :
    ∃ v', (Instr.lookup t x' key' ok).run P w = .ok v' w ∧ VR R v v' := by
  unfold lookupA at hv
  split at hv
  · rename_i kt et hu
    split at hv
    · rename_i hkp
      have hke := flatV_eq hkp.2 hk
      subst hke
      split at hv
      · rename_i es hes
        have hent : ∃ es' cq, Shuf R es.toList es'.toList cq ∧
            ((x' = .map none ∧ es' = #[]) ∨ ∃ r' ck, x' = .map (some r') ∧ (getObj r').run P w = .ok (.map es' ck) w) := by
          unfold entriesA at hes
          split at hes
          · cases hes; rw [VR_nilmap] at hx; subst hx; exact ⟨#[], 0, ⟨by simp, by simp, by simp, by simp, by simp, by simp⟩, .inl ⟨rfl, rfl⟩⟩
          · rename_i r
            rw [VR_map] at hx
            obtain ⟨r', rfl, hr⟩ := hx
            split at hes
            · rename_i es0 ck ho
              cases hes
              obtain ⟨_, es', cq, h1, h2, _⟩ := k.mapObj hr ho
              exact ⟨es', cq, h2, .inr ⟨r', cq, rfl, by simp [getObj, Sem.run, h1]⟩⟩
            · cases hes
          · cases hes
        obtain ⟨es', cq, hs, hrun⟩ := hent
        have hck : ∀ b, (Instr.checkKey b 10000 kt key').run P w = .ok () w := fun b => checkKey_run 8 10000 b kt key' (by omega) (by omega) hkp.1
        have hlook : ∀ (f : Option (Nat × Value)), (Instr.findKey kt key' es'.toList).run P w = .ok f w → (Instr.lookup t x' key' ok).run P w =
            ((match f with | some (_, v) => pure (v, true) | none => (do pure (← zeroValue et, false)) : Sem (Value × Bool)).run P w).andThen fun p w1 => .ok (if ok then .tuple #[p.1, .bool p.2] else p.1) w1 := by
          intro f hf
          unfold Instr.lookup
          simp only [Sem.run_bind, run_underlying hu, Result.andThen_ok]
          rcases hrun with ⟨rfl, rfl⟩ | ⟨r', ck, rfl, hg⟩
          · simp at hf
            cases f with
            | none => cases hz : (zeroValue et).run P w <;> simp [hck, hf, hz]
            | some p => simp [hck, hf]
          · cases f with
            | none => cases hz : (zeroValue et).run P w <;> simp [hg, hck, hf, hz]
            | some p => simp [hg, hck, hf]
        split at hv
        · rename_i j u hf
          cases hv
          obtain ⟨_, _, e', _, _, _, q1, q2, _⟩ := (findA_sim (w := w) hkp.1 hs hf).2 j u rfl
          refine ⟨if ok then .tuple #[e'.val, .bool true] else e'.val, by rw [hlook _ q1]; simp, ?_⟩
          split
          · exact VR_tuple2 q2 (by simp)
          · exact q2
        · rename_i hf
          simp only [Option.map_eq_some_iff] at hv
          obtain ⟨z, hz, rfl⟩ := hv
          obtain ⟨g1, g2, _⟩ := zeroA_run (P := P) (R := R) (w := w) hz
          have q1 := ((findA_sim (w := w) hkp.1 hs hf).1 rfl).1
          refine ⟨if ok then .tuple #[z, .bool false] else z, by rw [hlook _ q1]; simp [g1], ?_⟩
          split
          · exact VR_tuple2 g2 (by simp)
          · exact g2
        · cases hv
      · cases hv
    · cases hv
  · cases hv
theorem lookupA_sim (k : Rel P R (hget h) w) {t : TypeId} {x x' key key' v : Value} {ok : Bool} (hx : VR R x x') (hk : VR R key key') (hv : lookupA P h t x key ok = some v) :
    StepSim P R h w (Instr.lookup t x' key' ok) v h := by
  obtain ⟨v', h1, h2⟩ := lookupA_val k hx hk hv
  exact .pure k h1 h2
end
end Go.AM
