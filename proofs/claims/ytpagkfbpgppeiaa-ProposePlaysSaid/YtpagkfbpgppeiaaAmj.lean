/- An abstract machine for Go, part 10: len, make, maps, texts of bytes, the least and the greatest. -/
import Derived.Test.YtpagkfbpgppeiaaAmi
import Derived.Laws.BytesString
namespace Go.AM

section
variable {P : Program} {R : Ren} {h h' : Heap} {w w' : World}

/-! ### maps -/
theorem Rel.mapObj (k : Rel P R (hget h) w) {r r' : Nat} (hr : BR R r r') {es : Array MapEntry} {ck : Nat} (ho : h[r]? = some (.map es ck)) :
    R.map r = some r' ∧ ∃ es', w.heap[r']? = some (.map es' ck) ∧ es'.size = es.size ∧ (∀ (i : Nat) (e e' : MapEntry), es[i]? = some e → es'[i]? = some e' → EntR R e e') ∧ R.slack r = none := by
  rcases hr with hd | hm
  · have := (k.dead r hd).2
    simp only [hget, ho, deadRow] at this
    cases this
  · obtain ⟨o, o', h1, h2, h3, h4, _⟩ := k.obj r r' hm
    simp only [hget, ho] at h1
    cases h1
    obtain ⟨es', e, hs, hv⟩ := h3
    refine ⟨hm, es', by rw [h2, e], hs, hv, ?_⟩
    cases hq : R.slack r with
    | none => rfl
    | some p => rw [hq] at h4; simp [isSlack] at h4

def lenA (P : Program) (h : Heap) (t : TypeId) (x : Value) : Option Value :=
  match P.underlying t, x with
  | some .string, .string s => some (goInt s.size)
  | some (.array n _), _ => some (goInt n)
  | some (.slice _), .slice _ n _ => some (goInt n)
  | some (.map _ _), .map none => some (goInt 0)
  | some (.map _ _), .map (some r) => match h[r]? with
    | some (.map es _) => some (goInt es.size)
    | _ => none
  | _, _ => none

theorem lenA_sim (k : Rel P R (hget h) w) {t : TypeId} {ty : TypeId} {ts : Array TypeId} {args' : Array Value} (ht : ts[0]? = some t) {x x' : Value} (hx' : args'[0]? = some x') (hx : VR R x x') {v : Value} (hv : lenA P h t x = some v) :
    (Builtin.len_ ts ty args').run P w = .ok v w ∧ VR R v v := by
  unfold lenA at hv
  split at hv
  · rename_i hu; cases hv; rw [VR_string] at hx; subst hx
    exact ⟨by simp [Builtin.len_, ht, hx', run_underlying hu], by simp [goInt]⟩
  · rename_i hu; cases hv
    refine ⟨?_, by simp [goInt]⟩
    simp only [Builtin.len_, ht, hx', Sem.run_bind, run_underlying hu, Result.andThen_ok]
    cases x' <;> rfl
  · rename_i a n c hu; cases hv
    cases a with
    | none => rw [VR_nilslice] at hx; subst hx; exact ⟨by simp [Builtin.len_, ht, hx', run_underlying hu], by simp [goInt]⟩
    | some a => rw [VR_slice] at hx; obtain ⟨_, _, rfl, _⟩ := hx; exact ⟨by simp [Builtin.len_, ht, hx', run_underlying hu], by simp [goInt]⟩
  · rename_i hu; cases hv; rw [VR_nilmap] at hx; subst hx
    exact ⟨by simp [Builtin.len_, ht, hx', run_underlying hu], by simp [goInt]⟩
  · rename_i r hu
    rw [VR_map] at hx
    obtain ⟨r', rfl, hr⟩ := hx
    split at hv
    · rename_i es ck ho
      cases hv
      obtain ⟨_, es', h1, h2, _⟩ := k.mapObj hr ho
      refine ⟨?_, by simp [goInt]⟩
      simp [Builtin.len_, ht, hx', run_underlying hu, getObj, Sem.run, h1, h2]
    · cases hv
  · cases hv

/-- Keys that are numbers, texts or truth values. -/
def keyPlain (P : Program) (t : TypeId) : Bool :=
  match P.underlying t with
  | some (.int _) | some .string | some .bool => true
  | _ => false

theorem checkKey_run {kt : TypeId} (hk : keyPlain P kt = true) (b : Bool) (n : Nat) (v : Value) : (Instr.checkKey b (n + 1) kt v).run P w = .ok () w := by
  unfold keyPlain at hk
  split at hk
  all_goals first
    | (rename_i hu; simp only [Instr.checkKey, Sem.run_bind, run_underlying hu, Result.andThen_ok]; cases v <;> rfl)
    | cases hk

theorem sameNow_rel {kd : TypeDesc} {k u u' : Value} {b : Bool} (hs : Instr.sameNow kd k u = some b) (hu : VR R u u') : u' = u := by
  unfold Instr.sameNow at hs
  split at hs
  · rw [VR_int] at hu; exact hu
  · rw [VR_string] at hu; exact hu
  · rw [VR_bool] at hu; exact hu
  · cases hs

theorem findNow_rel {kd : TypeDesc} {k : Value} : ∀ (es es' : List MapEntry) (i : Nat) (r : Option (Nat × Value)), es'.length = es.length → (∀ (j : Nat) (e e' : MapEntry), es[j]? = some e → es'[j]? = some e' → EntR R e e') →
    Instr.findNow kd k es i = some r →
    match r with
    | none => Instr.findNow kd k es' i = some none
    | some (j, v) => ∃ v' e e', Instr.findNow kd k es' i = some (some (j, v')) ∧ VR R v v' ∧ i ≤ j ∧ es[j - i]? = some e ∧ es'[j - i]? = some e' ∧ Instr.sameNow kd k e'.key = some true
  | [], [], i, r, _, _, hf => by simp [Instr.findNow] at hf; subst hf; simp [Instr.findNow]
  | [], _ :: _, _, _, hl, _, _ => by simp at hl
  | _ :: _, [], _, _, hl, _, _ => by simp at hl
  | e :: es, e' :: es', i, r, hl, hr, hf => by
    have h0 : EntR R e e' := hr 0 e e' rfl rfl
    unfold Instr.findNow at hf
    split at hf
    · rename_i hs
      have hk := sameNow_rel hs h0.key
      cases hf
      refine ⟨e'.val, e, e', ?_, h0.val, Nat.le_refl _, by simp, by simp, by rw [hk]; exact hs⟩
      simp [Instr.findNow, hk, hs]
    · rename_i hs
      have hk := sameNow_rel hs h0.key
      have ih := findNow_rel es es' (i + 1) r (by simpa using hl) (fun j a b ha hb => hr (j + 1) a b (by simpa using ha) (by simpa using hb)) hf
      cases r with
      | none => simpa [Instr.findNow, hk, hs] using ih
      | some p =>
        obtain ⟨j, v⟩ := p
        obtain ⟨v', a, b, q1, q2, q3, q4, q5, q6⟩ := ih
        refine ⟨v', a, b, by simpa [Instr.findNow, hk, hs] using q1, q2, by omega, ?_, ?_, q6⟩
        · rw [show j - i = (j - (i + 1)) + 1 from by omega]; simpa using q4
        · rw [show j - i = (j - (i + 1)) + 1 from by omega]; simpa using q5
    · cases hf

def findA (P : Program) (kt : TypeId) (k : Value) (es : Array MapEntry) : Option (Option (Nat × Value)) :=
  match P.underlying kt with
  | some kd => Instr.findNow kd k es.toList 0
  | none => none

theorem findA_sim {kt : TypeId} {k : Value} {es es' : Array MapEntry} (hs : es'.size = es.size) (hr : ∀ (i : Nat) (e e' : MapEntry), es[i]? = some e → es'[i]? = some e' → EntR R e e') {r : Option (Nat × Value)} (hf : findA P kt k es = some r) :
    (r = none → (Instr.findKey kt k es'.toList).run P w = .ok none w) ∧
    (∀ j v, r = some (j, v) → ∃ v' kd e', (Instr.findKey kt k es'.toList).run P w = .ok (some (j, v')) w ∧ VR R v v' ∧ es'[j]? = some e' ∧ Instr.sameNow kd k e'.key = some true) := by
  unfold findA at hf
  split at hf
  · rename_i kd hu
    have key := findNow_rel (R := R) es.toList es'.toList 0 r (by simpa using hs) (fun j a b ha hb => hr j a b (by simpa using ha) (by simpa using hb)) hf
    constructor
    · rintro rfl
      simp only at key
      simp [Instr.findKey, run_underlying hu, key]
    · rintro j v rfl
      obtain ⟨v', a, b, q1, q2, _, _, q5, q6⟩ := key
      exact ⟨v', kd, b, by simp [Instr.findKey, run_underlying hu, q1], q2, by simpa using q5, q6⟩
  · cases hf

/-- The entries of a map value. -/
def entriesA (h : Heap) (x : Value) : Option (Array MapEntry) :=
  match x with
  | .map none => some #[]
  | .map (some r) => match h[r]? with
    | some (.map es _) => some es
    | _ => none
  | _ => none

def lookupA (P : Program) (h : Heap) (t : TypeId) (x key : Value) (commaOk : Bool) : Option Value :=
  match P.underlying t with
  | some (.map kt et) =>
    if keyPlain P kt = true ∧ flatC key = true then
      match entriesA h x with
      | some es => match findA P kt key es with
        | some (some (_, v)) => some (if commaOk then .tuple #[v, .bool true] else v)
        | some none => (zeroA P et).map fun z => if commaOk then .tuple #[z, .bool false] else z
        | none => none
      | none => none
    else none
  | _ => none

theorem VR_tuple2 {a a' b b' : Value} (ha : VR R a a') (hb : VR R b b') : VR R (.tuple #[a, b]) (.tuple #[a', b']) := by
  rw [VR_tuple]
  exact ⟨_, rfl, ((ArrR.empty _).push ha).push hb⟩

theorem lookupA_val (k : Rel P R (hget h) w) {t : TypeId} {x x' key key' v : Value} {ok : Bool} (hx : VR R x x') (hk : VR R key key') (hv : lookupA P h t x key ok = some v) :
    ∃ v', (Instr.lookup t x' key' ok).run P w = .ok v' w ∧ VR R v v' := by
  unfold lookupA at hv
  split at hv
  · rename_i kt et hu
    split at hv
    · rename_i hkp
      have hke := flatC_eq hkp.2 hk
      subst hke
      split at hv
      · rename_i es hes
        have hent : ∃ es', es'.size = es.size ∧ (∀ (i : Nat) (e e' : MapEntry), es[i]? = some e → es'[i]? = some e' → EntR R e e') ∧
            ((x' = .map none ∧ es' = #[]) ∨ ∃ r' ck, x' = .map (some r') ∧ (getObj r').run P w = .ok (.map es' ck) w) := by
          unfold entriesA at hes
          split at hes
          · cases hes; rw [VR_nilmap] at hx; subst hx; exact ⟨#[], rfl, by simp, .inl ⟨rfl, rfl⟩⟩
          · rename_i r
            rw [VR_map] at hx
            obtain ⟨r', rfl, hr⟩ := hx
            split at hes
            · rename_i es0 ck ho
              cases hes
              obtain ⟨_, es', h1, h2, h3, _⟩ := k.mapObj hr ho
              exact ⟨es', h2, h3, .inr ⟨r', ck, rfl, by simp [getObj, Sem.run, h1]⟩⟩
            · cases hes
          · cases hes
        obtain ⟨es', hs, hr, hrun⟩ := hent
        have hck : ∀ b, (Instr.checkKey b 10000 kt key').run P w = .ok () w := fun b => checkKey_run (P := P) (w := w) hkp.1 b 9999 key'
        have hlook : ∀ (f : Option (Nat × Value)), (Instr.findKey kt key' es'.toList).run P w = .ok f w → (Instr.lookup t x' key' ok).run P w =
            ((match f with | some (_, v) => pure (v, true) | none => (do pure (← zeroValue et, false)) : Sem (Value × Bool)).run P w).andThen fun p w1 => .ok (if ok then .tuple #[p.1, .bool p.2] else p.1) w1 := by
          intro f hf
          unfold Instr.lookup
          simp only [Sem.run_bind, run_underlying hu, Result.andThen_ok]
          rcases hrun with ⟨rfl, rfl⟩ | ⟨r', ck, rfl, hg⟩
          · simp at hf
            cases f with
            | none => cases hz : (zeroValue et).run P w <;> simp [hck, hf, hz]
            | some p => simp [hck, hf]
          · cases f with
            | none => cases hz : (zeroValue et).run P w <;> simp [hg, hck, hf, hz]
            | some p => simp [hg, hck, hf]
        split at hv
        · rename_i j u hf
          cases hv
          obtain ⟨v', kd, e', q1, q2, _⟩ := (findA_sim (w := w) hs hr hf).2 j u rfl
          refine ⟨if ok then .tuple #[v', .bool true] else v', by rw [hlook _ q1]; simp, ?_⟩
          split
          · exact VR_tuple2 q2 (by simp)
          · exact q2
        · rename_i hf
          simp only [Option.map_eq_some_iff] at hv
          obtain ⟨z, hz, rfl⟩ := hv
          obtain ⟨g1, g2, _⟩ := zeroA_run (P := P) (R := R) (w := w) hz
          have q1 := (findA_sim (w := w) hs hr hf).1 rfl
          refine ⟨if ok then .tuple #[z, .bool false] else z, by rw [hlook _ q1]; simp [g1], ?_⟩
          split
          · exact VR_tuple2 g2 (by simp)
          · exact g2
        · cases hv
      · cases hv
    · cases hv
  · cases hv
theorem lookupA_sim (k : Rel P R (hget h) w) {t : TypeId} {x x' key key' v : Value} {ok : Bool} (hx : VR R x x') (hk : VR R key key') (hv : lookupA P h t x key ok = some v) :
    StepSim P R h w (Instr.lookup t x' key' ok) v h := by
  obtain ⟨v', h1, h2⟩ := lookupA_val k hx hk hv
  exact .pure k h1 h2
end
end Go.AM
