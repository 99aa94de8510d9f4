/- An abstract machine for Go, part 10: len, make, maps, texts of bytes, the least and the greatest. -/
import Derived.Test.YtpagkfbpgppeiaaAmi
import Derived.Laws.BytesString
namespace Go.AM

section
variable {P : Program} {R : Ren} {h h' : Heap} {w w' : World}

/-! ### maps -/
theorem Rel.mapObj (k : Rel P R (hget h) w) {r r' : Nat} (hr : BR R r r') {es : Array MapEntry} {ck : Nat} (ho : h[r]? = some (.map es ck)) :
    R.map r = some r' ∧ ∃ es', w.heap[r']? = some (.map es' ck) ∧ es'.size = es.size ∧ (∀ (i : Nat) (e e' : MapEntry), es[i]? = some e → es'[i]? = some e' → EntR R e e') ∧ R.slack r = none := by
  rcases hr with hd | hm
  · have := (k.dead r hd).2
    simp only [hget, ho, deadRow] at this
    cases this
  · obtain ⟨o, o', h1, h2, h3, h4, _⟩ := k.obj r r' hm
    simp only [hget, ho] at h1
    cases h1
    obtain ⟨es', e, hs, hv⟩ := h3
    refine ⟨hm, es', by rw [h2, e], hs, hv, ?_⟩
    cases hq : R.slack r with
    | none => rfl
    | some p => rw [hq] at h4; simp [isSlack] at h4

def lenA (P : Program) (h : Heap) (t : TypeId) (x : Value) : Option Value :=
  match P.underlying t, x with
  | some .string, .string s => some (goInt s.size)
  | some (.array n _), _ => some (goInt n)
  | some (.slice _), .slice _ n _ => some (goInt n)
  | some (.map _ _), .map none => some (goInt 0)
  | some (.map _ _), .map (some r) => match h[r]? with
    | some (.map es _) => some (goInt es.size)
    | _ => none
  | _, _ => none

theorem lenA_sim (k : Rel P R (hget h) w) {t : TypeId} {ty : TypeId} {ts : Array TypeId} {args' : Array Value} (ht : ts[0]? = some t) {x x' : Value} (hx' : args'[0]? = some x') (hx : VR R x x') {v : Value} (hv : lenA P h t x = some v) :
    (Builtin.len_ ts ty args').run P w = .ok v w ∧ VR R v v := by
  unfold lenA at hv
  split at hv
  · rename_i hu; cases hv; rw [VR_string] at hx; subst hx
    exact ⟨by simp [Builtin.len_, ht, hx', run_underlying hu], by simp [goInt]⟩
  · rename_i hu; cases hv
    refine ⟨?_, by simp [goInt]⟩
    simp only [Builtin.len_, ht, hx', Sem.run_bind, run_underlying hu, Result.andThen_ok]
    cases x' <;> rfl
  · rename_i a n c hu; cases hv
    cases a with
    | none => rw [VR_nilslice] at hx; subst hx; exact ⟨by simp [Builtin.len_, ht, hx', run_underlying hu], by simp [goInt]⟩
    | some a => rw [VR_slice] at hx; obtain ⟨_, _, rfl, _⟩ := hx; exact ⟨by simp [Builtin.len_, ht, hx', run_underlying hu], by simp [goInt]⟩
  · rename_i hu; cases hv; rw [VR_nilmap] at hx; subst hx
    exact ⟨by simp [Builtin.len_, ht, hx', run_underlying hu], by simp [goInt]⟩
  · rename_i r hu
    rw [VR_map] at hx
    obtain ⟨r', rfl, hr⟩ := hx
    split at hv
    · rename_i es ck ho
      cases hv
      obtain ⟨_, es', h1, h2, _⟩ := k.mapObj hr ho
      refine ⟨?_, by simp [goInt]⟩
      simp [Builtin.len_, ht, hx', run_underlying hu, getObj, Sem.run, h1, h2]
    · cases hv
  · cases hv

theorem flatV_eq {R : Ren} {v v' : Value} (h : flatV v = true) (k : VR R v v') : v' = v := by
  unfold flatV at h
  split at h
  · rename_i cs
    rw [VR_agg] at k
    obtain ⟨cs', rfl, h1, h2⟩ := k
    congr 1
    apply Array.ext
    · exact h1
    · intro i hi hi'
      exact flatC_eq (Array.all_eq_true_iff_forall_mem.1 h _ (Array.getElem_mem hi')) (h2 i _ _ (by simp [hi']) (by simp [hi]))
  · exact flatC_eq h k

/-- Keys that are numbers, texts or truth values, or structs of such. -/
def keyFieldsA (P : Program) (ok : TypeId → Value → Bool) (cs : Array Value) : List Field → Bool
  | [] => true
  | f :: fs => (if f.name ≠ "_" then (match partA P f.type cs f.offset with | some u => ok f.type u | none => false) else true) && keyFieldsA P ok cs fs
def keyOk (P : Program) : Nat → TypeId → Value → Bool
  | 0, _, _ => false
  | d + 1, t, v =>
    match P.underlying t, v with
    | some (.int _), _ | some .string, _ | some .bool, _ => true
    | some (.struct fields), .agg cs => keyFieldsA P (keyOk P d) cs fields.toList
    | _, _ => false

theorem checkKey_run : ∀ (d n : Nat) (b : Bool) (kt : TypeId) (v : Value), d ≤ n → keyOk P d kt v = true → (Instr.checkKey b n kt v).run P w = .ok () w := by
  intro d
  induction d with
  | zero => intro n b kt v _ h; simp [keyOk] at h
  | succ d ih =>
    intro n b kt v hn h
    obtain ⟨n, rfl⟩ : ∃ m, n = m + 1 := ⟨n - 1, by omega⟩
    unfold keyOk at h
    split at h
    · rename_i hu; simp only [Instr.checkKey, Sem.run_bind, run_underlying hu, Result.andThen_ok]; rename_i v _ _; cases v <;> rfl
    · rename_i hu; simp only [Instr.checkKey, Sem.run_bind, run_underlying hu, Result.andThen_ok]; rename_i v _; cases v <;> rfl
    · rename_i hu; simp only [Instr.checkKey, Sem.run_bind, run_underlying hu, Result.andThen_ok]; rename_i v _; cases v <;> rfl
    · rename_i fields cs hu
      simp only [Instr.checkKey, Sem.run_bind, run_underlying hu, Result.andThen_ok]
      rw [← Array.forIn_toList]
      generalize fields.toList = L at h
      induction L with
      | nil => simp
      | cons f L ihL =>
        unfold keyFieldsA at h
        rw [Bool.and_eq_true] at h
        have h1 := h.1
        split at h1
        · rename_i hn
          split at h1
          · rename_i u hu
            have p2 := ih n b f.type u (by omega) h1
            simp only [List.forIn_cons, Sem.run_bind, hn, ne_eq, not_false_eq_true, if_true, Result.andThen_ok, partA_run hu, p2, Sem.run_pure]
            exact ihL h.2
          · cases h1
        · rename_i hn
          simp only [List.forIn_cons, Sem.run_bind, hn, if_false, Result.andThen_ok, Sem.run_pure]
          exact ihL h.2
    · cases h

theorem sameNow_rel {kd : TypeDesc} {k u u' : Value} {b : Bool} (hs : Instr.sameNow kd k u = some b) (hu : VR R u u') : u' = u := by
  unfold Instr.sameNow at hs
  split at hs
  · rw [VR_int] at hu; exact hu
  · rw [VR_string] at hu; exact hu
  · rw [VR_bool] at hu; exact hu
  · cases hs

theorem findNow_rel {kd : TypeDesc} {k : Value} : ∀ (es es' : List MapEntry) (i : Nat) (r : Option (Nat × Value)), es'.length = es.length → (∀ (j : Nat) (e e' : MapEntry), es[j]? = some e → es'[j]? = some e' → EntR R e e') →
    Instr.findNow kd k es i = some r →
    match r with
    | none => Instr.findNow kd k es' i = some none
    | some (j, v) => ∃ v' e e', Instr.findNow kd k es' i = some (some (j, v')) ∧ VR R v v' ∧ i ≤ j ∧ es[j - i]? = some e ∧ es'[j - i]? = some e' ∧ Instr.sameNow kd k e'.key = some true
  | [], [], i, r, _, _, hf => by simp [Instr.findNow] at hf; subst hf; simp [Instr.findNow]
  | [], _ :: _, _, _, hl, _, _ => by simp at hl
  | _ :: _, [], _, _, hl, _, _ => by simp at hl
  | e :: es, e' :: es', i, r, hl, hr, hf => by
    have h0 : EntR R e e' := hr 0 e e' rfl rfl
    unfold Instr.findNow at hf
    split at hf
    · rename_i hs
      have hk := sameNow_rel hs h0.key
      cases hf
      refine ⟨e'.val, e, e', ?_, h0.val, Nat.le_refl _, by simp, by simp, by rw [hk]; exact hs⟩
      simp [Instr.findNow, hk, hs]
    · rename_i hs
      have hk := sameNow_rel hs h0.key
      have ih := findNow_rel es es' (i + 1) r (by simpa using hl) (fun j a b ha hb => hr (j + 1) a b (by simpa using ha) (by simpa using hb)) hf
      cases r with
      | none => simpa [Instr.findNow, hk, hs] using ih
      | some p =>
        obtain ⟨j, v⟩ := p
        obtain ⟨v', a, b, q1, q2, q3, q4, q5, q6⟩ := ih
        refine ⟨v', a, b, by simpa [Instr.findNow, hk, hs] using q1, q2, by omega, ?_, ?_, q6⟩
        · rw [show j - i = (j - (i + 1)) + 1 from by omega]; simpa using q4
        · rw [show j - i = (j - (i + 1)) + 1 from by omega]; simpa using q5
    · cases hf

/-- Keys that are structs: one after the other is compared. -/
def askA (P : Program) (kt : TypeId) (k : Value) : List MapEntry → Nat → Option (Option (Nat × Value))
  | [], _ => some none
  | e :: es, i => if flatV e.key then match eqA P 8 kt k e.key with
      | some true => if Instr.sameBits 10000 e.key k then some (some (i, e.val)) else none
      | some false => askA P kt k es (i + 1)
      | none => none
    else none

def findA (P : Program) (kt : TypeId) (k : Value) (es : Array MapEntry) : Option (Option (Nat × Value)) :=
  match P.underlying kt with
  | some (.struct _) => askA P kt k es.toList 0
  | some kd => Instr.findNow kd k es.toList 0
  | none => none

theorem sameBits_of {kd : TypeDesc} {k u : Value} (hs : Instr.sameNow kd k u = some true) : Instr.sameBits 10000 u k = true := by
  unfold Instr.sameNow at hs
  split at hs
  · rename_i k1 a k2 b
    split at hs
    · rename_i e; subst e
      have : a = b := by simpa using hs
      subst this
      simp [Instr.sameBits]
    · cases hs
  · rename_i a b
    simp only [Option.some.injEq] at hs
    have : a.toList = b.toList := by rw [beq_toListBytes] at hs; simpa using hs
    simp only [Instr.sameBits, beq_toListBytes, this, beq_self_eq_true]
  · rename_i a b
    have : a = b := by simpa using hs
    subst this
    simp [Instr.sameBits]
  · cases hs

theorem findNow_struct {fs : Array Field} {k : Value} (es : List MapEntry) (i : Nat) (r : Option (Nat × Value)) (h : Instr.findNow (.struct fs) k es i = some r) : es = [] ∧ r = none := by
  cases es with
  | nil => simp [Instr.findNow] at h; exact ⟨rfl, h.symm⟩
  | cons e es => simp [Instr.findNow, Instr.sameNow] at h

theorem askA_sim {kt : TypeId} {k : Value} (hk : flatV k = true) : ∀ (es es' : List MapEntry) (i : Nat) (r : Option (Nat × Value)), es'.length = es.length → (∀ (j : Nat) (e e' : MapEntry), es[j]? = some e → es'[j]? = some e' → EntR R e e') →
    askA P kt k es i = some r →
    match r with
    | none => (Instr.findAsking kt k es' i).run P w = .ok none w
    | some (j, v) => ∃ v' e', (Instr.findAsking kt k es' i).run P w = .ok (some (j, v')) w ∧ VR R v v' ∧ i ≤ j ∧ es'[j - i]? = some e' ∧ Instr.sameBits 10000 e'.key k = true
  | [], [], i, r, _, _, hf => by simp [askA] at hf; subst hf; simp [Instr.findAsking]
  | [], _ :: _, _, _, hl, _, _ => by simp at hl
  | _ :: _, [], _, _, hl, _, _ => by simp at hl
  | e :: es, e' :: es', i, r, hl, hr, hf => by
    have h0 : EntR R e e' := hr 0 e e' rfl rfl
    unfold askA at hf
    split at hf
    · rename_i hfl
      have he := flatV_eq hfl h0.key
      split at hf
      · rename_i hq
        have q := eqA_sim (R := R) 8 10000 kt k e.key true k e'.key w (by omega) hq (flatV_VR hk) h0.key
        split at hf
        · rename_i hsb
          cases hf
          refine ⟨e'.val, e', ?_, h0.val, Nat.le_refl _, by simp, by rw [he]; exact hsb⟩
          simp [Instr.findAsking, Op.equal, Op.maxDepth, q]
        · cases hf
      · rename_i hq
        have q := eqA_sim (R := R) 8 10000 kt k e.key false k e'.key w (by omega) hq (flatV_VR hk) h0.key
        have ih := askA_sim hk es es' (i + 1) r (by simpa using hl) (fun j a b ha hb => hr (j + 1) a b (by simpa using ha) (by simpa using hb)) hf
        cases r with
        | none => simpa [Instr.findAsking, Op.equal, Op.maxDepth, q] using ih
        | some p =>
          obtain ⟨j, v⟩ := p
          obtain ⟨v', b, q1, q2, q3, q5, q6⟩ := ih
          refine ⟨v', b, by simpa [Instr.findAsking, Op.equal, Op.maxDepth, q] using q1, q2, by omega, ?_, q6⟩
          rw [show j - i = (j - (i + 1)) + 1 from by omega]; simpa using q5
      · cases hf
    · cases hf

theorem findA_sim {kt : TypeId} {k : Value} (hk : flatV k = true) {es es' : Array MapEntry} (hs : es'.size = es.size) (hr : ∀ (i : Nat) (e e' : MapEntry), es[i]? = some e → es'[i]? = some e' → EntR R e e') {r : Option (Nat × Value)} (hf : findA P kt k es = some r) :
    (r = none → (Instr.findKey kt k es'.toList).run P w = .ok none w) ∧
    (∀ j v, r = some (j, v) → ∃ v' e', (Instr.findKey kt k es'.toList).run P w = .ok (some (j, v')) w ∧ VR R v v' ∧ es'[j]? = some e' ∧ Instr.sameBits 10000 e'.key k = true) := by
  unfold findA at hf
  split at hf
  · rename_i fs hu
    have key := askA_sim (P := P) (R := R) (w := w) hk es.toList es'.toList 0 r (by simpa using hs) (fun j a b ha hb => hr j a b (by simpa using ha) (by simpa using hb)) hf
    have hrun : (Instr.findKey kt k es'.toList).run P w = (Instr.findAsking kt k es'.toList).run P w := by
      cases hq : Instr.findNow (.struct fs) k es'.toList 0 with
      | none => simp [Instr.findKey, run_underlying hu, hq]
      | some r2 =>
        obtain ⟨e1, e2⟩ := findNow_struct _ _ _ hq
        rw [e1] at hq ⊢
        simp [Instr.findKey, run_underlying hu, Instr.findNow, Instr.findAsking]
    rw [hrun]
    constructor
    · rintro rfl; exact key
    · rintro j v rfl
      obtain ⟨v', b, q1, q2, _, q5, q6⟩ := key
      exact ⟨v', b, q1, q2, by simpa using q5, q6⟩
  · rename_i kd hns hu
    have key := findNow_rel (R := R) es.toList es'.toList 0 r (by simpa using hs) (fun j a b ha hb => hr j a b (by simpa using ha) (by simpa using hb)) hf
    constructor
    · rintro rfl
      simp only at key
      simp [Instr.findKey, run_underlying hu, key]
    · rintro j v rfl
      obtain ⟨v', a, b, q1, q2, _, _, q5, q6⟩ := key
      exact ⟨v', b, by simp [Instr.findKey, run_underlying hu, q1], q2, by simpa using q5, sameBits_of q6⟩
  · cases hf

/-- The entries of a map value. -/
def entriesA (h : Heap) (x : Value) : Option (Array MapEntry) :=
  match x with
  | .map none => some #[]
  | .map (some r) => match h[r]? with
    | some (.map es _) => some es
    | _ => none
  | _ => none

def lookupA (P : Program) (h : Heap) (t : TypeId) (x key : Value) (commaOk : Bool) : Option Value :=
  match P.underlying t with
  | some (.map kt et) =>
    if keyOk P 8 kt key = true ∧ flatV key = true then
      match entriesA h x with
      | some es => match findA P kt key es with
        | some (some (_, v)) => some (if commaOk then .tuple #[v, .bool true] else v)
        | some none => (zeroA P et).map fun z => if commaOk then .tuple #[z, .bool false] else z
        | none => none
      | none => none
    else none
  | _ => none

theorem VR_tuple2 {a a' b b' : Value} (ha : VR R a a') (hb : VR R b b') : VR R (.tuple #[a, b]) (.tuple #[a', b']) := by
  rw [VR_tuple]
  exact ⟨_, rfl, ((ArrR.empty _).push ha).push hb⟩

theorem lookupA_val (k : Rel P R (hget h) w) {t : TypeId} {x x' key key' v : Value} {ok : Bool} (hx : VR R x x') (hk : VR R key key') (hv : lookupA P h t x key ok = some v) :
    ∃ v', (Instr.lookup t x' key' ok).run P w = .ok v' w ∧ VR R v v' := by
  unfold lookupA at hv
  split at hv
  · rename_i kt et hu
    split at hv
    · rename_i hkp
      have hke := flatV_eq hkp.2 hk
      subst hke
      split at hv
      · rename_i es hes
        have hent : ∃ es', es'.size = es.size ∧ (∀ (i : Nat) (e e' : MapEntry), es[i]? = some e → es'[i]? = some e' → EntR R e e') ∧
            ((x' = .map none ∧ es' = #[]) ∨ ∃ r' ck, x' = .map (some r') ∧ (getObj r').run P w = .ok (.map es' ck) w) := by
          unfold entriesA at hes
          split at hes
          · cases hes; rw [VR_nilmap] at hx; subst hx; exact ⟨#[], rfl, by simp, .inl ⟨rfl, rfl⟩⟩
          · rename_i r
            rw [VR_map] at hx
            obtain ⟨r', rfl, hr⟩ := hx
            split at hes
            · rename_i es0 ck ho
              cases hes
              obtain ⟨_, es', h1, h2, h3, _⟩ := k.mapObj hr ho
              exact ⟨es', h2, h3, .inr ⟨r', ck, rfl, by simp [getObj, Sem.run, h1]⟩⟩
            · cases hes
          · cases hes
        obtain ⟨es', hs, hr, hrun⟩ := hent
        have hck : ∀ b, (Instr.checkKey b 10000 kt key').run P w = .ok () w := fun b => checkKey_run 8 10000 b kt key' (by omega) hkp.1
        have hlook : ∀ (f : Option (Nat × Value)), (Instr.findKey kt key' es'.toList).run P w = .ok f w → (Instr.lookup t x' key' ok).run P w =
            ((match f with | some (_, v) => pure (v, true) | none => (do pure (← zeroValue et, false)) : Sem (Value × Bool)).run P w).andThen fun p w1 => .ok (if ok then .tuple #[p.1, .bool p.2] else p.1) w1 := by
          intro f hf
          unfold Instr.lookup
          simp only [Sem.run_bind, run_underlying hu, Result.andThen_ok]
          rcases hrun with ⟨rfl, rfl⟩ | ⟨r', ck, rfl, hg⟩
          · simp at hf
            cases f with
            | none => cases hz : (zeroValue et).run P w <;> simp [hck, hf, hz]
            | some p => simp [hck, hf]
          · cases f with
            | none => cases hz : (zeroValue et).run P w <;> simp [hg, hck, hf, hz]
            | some p => simp [hg, hck, hf]
        split at hv
        · rename_i j u hf
          cases hv
          obtain ⟨v', e', q1, q2, _⟩ := (findA_sim (w := w) hkp.2 hs hr hf).2 j u rfl
          refine ⟨if ok then .tuple #[v', .bool true] else v', by rw [hlook _ q1]; simp, ?_⟩
          split
          · exact VR_tuple2 q2 (by simp)
          · exact q2
        · rename_i hf
          simp only [Option.map_eq_some_iff] at hv
          obtain ⟨z, hz, rfl⟩ := hv
          obtain ⟨g1, g2, _⟩ := zeroA_run (P := P) (R := R) (w := w) hz
          have q1 := (findA_sim (w := w) hkp.2 hs hr hf).1 rfl
          refine ⟨if ok then .tuple #[z, .bool false] else z, by rw [hlook _ q1]; simp [g1], ?_⟩
          split
          · exact VR_tuple2 g2 (by simp)
          · exact g2
        · cases hv
      · cases hv
    · cases hv
  · cases hv
theorem lookupA_sim (k : Rel P R (hget h) w) {t : TypeId} {x x' key key' v : Value} {ok : Bool} (hx : VR R x x') (hk : VR R key key') (hv : lookupA P h t x key ok = some v) :
    StepSim P R h w (Instr.lookup t x' key' ok) v h := by
  obtain ⟨v', h1, h2⟩ := lookupA_val k hx hk hv
  exact .pure k h1 h2
end
end Go.AM
