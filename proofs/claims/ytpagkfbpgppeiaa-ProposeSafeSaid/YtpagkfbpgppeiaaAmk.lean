/- An abstract machine for Go, part 11: writing maps; make; texts of bytes; the least and the greatest. -/
import Derived.Test.YtpagkfbpgppeiaaAmj
import Derived.IntWalk
namespace Go.AM

section
variable {P : Program} {R : Ren} {h h' : Heap} {w w' : World}

theorem Sim.putMap (k : Rel P R (hget h) w) {r r' : Nat} (hm : R.map r = some r') {es es' es1 : Array MapEntry} {ck ck1 : Nat} (hw : w.heap[r']? = some (.map es1 ck1)) (hs : es'.size = es.size)
    (hr : ∀ (i : Nat) (e e' : MapEntry), es[i]? = some e → es'[i]? = some e' → EntR R e e') (hsl : R.slack r = none) :
    Sim P R h w R (h.setIfInBounds r (.map es ck)) { w with heap := w.heap.setIfInBounds r' (.map es' ck) } := by
  have hlt := (Array.getElem?_eq_some_iff.1 hw).1
  refine Sim.put k hm (o' := .map es' ck) ⟨es', rfl, hs, hr⟩ ⟨by rw [hsl]; simp [isSlack], fun z r q => by rw [hsl] at q; cases q⟩ (by simp [hlt]) ?_ (by simp) rfl rfl rfl (fun _ => by rw [hw]; trivial)
  intro x hx
  simp only [Array.getElem?_setIfInBounds]
  rw [if_neg (by omega)]

def mapUpdateA (P : Program) (h : Heap) (t : TypeId) (x key v : Value) : Option Heap :=
  match P.underlying t, x with
  | some (.map kt _), .map (some r) =>
    if keyOk P 8 kt key = true ∧ flatV key = true then
      match h[r]? with
      | some (.map es ck) => match findA P kt key es with
        | some (some (i, _)) => some (h.setIfInBounds r (.map (es.modify i fun e => { e with key := key, val := v }) ck))
        | some none => some (h.setIfInBounds r (.map (es.push { key := key, val := v, born := ck }) (ck + 1)))
        | none => none
      | _ => none
    else none
  | _, _ => none

theorem mapUpdateA_sim (k : Rel P R (hget h) w) {t : TypeId} {x x' key key' v v' : Value} (hx : VR R x x') (hk : VR R key key') (hvv : VR R v v') (hv : mapUpdateA P h t x key v = some h') :
    ∃ w', (Instr.mapUpdate t x' key' v').run P w = .ok () w' ∧ Sim P R h w R h' w' := by
  unfold mapUpdateA at hv
  split at hv
  · rename_i kt et r hu
    rw [VR_map] at hx
    obtain ⟨r', rfl, hr⟩ := hx
    split at hv
    · rename_i hkp
      have hke := flatV_eq hkp.2 hk
      subst hke
      split at hv
      · rename_i es ck ho
        obtain ⟨hm, es', h1, h2, h3, h4⟩ := k.mapObj hr ho
        have hg : (getObj r').run P w = .ok (.map es' ck) w := by simp [getObj, Sem.run, h1]
        have hset : ∀ o, (setObj r' o).run P w = .ok () { w with heap := w.heap.setIfInBounds r' o } := fun o => by simp [setObj, Sem.run, h1]
        have hck : (Instr.checkKey false 10000 kt key').run P w = .ok () w := checkKey_run 8 10000 false kt key' (by omega) hkp.1
        split at hv
        · rename_i i u hf
          cases hv
          obtain ⟨v1, e', q1, q2, q3, q4⟩ := (findA_sim (w := w) hkp.2 h2 h3 hf).2 i u rfl
          have hstay : (Instr.keyThatStays (((es'[i]?).map (·.key)).getD key') key').run P w = .ok key' w := by
            simp [Instr.keyThatStays, q3, q4]
          refine ⟨_, ?_, Sim.putMap k hm (es' := es'.modify i fun e => { e with key := key', val := v' }) h1 (by simp [h2]) ?_ h4⟩
          · simp only [Instr.mapUpdate, Sem.run_bind, run_underlying hu, Result.andThen_ok, hg, hck, q1, hstay, hset]
          · intro j a b ha hb
            rw [Array.getElem?_modify] at ha hb
            split at ha
            · rename_i e
              subst e
              rw [if_pos rfl] at hb
              simp only [Option.map_eq_some_iff] at ha hb
              obtain ⟨a0, ha0, rfl⟩ := ha
              obtain ⟨b0, hb0, rfl⟩ := hb
              exact ⟨hk, hvv, (h3 _ _ _ ha0 hb0).born⟩
            · rename_i e
              rw [if_neg e] at hb
              exact h3 _ _ _ ha hb
        · rename_i hf
          cases hv
          have q1 := (findA_sim (w := w) hkp.2 h2 h3 hf).1 rfl
          refine ⟨_, ?_, Sim.putMap k hm (es' := es'.push { key := key', val := v', born := ck }) h1 (by simp [h2]) ?_ h4⟩
          · simp only [Instr.mapUpdate, Sem.run_bind, run_underlying hu, Result.andThen_ok, hg, hck, q1, hset]
          · intro j a b ha hb
            rw [Array.getElem?_push] at ha hb
            rw [h2] at hb
            split at ha
            · rename_i e; rw [if_pos e] at hb; cases ha; cases hb; exact ⟨hk, hvv, rfl⟩
            · rename_i e; rw [if_neg e] at hb; exact h3 _ _ _ ha hb
        · cases hv
      · cases hv
    · cases hv
  · cases hv

/-- m[k] op= v: the entry is found, or laid with the zero value. -/
def mapEntryA (P : Program) (h : Heap) (t : TypeId) (x key : Value) : Option (Value × Heap) :=
  match P.underlying t, x with
  | some (.map kt et), .map (some r) =>
    if keyOk P 8 kt key = true ∧ flatV key = true then
      match h[r]? with
      | some (.map es ck) => match findA P kt key es with
        | some (some (i, v)) => some (.tuple #[v, goInt (((es[i]?).map (·.born)).getD 0)], h.setIfInBounds r (.map (es.modify i fun e => { e with key := key }) ck))
        | some none => (zeroA P et).map fun z => (.tuple #[z, goInt ck], h.setIfInBounds r (.map (es.push { key := key, val := z, born := ck }) (ck + 1)))
        | none => none
      | _ => none
    else none
  | _, _ => none

theorem mapEntryA_sim (k : Rel P R (hget h) w) {t : TypeId} {x x' key key' v : Value} (hx : VR R x x') (hk : VR R key key') (hv : mapEntryA P h t x key = some (v, h')) :
    StepSim P R h w (Instr.mapEntry t x' key') v h' := by
  unfold mapEntryA at hv
  split at hv
  · rename_i kt et r hu
    rw [VR_map] at hx
    obtain ⟨r', rfl, hr⟩ := hx
    split at hv
    · rename_i hkp
      have hke := flatV_eq hkp.2 hk
      subst hke
      split at hv
      · rename_i es ck ho
        obtain ⟨hm, es', h1, h2, h3, h4⟩ := k.mapObj hr ho
        have hg : (getObj r').run P w = .ok (.map es' ck) w := by simp [getObj, Sem.run, h1]
        have hset : ∀ o, (setObj r' o).run P w = .ok () { w with heap := w.heap.setIfInBounds r' o } := fun o => by simp [setObj, Sem.run, h1]
        have hck : (Instr.checkKey false 10000 kt key').run P w = .ok () w := checkKey_run 8 10000 false kt key' (by omega) hkp.1
        split at hv
        · rename_i i u hf
          cases hv
          obtain ⟨v1, e', q1, q2, q3, q4⟩ := (findA_sim (w := w) hkp.2 h2 h3 hf).2 i u rfl
          have hstay : (Instr.keyThatStays (((es'[i]?).map (·.key)).getD key') key').run P w = .ok key' w := by
            simp [Instr.keyThatStays, q3, q4]
          have hb : ((es'[i]?).map (fun x => (x.born : Int))).getD 0 = ((es[i]?).map (fun x => (x.born : Int))).getD 0 := by
            obtain ⟨hi, _⟩ := Array.getElem?_eq_some_iff.1 q3
            obtain ⟨e, he⟩ : ∃ e, es[i]? = some e := ⟨_, Array.getElem?_eq_getElem (by omega)⟩
            rw [q3, he]
            simp [(h3 _ _ _ he q3).born]
          refine ⟨R, _, .tuple #[v1, goInt (((es[i]?).map (·.born)).getD 0)], ?_, VR_tuple2 q2 (by simp [goInt]), Sim.putMap k hm (es' := es'.modify i fun e => { e with key := key' }) h1 (by simp [h2]) ?_ h4⟩
          · simp only [Instr.mapEntry, Sem.run_bind, run_underlying hu, Result.andThen_ok, hg, hck, q1, hstay, hset, hb, Sem.run_pure]
          · intro j a b ha hb
            rw [Array.getElem?_modify] at ha hb
            split at ha
            · rename_i e
              subst e
              rw [if_pos rfl] at hb
              simp only [Option.map_eq_some_iff] at ha hb
              obtain ⟨a0, ha0, rfl⟩ := ha
              obtain ⟨b0, hb0, rfl⟩ := hb
              exact ⟨hk, (h3 _ _ _ ha0 hb0).val, (h3 _ _ _ ha0 hb0).born⟩
            · rename_i e
              rw [if_neg e] at hb
              exact h3 _ _ _ ha hb
        · rename_i hf
          simp only [Option.map_eq_some_iff, Prod.mk.injEq] at hv
          obtain ⟨z, hz, rfl, rfl⟩ := hv
          obtain ⟨g1, g2, _⟩ := zeroA_run (P := P) (R := R) (w := w) hz
          have q1 := (findA_sim (w := w) hkp.2 h2 h3 hf).1 rfl
          refine ⟨R, _, .tuple #[z, goInt ck], ?_, VR_tuple2 g2 (by simp [goInt]), Sim.putMap k hm (es' := es'.push { key := key', val := z, born := ck }) h1 (by simp [h2]) ?_ h4⟩
          · simp only [Instr.mapEntry, Sem.run_bind, run_underlying hu, Result.andThen_ok, hg, hck, q1, g1, hset, Sem.run_pure]
          · intro j a b ha hb
            rw [Array.getElem?_push] at ha hb
            rw [h2] at hb
            split at ha
            · rename_i e; rw [if_pos e] at hb; cases ha; cases hb; exact ⟨hk, g2, rfl⟩
            · rename_i e; rw [if_neg e] at hb; exact h3 _ _ _ ha hb
        · cases hv
      · cases hv
    · cases hv
  · cases hv

/-- What was reckoned is put into the entry that was found. -/
def entryStoreA (h : Heap) (x stamp v : Value) : Option Heap :=
  match x, stamp with
  | .map (some r), .int .i64 s => match h[r]? with
    | some (.map es ck) => if 0 ≤ s ∧ s ≤ 9223372036854775807 then match es.findIdx? (fun e => (e.born : Int) == s) with
      | some i => some (h.setIfInBounds r (.map (es.modify i fun e => { e with val := v }) ck))
      | none => none
      else none
    | _ => none
  | _, _ => none

theorem entryStoreA_sim (k : Rel P R (hget h) w) {t : TypeId} {x x' stamp stamp' v v' : Value} (hx : VR R x x') (hs : VR R stamp stamp') (hvv : VR R v v') (hv : entryStoreA h x stamp v = some h') :
    ∃ w', (Instr.entryStore t x' stamp' v').run P w = .ok () w' ∧ Sim P R h w R h' w' := by
  unfold entryStoreA at hv
  split at hv
  · rename_i r s
    rw [VR_map] at hx
    obtain ⟨r', rfl, hr⟩ := hx
    rw [VR_int] at hs
    subst hs
    split at hv
    · rename_i es ck ho
      obtain ⟨hm, es', h1, h2, h3, h4⟩ := k.mapObj hr ho
      have hg : (getObj r').run P w = .ok (.map es' ck) w := by simp [getObj, Sem.run, h1]
      have hset : ∀ o, (setObj r' o).run P w = .ok () { w with heap := w.heap.setIfInBounds r' o } := fun o => by simp [setObj, Sem.run, h1]
      split at hv
      · rename_i hsb
        split at hv
        · rename_i i hf
          cases hv
          have hf' : es'.findIdx? (fun e => (e.born : Int) == s) = some i := by
            rw [Array.findIdx?_eq_some_iff_getElem] at hf ⊢
            obtain ⟨hi, g1, g2⟩ := hf
            have hb : ∀ j (hj : j < es.size) (hj' : j < es'.size), es'[j].born = es[j].born := fun j hj hj' => (h3 j _ _ (Array.getElem?_eq_getElem hj) (Array.getElem?_eq_getElem hj')).born
            refine ⟨by omega, ?_, fun j hj => ?_⟩
            · rw [hb i hi]; exact g1
            · rw [hb j (by omega)]; exact g2 j hj
          refine ⟨_, ?_, Sim.putMap k hm (es' := es'.modify i fun e => { e with val := v' }) h1 (by simp [h2]) ?_ h4⟩
          · simp [Instr.entryStore, hg, asInt, asIntOf, hf', hset]
          · intro j a b ha hb
            rw [Array.getElem?_modify] at ha hb
            split at ha
            · rename_i e
              subst e
              rw [if_pos rfl] at hb
              simp only [Option.map_eq_some_iff] at ha hb
              obtain ⟨a0, ha0, rfl⟩ := ha
              obtain ⟨b0, hb0, rfl⟩ := hb
              exact ⟨(h3 _ _ _ ha0 hb0).key, hvv, (h3 _ _ _ ha0 hb0).born⟩
            · rename_i e
              rw [if_neg e] at hb
              exact h3 _ _ _ ha hb
        · cases hv
      · cases hv
    · cases hv
  · cases hv

def deleteA (P : Program) (h : Heap) (t : TypeId) (x key : Value) : Option Heap :=
  match P.underlying t with
  | some (.map kt _) =>
    if keyOk P 8 kt key = true ∧ flatV key = true then
      match x with
      | .map none => some h
      | .map (some r) => match h[r]? with
        | some (.map es ck) => match findA P kt key es with
          | some (some (i, _)) => some (h.setIfInBounds r (.map (es.eraseIdxIfInBounds i) ck))
          | some none => some (h.setIfInBounds r (.map es ck))
          | none => none
        | _ => none
      | _ => none
    else none
  | _ => none

theorem deleteA_sim (k : Rel P R (hget h) w) {t ty : TypeId} {ts : Array TypeId} {args' : Array Value} {x x' key key' : Value} (ht : ts[0]? = some t) (h0 : args'[0]? = some x') (h1' : args'[1]? = some key')
    (hx : VR R x x') (hk : VR R key key') (hv : deleteA P h t x key = some h') :
    ∃ w', (Builtin.delete_ ts ty args').run P w = .ok (.tuple #[]) w' ∧ Sim P R h w R h' w' := by
  unfold deleteA at hv
  split at hv
  · rename_i kt et hu
    split at hv
    · rename_i hkp
      have hke := flatV_eq hkp.2 hk
      subst hke
      have hck : ∀ b, (Instr.checkKey b 10000 kt key').run P w = .ok () w := fun b => checkKey_run 8 10000 b kt key' (by omega) hkp.1
      split at hv
      · cases hv
        rw [VR_nilmap] at hx; subst hx
        exact ⟨w, by simp [Builtin.delete_, ht, h0, h1', run_underlying hu, hck], .refl k⟩
      · rename_i r
        rw [VR_map] at hx
        obtain ⟨r', rfl, hr⟩ := hx
        split at hv
        · rename_i es ck ho
          obtain ⟨hm, es', h1, h2, h3, h4⟩ := k.mapObj hr ho
          have hg : (getObj r').run P w = .ok (.map es' ck) w := by simp [getObj, Sem.run, h1]
          have hset : ∀ o, (setObj r' o).run P w = .ok () { w with heap := w.heap.setIfInBounds r' o } := fun o => by simp [setObj, Sem.run, h1]
          split at hv
          · rename_i i u hf
            cases hv
            obtain ⟨v1, e', q1, q2, q3, q4⟩ := (findA_sim (w := w) hkp.2 h2 h3 hf).2 i u rfl
            refine ⟨_, ?_, Sim.putMap k hm (es' := es'.eraseIdxIfInBounds i) h1 ?_ ?_ h4⟩
            · simp only [Builtin.delete_, ht, h0, h1', Sem.run_bind, run_underlying hu, Result.andThen_ok, hg, hck, q1, hset, Sem.run_pure]
            · rw [← Array.length_toList, ← Array.length_toList, Array.toList_eraseIdxIfInBounds, Array.toList_eraseIdxIfInBounds, List.length_eraseIdx, List.length_eraseIdx]
              simp [h2]
            · intro j a b ha hb
              rw [← Array.getElem?_toList, Array.toList_eraseIdxIfInBounds, List.getElem?_eraseIdx] at ha hb
              split at ha
              · rename_i e; rw [if_pos e] at hb; exact h3 _ _ _ (by simpa using ha) (by simpa using hb)
              · rename_i e; rw [if_neg e] at hb; exact h3 _ _ _ (by simpa using ha) (by simpa using hb)
          · rename_i hf
            cases hv
            have q1 := (findA_sim (w := w) hkp.2 h2 h3 hf).1 rfl
            refine ⟨_, ?_, Sim.putMap k hm (es' := es') h1 h2 h3 h4⟩
            simp only [Builtin.delete_, ht, h0, h1', Sem.run_bind, run_underlying hu, Result.andThen_ok, hg, hck, q1, hset, Sem.run_pure]
          · cases hv
        · cases hv
      · cases hv
    · cases hv
  · cases hv

/-- A loop over the runes of a text begins, and goes on. -/
def rangeA (P : Program) (h : Heap) (t : TypeId) (x : Value) : Option (Value × Heap) :=
  match P.underlying t, x with
  | some .string, .string s => some (.pointer (some ⟨h.size, 0, none⟩), h.push (.stringIter s 0))
  | _, _ => none
def nextA (h : Heap) (it : Value) (isString : Bool) : Option (Value × Heap) :=
  match it, isString with
  | .pointer (some ⟨r, 0, none⟩), true => match h[r]? with
    | some (.stringIter s pos) =>
      if pos < s.size then some (.tuple #[.bool true, goInt pos, .int .i32 (Utf8.decode s pos).1], h.setIfInBounds r (.stringIter s (pos + (Utf8.decode s pos).2)))
      else some (.tuple #[.bool false], h)
    | _ => none
  | _, _ => none

theorem rangeA_sim (k : Rel P R (hget h) w) {t : TypeId} {x x' v : Value} (hx : VR R x x') (hv : rangeA P h t x = some (v, h')) : StepSim P R h w (Instr.range t x') v h' := by
  unfold rangeA at hv
  split at hv
  · rename_i s hu
    cases hv
    rw [VR_string] at hx
    subst hx
    have hs := Sim.alloc k (o := .stringIter s 0) (o' := .stringIter s 0) (sl := none) ⟨by simp [isSlack], fun z r e => by cases e⟩ rfl
    refine ⟨_, _, .pointer (some ⟨w.heap.size, 0, none⟩), ?_, by rw [VR_ptr]; exact ⟨_, rfl, rfl, rfl, .inr ⟨by simp [Ren.bind], rfl⟩⟩, hs⟩
    simp [Instr.range, run_underlying hu, run_newObj_alloc]
  · cases hv

theorem nextA_sim (k : Rel P R (hget h) w) {ty : TypeId} {x x' v : Value} {b : Bool} (hx : VR R x x') (hv : nextA h x b = some (v, h')) : StepSim P R h w (Instr.next x' b ty) v h' := by
  unfold nextA at hv
  split at hv
  · rename_i r
    rw [VR_ptr] at hx
    obtain ⟨⟨r', o2, sp⟩, rfl, _, hsp, hq⟩ := hx
    simp only at hsp
    subst hsp
    split at hv
    · rename_i s pos ho
      have key : R.map r = some r' ∧ o2 = 0 ∧ w.heap[r']? = some (.stringIter s pos) ∧ R.slack r = none := by
        rcases hq with hd | ⟨hm, ho2⟩
        · have := (k.dead r hd).2
          simp only [hget, ho, deadRow] at this
          cases this
        · obtain ⟨p, p', h1, h2, h3, h4, _⟩ := k.obj r r' hm
          simp only [hget, ho] at h1
          cases h1
          simp only [ObjR] at h3
          subst h3
          refine ⟨hm, ho2, h2, ?_⟩
          cases hs : R.slack r with
          | none => rfl
          | some q => rw [hs] at h4; simp [isSlack] at h4
      obtain ⟨hm, rfl, hw, hsl⟩ := key
      have hg : (getObj r').run P w = .ok (.stringIter s pos) w := by simp [getObj, Sem.run, hw]
      have hset : ∀ o, (setObj r' o).run P w = .ok () { w with heap := w.heap.setIfInBounds r' o } := fun o => by simp [setObj, Sem.run, hw]
      split at hv
      · rename_i hlt
        cases hv
        have hl := (Array.getElem?_eq_some_iff.1 hw).1
        refine ⟨R, { w with heap := w.heap.setIfInBounds r' (.stringIter s (pos + (Utf8.decode s pos).2)) }, .tuple #[.bool true, goInt pos, .int .i32 (Utf8.decode s pos).1], ?_, ?_, Sim.put k hm (o' := .stringIter s (pos + (Utf8.decode s pos).2)) rfl ⟨by rw [hsl]; simp [isSlack], fun z r q => by rw [hsl] at q; cases q⟩ (by simp [hl]) ?_ (by simp) rfl rfl rfl (fun _ => by rw [hw]; trivial)⟩
        · simp [Instr.next, hg, hlt, hset]
        · rw [VR_tuple]; exact ⟨_, rfl, (((ArrR.empty _).push (by simp)).push (by simp [goInt])).push (by simp)⟩
        · intro x hx
          simp only [Array.getElem?_setIfInBounds]
          rw [if_neg (by omega)]
      · rename_i hlt
        cases hv
        exact StepSim.pure k (v' := .tuple #[.bool false]) (by simp [Instr.next, hg, hlt]) (by rw [VR_tuple]; exact ⟨_, rfl, (ArrR.empty _).push (by simp)⟩)
    · cases hv
  · cases hv

theorem makeMap_sim (k : Rel P R (hget h) w) (t : TypeId) : StepSim P R h w (Instr.makeMap t none) (.map (some h.size)) (h.push (.map #[] 0)) := by
  have hs := Sim.alloc k (o := .map #[] 0) (o' := .map #[] 0) (sl := none) ⟨by simp [isSlack], fun z r e => by cases e⟩ ⟨#[], rfl, rfl, by simp⟩
  refine ⟨_, _, .map (some w.heap.size), ?_, by rw [VR_map]; exact ⟨_, rfl, .inr (by simp [Ren.bind])⟩, hs⟩
  simp [Instr.makeMap, run_newObj_alloc]

def makeSliceA (P : Program) (h : Heap) (t : TypeId) (l c : Value) : Option (Value × Heap) :=
  match P.underlying t, l, c with
  | some (.slice e), .int _ l, .int _ c =>
    match P.info? e, zeroA P e with
    | some i, some z =>
      if 0 ≤ l ∧ l ≤ c ∧ c ≤ 9223372036854775807 ∧ (i.bytes : Int) * c ≤ 281474976710656 ∧ z.cells.size = i.size ∧ i.size ≠ 0 then
        some (.slice (some ⟨h.size, 0, none⟩) l.toNat c.toNat, h.push (.cells ((Array.range (c.toNat * i.size)).map (z.cells[· % z.cells.size]!)) e (0, 0)))
      else none
    | _, _ => none
  | _, _, _ => none

theorem wrap_id {n : Int} (h0 : 0 ≤ n) (h1 : n ≤ 9223372036854775807) : IntKind.i64.wrap n = n := by
  rw [IntKind.wrap_i64]; omega

theorem makeSliceA_sim (k : Rel P R (hget h) w) {t : TypeId} {l l' c c' v : Value} (hl : VR R l l') (hc : VR R c c') (hv : makeSliceA P h t l c = some (v, h')) : StepSim P R h w (Instr.makeSlice t l' c') v h' := by
  unfold makeSliceA at hv
  split at hv
  · rename_i e k1 l k2 c hu
    rw [VR_int] at hl hc
    subst hl hc
    split at hv
    · rename_i i z hi hz
      split at hv
      · rename_i hb
        obtain ⟨b1, b2, b3, b4, b5, b6⟩ := hb
        cases hv
        obtain ⟨g1, g2, _⟩ := zeroA_run (P := P) (R := R) (w := w) hz
        obtain ⟨R', w', q1, q2, q3, q4⟩ := newRow_sim (P := P) k (zrow_rel g2.cells (c.toNat * i.size) (fun _ => by omega)) e
        refine ⟨R', w', .slice (some ⟨w.heap.size, 0, none⟩) l.toNat c.toNat, ?_, ?_, q4⟩
        · have w1 := wrap_id (n := l) (by omega) (by omega)
          have w2 := wrap_id (n := c) (by omega) (by omega)
          have c1 : ¬ (c < 0) := by omega
          have c2 : ¬ (281474976710656 < (i.bytes : Int) * c) := by omega
          have c3 : ¬ (l < 0) := by omega
          have c4 : ¬ (c < l) := by omega
          by_cases h0 : c.toNat * i.size = 0
          · have h00 : c.toNat = 0 := by
              rcases Nat.mul_eq_zero.1 h0 with q | q
              · exact q
              · exact absurd q b6
            have hc0 : c = 0 := by omega
            subst hc0
            have hl0 : l = 0 := by omega
            subst hl0
            have e0 : Array.range 0 = #[] := rfl
            simp [e0] at q1
            simp [Instr.makeSlice, run_underlying hu, asInt, asIntOf, sizeOf, typeInfo, hi, w1, q1, e0]
          · have h00 : ¬ (c.toNat = 0) := fun q => h0 (by rw [q]; simp)
            have h01 : ¬ (c ≤ 0) := by omega
            simp [Instr.makeSlice, run_underlying hu, asInt, asIntOf, sizeOf, typeInfo, hi, w1, w2, c1, c2, c3, c4, g1, q1, h01, b6]
            intro q; exact absurd q h0
        · rw [VR_slice]
          exact ⟨_, _, rfl, .inl ⟨⟨rfl, rfl, by rcases q2.2.2 with q | q; exact .inl q; exact .inr ⟨q.1, .inl q.2⟩⟩, .inl rfl⟩⟩
      · cases hv
    · cases hv
  · cases hv

/-- The numbers of bytes. -/
def byteNums : List Value → Option (List Int)
  | [] => some []
  | .int .u8 n :: r => (byteNums r).map (n :: ·)
  | _ :: _ => none

theorem byteNums_rel : ∀ (l l' : List Value) (ns : List Int), ArrR (VR R) l.toArray l'.toArray → byteNums l = some ns → l' = ns.map (Value.int .u8)
  | [], l', ns, hr, hb => by
    simp [byteNums] at hb; subst hb
    have := hr.1; simp at this; simpa using this
  | v :: l, [], ns, hr, hb => by have := hr.1; simp at this
  | v :: l, v' :: l', ns, hr, hb => by
    have h0 : VR R v v' := hr.2 0 v v' (by simp) (by simp)
    unfold byteNums at hb
    split at hb
    · rename_i heq; cases heq
    · rename_i n r heq
      cases heq
      simp only [Option.map_eq_some_iff] at hb
      obtain ⟨ms, hm, rfl⟩ := hb
      rw [VR_int] at h0; subst h0
      have ih := byteNums_rel l l' ms ⟨by have := hr.1; simpa using this, fun i u u' hu hu' => hr.2 (i + 1) u u' (by simpa using hu) (by simpa using hu')⟩ hm
      simp [ih]
    · cases hb

def bytesStrA (P : Program) (h : Heap) (src dst : TypeId) (x : Value) : Option Value :=
  match P.underlying src, P.underlying dst, x with
  | some (.slice e), some .string, .slice (some a) n _ =>
    match P.underlying e with
    | some (.int .u8) => ((loadN h a n).bind fun cs => byteNums cs.toList).map fun ns => .string (ns.foldl (fun r n => r.push (UInt8.ofNat n.toNat)) ByteArray.empty)
    | _ => none
  | some (.slice e), some .string, .slice none _ _ =>
    match P.underlying e with
    | some (.int .u8) => some (.string .empty)
    | _ => none
  | _, _, _ => none

theorem bytesStrA_sim (k : Rel P R (hget h) w) {src dst : TypeId} {x x' v : Value} (hx : VR R x x') (hv : bytesStrA P h src dst x = some v) : (convert src dst x').run P w = .ok v w ∧ VR R v v := by
  unfold bytesStrA at hv
  split at hv
  · rename_i e a n c hs hd
    rw [VR_slice] at hx
    obtain ⟨a', c', rfl, hq⟩ := hx
    split at hv
    · rename_i he
      have hconv : (convert src dst (.slice (some a') n c')).run P w = (Conv.bytesToString (.slice (some a') n c')).run P w := by
        simp [convert, run_underlying hs, run_underlying hd, run_underlying he]
      rw [hconv]
      simp only [Option.map_eq_some_iff, Option.bind_eq_some_iff] at hv
      obtain ⟨ns, ⟨cs, hcs, hb⟩, rfl⟩ := hv
      by_cases h0 : n = 0
      · subst h0
        obtain ⟨c0, e0, f0, _, _, q3, q4⟩ := loadN_inv hcs
        have : cs = #[] := by subst q4; simp; omega
        subst this
        simp only [byteNums, Option.some.injEq] at hb
        subst hb
        exact ⟨run_bytesToString w a' 0 c' [] (by simp [loadCells, loadCellsFrom]), by simp⟩
      · obtain ⟨cs', g1, g2, g3⟩ := loadN_sim (P := P) k ((hq.resolve_right fun g => h0 g.2.1).1.ar (by omega)) hcs
        have := byteNums_rel cs.toList cs'.toList ns (by simpa using g2) hb
        refine ⟨run_bytesToString w a' n c' ns ?_, by simp⟩
        rw [g1 w rfl, ← this]
    · cases hv
  · rename_i e n c hs hd
    rw [VR_nilslice] at hx; subst hx
    split at hv
    · rename_i he
      cases hv
      exact ⟨by simp [convert, run_underlying hs, run_underlying hd, run_underlying he, Conv.bytesToString], by simp⟩
    · cases hv
  · cases hv

theorem max2_sim {x x' y y' v : Value} (hx : VR R x x') (hy : VR R y y') (hv : max2A x y = some v) : (Builtin.max2 x' y').run P w = .ok v w ∧ VR R v v := by
  unfold max2A at hv
  split at hv
  · cases hv; rw [VR_int] at hx hy; subst hx hy; exact ⟨by simp [Builtin.max2], by simp⟩
  · cases hv; rw [VR_string] at hx hy; subst hx hy
    exact ⟨by simp [Builtin.max2, Op.stringOp, asBool], by simp⟩
  · cases hv
theorem min2_sim {x x' y y' v : Value} (hx : VR R x x') (hy : VR R y y') (hv : min2A x y = some v) : (Builtin.min2 x' y').run P w = .ok v w ∧ VR R v v := by
  unfold min2A at hv
  split at hv
  · cases hv; rw [VR_int] at hx hy; subst hx hy; exact ⟨by simp [Builtin.min2], by simp⟩
  · cases hv; rw [VR_string] at hx hy; subst hx hy
    exact ⟨by simp [Builtin.min2, Op.stringOp, asBool], by simp⟩
  · cases hv

theorem foldM_sim {f : Value → Value → Option Value} {g : Value → Value → Sem Value} (hfg : ∀ x x' y y' v, VR R x x' → VR R y y' → f x y = some v → (g x' y').run P w = .ok v w ∧ VR R v v) :
    ∀ (l l' : List Value) (x x' v : Value), VR R x x' → ArrR (VR R) l.toArray l'.toArray → l.foldlM f x = some v → ∃ v', (l'.foldlM g x').run P w = .ok v' w ∧ VR R v v'
  | [], l', x, x', v, hx, hl, hf => by
    have := hl.1; simp at this; subst this
    simp at hf; subst hf
    exact ⟨x', by simp, hx⟩
  | y :: l, [], x, x', v, hx, hl, hf => by have := hl.1; simp at this
  | y :: l, y' :: l', x, x', v, hx, hl, hf => by
    have h0 : VR R y y' := hl.2 0 y y' (by simp) (by simp)
    simp only [List.foldlM_cons, Option.bind_eq_bind, Option.bind_eq_some_iff] at hf
    obtain ⟨u, hu, hf⟩ := hf
    obtain ⟨g1, g2⟩ := hfg x x' y y' u hx h0 hu
    obtain ⟨v', q1, q2⟩ := foldM_sim hfg l l' u u v g2 ⟨by have := hl.1; simpa using this, fun i a a' ha ha' => hl.2 (i + 1) a a' (by simpa using ha) (by simpa using ha')⟩ hf
    exact ⟨v', by simp [g1, q1], q2⟩

theorem ArrR.toList {a a' : Array Value} (hr : ArrR (VR R) a a') : ArrR (VR R) a.toList.toArray a'.toList.toArray := by simpa using hr

theorem maxA_sim {ts : Array TypeId} {ty : TypeId} {args args' : Array Value} {v : Value} (hr : ArrR (VR R) args args') (hv : maxA args.toList = some v) : ∃ v', (Builtin.max_ ts ty args').run P w = .ok v' w ∧ VR R v v' := by
  obtain ⟨l⟩ := args
  obtain ⟨l'⟩ := args'
  unfold maxA at hv
  unfold Builtin.max_
  cases l with
  | nil => simp at hv
  | cons x l =>
    cases l' with
    | nil => have := hr.1; simp at this
    | cons x' l' =>
      exact foldM_sim (fun x x' y y' v hx hy hf => max2_sim hx hy hf) l l' x x' v (hr.2 0 x x' (by simp) (by simp))
        ⟨by have := hr.1; simpa using this, fun i a a' ha ha' => hr.2 (i + 1) a a' (by simpa using ha) (by simpa using ha')⟩ hv
theorem minA_sim {ts : Array TypeId} {ty : TypeId} {args args' : Array Value} {v : Value} (hr : ArrR (VR R) args args') (hv : minA args.toList = some v) : ∃ v', (Builtin.min_ ts ty args').run P w = .ok v' w ∧ VR R v v' := by
  obtain ⟨l⟩ := args
  obtain ⟨l'⟩ := args'
  unfold minA at hv
  unfold Builtin.min_
  cases l with
  | nil => simp at hv
  | cons x l =>
    cases l' with
    | nil => have := hr.1; simp at this
    | cons x' l' =>
      exact foldM_sim (fun x x' y y' v hx hy hf => min2_sim hx hy hf) l l' x x' v (hr.2 0 x x' (by simp) (by simp))
        ⟨by have := hr.1; simpa using this, fun i a a' ha ha' => hr.2 (i + 1) a a' (by simpa using ha) (by simpa using ha')⟩ hv
end
end Go.AM
