/- An abstract machine for Go, part 6: operations on memory, on both sides. -/
import Derived.Test.YtjkcadbblgefdaaGreatDoorAme
namespace Go.AM

section
variable {P : Program} {R : Ren} {h h' : Heap} {w : World}

/-- What a step of the machine does, on both sides. -/
def StepSim (P : Program) (R : Ren) (h : Heap) (w : World) (s : Sem Value) (v : Value) (h' : Heap) : Prop :=
  ∃ R' w' v', s.run P w = .ok v' w' ∧ VR R' v v' ∧ Sim P R h w R' h' w'

theorem StepSim.pure (k : Rel P R (hget h) w) {s : Sem Value} {v v' : Value} (hr : s.run P w = .ok v' w) (hv : VR R v v') : StepSim P R h w s v h :=
  ⟨R, w, v', hr, hv, .refl k⟩

/-! ### loads and stores -/
def loadT (P : Program) (h : Heap) (t : TypeId) (p : Value) : Option Value :=
  match p with
  | .pointer (some a) => match isAggA P t with
    | some true => match P.info? t with
      | some i => (loadN h a i.size).map .agg
      | none => none
    | some false => (loadN h a 1).bind fun c => c[0]?
    | none => none
  | _ => none

theorem load1_sim (k : Rel P R (hget h) w) {a a' : Addr} (ha : AR R a a') {c : Array Value} {v : Value} (hl : loadN h a 1 = some c) (hv : c[0]? = some v) :
    ∃ v', (load a').run P w = .ok v' w ∧ VR R v v' := by
  obtain ⟨cs', h1, h2, h3⟩ := loadN_sim (P := P) k ha hl
  replace h1 := h1 w rfl
  obtain ⟨v', g1, g2⟩ := h2.get hv
  refine ⟨v', ?_, g2⟩
  have e : (loadCells a' 1) = (do let v ← load (a'.add 0); pure #[v]) := by simp [loadCells, loadCellsFrom]
  rw [e] at h1
  have e0 : a'.add 0 = a' := by simp [Addr.add]
  rw [e0, Sem.run_bind] at h1
  cases hr : (load a').run P w with
  | ok u w1 =>
    rw [hr] at h1
    simp only [Result.andThen_ok, Sem.run_pure] at h1
    cases h1
    simp at g1
    rw [g1]
  | halt x w1 => rw [hr] at h1; cases h1

theorem loadT_val (k : Rel P R (hget h) w) {t : TypeId} {p p' v : Value} (hp : VR R p p') (hl : loadT P h t p = some v) :
    ∃ v' a', p' = .pointer (some a') ∧ (loadVar t a').run P w = .ok v' w ∧ VR R v v' := by
  unfold loadT at hl
  split at hl
  · rename_i a
    rw [VR_ptr] at hp
    obtain ⟨a', rfl, ha⟩ := hp
    split at hl
    · rename_i hg
      split at hl
      · rename_i i hi
        simp only [Option.map_eq_some_iff] at hl
        obtain ⟨cs, hcs, rfl⟩ := hl
        obtain ⟨cs', h1, h2, h3⟩ := loadN_sim (P := P) k ha hcs
        replace h1 := h1 w rfl
        refine ⟨.agg cs', a', rfl, ?_, by rw [VR_agg]; exact ⟨_, rfl, h2⟩⟩
        simp [loadVar, isAggA_run hg, sizeOf, typeInfo, hi, h1]
      · cases hl
    · rename_i hg
      simp only [Option.bind_eq_some_iff] at hl
      obtain ⟨c, hc, hv⟩ := hl
      obtain ⟨v', h1, h2⟩ := load1_sim (P := P) k ha hc hv
      refine ⟨v', a', rfl, ?_, h2⟩
      simp only [loadVar, Sem.run_bind, Sem.run_pure, Result.andThen_ok, isAggA_run hg, Bool.false_eq_true, if_false, h1]
    · cases hl
  · cases hl

theorem loadT_sim (k : Rel P R (hget h) w) {t : TypeId} {p p' v : Value} (hp : VR R p p') (hl : loadT P h t p = some v) : StepSim P R h w (Instr.loadAt t p') v h := by
  obtain ⟨v', a', rfl, h1, h2⟩ := loadT_val k hp hl
  exact .pure k (by simp [Instr.loadAt, Instr.sureAddr, h1]) h2

def storeT (P : Program) (h : Heap) (t : TypeId) (p v : Value) : Option Heap :=
  match p with
  | .pointer (some a) => match P.info? t with
    | some i => if v.cells.size = i.size then storeN h a v.cells.toList else none
    | none => none
  | _ => none

theorem storeT_sim (k : Rel P R (hget h) w) {t : TypeId} {p p' v v' : Value} (hp : VR R p p') (hv : VR R v v') (hst : storeT P h t p v = some h') :
    ∃ w', (Instr.storeAt t p' v').run P w = .ok () w' ∧ Sim P R h w R h' w' := by
  unfold storeT at hst
  split at hst
  · rename_i a
    rw [VR_ptr] at hp
    obtain ⟨a', rfl, ha⟩ := hp
    split at hst
    · rename_i i hi
      split at hst
      · rename_i hsz
        have hc := hv.cells
        obtain ⟨w', h1, h2⟩ := storeN_sim (P := P) k ha (vs' := v'.cells.toList) (by simpa using hc) hst
        refine ⟨w', ?_, h2⟩
        have : v'.cells.size = i.size := by rw [hc.1, hsz]
        simp [Instr.storeAt, Instr.sureAddr, storeVar, sizeOf, typeInfo, hi, this, h1]
      · cases hst
    · cases hst
  · cases hst

/-! ### new blocks -/
theorem ObjR_cells {cs cs' : Array Value} (hc : ArrR (VR R) cs cs') (t t' : TypeId) (fr : Nat × Nat) : ObjR R (.cells cs t fr) (.cells cs' t' fr) :=
  ⟨cs', t', fr, rfl, by rw [hc.1]; exact Nat.le_refl _, fun i v hv => let ⟨v', h1, h2⟩ := hc.get hv; ⟨v', h1, h2⟩, fun _ _ => rfl⟩

theorem newRow_sim (k : Rel P R (hget h) w) {cs cs' : Array Value} (hc : ArrR (VR R) cs cs') (t : TypeId) :
    ∃ R' w', (newRow t cs').run P w = .ok ⟨w.heap.size, 0, none⟩ w' ∧ AR R' ⟨h.size, 0, none⟩ ⟨w.heap.size, 0, none⟩ ∧ R'.slack h.size = none ∧ Sim P R h w R' (h.push (.cells cs t (0, 0))) w' := by
  have hle := Ren.le_bind k w.heap.size none
  have hs := Sim.alloc k (o := .cells cs t (0, 0)) (o' := .cells cs' t (0, 0)) (sl := none) ⟨by simp [isSlack], fun z r e => by cases e⟩ (ObjR_cells (hc.monoR hle) t t (0, 0))
  refine ⟨_, _, ?_, ⟨rfl, rfl, .inr ⟨by simp [Ren.bind], rfl⟩⟩, by simp [Ren.bind], hs⟩
  simp [newRow, run_newObj_alloc]

theorem alloc_sim (k : Rel P R (hget h) w) {t : TypeId} {z : Value} (hz : zeroA P t = some z) (old : Value) :
    StepSim P R h w (Instr.alloc t true old) (.pointer (some ⟨h.size, 0, none⟩)) (h.push (.cells z.cells t (0, 0))) := by
  obtain ⟨h1, h2, _⟩ := zeroA_run (P := P) (R := R) (w := w) hz
  obtain ⟨R', w', g1, g2, g3, g4⟩ := newRow_sim (P := P) k h2.cells t
  refine ⟨R', w', .pointer (some ⟨w.heap.size, 0, none⟩), ?_, by rw [VR_ptr]; exact ⟨_, rfl, g2⟩, g4⟩
  simp [Instr.alloc, h1, newVar, g1]

theorem box_sim (k : Rel P R (hget h) w) {t : TypeId} {v v' : Value} (hv : VR R v v') :
    StepSim P R h w (Instr.box t v') (.pointer (some ⟨h.size, 0, none⟩)) (h.push (.cells v.cells t (0, 0))) := by
  obtain ⟨R', w', g1, g2, g3, g4⟩ := newRow_sim (P := P) k hv.cells t
  refine ⟨R', w', .pointer (some ⟨w.heap.size, 0, none⟩), ?_, by rw [VR_ptr]; exact ⟨_, rfl, g2⟩, g4⟩
  simp [Instr.box, newVar, g1]

theorem splice_rel : ∀ (l l' : List Value) (c c' : Array Value) (o : Nat), ArrR (VR R) c c' → ArrR (VR R) l.toArray l'.toArray → ArrR (VR R) (splice c o l) (splice c' o l')
  | [], [], c, c', o, hc, _ => hc
  | [], _ :: _, _, _, _, _, hl => by have := hl.1; simp at this
  | _ :: _, [], _, _, _, _, hl => by have := hl.1; simp at this
  | v :: l, v' :: l', c, c', o, hc, hl => by
    have h0 : VR R v v' := hl.2 0 v v' (by simp) (by simp)
    refine splice_rel l l' _ _ (o + 1) (hc.set o h0) ⟨by have := hl.1; simpa using this, fun i u u' hu hu' => ?_⟩
    exact hl.2 (i + 1) u u' (by simpa using hu) (by simpa using hu')

theorem foldl_splice : ∀ (l : List Value) (k o : Nat) (c : Array Value), (l.zipIdx k).foldl (fun cs p => cs.setIfInBounds (o + p.2) p.1) c = splice c (o + k) l
  | [], k, o, c => rfl
  | v :: l, k, o, c => by
    simp only [List.zipIdx_cons, List.foldl_cons, splice]
    rw [foldl_splice l (k + 1) o, Nat.add_assoc]

theorem fill_rel {place : Nat → Option (Nat × Nat)} {ev ev' : Operand → Value} : ∀ (ps : List (Nat × Operand)) (c c' r : Array Value), (∀ p ∈ ps, VR R (ev p.2) (ev' p.2)) → ArrR (VR R) c c' →
    Instr.fill place c (ps.map fun p => (p.1, ev p.2)) = some r → ∃ r', Instr.fill place c' (ps.map fun p => (p.1, ev' p.2)) = some r' ∧ ArrR (VR R) r r'
  | [], c, c', r, _, hc, hf => by simp [Instr.fill] at hf; subst hf; exact ⟨c', by simp [Instr.fill], hc⟩
  | p :: ps, c, c', r, hp, hc, hf => by
    have hv := (hp p (by simp)).cells
    simp only [List.map_cons, Instr.fill] at hf ⊢
    split at hf
    · cases hf
    · rename_i off size hpl
      split at hf
      · cases hf
      · rename_i hcond
        rw [if_neg (by rw [hv.1, hc.1]; exact hcond)]
        refine fill_rel ps _ _ r (fun q hq => hp q (by simp [hq])) ?_ hf
        have e : ∀ (a c : Array Value), a.zipIdx.foldl (fun cs (x : Value × Nat) => match x with | (c, j) => cs.setIfInBounds (off + j) c) c = splice c off a.toList := by
          intro a c
          have := foldl_splice a.toList 0 off c
          rw [Nat.add_zero] at this
          rw [← this, ← Array.foldl_toList]
          simp [Array.toList_zipIdx]
        rw [e, e]
        exact splice_rel _ _ _ _ _ hc (by simpa using hv)

theorem built_rel {t : TypeId} {z : Value} (hz : zeroA P t = some z) {ev ev' : Operand → Value} {ps : Array (Nat × Operand)} (hp : ∀ p ∈ ps, VR R (ev p.2) (ev' p.2)) {cs : Array Value}
    (hb : P.built t (ps.map fun (i, x) => (i, ev x)).toList = some cs) : ∃ cs', P.built t (ps.map fun (i, x) => (i, ev' x)).toList = some cs' ∧ ArrR (VR R) cs cs' := by
  obtain ⟨_, hzr, i, hi, hiz⟩ := zeroA_run (P := P) (R := R) (w := default) hz
  have key := fun (place : Nat → Option (Nat × Nat)) (r : Array Value) => fill_rel (R := R) (place := place) (ev := ev) (ev' := ev') ps.toList z.cells z.cells r (fun p hq => hp p (by simpa using hq)) hzr.cells
  simp only [Array.toList_map] at hb ⊢
  unfold Program.built at hb ⊢
  cases hu : P.underlying t with
  | none => simp [hi, hu] at hb
  | some d =>
    cases d <;> try (simp [hi, hu] at hb; done)
    case array n e =>
      cases hie : P.info? e with
      | none => simp [hi, hu, hiz, hie] at hb
      | some ie =>
        simp only [hi, hu, hiz, hie] at hb ⊢
        exact key _ _ hb
    case struct fields =>
      cases hpl : fields.toList.mapM (fun f => (P.info? f.type).map fun i => (f.offset, i.size)) with
      | none => simp [hi, hu, hiz, hpl] at hb
      | some places =>
        simp only [hi, hu, hiz, hpl] at hb ⊢
        exact key _ _ hb

theorem build_sim (k : Rel P R (hget h) w) {t : TypeId} {z : Value} (hz : zeroA P t = some z) {ev ev' : Operand → Value} {ps : Array (Nat × Operand)} (hp : ∀ p ∈ ps, VR R (ev p.2) (ev' p.2)) {cs : Array Value}
    (hb : P.built t (ps.map fun (i, x) => (i, ev x)).toList = some cs) : StepSim P R h w (Instr.build t (ps.map fun (i, x) => (i, ev' x))) (.agg cs) h := by
  obtain ⟨cs', h1, h2⟩ := built_rel hz hp hb
  exact .pure k (run_build w t _ cs' h1) (by rw [VR_agg]; exact ⟨_, rfl, h2⟩)

def bslice (P : Program) (t : TypeId) (len : Nat) (ps : List (Nat × Value)) : Option (Array Value × TypeId) :=
  match P.underlying t with
  | some (.slice e) => match P.info? e with
    | some i =>
      if len * i.size > 2 ^ 24 then none else
      match (if len * i.size = 0 then some #[] else (zeroA P e).map (·.cells)) with
      | some z => (Instr.fill (fun j => some (j * i.size, i.size)) ((Array.range (len * i.size)).map (z[· % z.size]!)) ps).map fun cs => (cs, e)
      | none => none
    | none => none
  | _ => none

theorem VR_undef : VR R undef undef := by
  unfold undef; rw [VR_tuple]; exact ⟨_, rfl, ArrR.empty _⟩

theorem zrow_rel {z : Array Value} (hz : ArrR (VR R) z z) (n : Nat) (h0 : n ≠ 0 → 0 < z.size) : ArrR (VR R) ((Array.range n).map (z[· % z.size]!)) ((Array.range n).map (z[· % z.size]!)) := by
  refine ⟨rfl, fun i u u' hu hu' => ?_⟩
  rw [hu] at hu'; cases hu'
  simp only [Array.getElem?_map, Array.getElem?_range] at hu
  split at hu
  · rename_i hi
    simp only [Option.map_some, Option.some.injEq] at hu
    have hpos := h0 (by omega)
    have hlt : i % z.size < z.size := Nat.mod_lt _ hpos
    subst hu
    rw [getElem!_pos z _ hlt]
    exact hz.2 (i % z.size) _ _ (by simp [hlt]) (by simp [hlt])
  · cases hu

theorem bslice_sim (k : Rel P R (hget h) w) {t : TypeId} {len : Nat} {ev ev' : Operand → Value} {ps : Array (Nat × Operand)} (hp : ∀ p ∈ ps, VR R (ev p.2) (ev' p.2)) {cs : Array Value} {e : TypeId}
    (hz0 : ∀ z, zeroA P e = some z → 0 < z.cells.size) (hb : bslice P t len (ps.map fun (i, x) => (i, ev x)).toList = some (cs, e)) :
    StepSim P R h w (Instr.buildSlice t len (ps.map fun (i, x) => (i, ev' x))) (.slice (some ⟨h.size, 0, none⟩) len len) (h.push (.cells cs e (0, 0))) := by
  unfold bslice at hb
  split at hb
  · rename_i e0 hu
    split at hb
    · rename_i i hi
      split at hb
      · cases hb
      · rename_i hbig
        split at hb
        · rename_i z hz
          simp only [Option.map_eq_some_iff, Prod.mk.injEq] at hb
          obtain ⟨cs0, hf, rfl, rfl⟩ := hb
          have hzz : ArrR (VR R) z z ∧ (len * i.size ≠ 0 → 0 < z.size) ∧ (do (if len * i.size = 0 then pure #[] else do pure (← zeroValue e0).cells) : Sem (Array Value)).run P w = .ok z w := by
            split at hz
            · rename_i h0; cases hz; exact ⟨ArrR.empty _, fun hh => absurd h0 hh, by simp [h0]⟩
            · rename_i h0
              simp only [Option.map_eq_some_iff] at hz
              obtain ⟨z0, hz1, rfl⟩ := hz
              obtain ⟨g1, g2, _⟩ := zeroA_run (P := P) (R := R) (w := w) hz1
              exact ⟨g2.cells, fun _ => hz0 _ hz1, by simp [h0, g1]⟩
          simp only [Array.toList_map] at hf
          obtain ⟨cs', hf', hc⟩ := fill_rel (R := R) (ev := ev) (ev' := ev') ps.toList _ _ _ (fun p hq => hp p (by simpa using hq)) (zrow_rel hzz.1 (len * i.size) hzz.2.1) hf
          obtain ⟨R', w', g1, g2, g3, g4⟩ := newRow_sim (P := P) k hc e0
          refine ⟨R', w', .slice (some ⟨w.heap.size, 0, none⟩) len len, ?_, ?_, g4⟩
          · have hf'' : Instr.fill (fun i_1 => some (i_1 * i.size, i.size)) (Array.map (fun x => z[x % z.size]!) (Array.range (len * i.size))) (Array.map (fun x => match x with | (i, x) => (i, ev' x)) ps).toList = some cs' := by
              simp only [Array.toList_map]; exact hf'
            have hs : (sizeOf e0).run P w = .ok i.size w := by simp [sizeOf, typeInfo, hi]
            have hbig' : ¬ 16777216 < len * i.size := by simpa using hbig
            by_cases h0 : len * i.size = 0
            · rw [if_pos h0] at hz; cases hz
              rw [h0] at hf''
              simp at hf''
              simp [Instr.buildSlice, run_underlying hu, hs, h0, hf'', g1]
            · rw [if_neg h0] at hz
              simp only [Option.map_eq_some_iff] at hz
              obtain ⟨z0, hz1, rfl⟩ := hz
              obtain ⟨q1, _, _⟩ := zeroA_run (P := P) (R := R) (w := w) hz1
              simp at hf''
              simp [Instr.buildSlice, run_underlying hu, hs, h0, hbig', hf'', g1, q1]
          · rw [VR_slice]
            exact ⟨_, _, rfl, .inl ⟨⟨rfl, rfl, by rcases g2.2.2 with q | q; exact .inl q; exact .inr ⟨q.1, .inl q.2⟩⟩, .inl rfl⟩⟩
        · cases hb
    · cases hb
  · cases hb
end
end Go.AM
