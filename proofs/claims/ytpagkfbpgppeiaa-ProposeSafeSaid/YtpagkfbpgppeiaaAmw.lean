/- An abstract machine for Go, part 23: a call that leads to nothing old can be run by itself; what a law's form asks behind a call that turns nothing old. -/
import Derived.Test.YtpagkfbpgppeiaaAmv
import Derived.ChangeSame
import Derived.Carry
import Derived.ProofKit
import Derived.OpenShut
namespace Go.AM
open Go.RowKit

section
variable {P : Program}

/-- A call with plain arguments and a plain result, run from nothing: it may be made anywhere. -/
theorem closed_call' {f : FuncId} {args : Array Value} {v : Value} {h1 : Heap} (hs : SoundCall P f args #[] v h1) (ha : ∀ x ∈ args, flatV x = true) (hve : ∀ (R : Ren) (v' : Value), VR R v v' → v' = v) (hvr : ∀ R : Ren, VR R v v) (h : Heap) (hG : globList = [] := by rfl) : SoundCall P f args h v h := by
  intro R w args' k hargs Q hq n ro
  have hold : ∀ (i : Nat) (x x' : Value), args[i]? = some x → args'[i]? = some x' → x' = x := fun i x x' hx hx' =>
    flatV_eq (ha x (Array.mem_of_getElem? hx)) (hargs.2 i x x' hx hx')
  have hrel : Rel P ⟨fun _ => none, fun _ => none, fun _ => false, fun _ => none⟩ (hget #[]) w := ⟨fun b b' g e => (by cases e), fun b g e => (by cases e), fun b e => (by cases e), fun g hg => by rw [hG] at hg; cases hg⟩
  refine hs ⟨fun _ => none, fun _ => none, fun _ => false, fun _ => none⟩ w args' hrel ⟨hargs.1, fun i x x' hx hx' => ?_⟩ Q (fun R1 w1 v' s hv' => ?_) n ro
  · rw [hold i x x' hx hx']
    exact flatV_VR (ha x (Array.mem_of_getElem? hx))
  · have hconc : ∀ g, g < w.heap.size → w1.heap[g]? = w.heap[g]? := fun g hg => s.conc g hg fun b e => by cases e
    rw [hve _ _ hv']
    refine hq R w1 v ⟨⟨k.inj, fun b g hb => ?_, k.dead, k.glob⟩, .refl R, Nat.le_refl _, fun _ _ _ => rfl, fun _ _ e => ⟨e, rfl⟩, s.os, s.tape, s.output, s.wsz, fun g hg _ => hconc g hg, fun _ _ e => .inl e, fun g hg _ => by rw [hconc g hg]; exact sameShape.refl _⟩ (hvr _)
    obtain ⟨o, o', h1', h2, h3⟩ := k.obj b g hb
    exact ⟨o, o', h1', (hconc g (k.lt hb).2).trans h2, h3⟩
theorem closed_call {f : FuncId} {args : Array Value} {v : Value} {h1 : Heap} (hs : SoundCall P f args #[] v h1) (ha : ∀ x ∈ args, flatV x = true) (hv : flatV v = true) (h : Heap) (hG : globList = [] := by rfl) : SoundCall P f args h v h :=
  closed_call' hs ha (fun _ _ q => flatV_eq hv q) (fun _ => flatV_VR hv) h hG
/-- The same where there are program's variables that the call does not read. -/
theorem closed_dead' {f : FuncId} {args : Array Value} {v : Value} {hA h1 : Heap} (hs : SoundCall P f args hA v h1) (ha : ∀ x ∈ args, flatV x = true) (hve : ∀ (R : Ren) (v' : Value), VR R v v' → v' = v) (hvr : ∀ R : Ren, VR R v v) (h : Heap) (hG : ∀ g ∈ globList, hA[g]? = some deadRow) : SoundCall P f args h v h := by
  intro R w args' k hargs Q hq n ro
  have hold : ∀ (i : Nat) (x x' : Value), args[i]? = some x → args'[i]? = some x' → x' = x := fun i x x' hx hx' =>
    flatV_eq (ha x (Array.mem_of_getElem? hx)) (hargs.2 i x x' hx hx')
  have hrel : Rel P ⟨fun _ => none, fun _ => none, fun b => decide (b ∈ globList), fun _ => none⟩ (hget hA) w := ⟨fun b b' g e => (by cases e), fun b g e => (by cases e), fun b e => ⟨rfl, hG b (of_decide_eq_true e)⟩, fun g hg => .inl (decide_eq_true hg)⟩
  refine hs ⟨fun _ => none, fun _ => none, fun b => decide (b ∈ globList), fun _ => none⟩ w args' hrel ⟨hargs.1, fun i x x' hx hx' => ?_⟩ Q (fun R1 w1 v' s hv' => ?_) n ro
  · rw [hold i x x' hx hx']
    exact flatV_VR (ha x (Array.mem_of_getElem? hx))
  · have hconc : ∀ g, g < w.heap.size → w1.heap[g]? = w.heap[g]? := fun g hg => s.conc g hg fun b e => by cases e
    rw [hve _ _ hv']
    refine hq R w1 v ⟨⟨k.inj, fun b g hb => ?_, k.dead, k.glob⟩, .refl R, Nat.le_refl _, fun _ _ _ => rfl, fun _ _ e => ⟨e, rfl⟩, s.os, s.tape, s.output, s.wsz, fun g hg _ => hconc g hg, fun _ _ e => .inl e, fun g hg _ => by rw [hconc g hg]; exact sameShape.refl _⟩ (hvr _)
    obtain ⟨o, o', h1', h2, h3⟩ := k.obj b g hb
    exact ⟨o, o', h1', (hconc g (k.lt hb).2).trans h2, h3⟩
theorem closed_dead {f : FuncId} {args : Array Value} {v : Value} {hA h1 : Heap} (hs : SoundCall P f args hA v h1) (ha : ∀ x ∈ args, flatV x = true) (hv : flatV v = true) (h : Heap) (hG : ∀ g ∈ globList, hA[g]? = some deadRow) : SoundCall P f args h v h :=
  closed_dead' hs ha (fun _ _ q => flatV_eq hv q) (fun _ => flatV_VR hv) h hG
theorem closed_dead2 {f : FuncId} {args : Array Value} {a b : Value} {hA h1 : Heap} (hs : SoundCall P f args hA (.tuple #[a, b]) h1) (ha : ∀ x ∈ args, flatV x = true) (hva : flatV a = true) (hvb : flatV b = true) (h : Heap) (hG : ∀ g ∈ globList, hA[g]? = some deadRow) : SoundCall P f args h (.tuple #[a, b]) h := by
  refine closed_dead' hs ha (fun R v' q => ?_) (fun R => VR_tuple2 (flatV_VR hva) (flatV_VR hvb)) h hG
  rw [VR_tuple] at q
  obtain ⟨vs, rfl, h1, h2⟩ := q
  congr 1
  apply Array.ext
  · exact h1
  · intro i hi hi'
    have hi2 : i < 2 := hi'
    rcases (show i = 0 ∨ i = 1 by omega) with e | e
    · subst e; exact flatV_eq hva (h2 0 a _ rfl (by simp [hi]))
    · subst e; exact flatV_eq hvb (h2 1 b _ rfl (by simp [hi]))
/-- The same for a call with two plain results. -/
theorem closed_call2 {f : FuncId} {args : Array Value} {a b : Value} {h1 : Heap} (hs : SoundCall P f args #[] (.tuple #[a, b]) h1) (ha : ∀ x ∈ args, flatV x = true) (hva : flatV a = true) (hvb : flatV b = true) (h : Heap) (hG : globList = [] := by rfl) : SoundCall P f args h (.tuple #[a, b]) h := by
  refine closed_call' hs ha (fun R v' q => ?_) (fun R => VR_tuple2 (flatV_VR hva) (flatV_VR hvb)) h hG
  rw [VR_tuple] at q
  obtain ⟨vs, rfl, h1, h2⟩ := q
  congr 1
  apply Array.ext
  · exact h1
  · intro i hi hi'
    have hi2 : i < 2 := hi'
    rcases (show i = 0 ∨ i = 1 by omega) with e | e
    · subst e; exact flatV_eq hva (h2 0 a _ rfl (by simp [hi]))
    · subst e; exact flatV_eq hvb (h2 1 b _ rfl (by simp [hi]))
/-- The same where the program's variables are read: they lie in both memories, plain and alike. -/
theorem closed_at {f : FuncId} {args : Array Value} {v : Value} {hA h1 : Heap} (hs : SoundCall P f args hA v h1) (ha : ∀ x ∈ args, flatV x = true) (hv : flatV v = true) (h : Heap)
    (hg : ∀ g ∈ globList, ∃ cs e, hA[g]? = some (.cells cs e (0, 0)) ∧ h1[g]? = some (.cells cs e (0, 0)) ∧ h[g]? = some (.cells cs e (0, 0)) ∧ ∀ c ∈ cs, flatC c = true) : SoundCall P f args h v h := by
  intro R w args' k hargs Q hq n ro
  have hold : ∀ (i : Nat) (x x' : Value), args[i]? = some x → args'[i]? = some x' → x' = x := fun i x x' hx hx' =>
    flatV_eq (ha x (Array.mem_of_getElem? hx)) (hargs.2 i x x' hx hx')
  have hlive : ∀ g ∈ globList, R.map g = some g := fun g hg' => by
    rcases k.glob g hg' with q | q
    · obtain ⟨cs, e, _, _, e3, _⟩ := hg g hg'
      have e4 : h[g]? = some deadRow := (k.dead g q).2
      rw [e3] at e4
      simp [deadRow] at e4
    · exact q
  have key : ∀ {S T : Ren} {cs : Array Value} {e : TypeId} {o' : Obj}, (∀ c ∈ cs, flatC c = true) → ObjR S (.cells cs e (0, 0)) o' → ObjR T (.cells cs e (0, 0)) o' := by
    intro S T cs e o' hf hr
    obtain ⟨c', e', fr', rfl, q1, q2, q3⟩ := hr
    refine ⟨c', e', fr', rfl, q1, fun i v hv => ?_, q3⟩
    obtain ⟨v', r1, r2⟩ := q2 i v hv
    have hfv := hf v (Array.mem_of_getElem? hv)
    rw [flatC_eq hfv r2] at r1
    exact ⟨v, r1, flatC_VR hfv⟩
  obtain ⟨R1, eR1⟩ : ∃ R1 : Ren, R1 = { map := fun b => if b ∈ globList then R.map b else none, slack := R.slack, dead := fun _ => false, ghost := fun _ => none } := ⟨_, rfl⟩
  have hmap : ∀ b x, R1.map b = some x → b ∈ globList ∧ R.map b = some x := fun b x e => by
    rw [eR1] at e
    simp only at e
    split at e
    · exact ⟨by assumption, e⟩
    · cases e
  have hrel : Rel P R1 (hget hA) w := by
    refine ⟨fun b b' g e e' => k.inj _ _ _ (hmap _ _ e).2 (hmap _ _ e').2, fun b g e => ?_, fun b e => (by rw [eR1] at e; cases e), fun g hg' => .inr (by rw [eR1]; simp only; rw [if_pos hg']; exact hlive g hg')⟩
    obtain ⟨m1, m2⟩ := hmap _ _ e
    obtain ⟨cs, e', e1, _, e3, hf⟩ := hg b m1
    obtain ⟨o, o', q1, q2, q3, q4⟩ := k.obj b g m2
    have q1' : h[b]? = some o := q1
    rw [e3] at q1'
    cases q1'
    exact ⟨_, o', e1, q2, key hf q3, by rw [eR1]; exact q4⟩
  refine hs R1 w args' hrel ⟨hargs.1, fun i x x' hx hx' => ?_⟩ Q (fun R2 w1 v' s hv' => ?_) n ro
  · rw [hold i x x' hx hx']
    exact flatV_VR (ha x (Array.mem_of_getElem? hx))
  · rw [flatV_eq hv hv']
    refine hq R w1 v ⟨⟨k.inj, fun b g hb => ?_, k.dead, k.glob⟩, .refl R, Nat.le_refl _, fun _ _ _ => rfl, fun _ _ e => ⟨e, rfl⟩, s.os, s.tape, s.output, s.wsz, fun g hg' hn => s.conc g hg' fun b e => hn b (hmap _ _ e).2, fun _ _ e => .inl e,
      fun g hg' hsl => s.shape g hg' fun b e => by have := hsl b (hmap _ _ e).2; rw [eR1]; exact this⟩ (flatV_VR hv)
    obtain ⟨o, o', q1, q2, q3, q4⟩ := k.obj b g hb
    by_cases hbg : b ∈ globList
    · obtain ⟨cs, e', e1, e2, e3, hf⟩ := hg b hbg
      have q1' : h[b]? = some o := q1
      rw [e3] at q1'
      cases q1'
      have hm : R1.map b = some g := by rw [eR1]; simp only; rw [if_pos hbg]; exact hb
      rcases s.le.map b g hm with m | m
      · obtain ⟨p, p', r1, r2, r3, _⟩ := s.rel.obj b g m
        have r1' : h1[b]? = some p := r1
        rw [e2] at r1'
        cases r1'
        refine ⟨_, p', q1, r2, key hf r3, q4.1, fun z r hz => ?_⟩
        have := q4.1
        rw [hz] at this
        simp [isSlack] at this
      · have e4 : h1[b]? = some deadRow := (s.rel.dead b m).2
        rw [e2] at e4
        simp [deadRow] at e4
    · have hc := s.conc g (k.lt hb).2 fun b' e => by
        obtain ⟨m1, m2⟩ := hmap _ _ e
        exact hbg (k.inj _ _ _ hb m2 ▸ m1)
      exact ⟨o, o', q1, hc.trans q2, q3, q4⟩
end

section
variable {H : Type} {enc : TypeId × Value → H} {P : Program}

theorem trodAll_below (hl : laidOutB P = true) {W W' : World} (hb : Below W.heap.size W W') {sp : Nat → Bool} : ∀ (ts : List TypeId) (vs : List Value) (ds : List (DataW H)) (ps : List MemPlace),
    (∀ t ∈ ts, P.readableRec t = true ∧ t < P.types.size) → DataW.TrodAll enc P W 0 (fun _ => true) true ts vs ds ps → (∀ p ∈ ps, p.block < W.heap.size) → (∀ p ∈ ps, sp p.block = true) →
    DataW.TrodAll enc P W' 0 sp true ts vs ds ps
  | [], vs, ds, ps, _, h, _, _ => by
    cases vs <;> cases ds <;> simp [DataW.TrodAll] at h ⊢
    exact h
  | t :: ts, vs, ds, ps, hr, h, hlt, hsp => by
    obtain ⟨v, vs', d, ds', p, q, rfl, rfl, rfl, h1, h2⟩ := Go.ChangeShapes.trodAll_cons h
    refine ⟨p, q, ?_, trodAll_below hl hb ts vs' ds' q (fun t ht => hr t (by simp [ht])) h2 (fun x hx => hlt x (by simp [hx])) (fun x hx => hsp x (by simp [hx])), rfl⟩
    obtain ⟨r1, r2⟩ := hr t (by simp)
    exact WideElems.Trod_stays hl r1 r2 h1 (fun x hx => hb.same (hlt x (by simp [hx]))) (fun x hx => hsp x (by simp [hx]))

theorem post_of_old {f : Func} {s : ChangeSpec} {apart fresh handsOn again : Bool} {W W' : World} {args : Array Value} {v : Value} {ds gs : List (DataW H)} {before pa pv : List MemPlace}
    (hW : DataW.Whole enc P f.params.toList s.vars apart W args.toList ds gs before)
    (hres : ∀ (b : Nat) (sp : Nat → Bool) (hd : Bool), DataW.TrodAll enc P W' b sp hd f.resultTypes.toList (v.resultList f.resultTypes.size) (s.fn H (ds ++ gs)).results [])
    (hargs : ∀ sp : Nat → Bool, (∀ p ∈ before, sp p.block = true) → DataW.TrodAll enc P W' 0 sp true f.params.toList args.toList (s.fn H (ds ++ gs)).args pa)
    (hvars : ∀ sp : Nat → Bool, (∀ p ∈ before, sp p.block = true) → DataW.TrodVars enc P W' sp s.vars (s.fn H (ds ++ gs)).vars pv)
    (hps : before = pa ++ pv) (hk : W.keptBut W' (· ∈ before)) (hfz : ∀ b off, MemPlace.cell b off ∈ before → W'.frozen? ⟨b, off, none⟩ = W.frozen? ⟨b, off, none⟩)
    (hok : ∀ (j : Nat) (t : TypeId) (r : Value), f.resultTypes[j]? = some t → (v.resultList f.resultTypes.size)[j]? = some r → Value.okWide P W' .any 0 t r) :
    s.post enc P f apart fresh handsOn again W args v W' := by
  have hold : ∀ p ∈ before, (fun b => decide (b < W.heap.size)) p.block = true := fun p hp => by simpa using hW.lt p hp
  refine ⟨ds, gs, before, [], pa, pv, hW, hres _ _ _, hargs _ hold, hvars _ hold, World.keptBut_mono (fun p hp => ⟨hp, ?_⟩) hk, fun _ => ?_⟩
  · rw [hps, List.mem_append] at hp
    exact Or.inr hp
  · obtain ⟨_, _, _, _, _, hz, hn⟩ := hW
    refine ⟨hok, _, _, ([] ++ pa) ++ pv, ⟨[] ++ pa, pv, Go.ChangeShapes.trodAll_append (hargs _ (fun _ _ => rfl)) (hres _ _ _), hvars _ (fun _ _ => rfl), rfl, ?_, ?_⟩, ?_⟩
    · intro b off hp
      have hp' : MemPlace.cell b off ∈ before := by rw [hps]; simpa using hp
      rw [hfz b off hp']
      exact hz b off hp'
    · intro ha
      have := hn ha
      rw [hps] at this
      simpa using this
    · intro p hp _
      rw [hps]
      simpa using hp

/-- What a law's form asks where nothing old was turned. -/
theorem law_post {fn : Func} {s : ChangeSpec} {apart fresh handsOn again : Bool} {W W' : World} {args : Array Value} {ds gs : List (DataW H)} {before : List MemPlace} {tb : TypeId}
    (hW : DataW.Whole enc P fn.params.toList s.vars apart W args.toList ds gs before) (hvars : s.vars = []) (hres : fn.resultTypes = #[tb]) (hb : P.underlying tb = some .bool)
    (hfn : s.fn H (ds ++ gs) = { results := [.lit (.bool true)], args := ds }) (hl : laidOutB P = true) (hr : ∀ t ∈ fn.params.toList, P.readableRec t = true ∧ t < P.types.size)
    (hbel : Below W.heap.size W W') : s.post enc P fn apart fresh handsOn again W args (.bool true) W' := by
  have hlt := hW.lt
  have hW' := hW
  obtain ⟨p, q, hA, hV, rfl, hfz, hnd⟩ := hW
  rw [hvars] at hV
  obtain ⟨rfl, rfl⟩ := Go.ChangeShapes.trodVars_none hV
  simp only [List.append_nil] at hW' hlt hfn ⊢
  refine post_of_old (pa := p) (pv := []) hW' (fun b sp hd => ?_) (fun sp hsp => ?_) (fun sp _ => ?_) (by simp) (hbel.frame _) (fun b off hp => hbel.frozen (hlt _ hp)) ?_
  · simp only [List.append_nil]
    rw [hfn, hres]
    exact Go.ChangeShapes.trodAll_mk1 (shut_bool hb _)
  · simp only [List.append_nil]
    rw [hfn]
    exact trodAll_below hl hbel _ _ _ _ hr hA hlt hsp
  · simp only [List.append_nil]
    rw [hfn, hvars]
    rfl
  · exact ok_one hres rfl (okWide_bool_mk hb _)
end
end Go.AM
