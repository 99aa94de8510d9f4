/- An abstract machine for Go, part 7: addresses, slices, append. -/
import Derived.Test.YtpagkfbpgppeiaaAmf
namespace Go.AM

section
variable {P : Program} {R : Ren} {h h' : Heap} {w : World}

theorem AR.add {a a' : Addr} (ha : AR R a a') (n : Nat) : AR R (a.add n) (a'.add n) := by
  rw [addr_add a ha.1, addr_add a' ha.2.1]
  refine ⟨rfl, rfl, ?_⟩
  rcases ha.2.2 with q | ⟨q, e⟩
  · exact .inl q
  · exact .inr ⟨q, by rw [e]⟩

theorem SAR.ar {a a' : Addr} {n c' : Nat} (h : SAR R a a' n c') (hn : ¬(n = 0 ∧ c' = 0)) : AR R a a' := by
  refine ⟨h.1, h.2.1, ?_⟩
  rcases h.2.2 with q | ⟨q, e⟩
  · exact .inl q
  · exact .inr ⟨q, e.resolve_right fun x => hn ⟨x.1, x.2.1⟩⟩

def fieldAddrA (P : Program) (s : TypeId) (x : Value) (f : Nat) : Option Value :=
  match P.underlying s, x with
  | some (.struct fields), .pointer (some a) => match fields[f]? with
    | some fl => match P.info? fl.type with
      | some i => if i.size = 0 then none else some (.pointer (some (a.add fl.offset)))
      | none => none
    | none => none
  | _, _ => none

theorem fieldAddrA_sim {s : TypeId} {x x' v : Value} {f : Nat} (hx : VR R x x') (hv : fieldAddrA P s x f = some v) : ∃ v', (Instr.fieldAt s x' f).run P w = .ok v' w ∧ VR R v v' := by
  unfold fieldAddrA at hv
  split at hv
  · rename_i fields a hu
    rw [VR_ptr] at hx
    obtain ⟨a', rfl, ha⟩ := hx
    split at hv
    · rename_i fl hfl
      split at hv
      · rename_i i hi
        split at hv
        · cases hv
        · rename_i h0
          cases hv
          refine ⟨.pointer (some (a'.add fl.offset)), ?_, by rw [VR_ptr]; exact ⟨_, rfl, ha.add _⟩⟩
          simp [Instr.fieldAt, run_underlying hu, hfl, Instr.sureAddr, fieldPlace, sizeOf, typeInfo, hi, h0]
      · cases hv
    · cases hv
  · cases hv

def fieldA (P : Program) (t : TypeId) (x : Value) (f : Nat) : Option Value :=
  match P.underlying t, x with
  | some (.struct fields), .agg cs => match fields[f]? with
    | some fl => partA P fl.type cs fl.offset
    | none => none
  | _, _ => none

theorem fieldA_sim {t : TypeId} {x x' v : Value} {f : Nat} (hx : VR R x x') (hv : fieldA P t x f = some v) : ∃ v', (Instr.field t x' f).run P w = .ok v' w ∧ VR R v v' := by
  unfold fieldA at hv
  split at hv
  · rename_i fields cs hu
    rw [VR_agg] at hx
    obtain ⟨cs', rfl, hc⟩ := hx
    split at hv
    · rename_i fl hfl
      obtain ⟨v', h1, h2⟩ := partA_rel hc hv
      exact ⟨v', by simp [Instr.field, run_underlying hu, hfl, asAgg, partA_run h1], h2⟩
    · cases hv
  · cases hv

def indexAddrA (P : Program) (t : TypeId) (x ix : Value) : Option Value :=
  match ix with
  | .int _ i => match P.underlying t, x with
    | some (.slice e), .slice (some a) len _ => match P.info? e with
      | some inf => if 0 ≤ i ∧ i < len then some (.pointer (some (a.add (i.toNat * inf.size)))) else none
      | none => none
    | some (.array len e), .pointer (some a) => match P.info? e with
      | some inf => if 0 ≤ i ∧ i < len then some (.pointer (some (a.add (i.toNat * inf.size)))) else none
      | none => none
    | _, _ => none
  | _ => none

theorem indexAddrA_sim {t : TypeId} {x x' ix ix' v : Value} (hx : VR R x x') (hix : VR R ix ix') (hv : indexAddrA P t x ix = some v) : ∃ v', (Instr.indexAt t x' ix').run P w = .ok v' w ∧ VR R v v' := by
  unfold indexAddrA at hv
  split at hv
  · rename_i k i
    rw [VR_int] at hix
    subst hix
    split at hv
    · rename_i e a len cap hu
      rw [VR_slice] at hx
      obtain ⟨a', c', rfl, hq⟩ := hx
      split at hv
      · rename_i inf hi
        split at hv
        · rename_i hb
          cases hv
          have har : AR R a a' := (hq.resolve_right fun g => by have := g.2.1; omega).1.ar (by omega)
          refine ⟨.pointer (some (a'.add (i.toNat * inf.size))), ?_, by rw [VR_ptr]; exact ⟨_, rfl, har.add _⟩⟩
          simp [Instr.indexAt, asIntOf, run_underlying hu, hb, sizeOf, typeInfo, hi]
        · cases hv
      · cases hv
    · rename_i len e a hu
      rw [VR_ptr] at hx
      obtain ⟨a', rfl, ha⟩ := hx
      split at hv
      · rename_i inf hi
        split at hv
        · rename_i hb
          cases hv
          refine ⟨.pointer (some (a'.add (i.toNat * inf.size))), ?_, by rw [VR_ptr]; exact ⟨_, rfl, ha.add _⟩⟩
          simp [Instr.indexAt, asIntOf, run_underlying hu, hb, sizeOf, typeInfo, hi, Instr.sureAddr]
        · cases hv
      · cases hv
    · cases hv
  · cases hv

def indexA (P : Program) (t : TypeId) (x ix : Value) : Option Value :=
  match ix with
  | .int _ i => match P.underlying t, x with
    | some (.array len e), .agg cs => match P.info? e with
      | some inf => if 0 ≤ i ∧ i < len then partA P e cs (i.toNat * inf.size) else none
      | none => none
    | some .string, .string s => if 0 ≤ i then (s[i.toNat]?).map fun b => .int .u8 b.toNat else none
    | _, _ => none
  | _ => none

theorem indexA_sim {t : TypeId} {x x' ix ix' v : Value} (hx : VR R x x') (hix : VR R ix ix') (hv : indexA P t x ix = some v) : ∃ v', (Instr.index t x' ix').run P w = .ok v' w ∧ VR R v v' := by
  unfold indexA at hv
  split at hv
  · rename_i k i
    rw [VR_int] at hix
    subst hix
    split at hv
    · rename_i len e cs hu
      rw [VR_agg] at hx
      obtain ⟨cs', rfl, hc⟩ := hx
      split at hv
      · rename_i inf hi
        split at hv
        · rename_i hb
          obtain ⟨v', h1, h2⟩ := partA_rel hc hv
          exact ⟨v', by simp [Instr.index, asIntOf, run_underlying hu, hb, sizeOf, typeInfo, hi, partA_run h1], h2⟩
        · cases hv
      · cases hv
    · rename_i s hu
      rw [VR_string] at hx
      subst hx
      split at hv
      · rename_i h0
        simp only [Option.map_eq_some_iff] at hv
        obtain ⟨b, hb, rfl⟩ := hv
        exact ⟨.int .u8 b.toNat, by simp [Instr.index, asIntOf, run_underlying hu, h0, hb], by simp⟩
      · cases hv
    · cases hv
  · cases hv

def bndA (x : Value) (y : Nat) : Option Nat :=
  match x with
  | .int _ i => if 0 ≤ i ∧ i ≤ (y : Int) then some i.toNat else none
  | _ => none
def boundsA (len cap : Nat) (low high max : Option Value) : Option (Nat × Nat × Nat) :=
  match (match max with | some v => bndA v cap | none => some cap) with
  | none => none
  | some m => match (match high with | some v => bndA v m | none => if max.isSome ∨ m < len then none else some len) with
    | none => none
    | some hi => match (match low with | some v => bndA v hi | none => some 0) with
      | none => none
      | some l => some (l, hi, m)

def OptR (R : Ren) (x x' : Option Value) : Prop := (x = none ∧ x' = none) ∨ ∃ v v', x = some v ∧ x' = some v' ∧ VR R v v'

theorem bndA_run {x x' : Value} {y y' n : Nat} {code : BoundsCode} (hx : VR R x x') (hy : y ≤ y') (hb : bndA x y = some n) : (Instr.sliceBound x' y' code).run P w = .ok n w ∧ n ≤ y := by
  unfold bndA at hb
  split at hb
  · rename_i k i
    rw [VR_int] at hx; subst hx
    split at hb
    · rename_i hc
      cases hb
      refine ⟨?_, by omega⟩
      have : 0 ≤ i ∧ i ≤ (y' : Int) := by omega
      simp [Instr.sliceBound, asIntOf, this]
    · cases hb
  · cases hb

theorem boundsA_run {isSlice : Bool} {len cap cap' : Nat} {low low' high high' max max' : Option Value} (hl : OptR R low low') (hh : OptR R high high') (hm : OptR R max max') (hc : cap ≤ cap') {l hi m : Nat}
    (hb : boundsA len cap low high max = some (l, hi, m)) :
    ∃ m', (Instr.sliceBounds isSlice len cap' low' high' max').run P w = .ok (l, hi, m') w ∧ (max = none → m = cap ∧ m' = cap') ∧ (max ≠ none → m' = m) ∧ l ≤ hi ∧ hi ≤ m ∧ m ≤ cap := by
  unfold boundsA at hb
  split at hb
  · cases hb
  rename_i m0 hm0
  split at hb
  · cases hb
  rename_i h0 hh0
  split at hb
  · cases hb
  rename_i l0 hl0
  simp only [Option.some.injEq, Prod.mk.injEq] at hb
  obtain ⟨rfl, rfl, rfl⟩ := hb
  have low_ok : l0 ≤ h0 ∧ ∀ hh', h0 ≤ hh' → (match low' with | some v => Instr.sliceBound v h0 (if max'.isSome then .slice3C else .sliceB) | none => pure 0).run P w = .ok l0 w := by
    rcases hl with ⟨rfl, rfl⟩ | ⟨q, q', rfl, rfl, rq⟩
    · simp at hl0; subst hl0; exact ⟨Nat.zero_le _, fun _ _ => rfl⟩
    · simp only at hl0
      exact ⟨(bndA_run (P := P) (w := w) (code := .index) rq (Nat.le_refl _) hl0).2, fun _ _ => (bndA_run (P := P) (w := w) rq (Nat.le_refl _) hl0).1⟩
  have hl1 := low_ok.2 h0 (Nat.le_refl _)
  rcases hm with ⟨rfl, rfl⟩ | ⟨v, v', rfl, rfl, rv⟩
  · simp only [Option.some.injEq] at hm0; subst hm0
    rcases hh with ⟨rfl, rfl⟩ | ⟨u, u', rfl, rfl, ru⟩
    · simp only [Option.isSome_none, Bool.false_eq_true, false_or] at hh0
      split at hh0
      · cases hh0
      · rename_i hlt
        cases hh0
        refine ⟨cap', ?_, fun _ => ⟨rfl, rfl⟩, fun e => absurd rfl e, low_ok.1, by omega, Nat.le_refl _⟩
        cases low' <;> simp_all [Instr.sliceBounds]
    · simp only at hh0
      have hu1 := fun c => bndA_run (P := P) (w := w) (code := c) ru hc hh0
      refine ⟨cap', ?_, fun _ => ⟨rfl, rfl⟩, fun e => absurd rfl e, low_ok.1, (hu1 .index).2, Nat.le_refl _⟩
      have hu2 := fun c => (hu1 c).1
      cases low' <;> simp_all [Instr.sliceBounds]
  · simp only at hm0
    have hm1 := fun c => bndA_run (P := P) (w := w) (code := c) rv hc hm0
    have hm2 := fun c => (hm1 c).1
    rcases hh with ⟨rfl, rfl⟩ | ⟨u, u', rfl, rfl, ru⟩
    · simp at hh0
    · simp only at hh0
      have hu1 := fun c => bndA_run (P := P) (w := w) (code := c) ru (Nat.le_refl _) hh0
      refine ⟨m0, ?_, fun e => (by cases e), fun _ => rfl, low_ok.1, (hu1 .index).2, (hm1 .index).2⟩
      have hu2 := fun c => (hu1 c).1
      cases low' <;> simp_all [Instr.sliceBounds]

/-- The element type of a row with hidden room. -/
def slackElem (h : Heap) (b : Nat) : Option TypeId :=
  match h[b]? with
  | some (.cells _ e fr) => if fr = (1, 1) then some e else none
  | _ => none

def deadAt (h : Heap) (b : Nat) : Bool := match h[b]? with | some (.cells _ _ fr) => decide (fr = (2, 2)) | _ => true

def sliceA (P : Program) (h : Heap) (t : TypeId) (x : Value) (low high max : Option Value) : Option Value :=
  match P.underlying t, x with
  | some .string, .string s =>
    if max.isSome then none else
    match boundsA s.size s.size low high none with
    | some (l, hi, _) => some (.string (s.extract l hi))
    | none => none
  | some (.slice e), .slice none n c =>
    match boundsA n c low high max, P.info? e with
    | some (l, hi, m), some _ => some (.slice none (hi - l) (m - l))
    | _, _ => none
  | some (.slice e), .slice (some a) n c =>
    match P.info? e with
    | some i =>
      if i.size = 0 ∨ deadAt h a.block = true then none else
      match boundsA n c low high max with
      | some (l, hi, m) =>
        match slackElem h a.block, max with
        | some e0, none => if tsz P e0 = i.size then some (.slice (some (a.add (l * i.size))) (hi - l) (m - l)) else none
        | _, _ => some (.slice (some (if m = l then a else a.add (l * i.size))) (hi - l) (m - l))
      | none => none
    | none => none
  | _, _ => none

theorem notdead {b : Nat} (k : Rel P R (hget h) w) (hd : deadAt h b = false) : R.dead b = false := by
  cases hb : R.dead b with
  | false => rfl
  | true =>
    have := (k.dead b hb).2
    simp only [hget] at this
    simp [deadAt, this, deadRow] at hd

theorem slack_map {b g : Nat} (k : Rel P R (hget h) w) (hm : R.map b = some g) :
    (slackElem h b = none → R.slack b = none) ∧ ∀ e, slackElem h b = some e → ∃ r c' e' fr', R.slack b = some (tsz P e, r) ∧ w.heap[g]? = some (.cells c' e' fr') ∧ c'.size = r ∧ ∀ i, i < r → inFr fr' i = false := by
  obtain ⟨o, o', h1, h2, _, h3, h4⟩ := k.obj b g hm
  simp only [hget] at h1
  constructor
  · intro he
    have : isSlack (some o) = false := by
      unfold slackElem at he
      rw [h1] at he
      cases o <;> simp_all [isSlack]
    rw [this] at h3
    cases hs : R.slack b
    · rfl
    · rw [hs] at h3; cases h3
  · intro e he
    unfold slackElem at he
    rw [h1] at he
    split at he
    · rename_i c e0 fr heq
      cases heq
      split at he
      · rename_i hfr
        cases he
        subst hfr
        simp only [isSlack, decide_true] at h3
        cases hs : R.slack b with
        | none => rw [hs] at h3; cases h3
        | some p =>
          obtain ⟨z, r⟩ := p
          obtain ⟨⟨c1, e1, q1, q2⟩, c', e', fr', q3, q4, q5⟩ := h4 z r hs
          cases q1
          exact ⟨r, c', e', fr', by rw [q2], by rw [h2, q3], q4, q5⟩
      · cases he
    · cases he

theorem sliceA_sim (k : Rel P R (hget h) w) {t : TypeId} {x x' v : Value} {low low' high high' max max' : Option Value} (hx : VR R x x') (hl : OptR R low low') (hh : OptR R high high') (hm : OptR R max max')
    (hv : sliceA P h t x low high max = some v) : ∃ v', (Instr.sliceAt t x' low' high' max').run P w = .ok v' w ∧ VR R v v' := by
  unfold sliceA at hv
  split at hv
  · rename_i s hu
    rw [VR_string] at hx; subst hx
    split at hv
    · cases hv
    · rename_i hmx
      have hmn : max = none := by simpa using hmx
      subst hmn
      have hmn' : max' = none := by rcases hm with ⟨_, e⟩ | ⟨_, _, e, _⟩; exact e; cases e
      subst hmn'
      split at hv
      · rename_i l hi m hb
        cases hv
        obtain ⟨m', h1, _⟩ := boundsA_run (P := P) (w := w) (isSlice := false) hl hh hm (Nat.le_refl _) hb
        exact ⟨.string (s.extract l hi), by simp [Instr.sliceAt, Instr.slice, run_underlying hu, h1], by simp⟩
      · cases hv
  · rename_i e n c hu
    rw [VR_nilslice] at hx; subst hx
    split at hv
    · rename_i l hi m i hb hi2
      cases hv
      obtain ⟨m', h1, h2, h3, _⟩ := boundsA_run (P := P) (w := w) (isSlice := true) hl hh hm (Nat.le_refl _) hb
      have hmm : m' = m := by
        by_cases hm0 : max = none
        · have := h2 hm0; omega
        · exact h3 hm0
      subst hmm
      refine ⟨.slice none (hi - l) (m' - l), ?_, by simp⟩
      simp [Instr.sliceAt, Instr.slice, run_underlying hu, h1, sizeOf, typeInfo, hi2]
    · cases hv
  · rename_i e a n c hu
    rw [VR_slice] at hx
    obtain ⟨a', c', rfl, hq⟩ := hx
    split at hv
    · rename_i i hi
      split at hv
      · cases hv
      · rename_i hcond
        have hsz : i.size ≠ 0 := fun e => hcond (.inl e)
        rcases hq.symm with hg | ⟨ha, hc⟩
        · obtain ⟨g1, rfl, rfl, rfl, g5, g6⟩ := hg
          split at hv
          · rename_i l hi2 m hb
            obtain ⟨m', h1, h2, h3, h4, h5, h6⟩ := boundsA_run (P := P) (w := w) (isSlice := true) hl hh hm (Nat.le_refl 0) hb
            have hm' : m' = 0 := by
              by_cases hm0 : max = none
              · exact (h2 hm0).2
              · rw [h3 hm0]; omega
            have hl0 : l = 0 := by omega
            have hh0 : hi2 = 0 := by omega
            have hmz : m = 0 := by omega
            subst hm' hl0 hh0 hmz
            have hrun : (Instr.sliceAt t (.slice (some a') 0 0) low' high' max').run P w = .ok (.slice (some a') 0 0) w := by
              simp only [Instr.sliceAt, Instr.slice, Sem.run_bind, run_underlying hu, Result.andThen_ok, h1]
              simp only [sizeOf, typeInfo, Sem.run_bind, run_program, Result.andThen_ok, hi, Sem.run_pure]
              simp
            have hval : v = .slice (some a) 0 0 := by
              split at hv
              · split at hv
                · cases hv; simp [Addr.add]
                · cases hv
              · cases hv; simp
            subst hval
            exact ⟨_, hrun, by rw [VR_slice]; exact ⟨a', 0, rfl, .inr ⟨g1, rfl, rfl, rfl, g5, g6⟩⟩⟩
          · cases hv
        have hnd : R.dead a.block = false := notdead k (by cases hq : deadAt h a.block; rfl; exact absurd (.inr hq) hcond)
        have hcc : c ≤ c' := by rcases hc with q | ⟨_, _, q⟩ | q; omega; exact q.2.2.1; rw [hnd] at q; cases q
        obtain ⟨hmp, hoff⟩ : R.map a.block = some a'.block ∧ (a'.off = a.off ∨ (n = 0 ∧ c' = 0 ∧ R.slack a.block ≠ none)) := by
          rcases ha.2.2 with q | q
          · rw [hnd] at q; cases q
          · exact q
        have hsl := slack_map k hmp
        split at hv
        · rename_i l hi2 m hb
          obtain ⟨m', h1, h2, h3, h4, h5, h6⟩ := boundsA_run (P := P) (w := w) (isSlice := true) hl hh hm hcc hb
          have hrun : (Instr.sliceAt t (.slice (some a') n c') low' high' max').run P w = .ok (.slice (some (if m' = l then a' else a'.add (l * i.size))) (hi2 - l) (m' - l)) w := by
            simp only [Instr.sliceAt, Instr.slice, Sem.run_bind, run_underlying hu, Result.andThen_ok, h1]
            simp only [sizeOf, typeInfo, Sem.run_bind, run_program, Result.andThen_ok, hi, Sem.run_pure]
            split <;> simp
          have hadd : a.add (l * i.size) = ⟨a.block, a.off + l * i.size, none⟩ := addr_add a ha.1 _
          have hadd' : a'.add (l * i.size) = ⟨a'.block, a'.off + l * i.size, none⟩ := addr_add a' ha.2.1 _
          refine ⟨_, hrun, ?_⟩
          obtain ⟨mx, hmx⟩ : ∃ mx, mx = max := ⟨_, rfl⟩
          rw [← hmx] at hv
          split at hv
          · rename_i e0 hse
            split at hv
            · rename_i hse2
              cases hv
              obtain ⟨r, c1, e1, f1, hr1, hr2, hr3, hr4⟩ := hsl.2 e0 hse
              obtain ⟨e1, e2⟩ := h2 hmx.symm
              subst e1 e2
              rw [VR_slice]
              refine ⟨_, _, rfl, .inl ⟨?_, ?_⟩⟩
              · rw [hadd]
                by_cases hml : m' = l
                · rw [if_pos hml]
                  exact ⟨rfl, ha.2.1, .inr ⟨hmp, .inr ⟨by omega, by omega, by rw [hr1]; simp⟩⟩⟩
                · rw [if_neg hml, hadd']
                  refine ⟨rfl, rfl, .inr ⟨hmp, .inl ?_⟩⟩
                  rcases hoff with q | q
                  · simp [q]
                  · omega
              · rw [hadd]
                rcases hc with q | ⟨z, r', q⟩ | q
                · exact .inl (by omega)
                · rw [hr1] at q
                  obtain ⟨q0, q1, q2, q3⟩ := q
                  simp only [Option.some.injEq, Prod.mk.injEq] at q0
                  obtain ⟨z1, z2⟩ := q0
                  refine .inr (.inl ⟨tsz P e0, r, hr1, ?_, by omega, ?_⟩)
                  · rintro ⟨z1, z2⟩
                    simp only at z2
                    have hl0 : l = 0 := by
                      rcases Nat.eq_zero_or_pos l with z | z
                      · exact z
                      · have := Nat.mul_pos z (Nat.pos_of_ne_zero hsz); omega
                    exact q1 ⟨by omega, by omega⟩
                  · rw [← z1] at q3
                    rw [hse2] at q3 ⊢
                    simp only
                    have hle : l ≤ m' := by omega
                    rw [Nat.sub_mul]
                    have := Nat.mul_le_mul_right i.size hle
                    omega
                · rw [hnd] at q; cases q
            · cases hv
          · rename_i hs
            cases hv
            have hmm : m' = m := by
              by_cases hm0 : max = none
              · obtain ⟨e1, e2⟩ := h2 hm0
                have hns : slackElem h a.block = none := by
                  cases hq : slackElem h a.block with
                  | none => rfl
                  | some e0 => exact absurd (hmx.trans hm0) (hs e0 hq)
                have hns := hsl.1 hns
                rcases hc with q | ⟨z, r', q⟩ | q
                · omega
                · rw [hns] at q; cases q.1
                · rw [hnd] at q; cases q
              · exact h3 hm0
            subst hmm
            rw [VR_slice]
            by_cases hml : m' = l
            · rw [if_pos hml, if_pos hml]
              refine ⟨_, _, rfl, .inl ⟨⟨ha.1, ha.2.1, .inr ⟨hmp, hoff.imp id fun q => ⟨by omega, by omega, q.2.2⟩⟩⟩, .inl rfl⟩⟩
            · rw [if_neg hml, if_neg hml, hadd, hadd']
              refine ⟨_, _, rfl, .inl ⟨⟨rfl, rfl, .inr ⟨hmp, .inl ?_⟩⟩, .inl rfl⟩⟩
              rcases hoff with q | q
              · simp [q]
              · omega
        · cases hv
    · cases hv
  · cases hv
end
end Go.AM
