/- Votes that are counted in a map. -/
import Derived.Test.YtpagkfbpgppeiaaOa
import Derived.Test.YtpagkfbpgppeiaaBms
import Derived.KernelRfl
open Go Go.AM Go.Proofs
namespace C14
theorem eq36 {a0 b0 : Int} {a1 b1 : Int} {a2 b2 : ByteArray} : eqA Try.prog 8 36 (.agg #[.int .i64 a0, .int .i64 a1, .string a2]) (.agg #[.int .i64 b0, .int .i64 b1, .string b2]) = some (decide (a0 = b0 ∧ a1 = b1 ∧ a2 = b2)) := by
  have e : eqA Try.prog 8 36 (.agg #[.int .i64 a0, .int .i64 a1, .string a2]) (.agg #[.int .i64 b0, .int .i64 b1, .string b2]) = (match ((match (some (a0 == b0) : Option Bool) with | some true => (match (some (a1 == b1) : Option Bool) with | some true => some true | some false => some false | none => none) | some false => some false | none => none) : Option Bool) with | some true => (match (some (a2 == b2) : Option Bool) with | some true => some true | some false => some false | none => none) | some false => some false | none => none) := by kernel_rfl
  rw [e]
  simp only [int_beq, bytes_beq, bool_beq]
  by_cases h0 : a0 = b0 <;> by_cases h1 : a1 = b1 <;> by_cases h2 : a2 = b2 <;> simp [h0, h1, h2]
theorem cmp36_eql {a0 b0 : Int} {a1 b1 : Int} {a2 b2 : ByteArray} {r : Bool} (e : decide (a0 = b0 ∧ a1 = b1 ∧ a2 = b2) = r) : binA Try.prog .eql 36 (.agg #[.int .i64 a0, .int .i64 a1, .string a2]) (.agg #[.int .i64 b0, .int .i64 b1, .string b2]) = some (.bool r) := by
  have k : binA Try.prog .eql 36 (.agg #[.int .i64 a0, .int .i64 a1, .string a2]) (.agg #[.int .i64 b0, .int .i64 b1, .string b2]) = (eqA Try.prog 8 36 (.agg #[.int .i64 a0, .int .i64 a1, .string a2]) (.agg #[.int .i64 b0, .int .i64 b1, .string b2])).map .bool := by kernel_rfl
  rw [k, eq36, ← e]; rfl
theorem cmp36_neq {a0 b0 : Int} {a1 b1 : Int} {a2 b2 : ByteArray} {r : Bool} (e : decide (¬ (a0 = b0 ∧ a1 = b1 ∧ a2 = b2)) = r) : binA Try.prog .neq 36 (.agg #[.int .i64 a0, .int .i64 a1, .string a2]) (.agg #[.int .i64 b0, .int .i64 b1, .string b2]) = some (.bool r) := by
  have k : binA Try.prog .neq 36 (.agg #[.int .i64 a0, .int .i64 a1, .string a2]) (.agg #[.int .i64 b0, .int .i64 b1, .string b2]) = (eqA Try.prog 8 36 (.agg #[.int .i64 a0, .int .i64 a1, .string a2]) (.agg #[.int .i64 b0, .int .i64 b1, .string b2])).map (fun b => .bool (!b)) := by kernel_rfl
  rw [k, eq36, ← e]
  simp only [Option.map_some, decide_not]
theorem zero3i : zeroA Try.prog 3 = some (.int .i64 0) := by kernel_rfl
theorem vote_ext {a b : VoteM} (h : a.rd = b.rd ∧ a.nd = b.nd ∧ a.v = b.v) : a = b := by
  cases a; cases b; obtain ⟨h1, h2, h3⟩ := h; simp only at h1 h2 h3; subst h1; subst h2; subst h3; rfl
theorem bits_int (n : Nat) (k : IntKind) (a : Int) : Instr.sameBits n (.int k a) (.int k a) = true := by cases n <;> simp [Instr.sameBits]
theorem bits_str (n : Nat) (s : ByteArray) : Instr.sameBits n (.string s) (.string s) = true := by
  have : (s == s) = true := by rw [bytes_beq]; exact decide_eq_true rfl
  cases n <;> simp only [Instr.sameBits, this]
theorem bits_vote (x : VoteM) : Instr.sameBits 10000 (.agg (votec x)) (.agg (votec x)) = true := by
  show ((votec x).size == (votec x).size && ((votec x).toList.zip (votec x).toList).all fun (p : Value × Value) => Instr.sameBits 9999 p.1 p.2) = true
  simp only [votec, beq_self_eq_true, List.zip_cons_cons, List.zip_nil_right, List.all_cons, List.all_nil, bits_int, bits_str, Bool.and_self]
theorem flat_vote (x : VoteM) : flatV (.agg (votec x)) = true := by kernel_rfl
def entL : List (VoteM × Int) → Nat → List MapEntry
  | [], _ => []
  | e :: r, i => { key := .agg (votec e.1), val := .int .i64 e.2, born := i } :: entL r (i + 1)
noncomputable def fnd : List (VoteM × Int) → VoteM → Nat → Option (Nat × Int)
  | [], _, _ => none
  | e :: r, x, i => @ite _ (e.1 = x) (Classical.propDecidable _) (some (i, e.2)) (fnd r x (i + 1))
theorem ask_votes (x : VoteM) : ∀ (cm : List (VoteM × Int)) (i : Nat), askA Try.prog 36 (.agg (votec x)) (entL cm i) i = some ((fnd cm x i).map fun p => (p.1, .int .i64 p.2))
  | [], i => rfl
  | e :: r, i => by
    have ih := ask_votes x r (i + 1)
    have q : eqA Try.prog 8 36 (.agg (votec x)) (.agg (votec e.1)) = some (decide (x.rd = e.1.rd ∧ x.nd = e.1.nd ∧ x.v = e.1.v)) := eq36
    have fl : flatV (.agg (votec e.1)) = true := flat_vote e.1
    unfold entL askA
    rw [if_pos fl, q]
    unfold fnd
    by_cases h : e.1 = x
    · subst h
      rw [if_pos rfl, decide_eq_true ⟨rfl, rfl, rfl⟩]
      simp only [bits_vote, if_true, Option.map_some]
    · rw [if_neg h, decide_eq_false (fun w => h (vote_ext w).symm)]
      exact ih
theorem ent_len : ∀ (cm : List (VoteM × Int)) (i : Nat), (entL cm i).length = cm.length
  | [], _ => rfl
  | e :: r, i => by simp only [entL, List.length_cons, ent_len r]
theorem ent_app (y : VoteM × Int) : ∀ (cm : List (VoteM × Int)) (i : Nat), entL (cm ++ [y]) i = entL cm i ++ [{ key := .agg (votec y.1), val := .int .i64 y.2, born := i + cm.length }]
  | [], i => rfl
  | e :: r, i => by
    have ih := ent_app y r (i + 1)
    simp only [List.cons_append, entL, ih, List.length_cons]
    rw [show i + 1 + r.length = i + (r.length + 1) from by omega]
theorem ent_at : ∀ (cm : List (VoteM × Int)) (i j : Nat) (h : j < (entL cm i).length), ((entL cm i)[j]'h).born = i + j
  | [], _, _, h => by cases h
  | e :: r, i, 0, h => rfl
  | e :: r, i, j + 1, h => by
    have := ent_at r (i + 1) j (by simpa [entL] using h)
    simp only [entL, List.getElem_cons_succ]
    omega
theorem pairs_mod {es : Array MapEntry} {L1 L2 : List MapEntry} {e : MapEntry} (hl : es.toList = L1 ++ e :: L2) (f : MapEntry → MapEntry) : (es.modify L1.length f).toList = L1 ++ f e :: L2 := by
  apply List.ext_getElem?
  intro i
  rw [Array.getElem?_toList, Array.getElem?_modify, ← Array.getElem?_toList, hl]
  rcases Nat.lt_trichotomy i L1.length with g | g | g
  · rw [if_neg (by omega), List.getElem?_append_left g, List.getElem?_append_left g]
  · subst g; rw [if_pos rfl, List.getElem?_append_right (Nat.le_refl _), List.getElem?_append_right (Nat.le_refl _)]; simp
  · obtain ⟨d, rfl⟩ : ∃ d, i = L1.length + (d + 1) := ⟨i - L1.length - 1, by omega⟩
    rw [if_neg (by omega), List.getElem?_append_right (by omega), List.getElem?_append_right (by omega)]
    simp
theorem fnd_none {x : VoteM} : ∀ (cm : List (VoteM × Int)) (i : Nat), fnd cm x i = none → lk cm x = 0 ∧ ∀ c, put cm x c = cm ++ [(x, c)]
  | [], _, _ => ⟨rfl, fun _ => rfl⟩
  | e :: r, i, h => by
    unfold fnd at h
    by_cases q : e.1 = x
    · rw [if_pos q] at h; cases h
    · rw [if_neg q] at h
      have ih := fnd_none r (i + 1) h
      unfold lk put
      rw [if_neg q]
      exact ⟨ih.1, fun c => by rw [if_neg q, ih.2]; rfl⟩
/-- What is found: its place, and what stands there when another number is put. -/
theorem fnd_some {x : VoteM} : ∀ (cm : List (VoteM × Int)) (i j : Nat) (c0 : Int), fnd cm x i = some (j, c0) →
    lk cm x = c0 ∧ i ≤ j ∧ j < i + cm.length ∧ ∃ L1 L2, entL cm i = L1 ++ { key := .agg (votec x), val := .int .i64 c0, born := j } :: L2 ∧ L1.length + i = j ∧ ∀ c, entL (put cm x c) i = L1 ++ { key := .agg (votec x), val := .int .i64 c, born := j } :: L2 ∧ (put cm x c).length = cm.length
  | [], _, _, _, h => by cases h
  | e :: r, i, j, c0, h => by
    unfold fnd at h
    by_cases q : e.1 = x
    · rw [if_pos q] at h
      simp only [Option.some.injEq, Prod.mk.injEq] at h
      obtain ⟨h1, h2⟩ := h
      subst h1; subst h2; subst q
      refine ⟨by unfold lk; rw [if_pos rfl], Nat.le_refl _, by simp, [], entL r (i + 1), rfl, by simp, fun c => ?_⟩
      unfold put; rw [if_pos rfl]
      exact ⟨rfl, by simp⟩
    · rw [if_neg q] at h
      obtain ⟨h1, h2, h3, L1, L2, h4, h5, h6⟩ := fnd_some r (i + 1) j c0 h
      refine ⟨by unfold lk; rw [if_neg q]; exact h1, by omega, by simp only [List.length_cons]; omega, { key := .agg (votec e.1), val := .int .i64 e.2, born := i } :: L1, L2, by simp only [entL, h4, List.cons_append], by simp only [List.length_cons]; omega, fun c => ?_⟩
      unfold put; rw [if_neg q]
      exact ⟨by simp only [entL, (h6 c).1, List.cons_append], by simp only [List.length_cons, (h6 c).2]⟩
theorem ent_born : ∀ (cm : List (VoteM × Int)) (i : Nat) (e : MapEntry), e ∈ entL cm i → i ≤ e.born ∧ e.born < i + cm.length
  | [], _, _, h => by cases h
  | y :: r, i, e, h => by
    simp only [entL, List.mem_cons] at h
    rcases h with rfl | h
    · simp
    · have := ent_born r (i + 1) e h
      simp only [List.length_cons]; omega
/-- A map that holds counted votes. -/
def CntAt (h : Heap) (b : Nat) (cm : List (VoteM × Int)) : Prop := h[b]? = some (.map (entL cm 0).toArray cm.length)
theorem CntAt.keep {h h1 : Heap} {b : Nat} {cm : List (VoteM × Int)} (k : CntAt h b cm) (w : ∀ q r, q = b → h[q]? = some r → h1[q]? = some r) : CntAt h1 b cm := w _ _ rfl k
theorem CntAt.blk_lt {h : Heap} {b : Nat} {cm : List (VoteM × Int)} (k : CntAt h b cm) {q : Nat} (hq : q = b) : q < h.size := by subst hq; exact (Array.getElem?_eq_some_iff.1 k).1
theorem CntAt.ne {h : Heap} {b : Nat} {cm : List (VoteM × Int)} (k : CntAt h b cm) {q z : Nat} {c : Array Value} {e : TypeId} {fr : Nat × Nat} (hq : h[q]? = some (.cells c e fr)) (hz : z = b) : ¬ z = q := by
  subst hz; rintro rfl
  unfold CntAt at k; rw [hq] at k; cases k
theorem CntAt.off {h : Heap} {b : Nat} {cm : List (VoteM × Int)} {O : Nat → Prop} (k : CntAt h b cm) (c : Celled h O) : ∀ z, z = b → ¬ O z := by
  rintro z rfl hz
  obtain ⟨cs, e, fr, hr⟩ := c _ hz
  exact k.ne hr rfl rfl
section
variable {h : Heap} {b : Nat} {cm : List (VoteM × Int)}
theorem key_vote (x : VoteM) : keyOk Try.prog 8 36 (.agg (votec x)) = true := by kernel_rfl
theorem und_votes : Try.prog.underlying 26 = some (.map 36 3) := by kernel_rfl
theorem und_vote : ∃ fs, Try.prog.underlying 36 = some (.struct fs) := ⟨(match Try.prog.underlying 36 with | some (.struct fs) => fs | _ => #[]), by kernel_rfl⟩
theorem find_votes (x : VoteM) (cm : List (VoteM × Int)) : findA Try.prog 36 (.agg (votec x)) (entL cm 0).toArray = some ((fnd cm x 0).map fun p => (p.1, .int .i64 p.2)) := by
  obtain ⟨fs, e⟩ := und_vote
  simp only [findA, e]
  exact ask_votes x cm 0
theorem look_votes (k : CntAt h b cm) (x : VoteM) : lookupA Try.prog h 26 (.map (some b)) (.agg (votec x)) false = some (.int .i64 (lk cm x)) := by
  unfold CntAt at k
  have fl : flatV (.agg (votec x)) = true := flat_vote x
  simp only [lookupA, und_votes, key_vote, fl, and_self, if_true, entriesA, k, find_votes]
  cases hf : fnd cm x 0 with
  | none => simp only [Option.map_none]; rw [zero3i, (fnd_none cm 0 hf).1]; rfl
  | some p => obtain ⟨j, c⟩ := p; simp only [Option.map_some]; rw [(fnd_some cm 0 j c hf).1]; rfl
/-- One vote more is counted. -/
theorem count_vote (k : CntAt h b cm) (hl : cm.length ≤ 1000000) (x : VoteM) : ∃ (s : Int) (h1 : Heap), mapEntryA Try.prog h 26 (.map (some b)) (.agg (votec x)) = some (.tuple #[.int .i64 (lk cm x), .int .i64 s], h1) ∧
    CntAt h1 b (put cm x (lk cm x)) ∧ Chg (fun q => q = b) h h1 ∧ h1.size = h.size ∧
    ∀ c, ∃ h2, entryStoreA h1 (.map (some b)) (.int .i64 s) (.int .i64 c) = some h2 ∧ CntAt h2 b (put cm x c) ∧ Chg (fun q => q = b) h1 h2 ∧ h2.size = h1.size := by
  have k0 := k
  unfold CntAt at k
  have fl : flatV (.agg (votec x)) = true := flat_vote x
  have hlt := (Array.getElem?_eq_some_iff.1 k).1
  simp only [mapEntryA, und_votes, key_vote, fl, and_self, if_true, k, find_votes]
  cases hf : fnd cm x 0 with
  | none =>
    obtain ⟨e1, e2⟩ := fnd_none cm 0 hf
    have hrow : ∀ c : Int, Obj.map ((entL cm 0).toArray.push { key := .agg (votec x), val := .int .i64 c, born := cm.length }) (cm.length + 1) = .map (entL (put cm x c) 0).toArray (put cm x c).length := by
      intro c
      rw [e2, ent_app]
      simp
    have hput : CntAt (h.setIfInBounds b (.map ((entL cm 0).toArray.push { key := .agg (votec x), val := .int .i64 0, born := cm.length }) (cm.length + 1))) b (put cm x 0) := by
      unfold CntAt; rw [hrow]; exact Array.getElem?_setIfInBounds_self_of_lt hlt
    refine ⟨(cm.length : Nat), h.setIfInBounds b (.map ((entL cm 0).toArray.push { key := .agg (votec x), val := .int .i64 0, born := cm.length }) (cm.length + 1)), ?_, by rw [e1]; exact hput, Chg.set rfl, by simp, fun c => ?_⟩
    · simp only [Option.map_none, zero3i, Option.map_some, e1, goInt]
    · have hg := hput; unfold CntAt at hg; rw [← hrow] at hg
      refine ⟨(h.setIfInBounds b (.map ((entL cm 0).toArray.push { key := .agg (votec x), val := .int .i64 0, born := cm.length }) (cm.length + 1))).setIfInBounds b (.map (entL (put cm x c) 0).toArray (put cm x c).length), ?_, ?_, Chg.set rfl, by simp⟩
      · simp only [entryStoreA, hg]
        rw [if_pos (by omega)]
        have hi : ((entL cm 0).toArray.push { key := .agg (votec x), val := .int .i64 0, born := cm.length }).findIdx? (fun e => (e.born : Int) == ((cm.length : Nat) : Int)) = some cm.length := by
          rw [Array.findIdx?_eq_some_iff_getElem]
          refine ⟨by simp [ent_len], by simp [ent_len, Array.getElem_push], fun j hj => ?_⟩
          have hj' : j < (entL cm 0).length := by rw [ent_len]; exact hj
          rw [Array.getElem_push_lt (by simpa using hj')]
          have := ent_born cm 0 _ (List.getElem_mem hj')
          simp only [List.getElem_toArray, beq_iff_eq]
          intro w
          omega
        simp only [hi]
        rw [← hrow]
        have hm : ((entL cm 0).toArray.push { key := .agg (votec x), val := .int .i64 0, born := cm.length }).modify cm.length (fun e => { e with val := .int .i64 c }) = (entL cm 0).toArray.push { key := .agg (votec x), val := .int .i64 c, born := cm.length } := by
          apply Array.ext'
          have q := pairs_mod (es := (entL cm 0).toArray.push { key := .agg (votec x), val := .int .i64 0, born := cm.length }) (L1 := entL cm 0) (e := { key := .agg (votec x), val := .int .i64 0, born := cm.length }) (L2 := []) (by simp) (fun e => { e with val := .int .i64 c })
          rw [ent_len] at q
          rw [q]; simp
        rw [hm]
      · unfold CntAt; exact Array.getElem?_setIfInBounds_self_of_lt (by simpa using hlt)
  | some p =>
    obtain ⟨j, c0⟩ := p
    obtain ⟨e1, _, e3, L1, L2, e4, e5, e6⟩ := fnd_some cm 0 j c0 hf
    have e5' : L1.length = j := by omega
    have hj : (entL cm 0).toArray[j]? = some { key := .agg (votec x), val := .int .i64 c0, born := j } := by
      rw [List.getElem?_toArray, e4, List.getElem?_append_right (by omega), show j - L1.length = 0 from by omega]; rfl
    have hmod : ∀ f : MapEntry → MapEntry, ((entL cm 0).toArray.modify j f).toList = L1 ++ f { key := .agg (votec x), val := .int .i64 c0, born := j } :: L2 := fun f => by
      rw [← e5'] at e4 ⊢
      exact pairs_mod (es := (entL cm 0).toArray) e4 f
    have hsame : ((entL cm 0).toArray.modify j fun e => { e with key := .agg (votec x) }) = (entL cm 0).toArray := by
      apply Array.ext'
      rw [hmod]; exact e4.symm
    have hput : ∀ c, ((entL cm 0).toArray.modify j fun e => { e with val := .int .i64 c }) = (entL (put cm x c) 0).toArray := fun c => by
      apply Array.ext'
      rw [hmod, (e6 c).1]
    have ep : put cm x (lk cm x) = cm ∨ True := .inr trivial
    have hrow : Obj.map (entL cm 0).toArray cm.length = .map (entL (put cm x c0) 0).toArray (put cm x c0).length := by
      rw [(e6 c0).2]
      congr 1
      apply Array.ext'
      rw [(e6 c0).1]; exact e4
    refine ⟨(j : Nat), h.setIfInBounds b (.map (entL cm 0).toArray cm.length), ?_, ?_, Chg.set rfl, by simp, fun c => ?_⟩
    · simp only [Option.map_some, hj, Option.getD_some, e1, hsame, goInt]
    · unfold CntAt; rw [e1, ← hrow]; exact Array.getElem?_setIfInBounds_self_of_lt hlt
    · have hg : (h.setIfInBounds b (.map (entL cm 0).toArray cm.length))[b]? = some (.map (entL cm 0).toArray cm.length) := Array.getElem?_setIfInBounds_self_of_lt hlt
      refine ⟨(h.setIfInBounds b (.map (entL cm 0).toArray cm.length)).setIfInBounds b (.map (entL (put cm x c) 0).toArray (put cm x c).length), ?_, ?_, Chg.set rfl, by simp⟩
      · simp only [entryStoreA, hg]
        rw [if_pos (by omega)]
        have hi : (entL cm 0).toArray.findIdx? (fun e => (e.born : Int) == ((j : Nat) : Int)) = some j := by
          rw [Array.findIdx?_eq_some_iff_getElem]
          obtain ⟨hj1, hj2⟩ := Array.getElem?_eq_some_iff.1 hj
          refine ⟨hj1, by rw [hj2]; simp, fun i hi => ?_⟩
          have hb := ent_at cm 0 i (by simpa [ent_len] using (Nat.lt_trans hi hj1))
          simp only [List.getElem_toArray, beq_iff_eq]
          intro w; rw [hb] at w; omega
        simp only [hi, hput c, (e6 c).2]
      · unfold CntAt; exact Array.getElem?_setIfInBounds_self_of_lt (by simpa using hlt)
end

end C14
