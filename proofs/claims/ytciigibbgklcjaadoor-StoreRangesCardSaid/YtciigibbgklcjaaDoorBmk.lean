/- An abstract machine for Go, part 36: contracts of the library as facts of the machine: maps.Clone; slices.Sorted over maps.Keys, the keys being texts. -/
import Derived.Test.YtciigibbgklcjaaDoorBmj
import Derived.Sort.KeysCollected
import Derived.Maps.Own
import Derived.Below
namespace Go.AM
open Go.Proofs (encStr)
open Go.RowKit

section
variable {P : Program} {h : Heap}

/-- What Calls says of every world that a canonical heap stands for. -/
theorem sound_of_calls {f : FuncId} {args : Array Value} {v : Value} {h1 : Heap} (hc : ∀ (R : Ren) (w : World) (args' : Array Value), Rel P R (hget h) w → ArrR (VR R) args args' →
    Calls P f args' w fun e w' => ∃ R1 v', e = .returned v' ∧ Sim P R h w R1 h1 w' ∧ VR R1 v v') : SoundCall P f args h v h1 := by
  intro R w args' k ha Q hq n ro
  have c : CallsIn (wideR ro) n P f args' w _ := (callsIn_wide (n := n)).2 (hc R w args' k ha)
  refine c.mono ?_
  rintro e w' ⟨R1, v', rfl, s, hv⟩
  exact hq R1 w' v' s hv
theorem arr_one {R : Ren} {x : Value} {args' : Array Value} (ha : ArrR (VR R) #[x] args') : ∃ x', args' = #[x'] ∧ VR R x x' := by
  have hs : args'.size = 1 := ha.1
  refine ⟨args'[0], ?_, ha.2 0 x _ rfl (by simp [hs])⟩
  apply Array.ext
  · simp [hs]
  · intro i hi hi'
    have : i = 0 := by omega
    subst this; rfl
/-- A map is copied. -/
theorem clone_sound {f : FuncId} (hc : ∀ (b : Nat) (es : Array MapEntry) (ck : Nat) (w : World), w.heap[b]? = some (.map es ck) → Calls P f #[.map (some b)] w fun e w' => e = .returned (.map (some w.heap.size)) ∧ w' = w.alloc (.map es ck))
    {r : Nat} {es : Array MapEntry} {ck : Nat} (hr : h[r]? = some (.map es ck)) : SoundCall P f #[.map (some r)] h (.map (some h.size)) (h.push (.map es ck)) := by
  refine sound_of_calls fun R w args' k ha => ?_
  obtain ⟨x', rfl, hx⟩ := arr_one ha
  rw [VR_map] at hx
  obtain ⟨r', rfl, hb⟩ := hx
  obtain ⟨hm, es', h1, h2, h3, h4⟩ := k.mapObj hb hr
  refine (hc r' es' ck w h1).mono ?_
  rintro e w' ⟨rfl, rfl⟩
  refine ⟨R.bind h.size w.heap.size none, _, rfl, Sim.alloc k (sl := none) ⟨rfl, fun _ _ q => by cases q⟩ ⟨es', rfl, h2, fun i e e' a b => (h3 i e e' a b).mono (Ren.le_bind k _ _)⟩, ?_⟩
  rw [VR_map]
  exact ⟨_, rfl, .inr (by simp [Ren.bind])⟩

/-- The keys of a map, which are texts. -/
structure MapOk (es : Array MapEntry) (ck : Nat) (ks : List ByteArray) : Prop where
  keys : es.toList.map (·.key) = ks.map Value.string
  small : ∀ s ∈ ks, s.size ≤ maxLen
  apart : ks.Nodup
  born : ∀ x ∈ es.toList, x.born < ck
  borns : (es.toList.map (·.born)).Nodup
  few : ks.length ≤ 1000000
def bytesOf (s : ByteArray) : List UInt8 := s.data.toList
/-- Texts in order. -/
def sortK (ks : List ByteArray) : List ByteArray := ((ks.map bytesOf).mergeSort leB).map fun l => ⟨l.toArray⟩
theorem sortK_bytes (ks : List ByteArray) : (sortK ks).map bytesOf = (ks.map bytesOf).mergeSort leB := by
  simp [sortK, bytesOf, Function.comp_def]
theorem sortK_len (ks : List ByteArray) : (sortK ks).length = ks.length := by simp [sortK]
theorem encStr_bytes (s : ByteArray) : encStr (bytesOf s) = .string s := by
  simp [encStr, bytesOf]

theorem entries_same {R : Ren} {es es' : Array MapEntry} (hs : es'.size = es.size) (hr : ∀ (i : Nat) (e e' : MapEntry), es[i]? = some e → es'[i]? = some e' → EntR R e e') {ks : List ByteArray} (hk : es.toList.map (·.key) = ks.map Value.string) :
    es'.toList.map (·.key) = ks.map Value.string ∧ es'.toList.map (·.born) = es.toList.map (·.born) := by
  have key : ∀ i : Nat, (es'.toList.map (·.key))[i]? = (es.toList.map (·.key))[i]? ∧ (es'.toList.map (·.born))[i]? = (es.toList.map (·.born))[i]? := by
    intro i
    simp only [List.getElem?_map, Array.getElem?_toList]
    by_cases hi : i < es.size
    · have h1 : es[i]? = some es[i] := by simp [hi]
      have h2 : es'[i]? = some (es'[i]'(by omega)) := by simp [hs, hi]
      have q := hr i _ _ h1 h2
      rw [h1, h2]
      have hkey : (es.toList.map (·.key))[i]? = some es[i].key := by simp [hi]
      rw [hk, List.getElem?_map] at hkey
      cases hks : ks[i]? with
      | none => rw [hks] at hkey; cases hkey
      | some s =>
        rw [hks] at hkey
        simp only [Option.map_some, Option.some.injEq] at hkey
        have hq := q.key
        rw [← hkey, VR_string] at hq
        simp only [Option.map_some]
        exact ⟨by rw [hq, hkey], by rw [q.born]⟩
    · rw [Array.getElem?_eq_none (by omega), Array.getElem?_eq_none (by omega)]
      exact ⟨rfl, rfl⟩
  exact ⟨by rw [← hk]; exact List.ext_getElem? fun i => (key i).1, List.ext_getElem? fun i => (key i).2⟩

/-- A reader that reads every value alike. -/
def anyR (_ : Value) : Option (DataW Unit × List MemPlace) := some (.lit (.bool true), [])
theorem read_keys {k : TypeId} (hk : P.underlying k = some .string) {es : Array MapEntry} {ck : Nat} {ks : List ByteArray} (m : MapOk es ck ks) : WideElems.Fit P k anyR es ck := by
  refine ⟨?_, ⟨m.born, m.borns, ?_⟩, ?_⟩
  · have := congrArg List.length m.keys
    simp only [List.length_map, Array.length_toList] at this
    have := m.few
    unfold maxLen
    omega
  · rw [m.keys]
    exact m.apart.map _ fun a b e => by simpa using e
  · intro x hx
    have hm : x.key ∈ es.toList.map (·.key) := List.mem_map_of_mem hx
    rw [m.keys] at hm
    obtain ⟨s, hs, e⟩ := List.mem_map.1 hm
    refine ⟨(.string s.data.toList, .lit (.bool true)), ?_⟩
    unfold WideElems.rd
    rw [← e]
    simp only [keyOf, hk, mapKey, anyR, m.small s hs, if_true, Option.bind_some, Option.map_some]
theorem perm_keys {k : TypeId} (hk : P.underlying k = some .string) {es : Array MapEntry} {ck : Nat} {ks : List ByteArray} (m : MapOk es ck ks) :
    (strKeys (H := Unit) (.map ((es.toList.map (WideElems.rg P k anyR)).foldr DataW.insert []))).Perm (ks.map bytesOf) := by
  show (((es.toList.map (WideElems.rg P k anyR)).foldr DataW.insert []).map fun p => strOf p.1).Perm _
  refine ((WideShapes.sorted_perm _).map _).trans ?_
  rw [List.map_map]
  have e : es.toList.map ((fun p : Lit × DataW Unit => strOf p.1) ∘ WideElems.rg P k anyR) = (es.toList.map (·.key)).map fun v => match v with | .string s => bytesOf s | _ => [] := by
    rw [List.map_map]
    refine List.map_congr_left fun x hx => ?_
    have hm : x.key ∈ es.toList.map (·.key) := List.mem_map_of_mem hx
    rw [m.keys] at hm
    obtain ⟨s, hs, e⟩ := List.mem_map.1 hm
    simp only [Function.comp_apply, WideElems.rg, WideElems.rd, ← e, keyOf, hk, mapKey, anyR, m.small s hs, if_true, Option.bind_some, Option.map_some, Option.getD_some, strOf, bytesOf]
  rw [e, m.keys, List.map_map]
  exact List.Perm.of_eq (List.map_congr_left fun s _ => rfl)

def strc (s : ByteArray) : Array Value := #[.string s]
theorem strc_size (s : ByteArray) : (strc s).size = 1 := rfl
theorem flat_strc (l : List ByteArray) : (flat strc l).toList = l.map Value.string := by
  induction l with
  | nil => rfl
  | cons a l ih => simp [flat, strc, ih] at *
/-- slices.Sorted over maps.Keys: the keys in order. -/
theorem sorted_sound {f g : FuncId} {k e t : TypeId} (hk : P.underlying k = some .string) (hz : tsz P e = 1)
    (hc : ∀ (w : World) (Bm b nn : Nat) (D0 : DataW Unit) (R : Value → Option (DataW Unit × List MemPlace)), w.cell? ⟨Bm, 0, none⟩ = some (.map (some b)) → Bm < w.heap.size → w.ownsMap P k R b nn D0 → Maps.size D0 ≤ 1000000 →
      Calls P f #[.func (.func g) #[] #[.pointer (some ⟨Bm, 0, none⟩)]] w fun e' w' => ∃ (v : Value) (ss : List (List UInt8)), e' = .returned v ∧ ss.Perm (strKeys D0) ∧ w'.ownsRow w.heap.size e 1 v ss.length ((ss.mergeSort leB).map encStr) ∧ (v = .slice none 0 0 ↔ ss = []) ∧ Below w.heap.size w w')
    {b r : Nat} {es : Array MapEntry} {ck : Nat} {ks : List ByteArray} (hb : h[b]? = some (.cells #[.map (some r)] t (0, 0))) (hr : h[r]? = some (.map es ck)) (m : MapOk es ck ks) :
    ∃ v h1, SoundCall P f #[.func (.func g) #[] #[.pointer (some ⟨b, 0, none⟩)]] h v h1 ∧ OwnAt h1 e strc (sortK ks) v ∧ Ext h h1 ∧ ∀ z, blk v z → h.size ≤ z := by
  have base : ∀ (R : Ren) (w : World) (args' : Array Value), Rel P R (hget h) w → ArrR (VR R) #[.func (.func g) #[] #[.pointer (some ⟨b, 0, none⟩)]] args' →
      Calls P f args' w fun e' w' => ∃ (v : Value) (ss : List (List UInt8)), e' = .returned v ∧ ss.Perm (ks.map bytesOf) ∧ w'.ownsRow w.heap.size e 1 v ss.length ((ss.mergeSort leB).map encStr) ∧ (v = .slice none 0 0 ↔ ss = []) ∧ Below w.heap.size w w' := by
    intro R w args' kr ha
    obtain ⟨x', rfl, hx⟩ := arr_one ha
    rw [VR_func] at hx
    obtain ⟨fn', a', c', rfl, h1, h2, h3⟩ := hx
    have e1 : fn' = .func g := h1
    have e2 : a' = #[] := Array.eq_empty_of_size_eq_zero h2.1
    subst e1; subst e2
    obtain ⟨p', rfl, hp⟩ := arr_one h3
    rw [VR_ptr] at hp
    obtain ⟨a, rfl, s1, s2, hp⟩ := hp
    have hm : R.map b = some a.block ∧ a.off = 0 := by
      rcases hp with q | q
      · have := (kr.dead b q).2
        simp only [hget, hb, deadRow] at this
        cases this
      · exact q
    obtain ⟨o, o', w1, w2, w3, _⟩ := kr.obj b a.block hm.1
    have w1' : h[b]? = some o := w1
    rw [hb] at w1'
    cases w1'
    obtain ⟨c', et, fr', rfl, w4, w5, _⟩ := w3
    obtain ⟨mv, w6, w7⟩ := w5 0 (.map (some r)) rfl
    rw [VR_map] at w7
    obtain ⟨r', rfl, hbr⟩ := w7
    obtain ⟨_, es', q1, q2, q3, _⟩ := kr.mapObj hbr hr
    obtain ⟨g1, g2⟩ := entries_same q2 q3 m.keys
    have m' : MapOk es' ck ks := ⟨g1, m.small, m.apart, fun x hx => by
      have hx' : x.born ∈ es'.toList.map (·.born) := List.mem_map_of_mem hx
      rw [g2] at hx'
      obtain ⟨y, hy, e⟩ := List.mem_map.1 hx'
      rw [← e]; exact m.born y hy, by rw [g2]; exact m.borns, m.few⟩
    have ea : a = ⟨a.block, 0, none⟩ := by cases a; simp_all
    rw [ea]
    have hcell : w.cell? ⟨a.block, 0, none⟩ = some (.map (some r')) := by
      simp [World.cell?, w2, w6]
    have hlen : es'.size = ks.length := by
      have := congrArg List.length g1
      simpa using this
    refine (hc w a.block r' es'.size _ anyR hcell (Array.getElem?_eq_some_iff.1 w2).1 ⟨es', ck, q1, read_keys hk m', Nat.le_refl _, rfl⟩ ?_).mono ?_
    · show ((es'.toList.map (WideElems.rg P k anyR)).foldr DataW.insert []).length ≤ 1000000
      rw [length_sorted, List.length_map, Array.length_toList, hlen]
      exact m.few
    · rintro e' w' ⟨v, ss, rfl, hp2, rest⟩
      exact ⟨v, ss, rfl, hp2.trans (perm_keys hk m'), rest⟩
  by_cases h0 : ks = []
  · subst h0
    refine ⟨.slice none 0 0, h, sound_of_calls fun R w args' kr ha => (base R w args' kr ha).mono ?_, .inl ⟨rfl, by simp [sortK]⟩, Ext.refl h, fun z hz => hz.elim⟩
    rintro e' w' ⟨v, ss, rfl, hp, _, hn, hbel⟩
    have hss : ss = [] := by simpa using hp
    refine ⟨R, .slice none 0 0, by rw [hn.2 hss], ⟨⟨kr.inj, fun b g hb' => ?_, kr.dead, kr.glob⟩, .refl R, Nat.le_refl _, fun _ _ _ => rfl, fun _ _ e => ⟨e, rfl⟩, hbel.os, hbel.tape, hbel.output, hbel.size, fun g hg _ => hbel.block g hg, fun _ _ e => .inl e, fun g hg _ => by rw [hbel.block g hg]; exact sameShape.refl _⟩, by simp⟩
    obtain ⟨o, o', h1', h2, h3⟩ := kr.obj b g hb'
    exact ⟨o, o', h1', (hbel.block g (kr.lt hb').2).trans h2, h3⟩
  · have hn0 : sortK ks ≠ [] := fun w => h0 (List.eq_nil_of_length_eq_zero (by rw [← sortK_len, w]; rfl))
    refine ⟨.slice (some ⟨h.size, 0, none⟩) (sortK ks).length (sortK ks).length, h.push (.cells (flat strc (sortK ks)) e (1, 1)), sound_of_calls fun R w args' kr ha => (base R w args' kr ha).mono ?_, .inr (.inr ⟨h.size, rfl, hn0, by simp⟩), Ext.push _ _, fun z hz => by cases hz; exact Nat.le_refl _⟩
    rintro e' w' ⟨v, ss, rfl, hp, hrow, hn, hbel⟩
    have hsort : ss.mergeSort leB = (sortK ks).map bytesOf := by rw [sortK_bytes]; exact mergeSort_of_perm hp
    have hlen : ss.length = (sortK ks).length := by rw [sortK_len, hp.length_eq, List.length_map]
    rcases hrow.2 with ⟨_, hz0⟩ | ⟨gb, cap, cur, rfl, hbase, hgb, r1, r2, r3, r4⟩
    · exact absurd (List.eq_nil_of_length_eq_zero (hlen.symm.trans hz0)) hn0
    · rw [hsort, hlen, List.map_map] at r4
      have r4' : cur.toList.take (sortK ks).length = (sortK ks).map Value.string := by
        rw [Nat.mul_one] at r4
        rw [r4]
        exact List.map_congr_left fun s _ => encStr_bytes s
      have hcur : ∀ i, i < (sortK ks).length → cur[i]? = some (Value.string ((sortK ks)[i]?.getD .empty)) := by
        intro i hi
        have := congrArg (fun l : List Value => l[i]?) r4'
        simp only [List.getElem?_take, if_pos hi, List.getElem?_map, Array.getElem?_toList] at this
        rw [this, List.getElem?_eq_getElem hi]
        rfl
      have hfl : ∀ i v, (flat strc (sortK ks))[i]? = some v → i < (sortK ks).length ∧ v = Value.string ((sortK ks)[i]?.getD .empty) := by
        intro i v hv
        rw [← Array.getElem?_toList, flat_strc, List.getElem?_map] at hv
        cases hq : (sortK ks)[i]? with
        | none => rw [hq] at hv; cases hv
        | some s => rw [hq] at hv; cases hv; exact ⟨(List.getElem?_eq_some_iff.1 hq).1, rfl⟩
      have hsz : (flat strc (sortK ks)).size = (sortK ks).length := by rw [flat_size strc_size, Nat.mul_one]
      refine ⟨R.bind h.size gb (some (1, cur.size)), _, rfl, Sim.bindNew kr (o' := .cells cur e (0, 0)) ⟨rfl, fun z q hq => ?_⟩ (fun x hx => by have := (kr.lt hx).2; omega) hgb (fun x y hx => hbel.block y (kr.lt hx).2) ⟨cur, e, (0, 0), rfl, by rw [hsz]; omega, fun i v hv => ?_, fun i hi => ?_⟩
        hbel.os hbel.tape hbel.output hbel.size (fun x hx _ => hbel.block x hx) hbase, ?_⟩
      · cases hq
        exact ⟨⟨_, _, rfl, hz.symm⟩, cur, e, (0, 0), rfl, rfl, fun i hi => by simp [inFr]⟩
      · obtain ⟨w1, rfl⟩ := hfl i v hv
        exact ⟨_, hcur i w1, by rw [VR_string]⟩
      · simp [inFr]; omega
      · rw [VR_slice, hlen]
        refine ⟨⟨gb, 0, none⟩, cap, rfl, .inl ⟨⟨rfl, rfl, .inr ⟨by simp [Ren.bind], .inl rfl⟩⟩, .inr (.inl ⟨1, cur.size, by simp [Ren.bind], fun w => hn0 (List.eq_nil_of_length_eq_zero w.1), by rw [← hlen]; omega, by simp only [Nat.zero_add]; omega⟩)⟩⟩
end
end Go.AM
