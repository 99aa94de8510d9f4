/- An abstract machine for Go, part 46: slices.Sort of numbers, in place. -/
import Derived.Test.YtjkcadbblgefdaaGreatDoorBmo
import Derived.Sort.Grow
namespace Go.AM
open Go.RowKit Go.Sort

section
variable {P : Program} {R R' : Ren} {h h' : Heap} {w w1 w2 : World}
theorem grow_old (os : Array Obj) (hw : w2.heap = w1.heap ++ os) {g : Nat} (hg : g < w1.heap.size) : w2.heap[g]? = w1.heap[g]? := by
  rw [hw, Array.getElem?_append, if_pos hg]
/-- Blocks that are laid behind all others, and are not told, change nothing. -/
theorem Sim.grow (s : Sim P R h w R' h' w1) (os : Array Obj) (hw : w2.heap = w1.heap ++ os) (e1 : w2.os = w1.os) (e2 : w2.tape = w1.tape) (e3 : w2.output = w1.output) : Sim P R h w R' h' w2 where
  rel := ⟨s.rel.inj, fun b g hb => by
    obtain ⟨o, o', q1, q2, q3, q4⟩ := s.rel.obj b g hb
    exact ⟨o, o', q1, (grow_old os hw (Array.getElem?_eq_some_iff.1 q2).1).trans q2, q3, q4⟩, s.rel.dead, s.rel.glob⟩
  le := s.le
  hsz := s.hsz
  canon := s.canon
  old := s.old
  os := e1.trans s.os
  tape := e2.trans s.tape
  output := e3.trans s.output
  wsz := by have := s.wsz; rw [hw, Array.size_append]; omega
  conc := fun k hk hn => (grow_old os hw (by have := s.wsz; omega)).trans (s.conc k hk hn)
  newc := s.newc
  shape := fun g hg hn => by rw [grow_old os hw (by have := s.wsz; omega)]; exact s.shape g hg hn
theorem flat_zc_get {xs : List Int} {i : Nat} {v : Value} (hv : (flat zc xs)[i]? = some v) : ∃ x, xs[i]? = some x ∧ v = .int .i64 x := by
  rw [← Array.getElem?_toList, flat_zc, List.getElem?_map] at hv
  cases hq : xs[i]? with
  | none => rw [hq] at hv; cases hv
  | some s => rw [hq] at hv; cases hv; exact ⟨s, rfl, rfl⟩
/-- slices.Sort: the list in order, in its row. -/
theorem sort_soundI {f : FuncId} {e : TypeId}
    (hc : ∀ (blk off cap : Nat) (zs : List Int) (w : World), Holds (Value.int .i64) w blk off zs.toArray → blk < w.heap.size → zs.length < 4611686018427387904 →
      Calls P f #[.slice (some ⟨blk, off, none⟩) zs.length cap] w fun e w' => e = .returned (.tuple #[]) ∧ ∃ k os, w' = Go.Sort.grow (putRow (Value.int .i64) (Go.Sort.ahead w k) blk off (zs.mergeSort fun x y => decide (x ≤ y)).toArray) os)
    (hn : ∀ (p : Option Addr) (cap : Nat) (w : World), Calls P f #[.slice p 0 cap] w fun e w' => e = .returned (.tuple #[]) ∧ w' = w)
    {xs : List Int} {v : Value} (k : OwnAt h e zc xs v) (hlen : xs.length < 4611686018427387904) :
    ∃ h1, SoundCall P f #[v] h (.tuple #[]) h1 ∧ OwnAt h1 e zc (sortZ xs) v ∧ Chg (blk v) h h1 ∧ h1.size = h.size := by
  have none_case : ∀ {a : Option Addr} {c : Nat}, SoundCall P f #[.slice a 0 c] h (.tuple #[]) h := by
    intro a c
    refine sound_of_calls fun R w args' kr ha => ?_
    obtain ⟨x', rfl, hx⟩ := arr_one ha
    have hx' : ∃ p cap, x' = .slice p 0 cap := by
      cases a with
      | none => rw [VR_nilslice] at hx; exact ⟨_, _, hx⟩
      | some a => rw [VR_slice] at hx; obtain ⟨a', c', rfl, _⟩ := hx; exact ⟨_, _, rfl⟩
    obtain ⟨p, cap, rfl⟩ := hx'
    refine (hn p cap w).mono ?_
    rintro e' w' ⟨rfl, rfl⟩
    exact ⟨R, _, rfl, Sim.refl kr, by rw [VR_tuple]; exact ⟨_, rfl, ArrR.empty _⟩⟩
  rcases k with ⟨rfl, rfl⟩ | ⟨b, rfl, rfl, k⟩ | ⟨b, rfl, hne, k⟩
  · exact ⟨h, none_case, .inl ⟨rfl, by simp [sortZ]⟩, Chg.refl h, rfl⟩
  · exact ⟨h, none_case, .inr (.inl ⟨b, rfl, by simp [sortZ], k⟩), Chg.refl h, rfl⟩
  · have hss : sortZ xs = xs.mergeSort fun x y => decide (x ≤ y) := rfl
    have hsl : (sortZ xs).length = xs.length := sortZ_len xs
    have hbl := (Array.getElem?_eq_some_iff.1 k).1
    refine ⟨h.setIfInBounds b (.cells (flat zc (sortZ xs)) e (1, 1)), sound_of_calls fun R w args' kr ha => ?_, .inr (.inr ⟨b, by rw [hsl], fun w => hne (List.eq_nil_of_length_eq_zero (by rw [← hsl, w]; rfl)), set_same rfl k⟩), (Chg.set rfl).weak fun q hq => by subst hq; rfl, by simp⟩
    obtain ⟨x', rfl, hx⟩ := arr_one ha
    rw [VR_slice] at hx
    obtain ⟨a', c', rfl, hq⟩ := hx
    have hdead : R.dead b = false := by
      cases hd : R.dead b with
      | false => rfl
      | true =>
        have q := (kr.dead b hd).2
        simp only [hget, k, Option.some.injEq, deadRow, Obj.cells.injEq] at q
        exact absurd q.2.2 (by decide)
    have hm : R.map b = some a'.block ∧ a'.off = 0 ∧ a'.spot = none := by
      rcases hq with ⟨⟨s1, s2, q⟩, _⟩ | q
      · rcases q with q | ⟨q1, q2⟩
        · rw [hdead] at q; cases q
        · rcases q2 with q2 | q2
          · exact ⟨q1, q2, s2⟩
          · exact absurd (List.eq_nil_of_length_eq_zero q2.1) hne
      · exact absurd (List.eq_nil_of_length_eq_zero q.2.1) hne
    obtain ⟨ab, ao, as⟩ := a'
    simp only at hm
    obtain ⟨hm, rfl, rfl⟩ := hm
    obtain ⟨o, o', w1, w2, w3, w4⟩ := kr.obj b ab hm
    have w1' : h[b]? = some o := w1
    rw [k] at w1'
    cases w1'
    obtain ⟨cs, et, fr, rfl, w5, w6, w7⟩ := w3
    have hsz : (flat zc xs).size = xs.length := by rw [flat_size zc_size, Nat.mul_one]
    have hsz2 : (flat zc (sortZ xs)).size = xs.length := by rw [flat_size zc_size, Nat.mul_one, hsl]
    have hcell : ∀ j, j < xs.length → cs[j]? = some (Value.int .i64 (xs[j]?.getD 0)) := by
      intro j hj
      have q1 : (flat zc xs)[j]? = some (Value.int .i64 xs[j]) := by
        rw [← Array.getElem?_toList, flat_zc, List.getElem?_map, List.getElem?_eq_getElem hj]; rfl
      obtain ⟨v', q2, q3⟩ := w6 j _ q1
      rw [VR_int] at q3
      rw [q2, q3, List.getElem?_eq_getElem hj]; rfl
    have hold : Holds (Value.int .i64) w ab 0 xs.toArray := by
      intro j hj
      have hj' : j < xs.length := by simpa using hj
      refine ⟨?_, ?_⟩
      · simp only [World.cell?, w2, Nat.zero_add, Option.isSome_none, Bool.false_eq_true, if_false]
        rw [hcell j hj', List.getElem?_eq_getElem hj', getElem!_pos _ j hj]
        rfl
      · have q := w7 j (by omega)
        simp only [World.frozen?, w2, Nat.zero_add]
        obtain ⟨f1, f2⟩ := fr
        have q1 : inFr (1, 1) j = false := by simp [inFr]; omega
        rw [q1] at q
        exact q
    refine (hc ab 0 c' xs w hold (kr.lt hm).2 hlen).mono ?_
    rintro e' w' ⟨rfl, kk, os, rfl⟩
    rw [← hss]
    have hput : (putRow (Value.int .i64) (Go.Sort.ahead w kk) ab 0 (sortZ xs).toArray).heap[ab]? = some (.cells (putCells (Value.int .i64) 0 (sortZ xs).toArray cs) et fr) := by
      simp only [putRow, mapBlock, Array.getElem?_modify, if_true]
      rw [show (Go.Sort.ahead w kk).heap[ab]? = w.heap[ab]? from rfl, w2]
      rfl
    have hpc : ∀ i, (putCells (Value.int .i64) 0 (sortZ xs).toArray cs)[i]? = if i < xs.length then (if i < cs.size then some (Value.int .i64 ((sortZ xs)[i]?.getD 0)) else none) else cs[i]? := by
      intro i
      simp only [putCells, Array.getElem?_mapIdx]
      by_cases hi : i < xs.length
      · rw [if_pos hi]
        by_cases hi2 : i < cs.size
        · rw [if_pos hi2, Array.getElem?_eq_getElem hi2, Option.map_some, if_pos ⟨Nat.zero_le _, by simp [hsl, hi]⟩]
          have hi3 : i < (sortZ xs).length := by omega
          rw [getElem!_pos _ (i - 0) (by simpa using hi3), List.getElem?_eq_getElem hi3]; rfl
        · rw [if_neg hi2, Array.getElem?_eq_none (by omega)]; rfl
      · rw [if_neg hi]
        cases cs[i]? with
        | none => rfl
        | some y => rw [Option.map_some, if_neg (by simp [hsl]; omega)]
    have s1 : Sim P R h w R (h.setIfInBounds b (.cells (flat zc (sortZ xs)) e (1, 1))) (putRow (Value.int .i64) (Go.Sort.ahead w kk) ab 0 (sortZ xs).toArray) := by
      have hps : (putCells (Value.int .i64) 0 (sortZ xs).toArray cs).size = cs.size := by simp [putCells]
      refine Sim.put kr hm (o' := .cells (putCells (Value.int .i64) 0 (sortZ xs).toArray cs) et fr) ⟨_, _, _, rfl, by rw [hps]; omega, fun i v hv => ?_, fun i hi => w7 i (by omega)⟩ ⟨by rw [← w4.1]; rfl, fun z r hzr => ?_⟩ hput (fun x hx => ?_) (by simp) rfl rfl rfl (fun hnone => ?_)
      · obtain ⟨x, q1, rfl⟩ := flat_zc_get hv
        have hi := (List.getElem?_eq_some_iff.1 q1).1
        refine ⟨.int .i64 x, ?_, by rw [VR_int]⟩
        rw [hpc, if_pos (by omega), if_pos (by omega), q1]; rfl
      · obtain ⟨⟨c0, e0, q1, q2⟩, c1, e1, f1, q3, q4, q5⟩ := w4.2 z r hzr
        cases q1; cases q3
        exact ⟨⟨_, _, rfl, q2⟩, _, _, _, rfl, by rw [hps]; exact q4, q5⟩
      · simp only [putRow, mapBlock, Array.getElem?_modify]
        rw [if_neg (fun q => hx q.symm)]
        rfl
      · rw [w2]; exact ⟨_, rfl, hps⟩
    exact ⟨R, _, rfl, Sim.grow s1 os rfl rfl rfl rfl, by rw [VR_tuple]; exact ⟨_, rfl, ArrR.empty _⟩⟩
end
end Go.AM
