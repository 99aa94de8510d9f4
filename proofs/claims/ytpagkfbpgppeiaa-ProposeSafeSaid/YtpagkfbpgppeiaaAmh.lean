/- An abstract machine for Go, part 8: append, make, maps. -/
import Derived.Test.YtpagkfbpgppeiaaAmg
namespace Go.AM

section
variable {P : Program} {R : Ren} {h h' : Heap} {w w' : World}

theorem append_run_room {t ty e : TypeId} {i : TypeInfo} (ht : P.underlying t = some (.slice e)) (hi : P.info? e = some i) {a : Addr} {n cap m : Nat} {x : Value}
    (hlen : Builtin.lenOf x = pure m) {news : Array Value} (hn : (Builtin.firstCells i.size m x).run P w = .ok news w) (hroom : n + m ≤ cap)
    (hst : (storeCells (a.add (n * i.size)) news.toList 0).run P w = .ok () w') :
    (Builtin.append_ #[t, t] ty #[.slice (some a) n cap, x]).run P w = .ok (.slice (some a) (n + m) cap) w' := by
  simp [Builtin.append_, run_underlying ht, sizeOf, typeInfo, hi, hlen, hroom, hn, hst]

theorem append_run_nil {t ty e : TypeId} {i : TypeInfo} (ht : P.underlying t = some (.slice e)) (hi : P.info? e = some i) {x : Value}
    (hlen : Builtin.lenOf x = pure 0) {news : Array Value} (hn : (Builtin.firstCells i.size 0 x).run P w = .ok news w) :
    (Builtin.append_ #[t, t] ty #[.slice none 0 0, x]).run P w = .ok (.slice none 0 0) w := by
  simp [Builtin.append_, run_underlying ht, sizeOf, typeInfo, hi, hlen, hn]

theorem append_run_grow {t ty e : TypeId} {i : TypeInfo} {z : Value} (ht : P.underlying t = some (.slice e)) (hi : P.info? e = some i) (hz : i.zero = some z) {b : Option Addr} {n cap m : Nat} {x : Value}
    (hlen : Builtin.lenOf x = pure m) {olds news : Array Value} (ho : (Builtin.firstCells i.size n (.slice b n cap)).run P w.drew = .ok olds w.drew)
    (hn : (Builtin.firstCells i.size m x).run P w.drew = .ok news w.drew) (hgt : cap < n + m) (h63 : n + m ≤ maxLen) (hb : (n + m) * i.bytes ≤ 140737488355328) :
    (Builtin.append_ #[t, t] ty #[.slice b n cap, x]).run P w =
      .ok (.slice (some ⟨w.heap.size, 0, none⟩) (n + m) (grownCap w (n + m) cap e))
        (w.drew.alloc (.cells (olds ++ news ++ Builtin.zeroCells z.cells (grownCap w (n + m) cap e - (n + m))) e)) := by
  have hn0 : ¬ (n + m ≤ cap) := by omega
  have h63' : ¬ (9223372036854775807 < ((n : Int) + (m : Int))) := by simp only [maxLen] at h63; omega
  have h48' : ¬ (281474976710656 < Builtin.nextslicecap (n + m) cap * i.bytes) := by have := growslice_fits (by omega) hb; omega
  simp [Builtin.append_, run_underlying ht, sizeOf, typeInfo, zeroValue, hi, hz, hlen, hn0, h63', h48', Question.forced, ho, hn, newRow, grownCap]

/-- The cells of the second operand of an append. -/
def newsA (h : Heap) (size : Nat) (xb : Option Addr) (m : Nat) : Option (Array Value) :=
  match xb with
  | some b => loadN h b (m * size)
  | none => if m = 0 then some #[] else none

def appendA (P : Program) (h : Heap) (argTypes : Array TypeId) (args : Array Value) : Option (Value × Heap) :=
  match argTypes.toList, args.toList with
  | [st, xt], [.slice base n cap, .slice xb m _] =>
    if st ≠ xt then none else
    match P.underlying st with
    | some (.slice e) =>
      match P.info? e, zeroA P e with
      | some i, some z =>
        if i.size = 0 ∨ z.cells.size ≠ i.size then none else
        match newsA h i.size xb m with
        | none => none
        | some news =>
          match base with
          | none => if n ≠ 0 ∨ cap ≠ 0 then none else if m = 0 then some (.slice none 0 0, h) else
              if m * i.bytes ≤ 140737488355328 ∧ m ≤ maxLen then some (.slice (some ⟨h.size, 0, none⟩) m m, h.push (.cells news e (1, 1))) else none
          | some a =>
            if deadAt h a.block = true then none else
            if n + m ≤ cap then (storeN h (a.add (n * i.size)) news.toList).map fun h' => (.slice (some a) (n + m) cap, h')
            else if m ≠ 0 ∧ (n + m) * i.bytes ≤ 140737488355328 ∧ n + m ≤ maxLen then
              match loadN h a (n * i.size) with
              | none => none
              | some old =>
                match slackElem h a.block with
                | none => some (.slice (some ⟨h.size, 0, none⟩) (n + m) (n + m), h.push (.cells (old ++ news) e (1, 1)))
                | some e0 =>
                  if cap = 0 ∧ a.off = 0 then some (.slice (some ⟨h.size, 0, none⟩) (n + m) (n + m), h.push (.cells (old ++ news) e (1, 1)))
                  else if a.off = 0 ∧ tsz P e0 = i.size ∧ news.toList.all (·.oneCell') = true then some (.slice (some ⟨h.size, 0, none⟩) (n + m) (n + m), (h.setIfInBounds a.block deadRow).push (.cells (old ++ news) e (1, 1)))
                  else none
            else none
      | _, _ => none
    | _ => none
  | _, _ => none

theorem newsA_sim (k : Rel P R (hget h) w) {size m c : Nat} {xb : Option Addr} {x' : Value} (hx : VR R (.slice xb m c) x') {news : Array Value} (hn : newsA h size xb m = some news) :
    Builtin.lenOf x' = pure m ∧ ∃ news', (∀ w2 : World, w2.heap = w.heap → (Builtin.firstCells size m x').run P w2 = .ok news' w2) ∧ ArrR (VR R) news news' ∧ news.size = m * size := by
  unfold newsA at hn
  split at hn
  · rename_i b
    rw [VR_slice] at hx
    obtain ⟨a', c', rfl, hq⟩ := hx
    refine ⟨rfl, ?_⟩
    by_cases h0 : m = 0
    · subst h0
      simp only [Nat.zero_mul] at hn ⊢
      have : news = #[] := by
        unfold loadN at hn
        split at hn
        · split at hn
          · cases hn; simp; omega
          · cases hn
        · cases hn
      subst this
      exact ⟨#[], fun _ _ => by simp [Builtin.firstCells, loadCells, loadCellsFrom], ArrR.empty _, rfl⟩
    · obtain ⟨cs', h1, h2, h3⟩ := loadN_sim (P := P) k ((hq.resolve_right fun g => h0 g.2.1).1.ar (by omega)) hn
      exact ⟨cs', fun w2 hw2 => by simpa [Builtin.firstCells] using h1 w2 hw2, h2, h3⟩
  · split at hn
    · rename_i h0
      cases hn; subst h0
      rw [VR_nilslice] at hx; subst hx
      exact ⟨rfl, #[], fun _ _ => by simp [Builtin.firstCells], ArrR.empty _, by simp⟩
    · cases hn

/-- What a new row of a grown slice is, on both sides. -/
theorem grown_obj {cs cs' tail : Array Value} (hc : ArrR (VR R) cs cs') (e : TypeId) : ObjR R (.cells cs e (1, 1)) (.cells (cs' ++ tail) e (0, 0)) := by
  refine ⟨_, _, _, rfl, by simp [hc.1], fun i v hv => ?_, fun i _ => by simp [inFr]; omega⟩
  obtain ⟨v', h1, h2⟩ := hc.get hv
  have : i < cs'.size := (Array.getElem?_eq_some_iff.1 h1).1
  exact ⟨v', by rw [Array.getElem?_append_left this]; exact h1, h2⟩

theorem grown_slack {cs row : Array Value} {e : TypeId} {fr : Nat × Nat} (hf : ∀ i, i < row.size → inFr fr i = false) : SlackOk P (some (tsz P e, row.size)) (.cells cs e (1, 1)) (.cells row e fr) :=
  ⟨by simp [isSlack], fun z r q => by cases q; exact ⟨⟨_, _, rfl, rfl⟩, _, _, _, rfl, rfl, hf⟩⟩

theorem size_zeroCells' (z : Array Value) (n : Nat) : (Builtin.zeroCells z n).size = n * z.size := by simp [Builtin.zeroCells]

theorem append_grow_sim (k : Rel P R (hget h) w) {t ty e : TypeId} {i : TypeInfo} {z : Value} (ht : P.underlying t = some (.slice e)) (hi : P.info? e = some i) (hz : i.zero = some z) (hs0 : i.size ≠ 0)
    {b : Option Addr} {n cap m : Nat} {x' : Value} {olds news olds' news' : Array Value}
    (hlen : Builtin.lenOf x' = pure m) (ho : (Builtin.firstCells i.size n (.slice b n cap)).run P w.drew = .ok olds' w.drew)
    (hn : (Builtin.firstCells i.size m x').run P w.drew = .ok news' w.drew) (hro : ArrR (VR R) olds olds') (hrn : ArrR (VR R) news news') (hso : olds.size = n * i.size) (hsn : news.size = m * i.size)
    (hgt : cap < n + m) (h63 : n + m ≤ maxLen) (hb : (n + m) * i.bytes ≤ 140737488355328) (hzs : z.cells.size = i.size) :
    StepSim P R h w (Builtin.append_ #[t, t] ty #[.slice b n cap, x']) (.slice (some ⟨h.size, 0, none⟩) (n + m) (n + m)) (h.push (.cells (olds ++ news) e (1, 1))) := by
  have hrun := append_run_grow (ty := ty) ht hi hz hlen ho hn hgt h63 hb
  have hge := grownCap_ge w (n + m) cap e
  have kd : Rel P R (hget h) w.drew := k.of_heap rfl
  have hobj : ∀ R', R.le R' → ObjR R' (.cells (olds ++ news) e (1, 1)) (.cells (olds' ++ news' ++ Builtin.zeroCells z.cells (grownCap w (n + m) cap e - (n + m))) e (0, 0)) := fun R' hl => grown_obj ((hro.append hrn).monoR hl) e
  have hrs : (olds' ++ news' ++ Builtin.zeroCells z.cells (grownCap w (n + m) cap e - (n + m))).size = grownCap w (n + m) cap e * i.size := by
    simp only [Array.size_append, size_zeroCells', hro.1, hrn.1, hso, hsn, hzs, ← Nat.add_mul]
    congr 1; omega
  generalize olds' ++ news' ++ Builtin.zeroCells z.cells (grownCap w (n + m) cap e - (n + m)) = row at hrun hobj hrs
  have hsl : SlackOk P (some (tsz P e, row.size)) (.cells (olds ++ news) e (1, 1)) (.cells row e (0, 0)) := grown_slack fun i _ => by simp [inFr]
  have hle := Ren.le_bind kd w.heap.size (some (tsz P e, row.size))
  have hsim := Sim.alloc kd hsl (hobj _ hle)
  refine ⟨_, _, _, hrun, ?_, (Sim.same (w' := w.drew) k rfl rfl rfl rfl).trans hsim⟩
  rw [VR_slice]
  have htz : tsz P e = i.size := by simp [tsz, hi]
  refine ⟨_, _, rfl, .inl ⟨⟨rfl, rfl, .inr ⟨by simp [Ren.bind], .inl rfl⟩⟩, .inr (.inl ⟨tsz P e, row.size, by simp [Ren.bind], by omega, hge, ?_⟩)⟩⟩
  rw [hrs, htz]; simp
theorem loadN_inv {a : Addr} {n : Nat} {cs : Array Value} (hl : loadN h a n = some cs) :
    ∃ c e fr, h[a.block]? = some (.cells c e fr) ∧ a.spot = none ∧ a.off + n ≤ c.size ∧ cs = c.extract a.off (a.off + n) := by
  unfold loadN at hl
  split at hl
  · rename_i c e fr hc
    split at hl
    · rename_i hh; cases hl; exact ⟨c, e, fr, hc, hh.1, hh.2, rfl⟩
    · cases hl
  · cases hl

theorem append_kill_sim (k : Rel P R (hget h) w) {t ty e : TypeId} {i : TypeInfo} {z : Value} (ht : P.underlying t = some (.slice e)) (hi : P.info? e = some i) (hz : i.zero = some z) (hs0 : i.size ≠ 0)
    {a a' : Addr} {n cap cap' m : Nat} {x' : Value} {olds news olds' news' : Array Value} (ha : R.map a.block = some a'.block) (ha0 : a.off = 0) (ha0' : a'.off = 0) (has' : a'.spot = none)
    {e0 : TypeId} (hse : slackElem h a.block = some e0) (hse2 : tsz P e0 = i.size) (hroom : ∀ r, R.slack a.block = some (tsz P e0, r) → cap' * tsz P e0 ≤ r ∨ cap' = cap)
    (hlen : Builtin.lenOf x' = pure m) (ho : (loadCells a' (n * i.size)).run P w = .ok olds' w) (hod : (loadCells a' (n * i.size)).run P w.drew = .ok olds' w.drew)
    (hnr : (Builtin.firstCells i.size m x').run P w = .ok news' w)
    (hn : (Builtin.firstCells i.size m x').run P w.drew = .ok news' w.drew) (hro : ArrR (VR R) olds olds') (hrn : ArrR (VR R) news news') (hso : olds.size = n * i.size) (hsn : news.size = m * i.size)
    (hold : loadN h a (n * i.size) = some olds) (hone : news.toList.all (·.oneCell') = true)
    (hgt : cap < n + m) (h63 : n + m ≤ maxLen) (hb : (n + m) * i.bytes ≤ 140737488355328) (hzs : z.cells.size = i.size) :
    StepSim P R h w (Builtin.append_ #[t, t] ty #[.slice (some a') n cap', x']) (.slice (some ⟨h.size, 0, none⟩) (n + m) (n + m)) ((h.setIfInBounds a.block deadRow).push (.cells (olds ++ news) e (1, 1))) := by
  have htz : tsz P e = i.size := by simp [tsz, hi]
  obtain ⟨_, hsl⟩ := slack_map k ha
  obtain ⟨r, c', e', fr', hr1, hr2, hr3, hr4⟩ := hsl e0 hse
  have hslA : R.slack a.block ≠ none := by rw [hr1]; simp
  have hle0 := Ren.le_kill R a.block
  have hAlt := (k.lt ha).1
  have kk := k.kill hAlt
  by_cases hroomc : n + m ≤ cap'
  · -- there is room behind the row
    have hr5 : cap' * i.size ≤ c'.size := by
      rcases hroom r hr1 with q | q
      · rw [hse2] at q; omega
      · omega
    have hone' : ∀ v ∈ news'.toList, v.oneCell' = true := by
      intro v' hv'
      obtain ⟨j, hj, ej⟩ := List.mem_iff_getElem.1 hv'
      have hj' : j < news'.size := by simpa using hj
      have hj0 : j < news.size := by rw [← hrn.1]; exact hj'
      have := hrn.2 j news[j] v' (by simp [hj0]) (by simp [hj']; simpa using ej)
      exact this.oneCell (List.all_eq_true.1 hone _ (by simp))
    have hnm : n * i.size + m * i.size ≤ cap' * i.size := by rw [← Nat.add_mul]; exact Nat.mul_le_mul_right _ hroomc
    have hnl : news'.toList.length = m * i.size := by simp [hrn.1, hsn]
    have hadd : a'.add (n * i.size) = ⟨a'.block, n * i.size, none⟩ := by rw [addr_add a' has', ha0', Nat.zero_add]
    obtain ⟨w', g1, g2, g3, g4, g5, g6, g7⟩ := storeCells_run (P := P) (a'.add (n * i.size)) (by rw [hadd]) news'.toList 0 w c' e' fr' (by rw [hadd]; exact hr2)
      (by rw [hadd]; simp only [Nat.add_zero]; omega) (fun j _ hj => hr4 j (by rw [hadd] at hj; simp only [Nat.add_zero] at hj; omega)) hone'
    have hrun := append_run_room (P := P) (t := t) (ty := ty) ht hi hlen hnr hroomc g1
    rw [hadd] at g2 g3
    simp only [Nat.add_zero] at g2 g3
    have hsl2 : SlackOk P (some (tsz P e, (splice c' (n * i.size) news'.toList).size)) (.cells (olds ++ news) e (1, 1)) (.cells (splice c' (n * i.size) news'.toList) e' fr') :=
      ⟨by simp [isSlack], fun z r q => by cases q; exact ⟨⟨_, _, rfl, rfl⟩, _, _, _, rfl, rfl, fun j hj => hr4 j (by rw [size_splice] at hj; omega)⟩⟩
    have hle := Ren.le_bind kk a'.block (some (tsz P e, (splice c' (n * i.size) news'.toList).size))
    have hsz' : (h.setIfInBounds a.block deadRow).size = h.size := by simp
    rw [hsz'] at hle
    have hobj : ObjR ((R.kill a.block).bind h.size a'.block (some (tsz P e, (splice c' (n * i.size) news'.toList).size))) (.cells (olds ++ news) e (1, 1)) (.cells (splice c' (n * i.size) news'.toList) e' fr') := by
      refine ⟨_, _, _, rfl, by rw [size_splice, Array.size_append]; omega, ?_, fun j hj => ?_⟩
      · intro j v hv
        rw [splice_get _ _ _ _ (by omega)]
        rw [Array.getElem?_append] at hv
        split at hv
        · rename_i hj
          rw [if_neg (by omega)]
          obtain ⟨c0, e2, fr2, hc0, hsp0, hsz0, rfl⟩ := loadN_inv hold
          rw [Array.getElem?_extract] at hv
          rcases k.row (a := a) (a' := a') ⟨hsp0, has', .inr ⟨ha, by omega⟩⟩ hc0 with q | ⟨c1, e1, f1, q1, q2, q3, q4, q5, _⟩
          · subst q
            simp at hv
          · rw [hr2] at q3
            cases q3
            split at hv
            · obtain ⟨v', u1, u2⟩ := q5 _ _ hv
              rw [ha0, Nat.zero_add] at u1
              exact ⟨v', u1, (u2.mono hle0).mono hle⟩
            · cases hv
        · rename_i hj
          have hjl : j - olds.size < news.size := (Array.getElem?_eq_some_iff.1 hv).1
          rw [if_pos (by omega)]
          obtain ⟨v', q1, q2⟩ := hrn.get hv
          exact ⟨v', by rw [hso] at q1; simpa using q1, (q2.mono hle0).mono hle⟩
      · rw [Array.size_append] at hj
        rw [hr4 j (by omega)]; simp [inFr]; omega
    have hsim := Sim.regrow (w' := w') k ha hslA hsl2 (.inl rfl) g2 (fun x hx _ => g3 x hx) hobj g5 g6 g7 (by omega)
    refine ⟨_, _, _, hrun, ?_, hsim⟩
    rw [VR_slice]
    refine ⟨_, _, rfl, .inl ⟨⟨rfl, has', .inr ⟨by simp [Ren.bind], .inl (by simpa using ha0')⟩⟩, .inr (.inl ⟨_, _, by simp [Ren.bind]; exact ⟨rfl, rfl⟩, fun q => by omega, hroomc, ?_⟩)⟩⟩
    rw [size_splice, htz]; simp only; omega
  · -- there is none: a new row
    have hrun := append_run_grow (ty := ty) (b := some a') ht hi hz hlen (by simpa [Builtin.firstCells] using hod) hn (by omega : cap' < n + m) h63 hb
    have hge := grownCap_ge w (n + m) cap' e
    have hobj : ∀ R', R.le R' → ObjR R' (.cells (olds ++ news) e (1, 1)) (.cells (olds' ++ news' ++ Builtin.zeroCells z.cells (grownCap w (n + m) cap' e - (n + m))) e (0, 0)) := fun R' hl => grown_obj ((hro.append hrn).monoR hl) e
    have hrs : (olds' ++ news' ++ Builtin.zeroCells z.cells (grownCap w (n + m) cap' e - (n + m))).size = grownCap w (n + m) cap' e * i.size := by
      simp only [Array.size_append, size_zeroCells', hro.1, hrn.1, hso, hsn, hzs, ← Nat.add_mul]
      congr 1; omega
    generalize olds' ++ news' ++ Builtin.zeroCells z.cells (grownCap w (n + m) cap' e - (n + m)) = row at hrun hobj hrs
    have hsl2 : SlackOk P (some (tsz P e, row.size)) (.cells (olds ++ news) e (1, 1)) (.cells row e (0, 0)) := grown_slack fun i _ => by simp [inFr]
    have hle := Ren.le_bind kk w.heap.size (some (tsz P e, row.size))
    have hsz' : (h.setIfInBounds a.block deadRow).size = h.size := by simp
    rw [hsz'] at hle
    have hsim := Sim.regrow (w' := w.drew.alloc (.cells row e)) k ha hslA hsl2 (.inr rfl) (World.alloc_heap_new w.drew _) (fun x _ hx => heap_alloc_old w.drew _ x hx) (hobj _ (hle0.trans hle)) rfl rfl rfl (by simp)
    refine ⟨_, _, _, hrun, ?_, hsim⟩
    rw [VR_slice]
    refine ⟨_, _, rfl, .inl ⟨⟨rfl, rfl, .inr ⟨by simp [Ren.bind], .inl rfl⟩⟩, .inr (.inl ⟨_, _, by simp [Ren.bind]; exact ⟨rfl, rfl⟩, fun q => by omega, hge, ?_⟩)⟩⟩
    rw [hrs, htz]; simp
end
end Go.AM
