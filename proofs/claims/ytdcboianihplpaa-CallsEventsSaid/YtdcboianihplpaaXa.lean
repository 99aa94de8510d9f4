/- The calls of clients: what the functions of the program come to. -/
import Derived.Test.YtdcboianihplpaaProg
import Derived.Test.YtdcboianihplpaaBme
import Derived.KernelRfl
open Go Go.AM Go.Proofs
namespace C36
theorem agg2 : isAggA Try.prog 2 = some false := by kernel_rfl
theorem agg3 : isAggA Try.prog 3 = some false := by kernel_rfl
theorem agg4 : isAggA Try.prog 4 = some false := by kernel_rfl
theorem agg9 : isAggA Try.prog 9 = some false := by kernel_rfl
theorem agg28 : isAggA Try.prog 28 = some false := by kernel_rfl
theorem agg31 : isAggA Try.prog 31 = some false := by kernel_rfl
theorem agg37 : isAggA Try.prog 37 = some false := by kernel_rfl
theorem agg39 : isAggA Try.prog 39 = some true := by kernel_rfl
theorem agg43 : isAggA Try.prog 43 = some true := by kernel_rfl
theorem agg45 : isAggA Try.prog 45 = some true := by kernel_rfl
theorem agg53 : isAggA Try.prog 53 = some false := by kernel_rfl
theorem size3 : (Try.prog.info? 3).map (·.size) = some 1 := by kernel_rfl
theorem size31 : (Try.prog.info? 31).map (·.size) = some 1 := by kernel_rfl
theorem size37 : (Try.prog.info? 37).map (·.size) = some 1 := by kernel_rfl
theorem size39 : (Try.prog.info? 39).map (·.size) = some 4 := by kernel_rfl
theorem size43 : (Try.prog.info? 43).map (·.size) = some 24 := by kernel_rfl
theorem size45 : (Try.prog.info? 45).map (·.size) = some 3 := by kernel_rfl
theorem size53 : (Try.prog.info? 53).map (·.size) = some 1 := by kernel_rfl
theorem sizeb3 : (Try.prog.info? 3).map (fun i => (i.size, i.bytes)) = some (1, 8) := by kernel_rfl
theorem sizeb47 : (Try.prog.info? 47).map (fun i => (i.size, i.bytes)) = some (29, 296) := by kernel_rfl
theorem sizeb74 : (Try.prog.info? 74).map (fun i => (i.size, i.bytes)) = some (2, 24) := by kernel_rfl
theorem und31 : Try.prog.underlying 31 = some (.slice 47) := by kernel_rfl
theorem und37 : Try.prog.underlying 37 = some (.slice 74) := by kernel_rfl
theorem und53 : Try.prog.underlying 53 = some (.slice 3) := by kernel_rfl
theorem zero3 : zeroA Try.prog 3 = some (Value.int .i64 0) := by kernel_rfl
theorem zero47 : zeroA Try.prog 47 = some (Value.agg #[(Value.int .i64 0), (Value.bool false), (Value.int .i64 0), (Value.int .i64 0), (Value.int .i64 0), (Value.int .i64 0), (Value.int .i64 0), (Value.int .i64 0), (Value.string .empty), (Value.int .i64 0), (Value.int .i64 0), (Value.string .empty), (Value.string .empty), (Value.int .i64 0), (Value.string .empty), (Value.int .i64 0), (Value.int .i64 0), (Value.slice none 0 0), (Value.int .i64 0), (Value.int .i64 0), (Value.int .i64 0), (Value.int .i64 0), (Value.bool false), (Value.int .i64 0), (Value.int .i64 0), (Value.string .empty), (Value.int .i64 0), (Value.int .i64 0), (Value.string .empty)]) := by kernel_rfl
theorem zero74 : zeroA Try.prog 74 = some (Value.agg #[(Value.string .empty), (Value.int .i64 0)]) := by kernel_rfl
/-- A cell that holds an integer. -/
def icell (n : Int) : Array Value := #[.int .i64 n]
theorem icell_size (n : Int) : (icell n).size = 1 := rfl
set_option maxHeartbeats 4000000 in
theorem index_ok (h : Heap) (xs : List Int) (x : Int) (sa : Option Addr) (cp : Nat) (hl : SliceAt h icell 1 xs (.slice sa xs.length cp)) (hlen : xs.length ≤ 1048576) : WCall Try.prog 59 #[(Value.slice sa (xs.length) (cp)), (Value.int .i64 (x))] h (fun v h1 => ∃ r : Int, v = .int .i64 r ∧ (0 ≤ r ↔ x ∈ xs) ∧ Ext h h1) := by
  suffices H : ∀ K : Value → Heap → Prop, (∀ v h1, (fun v h1 => ∃ r : Int, v = .int .i64 r ∧ (0 ≤ r ↔ x ∈ xs) ∧ Ext h h1) v h1 → K v h1) → WCall Try.prog 59 #[(Value.slice sa (xs.length) (cp)), (Value.int .i64 (x))] h K from H _ fun _ _ q => q
  intro K hK
  refine wcall_at { tmps := #[(Value.slice sa (xs.length) (cp)), (Value.int .i64 (x)), (Value.tuple #[]), (Value.tuple #[]), (Value.tuple #[]), (Value.tuple #[]), (Value.tuple #[]), (Value.tuple #[]), (Value.tuple #[]), (Value.tuple #[]), (Value.tuple #[]), (Value.tuple #[]), (Value.tuple #[]), (Value.tuple #[]), (Value.tuple #[]), (Value.tuple #[]), (Value.tuple #[]), (Value.tuple #[]), (Value.tuple #[])], defers := [] } (by kernel_rfl) ?_
  refine wc_seq' (subc (bodyOf Try.prog 59) [0]) (subc (bodyOf Try.prog 59) [1]) (by kernel_rfl) ?_
  refine wc_upd (n := 200) (T := ⟨fun r i => match r, i with | _, _ => none, fun _ => none, none⟩) (x := .normal) (h1 := h) [(4, (Value.int .i64 0))]
    (fun q => q) (by intro K'; kernel_rfl) (fun _ q => q) ?_
  refine wc_seq' (subc (bodyOf Try.prog 59) [1, 0]) (subc (bodyOf Try.prog 59) [1, 1]) (by kernel_rfl) ?_
  refine wc_seq' (subc (bodyOf Try.prog 59) [1, 0, 0]) (subc (bodyOf Try.prog 59) [1, 0, 1]) (by kernel_rfl) ?_
  refine wc_upd (n := 200) (T := ⟨fun r i => match r, i with | _, _ => none, fun _ => none, none⟩) (x := .normal) (h1 := h) [(6, (Value.slice sa (xs.length) (cp))), (7, (Value.int .i64 ((xs.length : Nat)))), (8, (Value.int .i64 0))]
    (fun q => q) (by intro K'; kernel_rfl) (fun _ q => q) ?_
  refine wc_block' 0 (subc (bodyOf Try.prog 59) [1, 0, 1, 0]) (by kernel_rfl) ?_
  refine wc_loop' (subc (bodyOf Try.prog 59) [1, 0, 1, 0, 0]) (by kernel_rfl) (fun n' a' h' => ∃ (k : Int) (gb4 gb5 gb9 gb10 gb11 gb12 gb13 gb14 gb15 gb16 gb17 gb18 : Value), a' = { tmps := #[(Value.slice sa (xs.length) (cp)), (Value.int .i64 (x)), (Value.tuple #[]), (Value.tuple #[]), gb4, gb5, (Value.slice sa (xs.length) (cp)), (Value.int .i64 ((xs.length : Nat))), (Value.int .i64 (k)), gb9, gb10, gb11, gb12, gb13, gb14, gb15, gb16, gb17, gb18], defers := [] } ∧ h = h' ∧ n' = xs.length - k.toNat ∧ 0 ≤ k ∧ k ≤ xs.length ∧ (∀ j : Nat, (j : Int) < k → xs[j]? ≠ some x)) ?_ (xs.length - (0 : Int).toNat) ⟨0, (Value.int .i64 0), (Value.tuple #[]), (Value.tuple #[]), (Value.tuple #[]), (Value.tuple #[]), (Value.tuple #[]), (Value.tuple #[]), (Value.tuple #[]), (Value.tuple #[]), (Value.tuple #[]), (Value.tuple #[]), (Value.tuple #[]), by kernel_rfl, rfl, rfl, by omega, by omega, fun j hj => absurd hj (by omega)⟩
  rintro n' _ _ ⟨k, gb4, gb5, gb9, gb10, gb11, gb12, gb13, gb14, gb15, gb16, gb17, gb18, rfl, rfl, m5, i2, i3, i4⟩
  by_cases c7 : ((k) : Int) < ((xs.length : Nat))
  · obtain ⟨i8, v9, e10, l11, g12⟩ := list_at xs (e := (k)) (by omega) (by omega)
    obtain ⟨b13, o14, k15, q16, a17⟩ := hl.at icell_size g12
    by_cases c19 : ((x) : Int) = (v9)
    · refine wc_upd (n := 200) (T := ⟨fun r i => match r, i with | 2, 0 => some ((Value.bool true), h) | 4, 3 => some ((Value.pointer (some ⟨b13, o14, none⟩)), h) | 4, 4 => some ((Value.int .i64 (v9)), h) | 4, 5 => some ((Value.bool true), h) | _, _ => none, fun _ => none, none⟩) (x := .ret) (h1 := h) [(9, (Value.bool true)), (10, (Value.int .i64 (k))), (5, (Value.int .i64 (k))), (11, (Value.int .i64 (x))), (12, (Value.slice sa (xs.length) (cp))), (13, (Value.int .i64 (k))), (14, (Value.pointer (some ⟨b13, o14, none⟩))), (15, (Value.int .i64 (v9))), (16, (Value.bool true)), (17, (Value.int .i64 (k))), (4, (Value.int .i64 (k)))]
        (fun q => (binA Try.prog .lss 3 (Value.int .i64 (k)) (Value.int .i64 ((xs.length : Nat))) = some (Value.bool true) ∧ h = h) ∧ (indexAddrA Try.prog 53 (Value.slice sa (xs.length) (cp)) (Value.int .i64 (k)) = some (Value.pointer (some ⟨b13, o14, none⟩)) ∧ h = h) ∧ (loadT Try.prog h 3 (Value.pointer (some ⟨b13, o14, none⟩)) = some (Value.int .i64 (v9)) ∧ h = h) ∧ (binA Try.prog .eql 3 (Value.int .i64 (x)) (Value.int .i64 (v9)) = some (Value.bool true) ∧ h = h) ∧ q) (by intro K'; kernel_rfl) (fun _ q => ⟨⟨cmp_lss (decide_eq_true c7), rfl⟩, ⟨a17 und53 size3 e10, rfl⟩, ⟨k15.cell (j := 0) agg3 rfl, rfl⟩, ⟨cmp_eql (decide_eq_true c19), rfl⟩, q⟩) ?_
      refine end_at (T := ⟨fun _ _ => none, fun _ => none, none⟩) (A := K (Value.int .i64 (k)) h) (by kernel_rfl) ?_
      exact hK _ _ (⟨_, rfl, ⟨fun _ => by rw [c19]; exact List.mem_of_getElem? g12, fun _ => by omega⟩, Ext.refl h⟩)
    · refine wc_upd (n := 200) (T := ⟨fun r i => match r, i with | 2, 0 => some ((Value.bool true), h) | 4, 3 => some ((Value.pointer (some ⟨b13, o14, none⟩)), h) | 4, 4 => some ((Value.int .i64 (v9)), h) | 4, 5 => some ((Value.bool false), h) | 6, 0 => some ((Value.int .i64 ((k) + 1)), h) | _, _ => none, fun _ => none, none⟩) (x := .normal) (h1 := h) [(9, (Value.bool true)), (10, (Value.int .i64 (k))), (5, (Value.int .i64 (k))), (11, (Value.int .i64 (x))), (12, (Value.slice sa (xs.length) (cp))), (13, (Value.int .i64 (k))), (14, (Value.pointer (some ⟨b13, o14, none⟩))), (15, (Value.int .i64 (v9))), (16, (Value.bool false)), (18, (Value.int .i64 ((k) + 1))), (8, (Value.int .i64 ((k) + 1)))]
        (fun q => (binA Try.prog .lss 3 (Value.int .i64 (k)) (Value.int .i64 ((xs.length : Nat))) = some (Value.bool true) ∧ h = h) ∧ (indexAddrA Try.prog 53 (Value.slice sa (xs.length) (cp)) (Value.int .i64 (k)) = some (Value.pointer (some ⟨b13, o14, none⟩)) ∧ h = h) ∧ (loadT Try.prog h 3 (Value.pointer (some ⟨b13, o14, none⟩)) = some (Value.int .i64 (v9)) ∧ h = h) ∧ (binA Try.prog .eql 3 (Value.int .i64 (x)) (Value.int .i64 (v9)) = some (Value.bool false) ∧ h = h) ∧ (binA Try.prog .add 3 (Value.int .i64 (k)) (Value.int .i64 1) = some (Value.int .i64 ((k) + 1)) ∧ h = h) ∧ q) (by intro K'; kernel_rfl) (fun _ q => ⟨⟨cmp_lss (decide_eq_true c7), rfl⟩, ⟨a17 und53 size3 e10, rfl⟩, ⟨k15.cell (j := 0) agg3 rfl, rfl⟩, ⟨cmp_eql (decide_eq_false c19), rfl⟩, ⟨add_i64 (by omega) (by omega), rfl⟩, q⟩) ?_
      exact ⟨xs.length - (k + 1).toNat, by omega, ⟨k + 1, gb4, (Value.int .i64 (k)), (Value.bool true), (Value.int .i64 (k)), (Value.int .i64 (x)), (Value.slice sa (xs.length) (cp)), (Value.int .i64 (k)), (Value.pointer (some ⟨b13, o14, none⟩)), (Value.int .i64 (v9)), (Value.bool false), gb17, (Value.int .i64 ((k) + 1)), by kernel_rfl, rfl, rfl, by omega, by omega, fun j hj q => by rcases Int.lt_or_eq_of_le (Int.lt_add_one_iff.1 hj) with g | g; exact i4 j g q; have e : j = i8 := (by omega); subst e; rw [q] at g12; cases g12; exact c19 rfl⟩⟩
  · refine wc_upd (n := 200) (T := ⟨fun r i => match r, i with | 2, 0 => some ((Value.bool false), h) | _, _ => none, fun _ => none, none⟩) (x := (.exit 0)) (h1 := h) [(9, (Value.bool false))]
      (fun q => (binA Try.prog .lss 3 (Value.int .i64 (k)) (Value.int .i64 ((xs.length : Nat))) = some (Value.bool false) ∧ h = h) ∧ q) (by intro K'; kernel_rfl) (fun _ q => ⟨⟨cmp_lss (decide_eq_false c7), rfl⟩, q⟩) ?_
    refine wc_upd (n := 200) (T := ⟨fun r i => match r, i with | _, _ => none, fun _ => none, none⟩) (x := .ret) (h1 := h) [(4, (Value.int .i64 (-1)))]
      (fun q => q) (by intro K'; kernel_rfl) (fun _ q => q) ?_
    refine end_at (T := ⟨fun _ _ => none, fun _ => none, none⟩) (A := K (Value.int .i64 (-1)) h) (by kernel_rfl) ?_
    exact hK _ _ (⟨_, rfl, ⟨fun q => absurd q (by omega), fun q => by obtain ⟨j, hj, e⟩ := List.getElem_of_mem q; exact absurd (List.getElem?_eq_some_iff.2 ⟨hj, e⟩) (i4 j (by omega))⟩, Ext.refl h⟩)
theorem SliceAt_none {α : Type} {h : Heap} {f : α → Array Value} {z n cp : Nat} {xs : List α} (k : SliceAt h f z xs (.slice none n cp)) : n = 0 ∧ cp = 0 ∧ xs = [] := by
  rcases k with ⟨e, k⟩ | ⟨b, off, cp, c, e, fr, e2, k⟩
  · cases e; exact ⟨rfl, rfl, k⟩
  · cases e2
set_option maxHeartbeats 4000000 in
theorem contains_ok (h : Heap) (xs : List Int) (x : Int) (sa : Option Addr) (cp : Nat) (hl : SliceAt h icell 1 xs (.slice sa xs.length cp)) (hlen : xs.length ≤ 1048576) : WCall Try.prog 54 #[(Value.slice sa (xs.length) (cp)), (Value.int .i64 (x))] h (fun v h1 => v = .bool (decide (x ∈ xs)) ∧ Ext h h1) := by
  obtain ⟨_, hh22, sn23, r20, rfl, q21, x24⟩ := index_ok h xs (x) _ _ hl (by omega)
  have p25 := hl.keep fun b r _ q => x24 b r q
  have x26 := (Ext.refl h).trans x24
  by_cases c27 : (0 : Int) ≤ (r20)
  · exact hCall_of (n := 200) (T := ⟨fun r i => match r, i with | 1, 2 => some ((Value.int .i64 (r20)), hh22) | 1, 3 => some ((Value.bool true), hh22) | _, _ => none, fun _ => none, none⟩)
      (A := SoundCall Try.prog 59 #[(Value.slice sa (xs.length) (cp)), (Value.int .i64 (x))] h (Value.int .i64 (r20)) hh22 ∧ (binA Try.prog .geq 3 (Value.int .i64 (r20)) (Value.int .i64 0) = some (Value.bool true) ∧ hh22 = hh22) ∧ (fun v h1 => v = .bool (decide (x ∈ xs)) ∧ Ext h h1) (Value.bool true) hh22) (by kernel_rfl) ⟨sn23, ⟨cmp_geq (decide_eq_true c27), rfl⟩, ⟨by rw [decide_eq_true (q21.1 (by omega))], x26⟩⟩
  · exact hCall_of (n := 200) (T := ⟨fun r i => match r, i with | 1, 2 => some ((Value.int .i64 (r20)), hh22) | 1, 3 => some ((Value.bool false), hh22) | _, _ => none, fun _ => none, none⟩)
      (A := SoundCall Try.prog 59 #[(Value.slice sa (xs.length) (cp)), (Value.int .i64 (x))] h (Value.int .i64 (r20)) hh22 ∧ (binA Try.prog .geq 3 (Value.int .i64 (r20)) (Value.int .i64 0) = some (Value.bool false) ∧ hh22 = hh22) ∧ (fun v h1 => v = .bool (decide (x ∈ xs)) ∧ Ext h h1) (Value.bool false) hh22) (by kernel_rfl) ⟨sn23, ⟨cmp_geq (decide_eq_false c27), rfl⟩, ⟨by rw [decide_eq_false (fun w => absurd (q21.2 w) (by omega))], x26⟩⟩
set_option maxHeartbeats 4000000 in
theorem among_ok (h : Heap) (xs : List Int) (x : Int) (sa : Option Addr) (cp : Nat) (hl : SliceAt h icell 1 xs (.slice sa xs.length cp)) (hlen : xs.length ≤ 1048576) : WCall Try.prog 43 #[(Value.int .i64 (x)), (Value.slice sa (xs.length) (cp))] h (fun v h1 => v = .bool (decide (x ∈ xs)) ∧ Ext h h1) := by
  obtain ⟨_, hh28, sn29, rfl, x30⟩ := contains_ok h xs (x) _ _ hl (by omega)
  have p31 := hl.keep fun b r _ q => x30 b r q
  have x32 := (Ext.refl h).trans x30
  rcases Bool.eq_false_or_eq_true ((decide ((x) ∈ xs))) with c33 | c33
  · exact hCall_of (n := 200) (T := ⟨fun r i => match r, i with | 1, 2 => some ((Value.bool true), hh28) | _, _ => none, fun _ => none, none⟩)
      (A := SoundCall Try.prog 54 #[(Value.slice sa (xs.length) (cp)), (Value.int .i64 (x))] h (Value.bool true) hh28 ∧ (fun v h1 => v = .bool (decide (x ∈ xs)) ∧ Ext h h1) (Value.bool true) hh28) (by kernel_rfl) ⟨(by rw [← c33]; exact sn29), ⟨by rw [c33], x32⟩⟩
  · exact hCall_of (n := 200) (T := ⟨fun r i => match r, i with | 1, 2 => some ((Value.bool false), hh28) | _, _ => none, fun _ => none, none⟩)
      (A := SoundCall Try.prog 54 #[(Value.slice sa (xs.length) (cp)), (Value.int .i64 (x))] h (Value.bool false) hh28 ∧ (fun v h1 => v = .bool (decide (x ∈ xs)) ∧ Ext h h1) (Value.bool false) hh28) (by kernel_rfl) ⟨(by rw [← c33]; exact sn29), ⟨by rw [c33], x32⟩⟩
/-- A step of a definition. -/
structure StepM where
  key : ByteArray
  delta : Int
def stepc (s : StepM) : Array Value := #[.string s.key, .int .i64 s.delta]
theorem stepc_size (s : StepM) : (stepc s).size = 2 := rfl
/-- A command. -/
structure CmdM where
  kind : Int
  call : Int
  saga : Int
  e1 : Int
  e2 : Int
  e3 : Int
  key : ByteArray
  delta : Int
  move : Int
  rf : ByteArray
  rt : ByteArray
  group : Int
  dn : ByteArray
  dr : Int
  dd : Int
  steps : List StepM
  i1 : Int
  i2 : Int
  i3 : Int
  im : Int
  ii : Bool
  ig : Int
  res : Int
  data : ByteArray
def cmdc (c : CmdM) (v : Value) : Array Value := #[.int .i64 c.kind, .int .i64 c.call, .int .i64 c.saga, .int .i64 c.e1, .int .i64 c.e2, .int .i64 c.e3, .string c.key, .int .i64 c.delta, .int .i64 c.move, .string c.rf, .string c.rt, .int .i64 c.group, .string c.dn, .int .i64 c.dr, .int .i64 c.dd, v,
  .int .i64 c.i1, .int .i64 c.i2, .int .i64 c.i3, .int .i64 c.im, .bool c.ii, .int .i64 c.ig, .int .i64 c.res, .string c.data]
/-- An event. -/
structure EvM where
  call : Int
  reply : Bool
  cmd : CmdM
  err : Int
  num : Int
  text : ByteArray
def evc (x : EvM × Option Addr × Nat) : Array Value := #[.int .i64 x.1.call, .bool x.1.reply, .int .i64 x.1.cmd.kind, .int .i64 x.1.cmd.call, .int .i64 x.1.cmd.saga, .int .i64 x.1.cmd.e1, .int .i64 x.1.cmd.e2, .int .i64 x.1.cmd.e3, .string x.1.cmd.key, .int .i64 x.1.cmd.delta, .int .i64 x.1.cmd.move, .string x.1.cmd.rf, .string x.1.cmd.rt, .int .i64 x.1.cmd.group, .string x.1.cmd.dn, .int .i64 x.1.cmd.dr, .int .i64 x.1.cmd.dd, .slice x.2.1 x.1.cmd.steps.length x.2.2,
  .int .i64 x.1.cmd.i1, .int .i64 x.1.cmd.i2, .int .i64 x.1.cmd.i3, .int .i64 x.1.cmd.im, .bool x.1.cmd.ii, .int .i64 x.1.cmd.ig, .int .i64 x.1.cmd.res, .string x.1.cmd.data, .int .i64 x.1.err, .int .i64 x.1.num, .string x.1.text]
theorem evc_size (x : EvM × Option Addr × Nat) : (evc x).size = 29 := rfl
def StepsAt (h : Heap) (raw : List (EvM × Option Addr × Nat)) : Prop := ∀ x ∈ raw, OwnAt h 74 stepc x.1.cmd.steps (.slice x.2.1 x.1.cmd.steps.length x.2.2)
def sfoot (raw : List (EvM × Option Addr × Nat)) (b : Nat) : Prop := ∃ x ∈ raw, blk (.slice x.2.1 x.1.cmd.steps.length x.2.2) b
theorem StepsAt.keep {h h1 : Heap} {raw : List (EvM × Option Addr × Nat)} (k : StepsAt h raw) (w : ∀ b r, sfoot raw b → h[b]? = some r → h1[b]? = some r) : StepsAt h1 raw := fun x hx => (k x hx).keep fun b r hb q => w b r ⟨x, hx, hb⟩ q
theorem StepsAt.ne {h : Heap} {raw : List (EvM × Option Addr × Nat)} (k : StepsAt h raw) {b b2 : Nat} {c : Array Value} {e2 : TypeId} {fr : Nat × Nat} (hb2 : h[b2]? = some (.cells c e2 fr)) (he : 74 ≠ e2) (hb : sfoot raw b) : b ≠ b2 := by
  obtain ⟨x, hx, hb⟩ := hb; exact (k x hx).ne hb2 he hb
theorem StepsAt.apart {β : Type} {g : β → Array Value} {h : Heap} {raw : List (EvM × Option Addr × Nat)} (k : StepsAt h raw) {e2 : TypeId} {ys : List β} {w : Value} (k2 : OwnAt h e2 g ys w) (he : 74 ≠ e2) {b : Nat} (hb : sfoot raw b) (hb2 : blk w b) : False := by
  obtain ⟨x, hx, hb⟩ := hb; exact (k x hx).apart k2 he hb hb2
theorem StepsAt.blk_lt {h : Heap} {raw : List (EvM × Option Addr × Nat)} (k : StepsAt h raw) {b : Nat} (hb : sfoot raw b) : b < h.size := by
  obtain ⟨x, hx, hb⟩ := hb; exact (k x hx).blk_lt hb
/-- A table of calls: its events, and for each call the places of its event and of its reply. -/
structure TabM where
  evs : List EvM
  ats : List Int
  rps : List Int
structure TabRow (h : Heap) (O : Nat → Prop) (t : Nat) (m : TabM) (raw : List (EvM × Option Addr × Nat)) (ae aa ar : Option Addr) (ce ca cr : Nat) : Prop where
  row : h[t]? = some (.cells #[.bool true, .slice ae raw.length ce, .slice aa m.ats.length ca, .slice ar m.rps.length cr] 68 (0, 0))
  ev : OwnAt h 47 evc raw (.slice ae raw.length ce)
  at_ : OwnAt h 3 icell m.ats (.slice aa m.ats.length ca)
  rp : OwnAt h 3 icell m.rps (.slice ar m.rps.length cr)
  evs : raw.map Prod.fst = m.evs
  steps : StepsAt h raw
  apart : ∀ b, blk (.slice aa m.ats.length ca) b → ¬ blk (.slice ar m.rps.length cr) b
  inT : O t
  inE : ∀ b, blk (.slice ae raw.length ce) b → O b
  inA : ∀ b, blk (.slice aa m.ats.length ca) b → O b
  inR : ∀ b, blk (.slice ar m.rps.length cr) b → O b
  inS : ∀ b, sfoot raw b → O b
def TabAt (h : Heap) (O : Nat → Prop) (t : Nat) (m : TabM) : Prop := ∃ raw ae aa ar ce ca cr, TabRow h O t m raw ae aa ar ce ca cr
theorem TabAt.keep {h h1 : Heap} {O : Nat → Prop} {t : Nat} {m : TabM} (k : TabAt h O t m) (w : ∀ b r, O b → h[b]? = some r → h1[b]? = some r) : TabAt h1 O t m := by
  obtain ⟨raw, ae, aa, ar, ce, ca, cr, k⟩ := k
  exact ⟨raw, ae, aa, ar, ce, ca, cr, w _ _ k.inT k.row, k.ev.keep fun b r hb q => w b r (k.inE b hb) q, k.at_.keep fun b r hb q => w b r (k.inA b hb) q, k.rp.keep fun b r hb q => w b r (k.inR b hb) q, k.evs,
    k.steps.keep fun b r hb q => w b r (k.inS b hb) q, k.apart, k.inT, k.inE, k.inA, k.inR, k.inS⟩
theorem TabAt.weak {h : Heap} {O O' : Nat → Prop} {t : Nat} {m : TabM} (k : TabAt h O t m) (w : ∀ b, O b → O' b) : TabAt h O' t m := by
  obtain ⟨raw, ae, aa, ar, ce, ca, cr, k⟩ := k
  exact ⟨raw, ae, aa, ar, ce, ca, cr, k.row, k.ev, k.at_, k.rp, k.evs, k.steps, k.apart, w _ k.inT, fun b hb => w b (k.inE b hb), fun b hb => w b (k.inA b hb), fun b hb => w b (k.inR b hb), fun b hb => w b (k.inS b hb)⟩
set_option maxHeartbeats 4000000 in
theorem clone_int_nil (h : Heap)  : WCall Try.prog 46 #[(Value.slice none 0 0)] h (fun v h1 => v = .slice none 0 0 ∧ Ext h h1) := by
  exact hCall_of (n := 200) (T := ⟨fun r i => match r, i with | _, _ => none, fun _ => none, none⟩)
    (A := (fun v h1 => v = .slice none 0 0 ∧ Ext h h1) (Value.slice none 0 0) h) (by kernel_rfl) ⟨rfl, (Ext.refl h)⟩
set_option maxHeartbeats 4000000 in
theorem clone_int_some (h : Heap) (xs : List Int) (a : Addr) (cp : Nat) (hl : SliceAt h icell 1 xs (.slice (some a) xs.length cp)) (hlen : xs.length ≤ 1048576) : WCall Try.prog 46 #[(Value.slice (some a) (xs.length) (cp))] h (fun v h1 => ∃ w cw, v = .slice w xs.length cw ∧ OwnAt h1 3 icell xs v ∧ Ext h h1 ∧ ∀ b, blk v b → h.size ≤ b) := by
  obtain ⟨b36, eb37⟩ : ∃ zq, zq = h.size := ⟨_, rfl⟩
  obtain ⟨h34, e35⟩ : ∃ zq, zq = h.push (.cells #[] 3 (0, 0)) := ⟨_, rfl⟩
  have f38 := push_new e35
  rw [← eb37] at f38
  have n39 : ∀ zz, (blk (Value.slice (some a) xs.length cp)) zz → ¬ zz = b36 := fun zz hz ez => by have := hl.blk_lt hz; omega
  have x40 : Ext h h34 := by rw [e35]; exact Ext.push _ _
  have o41 : h.size ≤ b36 := by have := (Ext.refl h).size; omega
  have p42 := hl.keep fun b r _ q => x40 b r q
  have x43 := (Ext.refl h).trans x40
  obtain ⟨w44, h45, e46, p47, x48, n49⟩ := own_clone und53 sizeb3 zero3 rfl (by decide) icell_size f38 p42 (by omega) (by unfold maxLen; omega)
  obtain ⟨a50, c51, rfl⟩ := (p47.slice icell_size).len
  have z54 : b36 < h34.size := row_lt f38
  have n53 : ∀ zz, blk (Value.slice a50 (xs.length) (c51)) zz → zz = b36 ∨ h34.size ≤ zz := fun zz hz => by rcases n49 zz hz with e | e <;> omega
  have n55 : ∀ zz, blk (Value.slice a50 (xs.length) (c51)) zz → ¬ (blk (Value.slice (some a) xs.length cp)) zz := fun zz hz ez => by have := p42.blk_lt ez; rcases n53 zz hz with g | g; (subst g; exact n39 _ ez rfl); omega
  have o56 : ∀ zz, blk (Value.slice a50 (xs.length) (c51)) zz → h.size ≤ zz := fun zz hz => by have := o41; have := x43.size; rcases n53 zz hz with g | g <;> omega
  have f57 := x48 _ _ f38
  have p58 := p42.keep fun b r _ q => x48 b r q
  have x59 := x43.trans x48
  exact hCall_of (n := 200) (T := ⟨fun r i => match r, i with | 3, 0 => some ((Value.slice (some ⟨b36, 0, none⟩) 0 0), h34) | 3, 2 => some ((Value.slice a50 (xs.length) (c51)), h45) | _, _ => none, fun _ => none, none⟩)
    (A := ((Value.slice (some ⟨b36, 0, none⟩) 0 0) = (Value.slice (some ⟨h.size, 0, none⟩) 0 0) ∧ h34 = h.push (.cells #[] 3 (0, 0))) ∧ appendA Try.prog h34 #[53, 53] #[(Value.slice (some ⟨b36, 0, none⟩) 0 0), (Value.slice (some a) (xs.length) (cp))] = some ((Value.slice a50 (xs.length) (c51)), h45) ∧ (fun v h1 => ∃ w cw, v = .slice w xs.length cw ∧ OwnAt h1 3 icell xs v ∧ Ext h h1 ∧ ∀ b, blk v b → h.size ≤ b) (Value.slice a50 (xs.length) (c51)) h45) (by kernel_rfl) ⟨⟨by rw [eb37], e35⟩, e46, ⟨_, _, rfl, p47, x59, o56⟩⟩
theorem clone_int (h : Heap) (xs : List Int) (sa : Option Addr) (cp : Nat) (hl : SliceAt h icell 1 xs (.slice sa xs.length cp)) (hlen : xs.length ≤ 1048576) : WCall Try.prog 46 #[.slice sa xs.length cp] h (fun v h1 => ∃ w cw, v = .slice w xs.length cw ∧ OwnAt h1 3 icell xs v ∧ Ext h h1 ∧ ∀ b, blk v b → h.size ≤ b) := by
  rcases sa with _ | a
  · obtain ⟨e0, e1, e2⟩ := SliceAt_none hl
    subst e2; subst e1
    exact (clone_int_nil h).mono fun v h1 q => ⟨none, 0, q.1, .inl ⟨q.1, rfl⟩, q.2, fun b hb => by rw [q.1] at hb; exact hb.elim⟩
  · exact clone_int_some h xs a cp hl hlen
set_option maxHeartbeats 4000000 in
theorem clone_steps_nil (h : Heap)  : WCall Try.prog 55 #[(Value.slice none 0 0)] h (fun v h1 => v = .slice none 0 0 ∧ Ext h h1) := by
  exact hCall_of (n := 200) (T := ⟨fun r i => match r, i with | _, _ => none, fun _ => none, none⟩)
    (A := (fun v h1 => v = .slice none 0 0 ∧ Ext h h1) (Value.slice none 0 0) h) (by kernel_rfl) ⟨rfl, (Ext.refl h)⟩
set_option maxHeartbeats 4000000 in
theorem clone_steps_some (h : Heap) (xs : List StepM) (a : Addr) (cp : Nat) (hl : SliceAt h stepc 2 xs (.slice (some a) xs.length cp)) (hlen : xs.length ≤ 1048576) : WCall Try.prog 55 #[(Value.slice (some a) (xs.length) (cp))] h (fun v h1 => ∃ w cw, v = .slice w xs.length cw ∧ OwnAt h1 74 stepc xs v ∧ Ext h h1 ∧ ∀ b, blk v b → h.size ≤ b) := by
  obtain ⟨b62, eb63⟩ : ∃ zq, zq = h.size := ⟨_, rfl⟩
  obtain ⟨h60, e61⟩ : ∃ zq, zq = h.push (.cells #[] 74 (0, 0)) := ⟨_, rfl⟩
  have f64 := push_new e61
  rw [← eb63] at f64
  have n65 : ∀ zz, (blk (Value.slice (some a) xs.length cp)) zz → ¬ zz = b62 := fun zz hz ez => by have := hl.blk_lt hz; omega
  have x66 : Ext h h60 := by rw [e61]; exact Ext.push _ _
  have o67 : h.size ≤ b62 := by have := (Ext.refl h).size; omega
  have p68 := hl.keep fun b r _ q => x66 b r q
  have x69 := (Ext.refl h).trans x66
  obtain ⟨w70, h71, e72, p73, x74, n75⟩ := own_clone und37 sizeb74 zero74 rfl (by decide) stepc_size f64 p68 (by omega) (by unfold maxLen; omega)
  obtain ⟨a76, c77, rfl⟩ := (p73.slice stepc_size).len
  have z80 : b62 < h60.size := row_lt f64
  have n79 : ∀ zz, blk (Value.slice a76 (xs.length) (c77)) zz → zz = b62 ∨ h60.size ≤ zz := fun zz hz => by rcases n75 zz hz with e | e <;> omega
  have n81 : ∀ zz, blk (Value.slice a76 (xs.length) (c77)) zz → ¬ (blk (Value.slice (some a) xs.length cp)) zz := fun zz hz ez => by have := p68.blk_lt ez; rcases n79 zz hz with g | g; (subst g; exact n65 _ ez rfl); omega
  have o82 : ∀ zz, blk (Value.slice a76 (xs.length) (c77)) zz → h.size ≤ zz := fun zz hz => by have := o67; have := x69.size; rcases n79 zz hz with g | g <;> omega
  have f83 := x74 _ _ f64
  have p84 := p68.keep fun b r _ q => x74 b r q
  have x85 := x69.trans x74
  exact hCall_of (n := 200) (T := ⟨fun r i => match r, i with | 3, 0 => some ((Value.slice (some ⟨b62, 0, none⟩) 0 0), h60) | 3, 2 => some ((Value.slice a76 (xs.length) (c77)), h71) | _, _ => none, fun _ => none, none⟩)
    (A := ((Value.slice (some ⟨b62, 0, none⟩) 0 0) = (Value.slice (some ⟨h.size, 0, none⟩) 0 0) ∧ h60 = h.push (.cells #[] 74 (0, 0))) ∧ appendA Try.prog h60 #[37, 37] #[(Value.slice (some ⟨b62, 0, none⟩) 0 0), (Value.slice (some a) (xs.length) (cp))] = some ((Value.slice a76 (xs.length) (c77)), h71) ∧ (fun v h1 => ∃ w cw, v = .slice w xs.length cw ∧ OwnAt h1 74 stepc xs v ∧ Ext h h1 ∧ ∀ b, blk v b → h.size ≤ b) (Value.slice a76 (xs.length) (c77)) h71) (by kernel_rfl) ⟨⟨by rw [eb63], e61⟩, e72, ⟨_, _, rfl, p73, x85, o82⟩⟩
theorem clone_steps (h : Heap) (xs : List StepM) (sa : Option Addr) (cp : Nat) (hl : SliceAt h stepc 2 xs (.slice sa xs.length cp)) (hlen : xs.length ≤ 1048576) : WCall Try.prog 55 #[.slice sa xs.length cp] h (fun v h1 => ∃ w cw, v = .slice w xs.length cw ∧ OwnAt h1 74 stepc xs v ∧ Ext h h1 ∧ ∀ b, blk v b → h.size ≤ b) := by
  rcases sa with _ | a
  · obtain ⟨e0, e1, e2⟩ := SliceAt_none hl
    subst e2; subst e1
    exact (clone_steps_nil h).mono fun v h1 q => ⟨none, 0, q.1, .inl ⟨q.1, rfl⟩, q.2, fun b hb => by rw [q.1] at hb; exact hb.elim⟩
  · exact clone_steps_some h xs a cp hl hlen
set_option maxHeartbeats 4000000 in
theorem copy_def (h : Heap) (xs : List StepM) (nm : ByteArray) (rt dl : Int) (sa : Option Addr) (cp : Nat) (hl : SliceAt h stepc 2 xs (.slice sa xs.length cp)) (hlen : xs.length ≤ 1048576) : WCall Try.prog 44 #[(Value.agg #[(Value.string nm), (Value.int .i64 (rt)), (Value.int .i64 (dl)), (Value.slice sa (xs.length) (cp))])] h (fun v h1 => ∃ w cw, v = .agg #[.string nm, .int .i64 rt, .int .i64 dl, .slice w xs.length cw] ∧ OwnAt h1 74 stepc xs (.slice w xs.length cw) ∧ Ext h h1 ∧ ∀ b, blk (.slice w xs.length cw) b → h.size ≤ b) := by
  obtain ⟨b88, eb89⟩ : ∃ zq, zq = h.size := ⟨_, rfl⟩
  obtain ⟨h86, e87⟩ : ∃ zq, zq = h.push (.cells #[(Value.string nm), (Value.int .i64 (rt)), (Value.int .i64 (dl)), (Value.slice sa (xs.length) (cp))] 39 (0, 0)) := ⟨_, rfl⟩
  have f90 := push_new e87
  rw [← eb89] at f90
  have n91 : ∀ zz, (blk (Value.slice sa (xs.length) (cp))) zz → ¬ zz = b88 := fun zz hz ez => by have := hl.blk_lt hz; omega
  have x92 : Ext h h86 := by rw [e87]; exact Ext.push _ _
  have o93 : h.size ≤ b88 := by have := (Ext.refl h).size; omega
  have p94 := hl.keep fun b r _ q => x92 b r q
  have x95 := (Ext.refl h).trans x92
  obtain ⟨b98, eb99⟩ : ∃ zq, zq = h86.size := ⟨_, rfl⟩
  obtain ⟨h96, e97⟩ : ∃ zq, zq = h86.push (.cells #[(Value.string .empty), (Value.int .i64 0), (Value.int .i64 0), (Value.slice none 0 0)] 39 (0, 0)) := ⟨_, rfl⟩
  have f100 := push_new e97
  rw [← eb99] at f100
  have n101 : b98 ≠ b88 := by have := row_lt f90; omega
  have n102 : ∀ zz, (blk (Value.slice sa (xs.length) (cp))) zz → ¬ zz = b98 := fun zz hz ez => by have := p94.blk_lt hz; omega
  have x103 : Ext h86 h96 := by rw [e97]; exact Ext.push _ _
  have o104 : h.size ≤ b98 := by have := x95.size; omega
  have f105 := x103 _ _ f90
  have p106 := p94.keep fun b r _ q => x103 b r q
  have x107 := x95.trans x103
  obtain ⟨_, hh112, sn113, w108, c109, rfl, o110, x114, b111⟩ := clone_steps h96 xs _ _ p106 (by omega)
  have f115 := x114 _ _ f105
  have f116 := x114 _ _ f100
  have p117 := p106.keep fun b r _ q => x114 b r q
  have x118 := x107.trans x114
  have z120 : h.size ≤ h96.size := x107.size
  have n121 : ∀ zz, blk (Value.slice w108 (xs.length) (c109)) zz → ¬ zz = b88 := fun zz hz ez => by have := b111 zz hz; have := row_lt f105; omega
  have n122 : ∀ zz, blk (Value.slice w108 (xs.length) (c109)) zz → ¬ zz = b98 := fun zz hz ez => by have := b111 zz hz; have := row_lt f100; omega
  have n123 : ∀ zz, blk (Value.slice w108 (xs.length) (c109)) zz → ¬ (blk (Value.slice sa (xs.length) (cp))) zz := fun zz hz ez => by have := b111 zz hz; have := p106.blk_lt ez; omega
  have o124 : ∀ zz, blk (Value.slice w108 (xs.length) (c109)) zz → h.size ≤ zz := fun zz hz => by have := b111 zz hz; omega
  obtain ⟨h125, e126⟩ : ∃ zq, zq = hh112.setIfInBounds b88 (.cells #[(Value.string nm), (Value.int .i64 (rt)), (Value.int .i64 (dl)), (Value.slice w108 (xs.length) (c109))] 39 (0, 0)) := ⟨_, rfl⟩
  have f127 := set_same e126 f115
  have f129 := set_other e126 f116 n101.symm
  have p130 := p117.keep fun b r hb q => (Chg.set e126).same b r q (n91 b hb)
  have p131 := o110.keep fun b r hb q => (Chg.set e126).same b r q (n121 b hb)
  have x132 := Ext.setNew x118 e126 o93
  obtain ⟨h133, e134⟩ : ∃ zq, zq = h125.setIfInBounds b98 (.cells #[(Value.string nm), (Value.int .i64 (rt)), (Value.int .i64 (dl)), (Value.slice w108 (xs.length) (c109))] 39 (0, 0)) := ⟨_, rfl⟩
  have f135 := set_same e134 f129
  have f136 := set_other e134 f127 n101
  have p138 := p130.keep fun b r hb q => (Chg.set e134).same b r q (n102 b hb)
  have p139 := p131.keep fun b r hb q => (Chg.set e134).same b r q (n122 b hb)
  have x140 := Ext.setNew x132 e134 o104
  exact hCall_of (n := 200) (T := ⟨fun r i => match r, i with | 0, 0 => some ((Value.pointer (some ⟨b88, 0, none⟩)), h86) | 0, 1 => some ((Value.pointer (some ⟨b98, 0, none⟩)), h96) | 1, 1 => some ((Value.slice sa (xs.length) (cp)), h96) | 1, 2 => some ((Value.slice w108 (xs.length) (c109)), hh112) | 1, 4 => some (undef, h125) | 2, 0 => some ((Value.agg #[(Value.string nm), (Value.int .i64 (rt)), (Value.int .i64 (dl)), (Value.slice w108 (xs.length) (c109))]), h125) | 2, 1 => some (undef, h133) | _, _ => none, fun _ => none, some [(Value.agg #[(Value.string nm), (Value.int .i64 (rt)), (Value.int .i64 (dl)), (Value.slice w108 (xs.length) (c109))])]⟩)
    (A := ((Value.pointer (some ⟨b88, 0, none⟩)) = (Value.pointer (some ⟨h.size, 0, none⟩)) ∧ h86 = h.push (.cells #[(Value.string nm), (Value.int .i64 (rt)), (Value.int .i64 (dl)), (Value.slice sa (xs.length) (cp))] 39 (0, 0))) ∧ ((Value.pointer (some ⟨b98, 0, none⟩)) = (Value.pointer (some ⟨h86.size, 0, none⟩)) ∧ h96 = h86.push (.cells #[(Value.string .empty), (Value.int .i64 0), (Value.int .i64 0), (Value.slice none 0 0)] 39 (0, 0))) ∧ (loadT Try.prog h96 37 (Value.pointer (some ⟨b88, 3, none⟩)) = some (Value.slice sa (xs.length) (cp)) ∧ h96 = h96) ∧ SoundCall Try.prog 55 #[(Value.slice sa (xs.length) (cp))] h96 (Value.slice w108 (xs.length) (c109)) hh112 ∧ (storeT Try.prog hh112 37 (Value.pointer (some ⟨b88, 3, none⟩)) (Value.slice w108 (xs.length) (c109)) = some h125 ∧ (undef : Value) = undef) ∧ (loadT Try.prog h125 39 (Value.pointer (some ⟨b88, 0, none⟩)) = some (Value.agg #[(Value.string nm), (Value.int .i64 (rt)), (Value.int .i64 (dl)), (Value.slice w108 (xs.length) (c109))]) ∧ h125 = h125) ∧ (storeT Try.prog h125 39 (Value.pointer (some ⟨b98, 0, none⟩)) (Value.agg #[(Value.string nm), (Value.int .i64 (rt)), (Value.int .i64 (dl)), (Value.slice w108 (xs.length) (c109))]) = some h133 ∧ (undef : Value) = undef) ∧ (loadT Try.prog h133 39 (Value.pointer (some ⟨b98, 0, none⟩)) = some (Value.agg #[(Value.string nm), (Value.int .i64 (rt)), (Value.int .i64 (dl)), (Value.slice w108 (xs.length) (c109))]) ∧ True) ∧ (fun v h1 => ∃ w cw, v = .agg #[.string nm, .int .i64 rt, .int .i64 dl, .slice w xs.length cw] ∧ OwnAt h1 74 stepc xs (.slice w xs.length cw) ∧ Ext h h1 ∧ ∀ b, blk (.slice w xs.length cw) b → h.size ≤ b) (Value.agg #[(Value.string nm), (Value.int .i64 (rt)), (Value.int .i64 (dl)), (Value.slice w108 (xs.length) (c109))]) h133) (by kernel_rfl) ⟨⟨by rw [eb89], e87⟩, ⟨by rw [eb99], e97⟩, ⟨load_cell agg37 f105 rfl, rfl⟩, sn113, ⟨by rw [e126]; exact store_cells size37 rfl f115 (by decide) (by simp) rfl (by kernel_rfl), rfl⟩, ⟨load_agg agg39 size39 f127 (by simp) (by kernel_rfl), rfl⟩, ⟨by rw [e134]; exact store_cells size39 rfl f129 (by decide) (by simp) rfl (by kernel_rfl), rfl⟩, ⟨load_agg agg39 size39 f135 (by simp) (by kernel_rfl), trivial⟩, ⟨_, _, rfl, p139, x140, o124⟩⟩
set_option maxHeartbeats 4000000 in
theorem num_check (h : Heap) (x : Int) : WCall Try.prog 45 #[(Value.int .i64 (x))] h (fun v h1 => v = .int .i64 (if x < -1152921504606846976 ∨ 1152921504606846976 < x then (7 : Int) else 0) ∧ h = h1) := by
  by_cases c141 : ((x) : Int) < (-1152921504606846976)
  · exact hCall_of (n := 200) (T := ⟨fun r i => match r, i with | 1, 1 => some ((Value.bool true), h) | _, _ => none, fun _ => none, none⟩)
      (A := (binA Try.prog .lss 2 (Value.int .i64 (x)) (Value.int .i64 (-1152921504606846976)) = some (Value.bool true) ∧ h = h) ∧ (fun v h1 => v = .int .i64 (if x < -1152921504606846976 ∨ 1152921504606846976 < x then (7 : Int) else 0) ∧ h = h1) (Value.int .i64 7) h) (by kernel_rfl) ⟨⟨cmp_lss (decide_eq_true c141), rfl⟩, ⟨by simp [c141], rfl⟩⟩
  · by_cases c142 : (1152921504606846976 : Int) < (x)
    · exact hCall_of (n := 200) (T := ⟨fun r i => match r, i with | 1, 1 => some ((Value.bool false), h) | 1, 4 => some ((Value.bool true), h) | _, _ => none, fun _ => none, none⟩)
        (A := (binA Try.prog .lss 2 (Value.int .i64 (x)) (Value.int .i64 (-1152921504606846976)) = some (Value.bool false) ∧ h = h) ∧ (binA Try.prog .gtr 2 (Value.int .i64 (x)) (Value.int .i64 1152921504606846976) = some (Value.bool true) ∧ h = h) ∧ (fun v h1 => v = .int .i64 (if x < -1152921504606846976 ∨ 1152921504606846976 < x then (7 : Int) else 0) ∧ h = h1) (Value.int .i64 7) h) (by kernel_rfl) ⟨⟨cmp_lss (decide_eq_false c141), rfl⟩, ⟨cmp_gtr (decide_eq_true c142), rfl⟩, ⟨by simp [c141, c142], rfl⟩⟩
    · exact hCall_of (n := 200) (T := ⟨fun r i => match r, i with | 1, 1 => some ((Value.bool false), h) | 1, 4 => some ((Value.bool false), h) | _, _ => none, fun _ => none, none⟩)
        (A := (binA Try.prog .lss 2 (Value.int .i64 (x)) (Value.int .i64 (-1152921504606846976)) = some (Value.bool false) ∧ h = h) ∧ (binA Try.prog .gtr 2 (Value.int .i64 (x)) (Value.int .i64 1152921504606846976) = some (Value.bool false) ∧ h = h) ∧ (fun v h1 => v = .int .i64 (if x < -1152921504606846976 ∨ 1152921504606846976 < x then (7 : Int) else 0) ∧ h = h1) (Value.int .i64 0) h) (by kernel_rfl) ⟨⟨cmp_lss (decide_eq_false c141), rfl⟩, ⟨cmp_gtr (decide_eq_false c142), rfl⟩, ⟨by simp [c141, c142], rfl⟩⟩
/-- Whether a reply is allowed. -/
def chkR (e m : Int) (d : ByteArray) : Int := (if e < 0 ∨ 18 < e ∨ (if m < -1152921504606846976 ∨ 1152921504606846976 < m then (7 : Int) else 0) ≠ 0 ∨ 65536 < ((d.size : Nat) : Int) then (2 : Int) else 0)
set_option maxHeartbeats 4000000 in
theorem check_reply (h : Heap) (e m : Int) (d : ByteArray) : WCall Try.prog 22 #[(Value.agg #[(Value.int .i64 (e)), (Value.int .i64 (m)), (Value.string d)])] h (fun v h1 => v = .int .i64 (chkR e m d) ∧ Ext h h1) := by
  obtain ⟨b145, eb146⟩ : ∃ zq, zq = h.size := ⟨_, rfl⟩
  obtain ⟨h143, e144⟩ : ∃ zq, zq = h.push (.cells #[(Value.int .i64 (e)), (Value.int .i64 (m)), (Value.string d)] 45 (0, 0)) := ⟨_, rfl⟩
  have f147 := push_new e144
  rw [← eb146] at f147
  have x148 : Ext h h143 := by rw [e144]; exact Ext.push _ _
  have o149 : h.size ≤ b145 := by have := (Ext.refl h).size; omega
  have x150 := (Ext.refl h).trans x148
  by_cases c151 : ((e) : Int) < 0
  · exact hCall_of (n := 200) (T := ⟨fun r i => match r, i with | 0, 0 => some ((Value.pointer (some ⟨b145, 0, none⟩)), h143) | 1, 1 => some ((Value.int .i64 (e)), h143) | 1, 2 => some ((Value.bool true), h143) | _, _ => none, fun _ => none, none⟩)
      (A := ((Value.pointer (some ⟨b145, 0, none⟩)) = (Value.pointer (some ⟨h.size, 0, none⟩)) ∧ h143 = h.push (.cells #[(Value.int .i64 (e)), (Value.int .i64 (m)), (Value.string d)] 45 (0, 0))) ∧ (loadT Try.prog h143 28 (Value.pointer (some ⟨b145, 0, none⟩)) = some (Value.int .i64 (e)) ∧ h143 = h143) ∧ (binA Try.prog .lss 28 (Value.int .i64 (e)) (Value.int .i64 0) = some (Value.bool true) ∧ h143 = h143) ∧ (fun v h1 => v = .int .i64 (chkR e m d) ∧ Ext h h1) (Value.int .i64 2) h143) (by kernel_rfl) ⟨⟨by rw [eb146], e144⟩, ⟨load_cell agg28 f147 rfl, rfl⟩, ⟨cmp_lss (decide_eq_true c151), rfl⟩, ⟨by simp [chkR, c151], x150⟩⟩
  · by_cases c152 : (18 : Int) < (e)
    · exact hCall_of (n := 200) (T := ⟨fun r i => match r, i with | 0, 0 => some ((Value.pointer (some ⟨b145, 0, none⟩)), h143) | 1, 1 => some ((Value.int .i64 (e)), h143) | 1, 2 => some ((Value.bool false), h143) | 1, 5 => some ((Value.int .i64 (e)), h143) | 1, 6 => some ((Value.bool true), h143) | _, _ => none, fun _ => none, none⟩)
        (A := ((Value.pointer (some ⟨b145, 0, none⟩)) = (Value.pointer (some ⟨h.size, 0, none⟩)) ∧ h143 = h.push (.cells #[(Value.int .i64 (e)), (Value.int .i64 (m)), (Value.string d)] 45 (0, 0))) ∧ (loadT Try.prog h143 28 (Value.pointer (some ⟨b145, 0, none⟩)) = some (Value.int .i64 (e)) ∧ h143 = h143) ∧ (binA Try.prog .lss 28 (Value.int .i64 (e)) (Value.int .i64 0) = some (Value.bool false) ∧ h143 = h143) ∧ (loadT Try.prog h143 28 (Value.pointer (some ⟨b145, 0, none⟩)) = some (Value.int .i64 (e)) ∧ h143 = h143) ∧ (binA Try.prog .gtr 28 (Value.int .i64 (e)) (Value.int .i64 18) = some (Value.bool true) ∧ h143 = h143) ∧ (fun v h1 => v = .int .i64 (chkR e m d) ∧ Ext h h1) (Value.int .i64 2) h143) (by kernel_rfl) ⟨⟨by rw [eb146], e144⟩, ⟨load_cell agg28 f147 rfl, rfl⟩, ⟨cmp_lss (decide_eq_false c151), rfl⟩, ⟨load_cell agg28 f147 rfl, rfl⟩, ⟨cmp_gtr (decide_eq_true c152), rfl⟩, ⟨by simp [chkR, c151, c152], x150⟩⟩
    · obtain ⟨_, _, sn154, rfl, rfl⟩ := num_check h143 (m)
      by_cases c156 : (((if (m) < -1152921504606846976 ∨ 1152921504606846976 < (m) then (7 : Int) else 0)) : Int) = 0
      · by_cases c157 : (65536 : Int) < ((d.size : Nat))
        · exact hCall_of (n := 200) (T := ⟨fun r i => match r, i with | 0, 0 => some ((Value.pointer (some ⟨b145, 0, none⟩)), h143) | 1, 1 => some ((Value.int .i64 (e)), h143) | 1, 2 => some ((Value.bool false), h143) | 1, 5 => some ((Value.int .i64 (e)), h143) | 1, 6 => some ((Value.bool false), h143) | 1, 10 => some ((Value.int .i64 (m)), h143) | 1, 11 => some ((Value.int .i64 ((if (m) < -1152921504606846976 ∨ 1152921504606846976 < (m) then (7 : Int) else 0))), h143) | 1, 12 => some ((Value.bool false), h143) | 1, 16 => some ((Value.string d), h143) | 1, 18 => some ((Value.bool true), h143) | _, _ => none, fun _ => none, none⟩)
            (A := ((Value.pointer (some ⟨b145, 0, none⟩)) = (Value.pointer (some ⟨h.size, 0, none⟩)) ∧ h143 = h.push (.cells #[(Value.int .i64 (e)), (Value.int .i64 (m)), (Value.string d)] 45 (0, 0))) ∧ (loadT Try.prog h143 28 (Value.pointer (some ⟨b145, 0, none⟩)) = some (Value.int .i64 (e)) ∧ h143 = h143) ∧ (binA Try.prog .lss 28 (Value.int .i64 (e)) (Value.int .i64 0) = some (Value.bool false) ∧ h143 = h143) ∧ (loadT Try.prog h143 28 (Value.pointer (some ⟨b145, 0, none⟩)) = some (Value.int .i64 (e)) ∧ h143 = h143) ∧ (binA Try.prog .gtr 28 (Value.int .i64 (e)) (Value.int .i64 18) = some (Value.bool false) ∧ h143 = h143) ∧ (loadT Try.prog h143 2 (Value.pointer (some ⟨b145, 1, none⟩)) = some (Value.int .i64 (m)) ∧ h143 = h143) ∧ SoundCall Try.prog 45 #[(Value.int .i64 (m))] h143 (Value.int .i64 ((if (m) < -1152921504606846976 ∨ 1152921504606846976 < (m) then (7 : Int) else 0))) h143 ∧ (binA Try.prog .neq 28 (Value.int .i64 ((if (m) < -1152921504606846976 ∨ 1152921504606846976 < (m) then (7 : Int) else 0))) (Value.int .i64 0) = some (Value.bool false) ∧ h143 = h143) ∧ (loadT Try.prog h143 9 (Value.pointer (some ⟨b145, 2, none⟩)) = some (Value.string d) ∧ h143 = h143) ∧ (binA Try.prog .gtr 3 (Value.int .i64 ((d.size : Nat))) (Value.int .i64 65536) = some (Value.bool true) ∧ h143 = h143) ∧ (fun v h1 => v = .int .i64 (chkR e m d) ∧ Ext h h1) (Value.int .i64 2) h143) (by kernel_rfl) ⟨⟨by rw [eb146], e144⟩, ⟨load_cell agg28 f147 rfl, rfl⟩, ⟨cmp_lss (decide_eq_false c151), rfl⟩, ⟨load_cell agg28 f147 rfl, rfl⟩, ⟨cmp_gtr (decide_eq_false c152), rfl⟩, ⟨load_cell agg2 f147 rfl, rfl⟩, sn154, ⟨cmp_neq (decide_eq_false (not_not_intro c156)), rfl⟩, ⟨load_cell agg9 f147 rfl, rfl⟩, ⟨cmp_gtr (decide_eq_true c157), rfl⟩, ⟨by simp [chkR, c151, c152, c156, c157], x150⟩⟩
        · exact hCall_of (n := 200) (T := ⟨fun r i => match r, i with | 0, 0 => some ((Value.pointer (some ⟨b145, 0, none⟩)), h143) | 1, 1 => some ((Value.int .i64 (e)), h143) | 1, 2 => some ((Value.bool false), h143) | 1, 5 => some ((Value.int .i64 (e)), h143) | 1, 6 => some ((Value.bool false), h143) | 1, 10 => some ((Value.int .i64 (m)), h143) | 1, 11 => some ((Value.int .i64 ((if (m) < -1152921504606846976 ∨ 1152921504606846976 < (m) then (7 : Int) else 0))), h143) | 1, 12 => some ((Value.bool false), h143) | 1, 16 => some ((Value.string d), h143) | 1, 18 => some ((Value.bool false), h143) | _, _ => none, fun _ => none, none⟩)
            (A := ((Value.pointer (some ⟨b145, 0, none⟩)) = (Value.pointer (some ⟨h.size, 0, none⟩)) ∧ h143 = h.push (.cells #[(Value.int .i64 (e)), (Value.int .i64 (m)), (Value.string d)] 45 (0, 0))) ∧ (loadT Try.prog h143 28 (Value.pointer (some ⟨b145, 0, none⟩)) = some (Value.int .i64 (e)) ∧ h143 = h143) ∧ (binA Try.prog .lss 28 (Value.int .i64 (e)) (Value.int .i64 0) = some (Value.bool false) ∧ h143 = h143) ∧ (loadT Try.prog h143 28 (Value.pointer (some ⟨b145, 0, none⟩)) = some (Value.int .i64 (e)) ∧ h143 = h143) ∧ (binA Try.prog .gtr 28 (Value.int .i64 (e)) (Value.int .i64 18) = some (Value.bool false) ∧ h143 = h143) ∧ (loadT Try.prog h143 2 (Value.pointer (some ⟨b145, 1, none⟩)) = some (Value.int .i64 (m)) ∧ h143 = h143) ∧ SoundCall Try.prog 45 #[(Value.int .i64 (m))] h143 (Value.int .i64 ((if (m) < -1152921504606846976 ∨ 1152921504606846976 < (m) then (7 : Int) else 0))) h143 ∧ (binA Try.prog .neq 28 (Value.int .i64 ((if (m) < -1152921504606846976 ∨ 1152921504606846976 < (m) then (7 : Int) else 0))) (Value.int .i64 0) = some (Value.bool false) ∧ h143 = h143) ∧ (loadT Try.prog h143 9 (Value.pointer (some ⟨b145, 2, none⟩)) = some (Value.string d) ∧ h143 = h143) ∧ (binA Try.prog .gtr 3 (Value.int .i64 ((d.size : Nat))) (Value.int .i64 65536) = some (Value.bool false) ∧ h143 = h143) ∧ (fun v h1 => v = .int .i64 (chkR e m d) ∧ Ext h h1) (Value.int .i64 0) h143) (by kernel_rfl) ⟨⟨by rw [eb146], e144⟩, ⟨load_cell agg28 f147 rfl, rfl⟩, ⟨cmp_lss (decide_eq_false c151), rfl⟩, ⟨load_cell agg28 f147 rfl, rfl⟩, ⟨cmp_gtr (decide_eq_false c152), rfl⟩, ⟨load_cell agg2 f147 rfl, rfl⟩, sn154, ⟨cmp_neq (decide_eq_false (not_not_intro c156)), rfl⟩, ⟨load_cell agg9 f147 rfl, rfl⟩, ⟨cmp_gtr (decide_eq_false c157), rfl⟩, ⟨by simp [chkR, c151, c152, c156, c157], x150⟩⟩
      · exact hCall_of (n := 200) (T := ⟨fun r i => match r, i with | 0, 0 => some ((Value.pointer (some ⟨b145, 0, none⟩)), h143) | 1, 1 => some ((Value.int .i64 (e)), h143) | 1, 2 => some ((Value.bool false), h143) | 1, 5 => some ((Value.int .i64 (e)), h143) | 1, 6 => some ((Value.bool false), h143) | 1, 10 => some ((Value.int .i64 (m)), h143) | 1, 11 => some ((Value.int .i64 ((if (m) < -1152921504606846976 ∨ 1152921504606846976 < (m) then (7 : Int) else 0))), h143) | 1, 12 => some ((Value.bool true), h143) | _, _ => none, fun _ => none, none⟩)
          (A := ((Value.pointer (some ⟨b145, 0, none⟩)) = (Value.pointer (some ⟨h.size, 0, none⟩)) ∧ h143 = h.push (.cells #[(Value.int .i64 (e)), (Value.int .i64 (m)), (Value.string d)] 45 (0, 0))) ∧ (loadT Try.prog h143 28 (Value.pointer (some ⟨b145, 0, none⟩)) = some (Value.int .i64 (e)) ∧ h143 = h143) ∧ (binA Try.prog .lss 28 (Value.int .i64 (e)) (Value.int .i64 0) = some (Value.bool false) ∧ h143 = h143) ∧ (loadT Try.prog h143 28 (Value.pointer (some ⟨b145, 0, none⟩)) = some (Value.int .i64 (e)) ∧ h143 = h143) ∧ (binA Try.prog .gtr 28 (Value.int .i64 (e)) (Value.int .i64 18) = some (Value.bool false) ∧ h143 = h143) ∧ (loadT Try.prog h143 2 (Value.pointer (some ⟨b145, 1, none⟩)) = some (Value.int .i64 (m)) ∧ h143 = h143) ∧ SoundCall Try.prog 45 #[(Value.int .i64 (m))] h143 (Value.int .i64 ((if (m) < -1152921504606846976 ∨ 1152921504606846976 < (m) then (7 : Int) else 0))) h143 ∧ (binA Try.prog .neq 28 (Value.int .i64 ((if (m) < -1152921504606846976 ∨ 1152921504606846976 < (m) then (7 : Int) else 0))) (Value.int .i64 0) = some (Value.bool true) ∧ h143 = h143) ∧ (fun v h1 => v = .int .i64 (chkR e m d) ∧ Ext h h1) (Value.int .i64 2) h143) (by kernel_rfl) ⟨⟨by rw [eb146], e144⟩, ⟨load_cell agg28 f147 rfl, rfl⟩, ⟨cmp_lss (decide_eq_false c151), rfl⟩, ⟨load_cell agg28 f147 rfl, rfl⟩, ⟨cmp_gtr (decide_eq_false c152), rfl⟩, ⟨load_cell agg2 f147 rfl, rfl⟩, sn154, ⟨cmp_neq (decide_eq_true c156), rfl⟩, ⟨by simp [chkR, c151, c152, c156], x150⟩⟩
set_option maxHeartbeats 4000000 in
theorem valid_nil (h : Heap)  : WCall Try.prog 39 #[(Value.pointer none)] h (fun v h1 => v = .bool false ∧ h = h1) := by
  exact hCall_of (n := 200) (T := ⟨fun r i => match r, i with | _, _ => none, fun _ => none, none⟩)
    (A := (fun v h1 => v = .bool false ∧ h = h1) (Value.bool false) h) (by kernel_rfl) ⟨by simp [], rfl⟩
set_option maxHeartbeats 4000000 in
theorem valid_bad (h : Heap) {t : Nat} {ev : Value} {sa : Option Addr} {n c : Nat} {ra : Value} {fr : Nat × Nat} (ht : h[t]? = some (.cells #[.bool false, ev, .slice sa n c, ra] 68 fr)) : WCall Try.prog 39 #[(Value.pointer (some ⟨t, 0, none⟩))] h (fun v h1 => v = .bool false ∧ h = h1) := by
  exact hCall_of (n := 200) (T := ⟨fun r i => match r, i with | 1, 6 => some ((Value.bool false), h) | _, _ => none, fun _ => none, none⟩)
    (A := (loadT Try.prog h 4 (Value.pointer (some ⟨t, 0, none⟩)) = some (Value.bool false) ∧ h = h) ∧ (fun v h1 => v = .bool false ∧ h = h1) (Value.bool false) h) (by kernel_rfl) ⟨⟨load_cell agg4 ht rfl, rfl⟩, ⟨by simp [], rfl⟩⟩
set_option maxHeartbeats 4000000 in
theorem valid_ok (h : Heap) {t : Nat} {ev : Value} {sa : Option Addr} {n c : Nat} {ra : Value} {fr : Nat × Nat} (ht : h[t]? = some (.cells #[.bool true, ev, .slice sa n c, ra] 68 fr)) : WCall Try.prog 39 #[(Value.pointer (some ⟨t, 0, none⟩))] h (fun v h1 => v = .bool true ∧ h = h1) := by
  exact hCall_of (n := 200) (T := ⟨fun r i => match r, i with | 1, 6 => some ((Value.bool true), h) | _, _ => none, fun _ => none, none⟩)
    (A := (loadT Try.prog h 4 (Value.pointer (some ⟨t, 0, none⟩)) = some (Value.bool true) ∧ h = h) ∧ (fun v h1 => v = .bool true ∧ h = h1) (Value.bool true) h) (by kernel_rfl) ⟨⟨load_cell agg4 ht rfl, rfl⟩, ⟨by simp [], rfl⟩⟩
set_option maxHeartbeats 4000000 in
theorem find_nil (h : Heap) (k : Int) : WCall Try.prog 40 #[(Value.pointer none), (Value.int .i64 (k))] h (fun v h1 => v = .int .i64 1 ∧ h = h1) := by
  obtain ⟨_, _, sn159, rfl, rfl⟩ := valid_nil h
  exact hCall_of (n := 200) (T := ⟨fun r i => match r, i with | 1, 1 => some ((Value.bool false), h) | _, _ => none, fun _ => none, none⟩)
    (A := SoundCall Try.prog 39 #[(Value.pointer none)] h (Value.bool false) h ∧ (fun v h1 => v = .int .i64 1 ∧ h = h1) (Value.int .i64 1) h) (by kernel_rfl) ⟨sn159, ⟨by simp [], rfl⟩⟩
set_option maxHeartbeats 4000000 in
theorem find_bad (h : Heap) {t : Nat} {ev : Value} {sa : Option Addr} {n c : Nat} {ra : Value} {fr : Nat × Nat} (ht : h[t]? = some (.cells #[.bool false, ev, .slice sa n c, ra] 68 fr)) (k : Int) : WCall Try.prog 40 #[(Value.pointer (some ⟨t, 0, none⟩)), (Value.int .i64 (k))] h (fun v h1 => v = .int .i64 1 ∧ h = h1) := by
  obtain ⟨_, _, sn162, rfl, rfl⟩ := valid_bad h ht
  exact hCall_of (n := 200) (T := ⟨fun r i => match r, i with | 1, 1 => some ((Value.bool false), h) | _, _ => none, fun _ => none, none⟩)
    (A := SoundCall Try.prog 39 #[(Value.pointer (some ⟨t, 0, none⟩))] h (Value.bool false) h ∧ (fun v h1 => v = .int .i64 1 ∧ h = h1) (Value.int .i64 1) h) (by kernel_rfl) ⟨sn162, ⟨by simp [], rfl⟩⟩
set_option maxHeartbeats 4000000 in
theorem find_ok (h : Heap) {t : Nat} {ev : Value} {sa : Option Addr} {n c : Nat} {ra : Value} {fr : Nat × Nat} (ht : h[t]? = some (.cells #[.bool true, ev, .slice sa n c, ra] 68 fr)) (k : Int) : WCall Try.prog 40 #[(Value.pointer (some ⟨t, 0, none⟩)), (Value.int .i64 (k))] h (fun v h1 => v = .int .i64 (if k < 1 ∨ ((n : Nat) : Int) < k then (3 : Int) else 0) ∧ h = h1) := by
  obtain ⟨_, _, sn165, rfl, rfl⟩ := valid_ok h ht
  by_cases c167 : ((k) : Int) < 1
  · exact hCall_of (n := 200) (T := ⟨fun r i => match r, i with | 1, 1 => some ((Value.bool true), h) | 3, 1 => some ((Value.bool true), h) | _, _ => none, fun _ => none, none⟩)
      (A := SoundCall Try.prog 39 #[(Value.pointer (some ⟨t, 0, none⟩))] h (Value.bool true) h ∧ (binA Try.prog .lss 3 (Value.int .i64 (k)) (Value.int .i64 1) = some (Value.bool true) ∧ h = h) ∧ (fun v h1 => v = .int .i64 (if k < 1 ∨ ((n : Nat) : Int) < k then (3 : Int) else 0) ∧ h = h1) (Value.int .i64 3) h) (by kernel_rfl) ⟨sn165, ⟨cmp_lss (decide_eq_true c167), rfl⟩, ⟨by simp [c167], rfl⟩⟩
  · by_cases c168 : (((n : Nat)) : Int) < (k)
    · exact hCall_of (n := 200) (T := ⟨fun r i => match r, i with | 1, 1 => some ((Value.bool true), h) | 3, 1 => some ((Value.bool false), h) | 3, 7 => some ((Value.slice sa (n) (c)), h) | 3, 9 => some ((Value.bool true), h) | _, _ => none, fun _ => none, none⟩)
        (A := SoundCall Try.prog 39 #[(Value.pointer (some ⟨t, 0, none⟩))] h (Value.bool true) h ∧ (binA Try.prog .lss 3 (Value.int .i64 (k)) (Value.int .i64 1) = some (Value.bool false) ∧ h = h) ∧ (loadT Try.prog h 53 (Value.pointer (some ⟨t, 2, none⟩)) = some (Value.slice sa (n) (c)) ∧ h = h) ∧ (binA Try.prog .gtr 3 (Value.int .i64 (k)) (Value.int .i64 ((n : Nat))) = some (Value.bool true) ∧ h = h) ∧ (fun v h1 => v = .int .i64 (if k < 1 ∨ ((n : Nat) : Int) < k then (3 : Int) else 0) ∧ h = h1) (Value.int .i64 3) h) (by kernel_rfl) ⟨sn165, ⟨cmp_lss (decide_eq_false c167), rfl⟩, ⟨load_cell agg53 ht rfl, rfl⟩, ⟨cmp_gtr (decide_eq_true c168), rfl⟩, ⟨by simp [c167, c168], rfl⟩⟩
    · exact hCall_of (n := 200) (T := ⟨fun r i => match r, i with | 1, 1 => some ((Value.bool true), h) | 3, 1 => some ((Value.bool false), h) | 3, 7 => some ((Value.slice sa (n) (c)), h) | 3, 9 => some ((Value.bool false), h) | _, _ => none, fun _ => none, none⟩)
        (A := SoundCall Try.prog 39 #[(Value.pointer (some ⟨t, 0, none⟩))] h (Value.bool true) h ∧ (binA Try.prog .lss 3 (Value.int .i64 (k)) (Value.int .i64 1) = some (Value.bool false) ∧ h = h) ∧ (loadT Try.prog h 53 (Value.pointer (some ⟨t, 2, none⟩)) = some (Value.slice sa (n) (c)) ∧ h = h) ∧ (binA Try.prog .gtr 3 (Value.int .i64 (k)) (Value.int .i64 ((n : Nat))) = some (Value.bool false) ∧ h = h) ∧ (fun v h1 => v = .int .i64 (if k < 1 ∨ ((n : Nat) : Int) < k then (3 : Int) else 0) ∧ h = h1) (Value.int .i64 0) h) (by kernel_rfl) ⟨sn165, ⟨cmp_lss (decide_eq_false c167), rfl⟩, ⟨load_cell agg53 ht rfl, rfl⟩, ⟨cmp_gtr (decide_eq_false c168), rfl⟩, ⟨by simp [c167, c168], rfl⟩⟩
theorem TabRow.elen {h : Heap} {O : Nat → Prop} {t : Nat} {m : TabM} {raw : List (EvM × Option Addr × Nat)} {ae aa ar : Option Addr} {ce ca cr : Nat} (T : TabRow h O t m raw ae aa ar ce ca cr) : raw.length = m.evs.length := by rw [← T.evs]; simp
def noCmd : CmdM := ⟨0, 0, 0, 0, 0, 0, .empty, 0, 0, .empty, .empty, 0, .empty, 0, 0, [], 0, 0, 0, 0, false, 0, 0, .empty⟩
def TabM.opened (m : TabM) (c : CmdM) : TabM := ⟨m.evs ++ [⟨m.ats.length + 1, false, { c with call := m.ats.length + 1 }, 0, 0, .empty⟩], m.ats ++ [(m.evs.length : Int)], m.rps ++ [-1]⟩
def TabM.closed (m : TabM) (k : Int) (e n : Int) (d : ByteArray) : TabM := ⟨m.evs ++ [⟨k, true, noCmd, e, n, d⟩], m.ats, m.rps.set (k - 1).toNat (m.evs.length : Int)⟩
theorem StepsAt.add {h : Heap} {raw : List (EvM × Option Addr × Nat)} {x : EvM × Option Addr × Nat} (k : StepsAt h raw) (o : OwnAt h 74 stepc x.1.cmd.steps (.slice x.2.1 x.1.cmd.steps.length x.2.2)) : StepsAt h (raw ++ [x]) := fun y hy => (List.mem_append.1 hy).elim (k y) fun q => by rw [List.mem_singleton.1 q]; exact o
theorem sfoot_add {O : Nat → Prop} {raw : List (EvM × Option Addr × Nat)} {x : EvM × Option Addr × Nat} (k : ∀ b, sfoot raw b → O b) (o : ∀ b, blk (.slice x.2.1 x.1.cmd.steps.length x.2.2) b → O b) (b : Nat) (hb : sfoot (raw ++ [x]) b) : O b := by
  obtain ⟨y, hy, hb⟩ := hb
  rcases List.mem_append.1 hy with q | q
  · exact k b ⟨y, q, hb⟩
  · rw [List.mem_singleton.1 q] at hb; exact o b hb
set_option maxHeartbeats 4000000 in
theorem new_ok (h : Heap)  : WCall Try.prog 17 #[] h (fun v h1 => ∃ b, v = .pointer (some ⟨b, 0, none⟩) ∧ TabAt h1 (fun k => k = b) b ⟨[], [], []⟩ ∧ Ext h h1 ∧ h.size ≤ b) := by
  obtain ⟨b171, eb172⟩ : ∃ zq, zq = h.size := ⟨_, rfl⟩
  obtain ⟨h169, e170⟩ : ∃ zq, zq = h.push (.cells #[(Value.bool true), (Value.slice none 0 0), (Value.slice none 0 0), (Value.slice none 0 0)] 68 (0, 0)) := ⟨_, rfl⟩
  have f173 := push_new e170
  rw [← eb172] at f173
  have x174 : Ext h h169 := by rw [e170]; exact Ext.push _ _
  have o175 : h.size ≤ b171 := by have := (Ext.refl h).size; omega
  have x176 := (Ext.refl h).trans x174
  exact hCall_of (n := 200) (T := ⟨fun r i => match r, i with | 1, 1 => some ((Value.pointer (some ⟨b171, 0, none⟩)), h169) | _, _ => none, fun _ => none, none⟩)
    (A := ((Value.pointer (some ⟨b171, 0, none⟩)) = (Value.pointer (some ⟨h.size, 0, none⟩)) ∧ h169 = h.push (.cells #[(Value.bool true), (Value.slice none 0 0), (Value.slice none 0 0), (Value.slice none 0 0)] 68 (0, 0))) ∧ (fun v h1 => ∃ b, v = .pointer (some ⟨b, 0, none⟩) ∧ TabAt h1 (fun k => k = b) b ⟨[], [], []⟩ ∧ Ext h h1 ∧ h.size ≤ b) (Value.pointer (some ⟨b171, 0, none⟩)) h169) (by kernel_rfl) ⟨⟨by rw [eb172], e170⟩, ⟨_, rfl, ⟨[], none, none, none, 0, 0, 0, f173, .inl ⟨rfl, rfl⟩, .inl ⟨rfl, rfl⟩, .inl ⟨rfl, rfl⟩, rfl, (fun x hx => by cases hx), fun b hb => hb.elim, rfl, fun b hb => hb.elim, fun b hb => hb.elim, fun b hb => hb.elim, fun b hb => (by obtain ⟨x, hx, _⟩ := hb; cases hx)⟩, x176, o175⟩⟩
set_option maxHeartbeats 4000000 in
theorem open_ok (h : Heap) {O : Nat → Prop} {t : Nat} {m : TabM} (hT : TabAt h O t m) (hm : m.evs.length ≤ 100000) (hr : m.rps.length = m.ats.length) (c : CmdM) (sa : Option Addr) (cp : Nat) (hl : SliceAt h stepc 2 c.steps (.slice sa c.steps.length cp)) (hlen : c.steps.length ≤ 1048576) : WCall Try.prog 18 #[(Value.pointer (some ⟨t, 0, none⟩)), (Value.agg #[(Value.int .i64 (c.kind)), (Value.int .i64 (c.call)), (Value.int .i64 (c.saga)), (Value.int .i64 (c.e1)), (Value.int .i64 (c.e2)), (Value.int .i64 (c.e3)), (Value.string c.key), (Value.int .i64 (c.delta)), (Value.int .i64 (c.move)), (Value.string c.rf), (Value.string c.rt), (Value.int .i64 (c.group)), (Value.string c.dn), (Value.int .i64 (c.dr)), (Value.int .i64 (c.dd)), (Value.slice sa (c.steps.length) (cp)), (Value.int .i64 (c.i1)), (Value.int .i64 (c.i2)), (Value.int .i64 (c.i3)), (Value.int .i64 (c.im)), (Value.bool c.ii), (Value.int .i64 (c.ig)), (Value.int .i64 (c.res)), (Value.string c.data)])] h (fun v h1 => (c.call ≠ 0 ∨ ¬ c.kind ∈ ([2, 11, 12, 13, 14] : List Int) → v = .tuple #[.int .i64 0, .int .i64 2] ∧ Ext h h1) ∧ (c.call = 0 ∧ c.kind ∈ ([2, 11, 12, 13, 14] : List Int) ∧ 2000 ≤ m.ats.length → v = .tuple #[.int .i64 0, .int .i64 4] ∧ Ext h h1) ∧ (c.call = 0 ∧ c.kind ∈ ([2, 11, 12, 13, 14] : List Int) ∧ m.ats.length < 2000 → v = .tuple #[.int .i64 ((m.ats.length : Nat) + 1), .int .i64 0] ∧ Chg O h h1 ∧ TabAt h1 (fun b => O b ∨ h.size ≤ b) t (m.opened c))) := by
  obtain ⟨raw178, ae179, aa180, ar181, ce182, ca183, cr184, T177⟩ := hT
  have el := T177.elen
  obtain ⟨b187, eb188⟩ : ∃ zq, zq = h.size := ⟨_, rfl⟩
  obtain ⟨h185, e186⟩ : ∃ zq, zq = h.push (.cells #[(Value.int .i64 (c.kind)), (Value.int .i64 (c.call)), (Value.int .i64 (c.saga)), (Value.int .i64 (c.e1)), (Value.int .i64 (c.e2)), (Value.int .i64 (c.e3)), (Value.string c.key), (Value.int .i64 (c.delta)), (Value.int .i64 (c.move)), (Value.string c.rf), (Value.string c.rt), (Value.int .i64 (c.group)), (Value.string c.dn), (Value.int .i64 (c.dr)), (Value.int .i64 (c.dd)), (Value.slice sa (c.steps.length) (cp)), (Value.int .i64 (c.i1)), (Value.int .i64 (c.i2)), (Value.int .i64 (c.i3)), (Value.int .i64 (c.im)), (Value.bool c.ii), (Value.int .i64 (c.ig)), (Value.int .i64 (c.res)), (Value.string c.data)] 43 (0, 0)) := ⟨_, rfl⟩
  have f189 := push_new e186
  rw [← eb188] at f189
  have n190 : b187 ≠ t := by have := row_lt T177.row; omega
  have n191 : ∀ zz, (blk (Value.slice ae179 (raw178.length) (ce182))) zz → ¬ zz = b187 := fun zz hz ez => by have := T177.ev.blk_lt hz; omega
  have n192 : ∀ zz, (blk (Value.slice aa180 (m.ats.length) (ca183))) zz → ¬ zz = b187 := fun zz hz ez => by have := T177.at_.blk_lt hz; omega
  have n193 : ∀ zz, (blk (Value.slice ar181 (m.rps.length) (cr184))) zz → ¬ zz = b187 := fun zz hz ez => by have := T177.rp.blk_lt hz; omega
  have n194 : ∀ zz, (sfoot raw178) zz → ¬ zz = b187 := fun zz hz ez => by have := T177.steps.blk_lt hz; omega
  have n195 : ∀ zz, (blk (Value.slice sa c.steps.length cp)) zz → ¬ zz = b187 := fun zz hz ez => by have := hl.blk_lt hz; omega
  have x196 : Ext h h185 := by rw [e186]; exact Ext.push _ _
  have o197 : h.size ≤ b187 := by have := (Chg.refl (O := O) h).size; omega
  have f198 := x196 _ _ T177.row
  have p199 := T177.ev.keep fun b r _ q => x196 b r q
  have p200 := T177.at_.keep fun b r _ q => x196 b r q
  have p201 := T177.rp.keep fun b r _ q => x196 b r q
  have p202 := T177.steps.keep fun b r _ q => x196 b r q
  have p203 := hl.keep fun b r _ q => x196 b r q
  have x204 := (Chg.refl (O := O) h).trans (Chg.ext x196)
  have y205 := (Ext.refl h).trans x196
  obtain ⟨_, _, sn207, rfl, rfl⟩ := valid_ok h185 f198
  by_cases c209 : ((c.call) : Int) = 0
  · obtain ⟨b212, eb213⟩ : ∃ zq, zq = h185.size := ⟨_, rfl⟩
    obtain ⟨h210, e211⟩ : ∃ zq, zq = h185.push (.cells #[(Value.int .i64 2), (Value.int .i64 11), (Value.int .i64 12), (Value.int .i64 13), (Value.int .i64 14)] 3 (0, 0)) := ⟨_, rfl⟩
    have f214 := push_new e211
    rw [← eb213] at f214
    have n215 : b212 ≠ t := by have := row_lt f198; omega
    have n216 : b212 ≠ b187 := by have := row_lt f189; omega
    have n217 : ∀ zz, (blk (Value.slice ae179 (raw178.length) (ce182))) zz → ¬ zz = b212 := fun zz hz ez => by have := p199.blk_lt hz; omega
    have n218 : ∀ zz, (blk (Value.slice aa180 (m.ats.length) (ca183))) zz → ¬ zz = b212 := fun zz hz ez => by have := p200.blk_lt hz; omega
    have n219 : ∀ zz, (blk (Value.slice ar181 (m.rps.length) (cr184))) zz → ¬ zz = b212 := fun zz hz ez => by have := p201.blk_lt hz; omega
    have n220 : ∀ zz, (sfoot raw178) zz → ¬ zz = b212 := fun zz hz ez => by have := p202.blk_lt hz; omega
    have n221 : ∀ zz, (blk (Value.slice sa c.steps.length cp)) zz → ¬ zz = b212 := fun zz hz ez => by have := p203.blk_lt hz; omega
    have x222 : Ext h185 h210 := by rw [e211]; exact Ext.push _ _
    have o223 : h.size ≤ b212 := by have := x204.size; omega
    have f224 := x222 _ _ f198
    have f225 := x222 _ _ f189
    have p226 := p199.keep fun b r _ q => x222 b r q
    have p227 := p200.keep fun b r _ q => x222 b r q
    have p228 := p201.keep fun b r _ q => x222 b r q
    have p229 := p202.keep fun b r _ q => x222 b r q
    have p230 := p203.keep fun b r _ q => x222 b r q
    have x231 := x204.trans (Chg.ext x222)
    have y232 := y205.trans x222
    have p233 : SliceAt h210 icell 1 ([2, 11, 12, 13, 14] : List Int) (Value.slice (some ⟨b212, 0, none⟩) 5 5) := .inr ⟨b212, 0, 5, _, _, _, rfl, ⟨f214, by decide, by simp, by simp, rfl⟩⟩
    obtain ⟨_, hh234, sn235, rfl, x236⟩ := among_ok h210 [2, 11, 12, 13, 14] (c.kind) _ _ p233 (by simp)
    have f237 := x236 _ _ f224
    have f238 := x236 _ _ f225
    have f239 := x236 _ _ f214
    have p240 := p226.keep fun b r _ q => x236 b r q
    have p241 := p227.keep fun b r _ q => x236 b r q
    have p242 := p228.keep fun b r _ q => x236 b r q
    have p243 := p229.keep fun b r _ q => x236 b r q
    have p244 := p230.keep fun b r _ q => x236 b r q
    have x245 := x231.trans (Chg.ext x236)
    have y246 := y232.trans x236
    rcases Bool.eq_false_or_eq_true ((decide ((c.kind) ∈ ([2, 11, 12, 13, 14] : List Int)))) with c247 | c247
    · by_cases c248 : (2000 : Int) ≤ ((m.ats.length : Nat))
      · exact hCall_of (n := 200) (T := ⟨fun r i => match r, i with | 0, 0 => some ((Value.pointer (some ⟨b187, 0, none⟩)), h185) | 1, 1 => some ((Value.bool true), h185) | 3, 1 => some ((Value.int .i64 (c.call)), h185) | 3, 2 => some ((Value.bool false), h185) | 3, 5 => some ((Value.int .i64 (c.kind)), h185) | 3, 6 => some ((Value.slice (some ⟨b212, 0, none⟩) 5 5), h210) | 3, 7 => some ((Value.bool true), hh234) | 5, 3 => some ((Value.slice aa180 (m.ats.length) (ca183)), hh234) | 5, 5 => some ((Value.bool true), hh234) | _, _ => none, fun _ => none, none⟩)
          (A := ((Value.pointer (some ⟨b187, 0, none⟩)) = (Value.pointer (some ⟨h.size, 0, none⟩)) ∧ h185 = h.push (.cells #[(Value.int .i64 (c.kind)), (Value.int .i64 (c.call)), (Value.int .i64 (c.saga)), (Value.int .i64 (c.e1)), (Value.int .i64 (c.e2)), (Value.int .i64 (c.e3)), (Value.string c.key), (Value.int .i64 (c.delta)), (Value.int .i64 (c.move)), (Value.string c.rf), (Value.string c.rt), (Value.int .i64 (c.group)), (Value.string c.dn), (Value.int .i64 (c.dr)), (Value.int .i64 (c.dd)), (Value.slice sa (c.steps.length) (cp)), (Value.int .i64 (c.i1)), (Value.int .i64 (c.i2)), (Value.int .i64 (c.i3)), (Value.int .i64 (c.im)), (Value.bool c.ii), (Value.int .i64 (c.ig)), (Value.int .i64 (c.res)), (Value.string c.data)] 43 (0, 0))) ∧ SoundCall Try.prog 39 #[(Value.pointer (some ⟨t, 0, none⟩))] h185 (Value.bool true) h185 ∧ (loadT Try.prog h185 3 (Value.pointer (some ⟨b187, 1, none⟩)) = some (Value.int .i64 (c.call)) ∧ h185 = h185) ∧ (binA Try.prog .neq 3 (Value.int .i64 (c.call)) (Value.int .i64 0) = some (Value.bool false) ∧ h185 = h185) ∧ (loadT Try.prog h185 3 (Value.pointer (some ⟨b187, 0, none⟩)) = some (Value.int .i64 (c.kind)) ∧ h185 = h185) ∧ ((Value.slice (some ⟨b212, 0, none⟩) 5 5) = (Value.slice (some ⟨h185.size, 0, none⟩) 5 5) ∧ h210 = h185.push (.cells #[(Value.int .i64 2), (Value.int .i64 11), (Value.int .i64 12), (Value.int .i64 13), (Value.int .i64 14)] 3 (0, 0))) ∧ SoundCall Try.prog 43 #[(Value.int .i64 (c.kind)), (Value.slice (some ⟨b212, 0, none⟩) 5 5)] h210 (Value.bool true) hh234 ∧ (loadT Try.prog hh234 53 (Value.pointer (some ⟨t, 2, none⟩)) = some (Value.slice aa180 (m.ats.length) (ca183)) ∧ hh234 = hh234) ∧ (binA Try.prog .geq 3 (Value.int .i64 ((m.ats.length : Nat))) (Value.int .i64 2000) = some (Value.bool true) ∧ hh234 = hh234) ∧ (fun v h1 => (c.call ≠ 0 ∨ ¬ c.kind ∈ ([2, 11, 12, 13, 14] : List Int) → v = .tuple #[.int .i64 0, .int .i64 2] ∧ Ext h h1) ∧ (c.call = 0 ∧ c.kind ∈ ([2, 11, 12, 13, 14] : List Int) ∧ 2000 ≤ m.ats.length → v = .tuple #[.int .i64 0, .int .i64 4] ∧ Ext h h1) ∧ (c.call = 0 ∧ c.kind ∈ ([2, 11, 12, 13, 14] : List Int) ∧ m.ats.length < 2000 → v = .tuple #[.int .i64 ((m.ats.length : Nat) + 1), .int .i64 0] ∧ Chg O h h1 ∧ TabAt h1 (fun b => O b ∨ h.size ≤ b) t (m.opened c))) (Value.tuple #[(Value.int .i64 0), (Value.int .i64 4)]) hh234) (by kernel_rfl) ⟨⟨by rw [eb188], e186⟩, sn207, ⟨load_cell agg3 f189 rfl, rfl⟩, ⟨cmp_neq (decide_eq_false (not_not_intro c209)), rfl⟩, ⟨load_cell agg3 f189 rfl, rfl⟩, ⟨by rw [eb213], e211⟩, (by rw [← c247]; exact sn235), ⟨load_cell agg53 f237 rfl, rfl⟩, ⟨cmp_geq (decide_eq_true c248), rfl⟩, ⟨fun q => absurd q (not_or_intro (not_not_intro c209) (not_not_intro (of_decide_eq_true c247))), fun _ => ⟨rfl, y246⟩, fun q => absurd q.2.2 (by omega)⟩⟩
      · obtain ⟨_, hh253, sn254, w249, c250, rfl, o251, x255, b252⟩ := copy_def hh234 c.steps c.dn (c.dr) (c.dd) _ _ p244 (by omega)
        have f256 := x255 _ _ f237
        have f257 := x255 _ _ f238
        have f258 := x255 _ _ f239
        have p259 := p240.keep fun b r _ q => x255 b r q
        have p260 := p241.keep fun b r _ q => x255 b r q
        have p261 := p242.keep fun b r _ q => x255 b r q
        have p262 := p243.keep fun b r _ q => x255 b r q
        have p263 := p244.keep fun b r _ q => x255 b r q
        have x264 := x245.trans (Chg.ext x255)
        have y265 := y246.trans x255
        have z267 : h.size ≤ hh234.size := x245.size
        have n268 : ∀ zz, blk (Value.slice w249 (c.steps.length) (c250)) zz → ¬ zz = t := fun zz hz ez => by have := b252 zz hz; have := row_lt f237; omega
        have n269 : ∀ zz, blk (Value.slice w249 (c.steps.length) (c250)) zz → ¬ zz = b187 := fun zz hz ez => by have := b252 zz hz; have := row_lt f238; omega
        have n270 : ∀ zz, blk (Value.slice w249 (c.steps.length) (c250)) zz → ¬ zz = b212 := fun zz hz ez => by have := b252 zz hz; have := row_lt f239; omega
        have n271 : ∀ zz, blk (Value.slice w249 (c.steps.length) (c250)) zz → ¬ (blk (Value.slice ae179 (raw178.length) (ce182))) zz := fun zz hz ez => by have := b252 zz hz; have := p240.blk_lt ez; omega
        have n272 : ∀ zz, blk (Value.slice w249 (c.steps.length) (c250)) zz → ¬ (blk (Value.slice aa180 (m.ats.length) (ca183))) zz := fun zz hz ez => by have := b252 zz hz; have := p241.blk_lt ez; omega
        have n273 : ∀ zz, blk (Value.slice w249 (c.steps.length) (c250)) zz → ¬ (blk (Value.slice ar181 (m.rps.length) (cr184))) zz := fun zz hz ez => by have := b252 zz hz; have := p242.blk_lt ez; omega
        have n274 : ∀ zz, blk (Value.slice w249 (c.steps.length) (c250)) zz → ¬ (sfoot raw178) zz := fun zz hz ez => by have := b252 zz hz; have := p243.blk_lt ez; omega
        have n275 : ∀ zz, blk (Value.slice w249 (c.steps.length) (c250)) zz → ¬ (blk (Value.slice sa c.steps.length cp)) zz := fun zz hz ez => by have := b252 zz hz; have := p244.blk_lt ez; omega
        have o276 : ∀ zz, blk (Value.slice w249 (c.steps.length) (c250)) zz → h.size ≤ zz := fun zz hz => by have := b252 zz hz; omega
        obtain ⟨h277, e278⟩ : ∃ zq, zq = hh253.setIfInBounds b187 (.cells #[(Value.int .i64 (c.kind)), (Value.int .i64 (c.call)), (Value.int .i64 (c.saga)), (Value.int .i64 (c.e1)), (Value.int .i64 (c.e2)), (Value.int .i64 (c.e3)), (Value.string c.key), (Value.int .i64 (c.delta)), (Value.int .i64 (c.move)), (Value.string c.rf), (Value.string c.rt), (Value.int .i64 (c.group)), (Value.string c.dn), (Value.int .i64 (c.dr)), (Value.int .i64 (c.dd)), (Value.slice w249 (c.steps.length) (c250)), (Value.int .i64 (c.i1)), (Value.int .i64 (c.i2)), (Value.int .i64 (c.i3)), (Value.int .i64 (c.im)), (Value.bool c.ii), (Value.int .i64 (c.ig)), (Value.int .i64 (c.res)), (Value.string c.data)] 43 (0, 0)) := ⟨_, rfl⟩
        have f279 := set_same e278 f257
        have f280 := set_other e278 f256 n190
        have f282 := set_other e278 f258 n216.symm
        have p283 := p259.keep fun b r hb q => (Chg.set e278).same b r q (n191 b hb)
        have p284 := p260.keep fun b r hb q => (Chg.set e278).same b r q (n192 b hb)
        have p285 := p261.keep fun b r hb q => (Chg.set e278).same b r q (n193 b hb)
        have p286 := p262.keep fun b r hb q => (Chg.set e278).same b r q (n194 b hb)
        have p287 := o251.keep fun b r hb q => (Chg.set e278).same b r q (n269 b hb)
        have x288 := x264.then (Chg.set e278) (fun b hb => by subst hb; exact (.inr o197))
        have y289 := Ext.setNew y265 e278 o197
        obtain ⟨h290, e291⟩ : ∃ zq, zq = h277.setIfInBounds b187 (.cells #[(Value.int .i64 (c.kind)), (Value.int .i64 (((m.ats.length : Nat)) + 1)), (Value.int .i64 (c.saga)), (Value.int .i64 (c.e1)), (Value.int .i64 (c.e2)), (Value.int .i64 (c.e3)), (Value.string c.key), (Value.int .i64 (c.delta)), (Value.int .i64 (c.move)), (Value.string c.rf), (Value.string c.rt), (Value.int .i64 (c.group)), (Value.string c.dn), (Value.int .i64 (c.dr)), (Value.int .i64 (c.dd)), (Value.slice w249 (c.steps.length) (c250)), (Value.int .i64 (c.i1)), (Value.int .i64 (c.i2)), (Value.int .i64 (c.i3)), (Value.int .i64 (c.im)), (Value.bool c.ii), (Value.int .i64 (c.ig)), (Value.int .i64 (c.res)), (Value.string c.data)] 43 (0, 0)) := ⟨_, rfl⟩
        have f292 := set_same e291 f279
        have f293 := set_other e291 f280 n190
        have f295 := set_other e291 f282 n216.symm
        have p296 := p283.keep fun b r hb q => (Chg.set e291).same b r q (n191 b hb)
        have p297 := p284.keep fun b r hb q => (Chg.set e291).same b r q (n192 b hb)
        have p298 := p285.keep fun b r hb q => (Chg.set e291).same b r q (n193 b hb)
        have p299 := p286.keep fun b r hb q => (Chg.set e291).same b r q (n194 b hb)
        have p300 := p287.keep fun b r hb q => (Chg.set e291).same b r q (n269 b hb)
        have x301 := x288.then (Chg.set e291) (fun b hb => by subst hb; exact (.inr o197))
        have y302 := Ext.setNew y289 e291 o197
        obtain ⟨b305, eb306⟩ : ∃ zq, zq = h290.size := ⟨_, rfl⟩
        obtain ⟨h303, e304⟩ : ∃ zq, zq = h290.push (.cells #[(Value.int .i64 ((raw178.length : Nat)))] 3 (0, 0)) := ⟨_, rfl⟩
        have f307 := push_new e304
        rw [← eb306] at f307
        have n308 : b305 ≠ t := by have := row_lt f293; omega
        have n309 : b305 ≠ b187 := by have := row_lt f292; omega
        have n310 : b305 ≠ b212 := by have := row_lt f295; omega
        have n311 : ∀ zz, (blk (Value.slice ae179 (raw178.length) (ce182))) zz → ¬ zz = b305 := fun zz hz ez => by have := p296.blk_lt hz; omega
        have n312 : ∀ zz, (blk (Value.slice aa180 (m.ats.length) (ca183))) zz → ¬ zz = b305 := fun zz hz ez => by have := p297.blk_lt hz; omega
        have n313 : ∀ zz, (blk (Value.slice ar181 (m.rps.length) (cr184))) zz → ¬ zz = b305 := fun zz hz ez => by have := p298.blk_lt hz; omega
        have n314 : ∀ zz, (sfoot raw178) zz → ¬ zz = b305 := fun zz hz ez => by have := p299.blk_lt hz; omega
        have n315 : ∀ zz, (blk (Value.slice w249 (c.steps.length) (c250))) zz → ¬ zz = b305 := fun zz hz ez => by have := p300.blk_lt hz; omega
        have x316 : Ext h290 h303 := by rw [e304]; exact Ext.push _ _
        have o317 : h.size ≤ b305 := by have := x301.size; omega
        have f318 := x316 _ _ f293
        have f319 := x316 _ _ f292
        have f320 := x316 _ _ f295
        have p321 := p296.keep fun b r _ q => x316 b r q
        have p322 := p297.keep fun b r _ q => x316 b r q
        have p323 := p298.keep fun b r _ q => x316 b r q
        have p324 := p299.keep fun b r _ q => x316 b r q
        have p325 := p300.keep fun b r _ q => x316 b r q
        have x326 := x301.trans (Chg.ext x316)
        have y327 := y302.trans x316
        obtain ⟨b330, eb331⟩ : ∃ zq, zq = h303.size := ⟨_, rfl⟩
        obtain ⟨h328, e329⟩ : ∃ zq, zq = h303.push (.cells #[(Value.int .i64 (-1))] 3 (0, 0)) := ⟨_, rfl⟩
        have f332 := push_new e329
        rw [← eb331] at f332
        have n333 : b330 ≠ t := by have := row_lt f318; omega
        have n334 : b330 ≠ b187 := by have := row_lt f319; omega
        have n335 : b330 ≠ b212 := by have := row_lt f320; omega
        have n336 : b330 ≠ b305 := by have := row_lt f307; omega
        have n337 : ∀ zz, (blk (Value.slice ae179 (raw178.length) (ce182))) zz → ¬ zz = b330 := fun zz hz ez => by have := p321.blk_lt hz; omega
        have n338 : ∀ zz, (blk (Value.slice aa180 (m.ats.length) (ca183))) zz → ¬ zz = b330 := fun zz hz ez => by have := p322.blk_lt hz; omega
        have n339 : ∀ zz, (blk (Value.slice ar181 (m.rps.length) (cr184))) zz → ¬ zz = b330 := fun zz hz ez => by have := p323.blk_lt hz; omega
        have n340 : ∀ zz, (sfoot raw178) zz → ¬ zz = b330 := fun zz hz ez => by have := p324.blk_lt hz; omega
        have n341 : ∀ zz, (blk (Value.slice w249 (c.steps.length) (c250))) zz → ¬ zz = b330 := fun zz hz ez => by have := p325.blk_lt hz; omega
        have x342 : Ext h303 h328 := by rw [e329]; exact Ext.push _ _
        have o343 : h.size ≤ b330 := by have := x326.size; omega
        have f344 := x342 _ _ f318
        have f345 := x342 _ _ f319
        have f346 := x342 _ _ f320
        have f347 := x342 _ _ f307
        have p348 := p321.keep fun b r _ q => x342 b r q
        have p349 := p322.keep fun b r _ q => x342 b r q
        have p350 := p323.keep fun b r _ q => x342 b r q
        have p351 := p324.keep fun b r _ q => x342 b r q
        have p352 := p325.keep fun b r _ q => x342 b r q
        have x353 := x326.trans (Chg.ext x342)
        have y354 := y327.trans x342
        obtain ⟨w355, h356, e357, p358, c359, n360, z361⟩ := own_append und53 sizeb3 zero3 rfl (by decide) icell_size (x := ((raw178.length : Nat) : Int)) p349 f347 rfl (by omega) (by unfold maxLen; omega)
        obtain ⟨a362, c363, rfl⟩ := (p358.slice icell_size).len
        have z364 : h.size ≤ h328.size := x353.size
        have x365 := x353.then c359 (fun b hb => .inl (T177.inA b hb))
        have f366 := c359.same _ _ f344 (fun hb => p349.ne f344 (by decide) hb rfl)
        have f367 := c359.same _ _ f345 (fun hb => n192 _ hb rfl)
        have f368 := c359.same _ _ f346 (fun hb => n218 _ hb rfl)
        have f369 := c359.same _ _ f347 (fun hb => n312 _ hb rfl)
        have f370 := c359.same _ _ f332 (fun hb => n338 _ hb rfl)
        have p371 := p348.keep fun b r hb q => c359.same b r q ((fun b hb hb2 => p348.apart p349 (by decide) hb hb2) b hb)
        have p372 := p350.keep fun b r hb q => c359.same b r q ((fun b hb hb2 => T177.apart b hb2 hb) b hb)
        have p373 := p351.keep fun b r hb q => c359.same b r q ((fun b hb hb2 => p351.apart p349 (by decide) hb hb2) b hb)
        have p374 := p352.keep fun b r hb q => c359.same b r q (n272 b hb)
        have n376 : ∀ zz, blk (Value.slice a362 ((m.ats ++ [((raw178.length : Nat) : Int)]).length) (c363)) zz → ¬ zz = t := fun zz hz ez => by have := n360 zz hz; have := row_lt f344; omega
        have n377 : ∀ zz, blk (Value.slice a362 ((m.ats ++ [((raw178.length : Nat) : Int)]).length) (c363)) zz → ¬ zz = b187 := fun zz hz ez => by have := n360 zz hz; have := row_lt f345; omega
        have n378 : ∀ zz, blk (Value.slice a362 ((m.ats ++ [((raw178.length : Nat) : Int)]).length) (c363)) zz → ¬ zz = b212 := fun zz hz ez => by have := n360 zz hz; have := row_lt f346; omega
        have n379 : ∀ zz, blk (Value.slice a362 ((m.ats ++ [((raw178.length : Nat) : Int)]).length) (c363)) zz → ¬ zz = b305 := fun zz hz ez => by have := n360 zz hz; have := row_lt f347; omega
        have n380 : ∀ zz, blk (Value.slice a362 ((m.ats ++ [((raw178.length : Nat) : Int)]).length) (c363)) zz → ¬ zz = b330 := fun zz hz ez => by have := n360 zz hz; have := row_lt f332; omega
        have n381 : ∀ zz, blk (Value.slice a362 ((m.ats ++ [((raw178.length : Nat) : Int)]).length) (c363)) zz → ¬ (blk (Value.slice ae179 (raw178.length) (ce182))) zz := fun zz hz ez => by have := n360 zz hz; have := p348.blk_lt ez; omega
        have n382 : ∀ zz, blk (Value.slice a362 ((m.ats ++ [((raw178.length : Nat) : Int)]).length) (c363)) zz → ¬ (blk (Value.slice ar181 (m.rps.length) (cr184))) zz := fun zz hz ez => by have := n360 zz hz; have := p350.blk_lt ez; omega
        have n383 : ∀ zz, blk (Value.slice a362 ((m.ats ++ [((raw178.length : Nat) : Int)]).length) (c363)) zz → ¬ (sfoot raw178) zz := fun zz hz ez => by have := n360 zz hz; have := p351.blk_lt ez; omega
        have n384 : ∀ zz, blk (Value.slice a362 ((m.ats ++ [((raw178.length : Nat) : Int)]).length) (c363)) zz → ¬ (blk (Value.slice w249 (c.steps.length) (c250))) zz := fun zz hz ez => by have := n360 zz hz; have := p352.blk_lt ez; omega
        have o385 : ∀ zz, blk (Value.slice a362 ((m.ats ++ [((raw178.length : Nat) : Int)]).length) (c363)) zz → h.size ≤ zz := fun zz hz => by have := n360 zz hz; have := z364; omega
        obtain ⟨w386, h387, e388, p389, c390, n391, z392⟩ := own_append und53 sizeb3 zero3 rfl (by decide) icell_size (x := (-1 : Int)) p372 f370 rfl (by omega) (by unfold maxLen; omega)
        obtain ⟨a393, c394, rfl⟩ := (p389.slice icell_size).len
        have z395 : h.size ≤ h356.size := x365.size
        have x396 := x365.then c390 (fun b hb => .inl (T177.inR b hb))
        have f397 := c390.same _ _ f366 (fun hb => p372.ne f366 (by decide) hb rfl)
        have f398 := c390.same _ _ f367 (fun hb => n193 _ hb rfl)
        have f399 := c390.same _ _ f368 (fun hb => n219 _ hb rfl)
        have f400 := c390.same _ _ f369 (fun hb => n313 _ hb rfl)
        have f401 := c390.same _ _ f370 (fun hb => n339 _ hb rfl)
        have p402 := p371.keep fun b r hb q => c390.same b r q ((fun b hb hb2 => p371.apart p372 (by decide) hb hb2) b hb)
        have p403 := p373.keep fun b r hb q => c390.same b r q ((fun b hb hb2 => p373.apart p372 (by decide) hb hb2) b hb)
        have p404 := p374.keep fun b r hb q => c390.same b r q (n273 b hb)
        have p405 := p358.keep fun b r hb q => c390.same b r q (n382 b hb)
        have n407 : ∀ zz, blk (Value.slice a393 ((m.rps ++ [(-1 : Int)]).length) (c394)) zz → ¬ zz = t := fun zz hz ez => by have := n391 zz hz; have := row_lt f366; omega
        have n408 : ∀ zz, blk (Value.slice a393 ((m.rps ++ [(-1 : Int)]).length) (c394)) zz → ¬ zz = b187 := fun zz hz ez => by have := n391 zz hz; have := row_lt f367; omega
        have n409 : ∀ zz, blk (Value.slice a393 ((m.rps ++ [(-1 : Int)]).length) (c394)) zz → ¬ zz = b212 := fun zz hz ez => by have := n391 zz hz; have := row_lt f368; omega
        have n410 : ∀ zz, blk (Value.slice a393 ((m.rps ++ [(-1 : Int)]).length) (c394)) zz → ¬ zz = b305 := fun zz hz ez => by have := n391 zz hz; have := row_lt f369; omega
        have n411 : ∀ zz, blk (Value.slice a393 ((m.rps ++ [(-1 : Int)]).length) (c394)) zz → ¬ zz = b330 := fun zz hz ez => by have := n391 zz hz; have := row_lt f370; omega
        have n412 : ∀ zz, blk (Value.slice a393 ((m.rps ++ [(-1 : Int)]).length) (c394)) zz → ¬ (blk (Value.slice ae179 (raw178.length) (ce182))) zz := fun zz hz ez => by have := n391 zz hz; have := p371.blk_lt ez; omega
        have n413 : ∀ zz, blk (Value.slice a393 ((m.rps ++ [(-1 : Int)]).length) (c394)) zz → ¬ (sfoot raw178) zz := fun zz hz ez => by have := n391 zz hz; have := p373.blk_lt ez; omega
        have n414 : ∀ zz, blk (Value.slice a393 ((m.rps ++ [(-1 : Int)]).length) (c394)) zz → ¬ (blk (Value.slice w249 (c.steps.length) (c250))) zz := fun zz hz ez => by have := n391 zz hz; have := p374.blk_lt ez; omega
        have n415 : ∀ zz, blk (Value.slice a393 ((m.rps ++ [(-1 : Int)]).length) (c394)) zz → ¬ (blk (Value.slice a362 ((m.ats ++ [((raw178.length : Nat) : Int)]).length) (c363))) zz := fun zz hz ez => by have := n391 zz hz; have := p358.blk_lt ez; omega
        have o416 : ∀ zz, blk (Value.slice a393 ((m.rps ++ [(-1 : Int)]).length) (c394)) zz → h.size ≤ zz := fun zz hz => by have := n391 zz hz; have := z395; omega
        obtain ⟨h417, e418⟩ : ∃ zq, zq = h387.setIfInBounds t (.cells #[(Value.bool true), (Value.slice ae179 (raw178.length) (ce182)), (Value.slice a362 ((m.ats ++ [((raw178.length : Nat) : Int)]).length) (c363)), (Value.slice ar181 (m.rps.length) (cr184))] 68 (0, 0)) := ⟨_, rfl⟩
        have f419 := set_same e418 f397
        have f421 := set_other e418 f398 n190.symm
        have f422 := set_other e418 f399 n215.symm
        have f423 := set_other e418 f400 n308.symm
        have f424 := set_other e418 f401 n333.symm
        have p425 := p402.keep fun b r hb q => (Chg.set e418).same b r q ((fun b hb => p402.ne f397 (by decide) hb) b hb)
        have p426 := p403.keep fun b r hb q => (Chg.set e418).same b r q ((fun b hb => p403.ne f397 (by decide) hb) b hb)
        have p427 := p404.keep fun b r hb q => (Chg.set e418).same b r q (n268 b hb)
        have p428 := p405.keep fun b r hb q => (Chg.set e418).same b r q (n376 b hb)
        have p429 := p389.keep fun b r hb q => (Chg.set e418).same b r q (n407 b hb)
        have x430 := x396.then (Chg.set e418) (fun b hb => by subst hb; exact (.inl T177.inT))
        obtain ⟨h431, e432⟩ : ∃ zq, zq = h417.setIfInBounds t (.cells #[(Value.bool true), (Value.slice ae179 (raw178.length) (ce182)), (Value.slice a362 ((m.ats ++ [((raw178.length : Nat) : Int)]).length) (c363)), (Value.slice a393 ((m.rps ++ [(-1 : Int)]).length) (c394))] 68 (0, 0)) := ⟨_, rfl⟩
        have f433 := set_same e432 f419
        have f435 := set_other e432 f421 n190.symm
        have f436 := set_other e432 f422 n215.symm
        have f437 := set_other e432 f423 n308.symm
        have f438 := set_other e432 f424 n333.symm
        have p439 := p425.keep fun b r hb q => (Chg.set e432).same b r q ((fun b hb => p425.ne f419 (by decide) hb) b hb)
        have p440 := p426.keep fun b r hb q => (Chg.set e432).same b r q ((fun b hb => p426.ne f419 (by decide) hb) b hb)
        have p441 := p427.keep fun b r hb q => (Chg.set e432).same b r q (n268 b hb)
        have p442 := p428.keep fun b r hb q => (Chg.set e432).same b r q (n376 b hb)
        have p443 := p429.keep fun b r hb q => (Chg.set e432).same b r q (n407 b hb)
        have x444 := x430.then (Chg.set e432) (fun b hb => by subst hb; exact (.inl T177.inT))
        obtain ⟨b447, eb448⟩ : ∃ zq, zq = h431.size := ⟨_, rfl⟩
        obtain ⟨h445, e446⟩ : ∃ zq, zq = h431.push (.cells #[(Value.int .i64 (((m.ats.length : Nat)) + 1)), (Value.bool false), (Value.int .i64 (c.kind)), (Value.int .i64 (((m.ats.length : Nat)) + 1)), (Value.int .i64 (c.saga)), (Value.int .i64 (c.e1)), (Value.int .i64 (c.e2)), (Value.int .i64 (c.e3)), (Value.string c.key), (Value.int .i64 (c.delta)), (Value.int .i64 (c.move)), (Value.string c.rf), (Value.string c.rt), (Value.int .i64 (c.group)), (Value.string c.dn), (Value.int .i64 (c.dr)), (Value.int .i64 (c.dd)), (Value.slice w249 (c.steps.length) (c250)), (Value.int .i64 (c.i1)), (Value.int .i64 (c.i2)), (Value.int .i64 (c.i3)), (Value.int .i64 (c.im)), (Value.bool c.ii), (Value.int .i64 (c.ig)), (Value.int .i64 (c.res)), (Value.string c.data), (Value.int .i64 0), (Value.int .i64 0), (Value.string .empty)] 47 (0, 0)) := ⟨_, rfl⟩
        have f449 := push_new e446
        rw [← eb448] at f449
        have n450 : b447 ≠ t := by have := row_lt f433; omega
        have n451 : b447 ≠ b187 := by have := row_lt f435; omega
        have n452 : b447 ≠ b212 := by have := row_lt f436; omega
        have n453 : b447 ≠ b305 := by have := row_lt f437; omega
        have n454 : b447 ≠ b330 := by have := row_lt f438; omega
        have n455 : ∀ zz, (blk (Value.slice ae179 (raw178.length) (ce182))) zz → ¬ zz = b447 := fun zz hz ez => by have := p439.blk_lt hz; omega
        have n456 : ∀ zz, (sfoot raw178) zz → ¬ zz = b447 := fun zz hz ez => by have := p440.blk_lt hz; omega
        have n457 : ∀ zz, (blk (Value.slice w249 (c.steps.length) (c250))) zz → ¬ zz = b447 := fun zz hz ez => by have := p441.blk_lt hz; omega
        have n458 : ∀ zz, (blk (Value.slice a362 ((m.ats ++ [((raw178.length : Nat) : Int)]).length) (c363))) zz → ¬ zz = b447 := fun zz hz ez => by have := p442.blk_lt hz; omega
        have n459 : ∀ zz, (blk (Value.slice a393 ((m.rps ++ [(-1 : Int)]).length) (c394))) zz → ¬ zz = b447 := fun zz hz ez => by have := p443.blk_lt hz; omega
        have x460 : Ext h431 h445 := by rw [e446]; exact Ext.push _ _
        have o461 : h.size ≤ b447 := by have := x444.size; omega
        have f462 := x460 _ _ f433
        have f463 := x460 _ _ f435
        have f464 := x460 _ _ f436
        have f465 := x460 _ _ f437
        have f466 := x460 _ _ f438
        have p467 := p439.keep fun b r _ q => x460 b r q
        have p468 := p440.keep fun b r _ q => x460 b r q
        have p469 := p441.keep fun b r _ q => x460 b r q
        have p470 := p442.keep fun b r _ q => x460 b r q
        have p471 := p443.keep fun b r _ q => x460 b r q
        have x472 := x444.trans (Chg.ext x460)
        obtain ⟨w473, h474, e475, p476, c477, n478, z479⟩ := own_append und31 sizeb47 zero47 rfl (by decide) evc_size (x := ((EvM.mk (((m.ats.length : Nat)) + 1 : Int) (false : Bool) (CmdM.mk (c.kind : Int) (((m.ats.length : Nat)) + 1 : Int) (c.saga : Int) (c.e1 : Int) (c.e2 : Int) (c.e3 : Int) (c.key : ByteArray) (c.delta : Int) (c.move : Int) (c.rf : ByteArray) (c.rt : ByteArray) (c.group : Int) (c.dn : ByteArray) (c.dr : Int) (c.dd : Int) c.steps (c.i1 : Int) (c.i2 : Int) (c.i3 : Int) (c.im : Int) (c.ii : Bool) (c.ig : Int) (c.res : Int) (c.data : ByteArray)) (0 : Int) (0 : Int) (.empty : ByteArray), w249, c250) : EvM × Option Addr × Nat)) p467 f449 rfl (by omega) (by unfold maxLen; omega)
        obtain ⟨a480, c481, rfl⟩ := (p476.slice evc_size).len
        have z482 : h.size ≤ h445.size := x472.size
        have x483 := x472.then c477 (fun b hb => .inl (T177.inE b hb))
        have f484 := c477.same _ _ f462 (fun hb => p467.ne f462 (by decide) hb rfl)
        have f485 := c477.same _ _ f463 (fun hb => n191 _ hb rfl)
        have f486 := c477.same _ _ f464 (fun hb => n217 _ hb rfl)
        have f487 := c477.same _ _ f465 (fun hb => n311 _ hb rfl)
        have f488 := c477.same _ _ f466 (fun hb => n337 _ hb rfl)
        have f489 := c477.same _ _ f449 (fun hb => n455 _ hb rfl)
        have p490 := p468.keep fun b r hb q => c477.same b r q ((fun b hb hb2 => p468.apart p467 (by decide) hb hb2) b hb)
        have p491 := p469.keep fun b r hb q => c477.same b r q (n271 b hb)
        have p492 := p470.keep fun b r hb q => c477.same b r q (n381 b hb)
        have p493 := p471.keep fun b r hb q => c477.same b r q (n412 b hb)
        have n495 : ∀ zz, blk (Value.slice a480 ((raw178 ++ [((EvM.mk (((m.ats.length : Nat)) + 1 : Int) (false : Bool) (CmdM.mk (c.kind : Int) (((m.ats.length : Nat)) + 1 : Int) (c.saga : Int) (c.e1 : Int) (c.e2 : Int) (c.e3 : Int) (c.key : ByteArray) (c.delta : Int) (c.move : Int) (c.rf : ByteArray) (c.rt : ByteArray) (c.group : Int) (c.dn : ByteArray) (c.dr : Int) (c.dd : Int) c.steps (c.i1 : Int) (c.i2 : Int) (c.i3 : Int) (c.im : Int) (c.ii : Bool) (c.ig : Int) (c.res : Int) (c.data : ByteArray)) (0 : Int) (0 : Int) (.empty : ByteArray), w249, c250) : EvM × Option Addr × Nat)]).length) (c481)) zz → ¬ zz = t := fun zz hz ez => by have := n478 zz hz; have := row_lt f462; omega
        have n496 : ∀ zz, blk (Value.slice a480 ((raw178 ++ [((EvM.mk (((m.ats.length : Nat)) + 1 : Int) (false : Bool) (CmdM.mk (c.kind : Int) (((m.ats.length : Nat)) + 1 : Int) (c.saga : Int) (c.e1 : Int) (c.e2 : Int) (c.e3 : Int) (c.key : ByteArray) (c.delta : Int) (c.move : Int) (c.rf : ByteArray) (c.rt : ByteArray) (c.group : Int) (c.dn : ByteArray) (c.dr : Int) (c.dd : Int) c.steps (c.i1 : Int) (c.i2 : Int) (c.i3 : Int) (c.im : Int) (c.ii : Bool) (c.ig : Int) (c.res : Int) (c.data : ByteArray)) (0 : Int) (0 : Int) (.empty : ByteArray), w249, c250) : EvM × Option Addr × Nat)]).length) (c481)) zz → ¬ zz = b187 := fun zz hz ez => by have := n478 zz hz; have := row_lt f463; omega
        have n497 : ∀ zz, blk (Value.slice a480 ((raw178 ++ [((EvM.mk (((m.ats.length : Nat)) + 1 : Int) (false : Bool) (CmdM.mk (c.kind : Int) (((m.ats.length : Nat)) + 1 : Int) (c.saga : Int) (c.e1 : Int) (c.e2 : Int) (c.e3 : Int) (c.key : ByteArray) (c.delta : Int) (c.move : Int) (c.rf : ByteArray) (c.rt : ByteArray) (c.group : Int) (c.dn : ByteArray) (c.dr : Int) (c.dd : Int) c.steps (c.i1 : Int) (c.i2 : Int) (c.i3 : Int) (c.im : Int) (c.ii : Bool) (c.ig : Int) (c.res : Int) (c.data : ByteArray)) (0 : Int) (0 : Int) (.empty : ByteArray), w249, c250) : EvM × Option Addr × Nat)]).length) (c481)) zz → ¬ zz = b212 := fun zz hz ez => by have := n478 zz hz; have := row_lt f464; omega
        have n498 : ∀ zz, blk (Value.slice a480 ((raw178 ++ [((EvM.mk (((m.ats.length : Nat)) + 1 : Int) (false : Bool) (CmdM.mk (c.kind : Int) (((m.ats.length : Nat)) + 1 : Int) (c.saga : Int) (c.e1 : Int) (c.e2 : Int) (c.e3 : Int) (c.key : ByteArray) (c.delta : Int) (c.move : Int) (c.rf : ByteArray) (c.rt : ByteArray) (c.group : Int) (c.dn : ByteArray) (c.dr : Int) (c.dd : Int) c.steps (c.i1 : Int) (c.i2 : Int) (c.i3 : Int) (c.im : Int) (c.ii : Bool) (c.ig : Int) (c.res : Int) (c.data : ByteArray)) (0 : Int) (0 : Int) (.empty : ByteArray), w249, c250) : EvM × Option Addr × Nat)]).length) (c481)) zz → ¬ zz = b305 := fun zz hz ez => by have := n478 zz hz; have := row_lt f465; omega
        have n499 : ∀ zz, blk (Value.slice a480 ((raw178 ++ [((EvM.mk (((m.ats.length : Nat)) + 1 : Int) (false : Bool) (CmdM.mk (c.kind : Int) (((m.ats.length : Nat)) + 1 : Int) (c.saga : Int) (c.e1 : Int) (c.e2 : Int) (c.e3 : Int) (c.key : ByteArray) (c.delta : Int) (c.move : Int) (c.rf : ByteArray) (c.rt : ByteArray) (c.group : Int) (c.dn : ByteArray) (c.dr : Int) (c.dd : Int) c.steps (c.i1 : Int) (c.i2 : Int) (c.i3 : Int) (c.im : Int) (c.ii : Bool) (c.ig : Int) (c.res : Int) (c.data : ByteArray)) (0 : Int) (0 : Int) (.empty : ByteArray), w249, c250) : EvM × Option Addr × Nat)]).length) (c481)) zz → ¬ zz = b330 := fun zz hz ez => by have := n478 zz hz; have := row_lt f466; omega
        have n500 : ∀ zz, blk (Value.slice a480 ((raw178 ++ [((EvM.mk (((m.ats.length : Nat)) + 1 : Int) (false : Bool) (CmdM.mk (c.kind : Int) (((m.ats.length : Nat)) + 1 : Int) (c.saga : Int) (c.e1 : Int) (c.e2 : Int) (c.e3 : Int) (c.key : ByteArray) (c.delta : Int) (c.move : Int) (c.rf : ByteArray) (c.rt : ByteArray) (c.group : Int) (c.dn : ByteArray) (c.dr : Int) (c.dd : Int) c.steps (c.i1 : Int) (c.i2 : Int) (c.i3 : Int) (c.im : Int) (c.ii : Bool) (c.ig : Int) (c.res : Int) (c.data : ByteArray)) (0 : Int) (0 : Int) (.empty : ByteArray), w249, c250) : EvM × Option Addr × Nat)]).length) (c481)) zz → ¬ zz = b447 := fun zz hz ez => by have := n478 zz hz; have := row_lt f449; omega
        have n501 : ∀ zz, blk (Value.slice a480 ((raw178 ++ [((EvM.mk (((m.ats.length : Nat)) + 1 : Int) (false : Bool) (CmdM.mk (c.kind : Int) (((m.ats.length : Nat)) + 1 : Int) (c.saga : Int) (c.e1 : Int) (c.e2 : Int) (c.e3 : Int) (c.key : ByteArray) (c.delta : Int) (c.move : Int) (c.rf : ByteArray) (c.rt : ByteArray) (c.group : Int) (c.dn : ByteArray) (c.dr : Int) (c.dd : Int) c.steps (c.i1 : Int) (c.i2 : Int) (c.i3 : Int) (c.im : Int) (c.ii : Bool) (c.ig : Int) (c.res : Int) (c.data : ByteArray)) (0 : Int) (0 : Int) (.empty : ByteArray), w249, c250) : EvM × Option Addr × Nat)]).length) (c481)) zz → ¬ (sfoot raw178) zz := fun zz hz ez => by have := n478 zz hz; have := p468.blk_lt ez; omega
        have n502 : ∀ zz, blk (Value.slice a480 ((raw178 ++ [((EvM.mk (((m.ats.length : Nat)) + 1 : Int) (false : Bool) (CmdM.mk (c.kind : Int) (((m.ats.length : Nat)) + 1 : Int) (c.saga : Int) (c.e1 : Int) (c.e2 : Int) (c.e3 : Int) (c.key : ByteArray) (c.delta : Int) (c.move : Int) (c.rf : ByteArray) (c.rt : ByteArray) (c.group : Int) (c.dn : ByteArray) (c.dr : Int) (c.dd : Int) c.steps (c.i1 : Int) (c.i2 : Int) (c.i3 : Int) (c.im : Int) (c.ii : Bool) (c.ig : Int) (c.res : Int) (c.data : ByteArray)) (0 : Int) (0 : Int) (.empty : ByteArray), w249, c250) : EvM × Option Addr × Nat)]).length) (c481)) zz → ¬ (blk (Value.slice w249 (c.steps.length) (c250))) zz := fun zz hz ez => by have := n478 zz hz; have := p469.blk_lt ez; omega
        have n503 : ∀ zz, blk (Value.slice a480 ((raw178 ++ [((EvM.mk (((m.ats.length : Nat)) + 1 : Int) (false : Bool) (CmdM.mk (c.kind : Int) (((m.ats.length : Nat)) + 1 : Int) (c.saga : Int) (c.e1 : Int) (c.e2 : Int) (c.e3 : Int) (c.key : ByteArray) (c.delta : Int) (c.move : Int) (c.rf : ByteArray) (c.rt : ByteArray) (c.group : Int) (c.dn : ByteArray) (c.dr : Int) (c.dd : Int) c.steps (c.i1 : Int) (c.i2 : Int) (c.i3 : Int) (c.im : Int) (c.ii : Bool) (c.ig : Int) (c.res : Int) (c.data : ByteArray)) (0 : Int) (0 : Int) (.empty : ByteArray), w249, c250) : EvM × Option Addr × Nat)]).length) (c481)) zz → ¬ (blk (Value.slice a362 ((m.ats ++ [((raw178.length : Nat) : Int)]).length) (c363))) zz := fun zz hz ez => by have := n478 zz hz; have := p470.blk_lt ez; omega
        have n504 : ∀ zz, blk (Value.slice a480 ((raw178 ++ [((EvM.mk (((m.ats.length : Nat)) + 1 : Int) (false : Bool) (CmdM.mk (c.kind : Int) (((m.ats.length : Nat)) + 1 : Int) (c.saga : Int) (c.e1 : Int) (c.e2 : Int) (c.e3 : Int) (c.key : ByteArray) (c.delta : Int) (c.move : Int) (c.rf : ByteArray) (c.rt : ByteArray) (c.group : Int) (c.dn : ByteArray) (c.dr : Int) (c.dd : Int) c.steps (c.i1 : Int) (c.i2 : Int) (c.i3 : Int) (c.im : Int) (c.ii : Bool) (c.ig : Int) (c.res : Int) (c.data : ByteArray)) (0 : Int) (0 : Int) (.empty : ByteArray), w249, c250) : EvM × Option Addr × Nat)]).length) (c481)) zz → ¬ (blk (Value.slice a393 ((m.rps ++ [(-1 : Int)]).length) (c394))) zz := fun zz hz ez => by have := n478 zz hz; have := p471.blk_lt ez; omega
        have o505 : ∀ zz, blk (Value.slice a480 ((raw178 ++ [((EvM.mk (((m.ats.length : Nat)) + 1 : Int) (false : Bool) (CmdM.mk (c.kind : Int) (((m.ats.length : Nat)) + 1 : Int) (c.saga : Int) (c.e1 : Int) (c.e2 : Int) (c.e3 : Int) (c.key : ByteArray) (c.delta : Int) (c.move : Int) (c.rf : ByteArray) (c.rt : ByteArray) (c.group : Int) (c.dn : ByteArray) (c.dr : Int) (c.dd : Int) c.steps (c.i1 : Int) (c.i2 : Int) (c.i3 : Int) (c.im : Int) (c.ii : Bool) (c.ig : Int) (c.res : Int) (c.data : ByteArray)) (0 : Int) (0 : Int) (.empty : ByteArray), w249, c250) : EvM × Option Addr × Nat)]).length) (c481)) zz → h.size ≤ zz := fun zz hz => by have := n478 zz hz; have := z482; omega
        obtain ⟨h506, e507⟩ : ∃ zq, zq = h474.setIfInBounds t (.cells #[(Value.bool true), (Value.slice a480 ((raw178 ++ [((EvM.mk (((m.ats.length : Nat)) + 1 : Int) (false : Bool) (CmdM.mk (c.kind : Int) (((m.ats.length : Nat)) + 1 : Int) (c.saga : Int) (c.e1 : Int) (c.e2 : Int) (c.e3 : Int) (c.key : ByteArray) (c.delta : Int) (c.move : Int) (c.rf : ByteArray) (c.rt : ByteArray) (c.group : Int) (c.dn : ByteArray) (c.dr : Int) (c.dd : Int) c.steps (c.i1 : Int) (c.i2 : Int) (c.i3 : Int) (c.im : Int) (c.ii : Bool) (c.ig : Int) (c.res : Int) (c.data : ByteArray)) (0 : Int) (0 : Int) (.empty : ByteArray), w249, c250) : EvM × Option Addr × Nat)]).length) (c481)), (Value.slice a362 ((m.ats ++ [((raw178.length : Nat) : Int)]).length) (c363)), (Value.slice a393 ((m.rps ++ [(-1 : Int)]).length) (c394))] 68 (0, 0)) := ⟨_, rfl⟩
        have f508 := set_same e507 f484
        have f510 := set_other e507 f485 n190.symm
        have f511 := set_other e507 f486 n215.symm
        have f512 := set_other e507 f487 n308.symm
        have f513 := set_other e507 f488 n333.symm
        have f514 := set_other e507 f489 n450.symm
        have p515 := p490.keep fun b r hb q => (Chg.set e507).same b r q ((fun b hb => p490.ne f484 (by decide) hb) b hb)
        have p516 := p491.keep fun b r hb q => (Chg.set e507).same b r q (n268 b hb)
        have p517 := p492.keep fun b r hb q => (Chg.set e507).same b r q (n376 b hb)
        have p518 := p493.keep fun b r hb q => (Chg.set e507).same b r q (n407 b hb)
        have p519 := p476.keep fun b r hb q => (Chg.set e507).same b r q (n495 b hb)
        have x520 := x483.then (Chg.set e507) (fun b hb => by subst hb; exact (.inl T177.inT))
        rw [el] at f508 p517
        have ap : ∀ b, blk (Value.slice a362 ((m.ats ++ [((m.evs.length : Nat) : Int)]).length) (c363)) b → ¬ blk (Value.slice a393 ((m.rps ++ [(-1 : Int)]).length) (c394)) b := fun b hb hb2 => n415 b hb2 (by rw [← el] at hb; exact hb)
        have iA : ∀ b, blk (Value.slice a362 ((m.ats ++ [((m.evs.length : Nat) : Int)]).length) (c363)) b → h.size ≤ b := fun b hb => o385 b (by rw [← el] at hb; exact hb)
        have tb : TabAt h506 (fun b => O b ∨ h.size ≤ b) t (m.opened c) := ⟨raw178 ++ [_], _, _, _, _, _, _, ⟨f508, p519, p517, p518, by simp [TabM.opened, T177.evs], (p515).add p516, ap, .inl T177.inT, fun b hb => .inr (o505 b hb), fun b hb => .inr (iA b hb), fun b hb => .inr (o416 b hb), sfoot_add (fun b hb => .inl (T177.inS b hb)) (fun b hb => .inr (o276 b hb))⟩⟩
        exact hCall_of (n := 200) (T := ⟨fun r i => match r, i with | 0, 0 => some ((Value.pointer (some ⟨b187, 0, none⟩)), h185) | 1, 1 => some ((Value.bool true), h185) | 3, 1 => some ((Value.int .i64 (c.call)), h185) | 3, 2 => some ((Value.bool false), h185) | 3, 5 => some ((Value.int .i64 (c.kind)), h185) | 3, 6 => some ((Value.slice (some ⟨b212, 0, none⟩) 5 5), h210) | 3, 7 => some ((Value.bool true), hh234) | 5, 3 => some ((Value.slice aa180 (m.ats.length) (ca183)), hh234) | 5, 5 => some ((Value.bool false), hh234) | 7, 1 => some ((Value.agg #[(Value.string c.dn), (Value.int .i64 (c.dr)), (Value.int .i64 (c.dd)), (Value.slice sa (c.steps.length) (cp))]), hh234) | 7, 2 => some ((Value.agg #[(Value.string c.dn), (Value.int .i64 (c.dr)), (Value.int .i64 (c.dd)), (Value.slice w249 (c.steps.length) (c250))]), hh253) | 7, 4 => some (undef, h277) | 8, 3 => some ((Value.slice aa180 (m.ats.length) (ca183)), h277) | 8, 5 => some ((Value.int .i64 (((m.ats.length : Nat)) + 1)), h277) | 8, 7 => some (undef, h290) | 9, 5 => some ((Value.slice aa180 (m.ats.length) (ca183)), h290) | 9, 9 => some ((Value.slice ae179 (raw178.length) (ce182)), h290) | 9, 11 => some ((Value.slice (some ⟨b305, 0, none⟩) 1 1), h303) | 9, 16 => some ((Value.slice ar181 (m.rps.length) (cr184)), h303) | 9, 17 => some ((Value.slice (some ⟨b330, 0, none⟩) 1 1), h328) | 9, 12 => some ((Value.slice a362 ((m.ats ++ [((raw178.length : Nat) : Int)]).length) (c363)), h356) | 9, 18 => some ((Value.slice a393 ((m.rps ++ [(-1 : Int)]).length) (c394)), h387) | 9, 21 => some (undef, h417) | 9, 24 => some (undef, h431) | 10, 4 => some ((Value.slice ae179 (raw178.length) (ce182)), h431) | 10, 6 => some ((Value.int .i64 (((m.ats.length : Nat)) + 1)), h431) | 10, 7 => some ((Value.agg #[(Value.int .i64 (c.kind)), (Value.int .i64 (((m.ats.length : Nat)) + 1)), (Value.int .i64 (c.saga)), (Value.int .i64 (c.e1)), (Value.int .i64 (c.e2)), (Value.int .i64 (c.e3)), (Value.string c.key), (Value.int .i64 (c.delta)), (Value.int .i64 (c.move)), (Value.string c.rf), (Value.string c.rt), (Value.int .i64 (c.group)), (Value.string c.dn), (Value.int .i64 (c.dr)), (Value.int .i64 (c.dd)), (Value.slice w249 (c.steps.length) (c250)), (Value.int .i64 (c.i1)), (Value.int .i64 (c.i2)), (Value.int .i64 (c.i3)), (Value.int .i64 (c.im)), (Value.bool c.ii), (Value.int .i64 (c.ig)), (Value.int .i64 (c.res)), (Value.string c.data)]), h431) | 10, 9 => some ((Value.slice (some ⟨b447, 0, none⟩) 1 1), h445) | 10, 10 => some ((Value.slice a480 ((raw178 ++ [((EvM.mk (((m.ats.length : Nat)) + 1 : Int) (false : Bool) (CmdM.mk (c.kind : Int) (((m.ats.length : Nat)) + 1 : Int) (c.saga : Int) (c.e1 : Int) (c.e2 : Int) (c.e3 : Int) (c.key : ByteArray) (c.delta : Int) (c.move : Int) (c.rf : ByteArray) (c.rt : ByteArray) (c.group : Int) (c.dn : ByteArray) (c.dr : Int) (c.dd : Int) c.steps (c.i1 : Int) (c.i2 : Int) (c.i3 : Int) (c.im : Int) (c.ii : Bool) (c.ig : Int) (c.res : Int) (c.data : ByteArray)) (0 : Int) (0 : Int) (.empty : ByteArray), w249, c250) : EvM × Option Addr × Nat)]).length) (c481)), h474) | 10, 13 => some (undef, h506) | 11, 1 => some ((Value.int .i64 (((m.ats.length : Nat)) + 1)), h506) | _, _ => none, fun _ => none, none⟩)
          (A := ((Value.pointer (some ⟨b187, 0, none⟩)) = (Value.pointer (some ⟨h.size, 0, none⟩)) ∧ h185 = h.push (.cells #[(Value.int .i64 (c.kind)), (Value.int .i64 (c.call)), (Value.int .i64 (c.saga)), (Value.int .i64 (c.e1)), (Value.int .i64 (c.e2)), (Value.int .i64 (c.e3)), (Value.string c.key), (Value.int .i64 (c.delta)), (Value.int .i64 (c.move)), (Value.string c.rf), (Value.string c.rt), (Value.int .i64 (c.group)), (Value.string c.dn), (Value.int .i64 (c.dr)), (Value.int .i64 (c.dd)), (Value.slice sa (c.steps.length) (cp)), (Value.int .i64 (c.i1)), (Value.int .i64 (c.i2)), (Value.int .i64 (c.i3)), (Value.int .i64 (c.im)), (Value.bool c.ii), (Value.int .i64 (c.ig)), (Value.int .i64 (c.res)), (Value.string c.data)] 43 (0, 0))) ∧ SoundCall Try.prog 39 #[(Value.pointer (some ⟨t, 0, none⟩))] h185 (Value.bool true) h185 ∧ (loadT Try.prog h185 3 (Value.pointer (some ⟨b187, 1, none⟩)) = some (Value.int .i64 (c.call)) ∧ h185 = h185) ∧ (binA Try.prog .neq 3 (Value.int .i64 (c.call)) (Value.int .i64 0) = some (Value.bool false) ∧ h185 = h185) ∧ (loadT Try.prog h185 3 (Value.pointer (some ⟨b187, 0, none⟩)) = some (Value.int .i64 (c.kind)) ∧ h185 = h185) ∧ ((Value.slice (some ⟨b212, 0, none⟩) 5 5) = (Value.slice (some ⟨h185.size, 0, none⟩) 5 5) ∧ h210 = h185.push (.cells #[(Value.int .i64 2), (Value.int .i64 11), (Value.int .i64 12), (Value.int .i64 13), (Value.int .i64 14)] 3 (0, 0))) ∧ SoundCall Try.prog 43 #[(Value.int .i64 (c.kind)), (Value.slice (some ⟨b212, 0, none⟩) 5 5)] h210 (Value.bool true) hh234 ∧ (loadT Try.prog hh234 53 (Value.pointer (some ⟨t, 2, none⟩)) = some (Value.slice aa180 (m.ats.length) (ca183)) ∧ hh234 = hh234) ∧ (binA Try.prog .geq 3 (Value.int .i64 ((m.ats.length : Nat))) (Value.int .i64 2000) = some (Value.bool false) ∧ hh234 = hh234) ∧ (loadT Try.prog hh234 39 (Value.pointer (some ⟨b187, 12, none⟩)) = some (Value.agg #[(Value.string c.dn), (Value.int .i64 (c.dr)), (Value.int .i64 (c.dd)), (Value.slice sa (c.steps.length) (cp))]) ∧ hh234 = hh234) ∧ SoundCall Try.prog 44 #[(Value.agg #[(Value.string c.dn), (Value.int .i64 (c.dr)), (Value.int .i64 (c.dd)), (Value.slice sa (c.steps.length) (cp))])] hh234 (Value.agg #[(Value.string c.dn), (Value.int .i64 (c.dr)), (Value.int .i64 (c.dd)), (Value.slice w249 (c.steps.length) (c250))]) hh253 ∧ (storeT Try.prog hh253 39 (Value.pointer (some ⟨b187, 12, none⟩)) (Value.agg #[(Value.string c.dn), (Value.int .i64 (c.dr)), (Value.int .i64 (c.dd)), (Value.slice w249 (c.steps.length) (c250))]) = some h277 ∧ (undef : Value) = undef) ∧ (loadT Try.prog h277 53 (Value.pointer (some ⟨t, 2, none⟩)) = some (Value.slice aa180 (m.ats.length) (ca183)) ∧ h277 = h277) ∧ (binA Try.prog .add 3 (Value.int .i64 ((m.ats.length : Nat))) (Value.int .i64 1) = some (Value.int .i64 (((m.ats.length : Nat)) + 1)) ∧ h277 = h277) ∧ (storeT Try.prog h277 3 (Value.pointer (some ⟨b187, 1, none⟩)) (Value.int .i64 (((m.ats.length : Nat)) + 1)) = some h290 ∧ (undef : Value) = undef) ∧ (loadT Try.prog h290 53 (Value.pointer (some ⟨t, 2, none⟩)) = some (Value.slice aa180 (m.ats.length) (ca183)) ∧ h290 = h290) ∧ (loadT Try.prog h290 31 (Value.pointer (some ⟨t, 1, none⟩)) = some (Value.slice ae179 (raw178.length) (ce182)) ∧ h290 = h290) ∧ ((Value.slice (some ⟨b305, 0, none⟩) 1 1) = (Value.slice (some ⟨h290.size, 0, none⟩) 1 1) ∧ h303 = h290.push (.cells #[(Value.int .i64 ((raw178.length : Nat)))] 3 (0, 0))) ∧ (loadT Try.prog h303 53 (Value.pointer (some ⟨t, 3, none⟩)) = some (Value.slice ar181 (m.rps.length) (cr184)) ∧ h303 = h303) ∧ ((Value.slice (some ⟨b330, 0, none⟩) 1 1) = (Value.slice (some ⟨h303.size, 0, none⟩) 1 1) ∧ h328 = h303.push (.cells #[(Value.int .i64 (-1))] 3 (0, 0))) ∧ appendA Try.prog h328 #[53, 53] #[(Value.slice aa180 (m.ats.length) (ca183)), (Value.slice (some ⟨b305, 0, none⟩) 1 1)] = some ((Value.slice a362 ((m.ats ++ [((raw178.length : Nat) : Int)]).length) (c363)), h356) ∧ (loadT Try.prog h356 53 (Value.pointer (some ⟨t, 3, none⟩)) = some (Value.slice ar181 (m.rps.length) (cr184)) ∧ h356 = h356) ∧ appendA Try.prog h356 #[53, 53] #[(Value.slice ar181 (m.rps.length) (cr184)), (Value.slice (some ⟨b330, 0, none⟩) 1 1)] = some ((Value.slice a393 ((m.rps ++ [(-1 : Int)]).length) (c394)), h387) ∧ (storeT Try.prog h387 53 (Value.pointer (some ⟨t, 2, none⟩)) (Value.slice a362 ((m.ats ++ [((raw178.length : Nat) : Int)]).length) (c363)) = some h417 ∧ (undef : Value) = undef) ∧ (storeT Try.prog h417 53 (Value.pointer (some ⟨t, 3, none⟩)) (Value.slice a393 ((m.rps ++ [(-1 : Int)]).length) (c394)) = some h431 ∧ (undef : Value) = undef) ∧ (loadT Try.prog h431 31 (Value.pointer (some ⟨t, 1, none⟩)) = some (Value.slice ae179 (raw178.length) (ce182)) ∧ h431 = h431) ∧ (loadT Try.prog h431 3 (Value.pointer (some ⟨b187, 1, none⟩)) = some (Value.int .i64 (((m.ats.length : Nat)) + 1)) ∧ h431 = h431) ∧ (loadT Try.prog h431 43 (Value.pointer (some ⟨b187, 0, none⟩)) = some (Value.agg #[(Value.int .i64 (c.kind)), (Value.int .i64 (((m.ats.length : Nat)) + 1)), (Value.int .i64 (c.saga)), (Value.int .i64 (c.e1)), (Value.int .i64 (c.e2)), (Value.int .i64 (c.e3)), (Value.string c.key), (Value.int .i64 (c.delta)), (Value.int .i64 (c.move)), (Value.string c.rf), (Value.string c.rt), (Value.int .i64 (c.group)), (Value.string c.dn), (Value.int .i64 (c.dr)), (Value.int .i64 (c.dd)), (Value.slice w249 (c.steps.length) (c250)), (Value.int .i64 (c.i1)), (Value.int .i64 (c.i2)), (Value.int .i64 (c.i3)), (Value.int .i64 (c.im)), (Value.bool c.ii), (Value.int .i64 (c.ig)), (Value.int .i64 (c.res)), (Value.string c.data)]) ∧ h431 = h431) ∧ ((Value.slice (some ⟨b447, 0, none⟩) 1 1) = (Value.slice (some ⟨h431.size, 0, none⟩) 1 1) ∧ h445 = h431.push (.cells #[(Value.int .i64 (((m.ats.length : Nat)) + 1)), (Value.bool false), (Value.int .i64 (c.kind)), (Value.int .i64 (((m.ats.length : Nat)) + 1)), (Value.int .i64 (c.saga)), (Value.int .i64 (c.e1)), (Value.int .i64 (c.e2)), (Value.int .i64 (c.e3)), (Value.string c.key), (Value.int .i64 (c.delta)), (Value.int .i64 (c.move)), (Value.string c.rf), (Value.string c.rt), (Value.int .i64 (c.group)), (Value.string c.dn), (Value.int .i64 (c.dr)), (Value.int .i64 (c.dd)), (Value.slice w249 (c.steps.length) (c250)), (Value.int .i64 (c.i1)), (Value.int .i64 (c.i2)), (Value.int .i64 (c.i3)), (Value.int .i64 (c.im)), (Value.bool c.ii), (Value.int .i64 (c.ig)), (Value.int .i64 (c.res)), (Value.string c.data), (Value.int .i64 0), (Value.int .i64 0), (Value.string .empty)] 47 (0, 0))) ∧ appendA Try.prog h445 #[31, 31] #[(Value.slice ae179 (raw178.length) (ce182)), (Value.slice (some ⟨b447, 0, none⟩) 1 1)] = some ((Value.slice a480 ((raw178 ++ [((EvM.mk (((m.ats.length : Nat)) + 1 : Int) (false : Bool) (CmdM.mk (c.kind : Int) (((m.ats.length : Nat)) + 1 : Int) (c.saga : Int) (c.e1 : Int) (c.e2 : Int) (c.e3 : Int) (c.key : ByteArray) (c.delta : Int) (c.move : Int) (c.rf : ByteArray) (c.rt : ByteArray) (c.group : Int) (c.dn : ByteArray) (c.dr : Int) (c.dd : Int) c.steps (c.i1 : Int) (c.i2 : Int) (c.i3 : Int) (c.im : Int) (c.ii : Bool) (c.ig : Int) (c.res : Int) (c.data : ByteArray)) (0 : Int) (0 : Int) (.empty : ByteArray), w249, c250) : EvM × Option Addr × Nat)]).length) (c481)), h474) ∧ (storeT Try.prog h474 31 (Value.pointer (some ⟨t, 1, none⟩)) (Value.slice a480 ((raw178 ++ [((EvM.mk (((m.ats.length : Nat)) + 1 : Int) (false : Bool) (CmdM.mk (c.kind : Int) (((m.ats.length : Nat)) + 1 : Int) (c.saga : Int) (c.e1 : Int) (c.e2 : Int) (c.e3 : Int) (c.key : ByteArray) (c.delta : Int) (c.move : Int) (c.rf : ByteArray) (c.rt : ByteArray) (c.group : Int) (c.dn : ByteArray) (c.dr : Int) (c.dd : Int) c.steps (c.i1 : Int) (c.i2 : Int) (c.i3 : Int) (c.im : Int) (c.ii : Bool) (c.ig : Int) (c.res : Int) (c.data : ByteArray)) (0 : Int) (0 : Int) (.empty : ByteArray), w249, c250) : EvM × Option Addr × Nat)]).length) (c481)) = some h506 ∧ (undef : Value) = undef) ∧ (loadT Try.prog h506 3 (Value.pointer (some ⟨b187, 1, none⟩)) = some (Value.int .i64 (((m.ats.length : Nat)) + 1)) ∧ h506 = h506) ∧ (fun v h1 => (c.call ≠ 0 ∨ ¬ c.kind ∈ ([2, 11, 12, 13, 14] : List Int) → v = .tuple #[.int .i64 0, .int .i64 2] ∧ Ext h h1) ∧ (c.call = 0 ∧ c.kind ∈ ([2, 11, 12, 13, 14] : List Int) ∧ 2000 ≤ m.ats.length → v = .tuple #[.int .i64 0, .int .i64 4] ∧ Ext h h1) ∧ (c.call = 0 ∧ c.kind ∈ ([2, 11, 12, 13, 14] : List Int) ∧ m.ats.length < 2000 → v = .tuple #[.int .i64 ((m.ats.length : Nat) + 1), .int .i64 0] ∧ Chg O h h1 ∧ TabAt h1 (fun b => O b ∨ h.size ≤ b) t (m.opened c))) (Value.tuple #[(Value.int .i64 (((m.ats.length : Nat)) + 1)), (Value.int .i64 0)]) h506) (by kernel_rfl) ⟨⟨by rw [eb188], e186⟩, sn207, ⟨load_cell agg3 f189 rfl, rfl⟩, ⟨cmp_neq (decide_eq_false (not_not_intro c209)), rfl⟩, ⟨load_cell agg3 f189 rfl, rfl⟩, ⟨by rw [eb213], e211⟩, (by rw [← c247]; exact sn235), ⟨load_cell agg53 f237 rfl, rfl⟩, ⟨cmp_geq (decide_eq_false c248), rfl⟩, ⟨load_agg agg39 size39 f238 (by simp) (by kernel_rfl), rfl⟩, sn254, ⟨by rw [e278]; exact store_cells size39 rfl f257 (by decide) (by simp) rfl (by kernel_rfl), rfl⟩, ⟨load_cell agg53 f280 rfl, rfl⟩, ⟨add_i64 (by omega) (by omega), rfl⟩, ⟨by rw [e291]; exact store_cells size3 rfl f279 (by decide) (by simp) rfl (by kernel_rfl), rfl⟩, ⟨load_cell agg53 f293 rfl, rfl⟩, ⟨load_cell agg31 f293 rfl, rfl⟩, ⟨by rw [eb306], e304⟩, ⟨load_cell agg53 f318 rfl, rfl⟩, ⟨by rw [eb331], e329⟩, e357, ⟨load_cell agg53 f366 rfl, rfl⟩, e388, ⟨by rw [e418]; exact store_cells size53 rfl f397 (by decide) (by simp) rfl (by kernel_rfl), rfl⟩, ⟨by rw [e432]; exact store_cells size53 rfl f419 (by decide) (by simp) rfl (by kernel_rfl), rfl⟩, ⟨load_cell agg31 f433 rfl, rfl⟩, ⟨load_cell agg3 f435 rfl, rfl⟩, ⟨load_agg agg43 size43 f435 (by simp) (by kernel_rfl), rfl⟩, ⟨by rw [eb448], e446⟩, e475, ⟨by rw [e507]; exact store_cells size31 rfl f484 (by decide) (by simp) rfl (by kernel_rfl), rfl⟩, ⟨load_cell agg3 f510 rfl, rfl⟩, ⟨fun q => absurd q (not_or_intro (not_not_intro c209) (not_not_intro (of_decide_eq_true c247))), fun q => absurd q.2.2 (by omega), fun _ => ⟨rfl, x520, tb⟩⟩⟩
    · exact hCall_of (n := 200) (T := ⟨fun r i => match r, i with | 0, 0 => some ((Value.pointer (some ⟨b187, 0, none⟩)), h185) | 1, 1 => some ((Value.bool true), h185) | 3, 1 => some ((Value.int .i64 (c.call)), h185) | 3, 2 => some ((Value.bool false), h185) | 3, 5 => some ((Value.int .i64 (c.kind)), h185) | 3, 6 => some ((Value.slice (some ⟨b212, 0, none⟩) 5 5), h210) | 3, 7 => some ((Value.bool false), hh234) | _, _ => none, fun _ => none, none⟩)
        (A := ((Value.pointer (some ⟨b187, 0, none⟩)) = (Value.pointer (some ⟨h.size, 0, none⟩)) ∧ h185 = h.push (.cells #[(Value.int .i64 (c.kind)), (Value.int .i64 (c.call)), (Value.int .i64 (c.saga)), (Value.int .i64 (c.e1)), (Value.int .i64 (c.e2)), (Value.int .i64 (c.e3)), (Value.string c.key), (Value.int .i64 (c.delta)), (Value.int .i64 (c.move)), (Value.string c.rf), (Value.string c.rt), (Value.int .i64 (c.group)), (Value.string c.dn), (Value.int .i64 (c.dr)), (Value.int .i64 (c.dd)), (Value.slice sa (c.steps.length) (cp)), (Value.int .i64 (c.i1)), (Value.int .i64 (c.i2)), (Value.int .i64 (c.i3)), (Value.int .i64 (c.im)), (Value.bool c.ii), (Value.int .i64 (c.ig)), (Value.int .i64 (c.res)), (Value.string c.data)] 43 (0, 0))) ∧ SoundCall Try.prog 39 #[(Value.pointer (some ⟨t, 0, none⟩))] h185 (Value.bool true) h185 ∧ (loadT Try.prog h185 3 (Value.pointer (some ⟨b187, 1, none⟩)) = some (Value.int .i64 (c.call)) ∧ h185 = h185) ∧ (binA Try.prog .neq 3 (Value.int .i64 (c.call)) (Value.int .i64 0) = some (Value.bool false) ∧ h185 = h185) ∧ (loadT Try.prog h185 3 (Value.pointer (some ⟨b187, 0, none⟩)) = some (Value.int .i64 (c.kind)) ∧ h185 = h185) ∧ ((Value.slice (some ⟨b212, 0, none⟩) 5 5) = (Value.slice (some ⟨h185.size, 0, none⟩) 5 5) ∧ h210 = h185.push (.cells #[(Value.int .i64 2), (Value.int .i64 11), (Value.int .i64 12), (Value.int .i64 13), (Value.int .i64 14)] 3 (0, 0))) ∧ SoundCall Try.prog 43 #[(Value.int .i64 (c.kind)), (Value.slice (some ⟨b212, 0, none⟩) 5 5)] h210 (Value.bool false) hh234 ∧ (fun v h1 => (c.call ≠ 0 ∨ ¬ c.kind ∈ ([2, 11, 12, 13, 14] : List Int) → v = .tuple #[.int .i64 0, .int .i64 2] ∧ Ext h h1) ∧ (c.call = 0 ∧ c.kind ∈ ([2, 11, 12, 13, 14] : List Int) ∧ 2000 ≤ m.ats.length → v = .tuple #[.int .i64 0, .int .i64 4] ∧ Ext h h1) ∧ (c.call = 0 ∧ c.kind ∈ ([2, 11, 12, 13, 14] : List Int) ∧ m.ats.length < 2000 → v = .tuple #[.int .i64 ((m.ats.length : Nat) + 1), .int .i64 0] ∧ Chg O h h1 ∧ TabAt h1 (fun b => O b ∨ h.size ≤ b) t (m.opened c))) (Value.tuple #[(Value.int .i64 0), (Value.int .i64 2)]) hh234) (by kernel_rfl) ⟨⟨by rw [eb188], e186⟩, sn207, ⟨load_cell agg3 f189 rfl, rfl⟩, ⟨cmp_neq (decide_eq_false (not_not_intro c209)), rfl⟩, ⟨load_cell agg3 f189 rfl, rfl⟩, ⟨by rw [eb213], e211⟩, (by rw [← c247]; exact sn235), ⟨fun _ => ⟨rfl, y246⟩, fun q => absurd q.2.1 (of_decide_eq_false c247), fun q => absurd q.2.1 (of_decide_eq_false c247)⟩⟩
  · exact hCall_of (n := 200) (T := ⟨fun r i => match r, i with | 0, 0 => some ((Value.pointer (some ⟨b187, 0, none⟩)), h185) | 1, 1 => some ((Value.bool true), h185) | 3, 1 => some ((Value.int .i64 (c.call)), h185) | 3, 2 => some ((Value.bool true), h185) | _, _ => none, fun _ => none, none⟩)
      (A := ((Value.pointer (some ⟨b187, 0, none⟩)) = (Value.pointer (some ⟨h.size, 0, none⟩)) ∧ h185 = h.push (.cells #[(Value.int .i64 (c.kind)), (Value.int .i64 (c.call)), (Value.int .i64 (c.saga)), (Value.int .i64 (c.e1)), (Value.int .i64 (c.e2)), (Value.int .i64 (c.e3)), (Value.string c.key), (Value.int .i64 (c.delta)), (Value.int .i64 (c.move)), (Value.string c.rf), (Value.string c.rt), (Value.int .i64 (c.group)), (Value.string c.dn), (Value.int .i64 (c.dr)), (Value.int .i64 (c.dd)), (Value.slice sa (c.steps.length) (cp)), (Value.int .i64 (c.i1)), (Value.int .i64 (c.i2)), (Value.int .i64 (c.i3)), (Value.int .i64 (c.im)), (Value.bool c.ii), (Value.int .i64 (c.ig)), (Value.int .i64 (c.res)), (Value.string c.data)] 43 (0, 0))) ∧ SoundCall Try.prog 39 #[(Value.pointer (some ⟨t, 0, none⟩))] h185 (Value.bool true) h185 ∧ (loadT Try.prog h185 3 (Value.pointer (some ⟨b187, 1, none⟩)) = some (Value.int .i64 (c.call)) ∧ h185 = h185) ∧ (binA Try.prog .neq 3 (Value.int .i64 (c.call)) (Value.int .i64 0) = some (Value.bool true) ∧ h185 = h185) ∧ (fun v h1 => (c.call ≠ 0 ∨ ¬ c.kind ∈ ([2, 11, 12, 13, 14] : List Int) → v = .tuple #[.int .i64 0, .int .i64 2] ∧ Ext h h1) ∧ (c.call = 0 ∧ c.kind ∈ ([2, 11, 12, 13, 14] : List Int) ∧ 2000 ≤ m.ats.length → v = .tuple #[.int .i64 0, .int .i64 4] ∧ Ext h h1) ∧ (c.call = 0 ∧ c.kind ∈ ([2, 11, 12, 13, 14] : List Int) ∧ m.ats.length < 2000 → v = .tuple #[.int .i64 ((m.ats.length : Nat) + 1), .int .i64 0] ∧ Chg O h h1 ∧ TabAt h1 (fun b => O b ∨ h.size ≤ b) t (m.opened c))) (Value.tuple #[(Value.int .i64 0), (Value.int .i64 2)]) h185) (by kernel_rfl) ⟨⟨by rw [eb188], e186⟩, sn207, ⟨load_cell agg3 f189 rfl, rfl⟩, ⟨cmp_neq (decide_eq_true c209), rfl⟩, ⟨fun _ => ⟨rfl, y205⟩, fun q => absurd q.1 (by intro w; omega), fun q => absurd q.1 (by intro w; omega)⟩⟩
set_option maxHeartbeats 4000000 in
theorem close_ok (h : Heap) {O : Nat → Prop} {t : Nat} {m : TabM} (hT : TabAt h O t m) (hm : m.evs.length ≤ 100000) (hr : m.rps.length = m.ats.length) (ha : m.ats.length ≤ 2000) (k e n : Int) (d : ByteArray) : WCall Try.prog 19 #[(Value.pointer (some ⟨t, 0, none⟩)), (Value.int .i64 (k)), (Value.agg #[(Value.int .i64 (e)), (Value.int .i64 (n)), (Value.string d)])] h (fun v h1 => (k < 1 ∨ ((m.ats.length : Nat) : Int) < k → v = .int .i64 3 ∧ Ext h h1) ∧ (1 ≤ k ∧ k ≤ ((m.ats.length : Nat) : Int) ∧ chkR e n d ≠ 0 → v = .int .i64 2 ∧ Ext h h1) ∧ (∀ r, 1 ≤ k ∧ k ≤ ((m.ats.length : Nat) : Int) ∧ chkR e n d = 0 ∧ m.rps[(k - 1).toNat]? = some r ∧ 0 ≤ r → v = .int .i64 6 ∧ Ext h h1) ∧ (∀ r, 1 ≤ k ∧ k ≤ ((m.ats.length : Nat) : Int) ∧ chkR e n d = 0 ∧ m.rps[(k - 1).toNat]? = some r ∧ r < 0 → v = .int .i64 0 ∧ Chg O h h1 ∧ TabAt h1 (fun b => O b ∨ h.size ≤ b) t (m.closed k e n d))) := by
  obtain ⟨raw522, ae523, aa524, ar525, ce526, ca527, cr528, T521⟩ := hT
  have el := T521.elen
  obtain ⟨b531, eb532⟩ : ∃ zq, zq = h.size := ⟨_, rfl⟩
  obtain ⟨h529, e530⟩ : ∃ zq, zq = h.push (.cells #[(Value.int .i64 (e)), (Value.int .i64 (n)), (Value.string d)] 45 (0, 0)) := ⟨_, rfl⟩
  have f533 := push_new e530
  rw [← eb532] at f533
  have n534 : b531 ≠ t := by have := row_lt T521.row; omega
  have n535 : ∀ zz, (blk (Value.slice ae523 (raw522.length) (ce526))) zz → ¬ zz = b531 := fun zz hz ez => by have := T521.ev.blk_lt hz; omega
  have n536 : ∀ zz, (blk (Value.slice aa524 (m.ats.length) (ca527))) zz → ¬ zz = b531 := fun zz hz ez => by have := T521.at_.blk_lt hz; omega
  have n537 : ∀ zz, (blk (Value.slice ar525 (m.rps.length) (cr528))) zz → ¬ zz = b531 := fun zz hz ez => by have := T521.rp.blk_lt hz; omega
  have n538 : ∀ zz, (sfoot raw522) zz → ¬ zz = b531 := fun zz hz ez => by have := T521.steps.blk_lt hz; omega
  have x539 : Ext h h529 := by rw [e530]; exact Ext.push _ _
  have o540 : h.size ≤ b531 := by have := (Chg.refl (O := O) h).size; omega
  have f541 := x539 _ _ T521.row
  have p542 := T521.ev.keep fun b r _ q => x539 b r q
  have p543 := T521.at_.keep fun b r _ q => x539 b r q
  have p544 := T521.rp.keep fun b r _ q => x539 b r q
  have p545 := T521.steps.keep fun b r _ q => x539 b r q
  have x546 := (Chg.refl (O := O) h).trans (Chg.ext x539)
  have y547 := (Ext.refl h).trans x539
  obtain ⟨_, _, sn549, rfl, rfl⟩ := find_ok h529 f541 (k)
  by_cases c551 : (((if (k) < 1 ∨ ((m.ats.length : Nat) : Int) < (k) then (3 : Int) else 0)) : Int) = 0
  · obtain ⟨_, hh552, sn553, rfl, x554⟩ := check_reply h529 (e) (n) d
    have f555 := x554 _ _ f541
    have f556 := x554 _ _ f533
    have p557 := p542.keep fun b r _ q => x554 b r q
    have p558 := p543.keep fun b r _ q => x554 b r q
    have p559 := p544.keep fun b r _ q => x554 b r q
    have p560 := p545.keep fun b r _ q => x554 b r q
    have x561 := x546.trans (Chg.ext x554)
    have y562 := y547.trans x554
    by_cases c563 : ((chkR (e) (n) d) : Int) = 0
    · obtain ⟨i564, v565, e566, l567, g568⟩ := list_at m.rps (e := ((k) - 1)) (by omega) (by omega)
      obtain ⟨b569, o570, q572, a573, k571, u574⟩ := p559.store icell_size g568
      by_cases c575 : (0 : Int) ≤ (v565)
      · have ej : i564 = (k - 1).toNat := by omega
        subst ej
        exact hCall_of (n := 200) (T := ⟨fun r i => match r, i with | 0, 0 => some ((Value.pointer (some ⟨b531, 0, none⟩)), h529) | 1, 2 => some ((Value.int .i64 ((if (k) < 1 ∨ ((m.ats.length : Nat) : Int) < (k) then (3 : Int) else 0))), h529) | 2, 1 => some ((Value.bool false), h529) | 4, 0 => some ((Value.agg #[(Value.int .i64 (e)), (Value.int .i64 (n)), (Value.string d)]), h529) | 4, 1 => some ((Value.int .i64 (chkR (e) (n) d)), hh552) | 4, 2 => some ((Value.bool false), hh552) | 6, 3 => some ((Value.slice ar525 (m.rps.length) (cr528)), hh552) | 6, 5 => some ((Value.int .i64 ((k) - 1)), hh552) | 6, 6 => some ((Value.pointer (some ⟨b569, o570, none⟩)), hh552) | 6, 7 => some ((Value.int .i64 (v565)), hh552) | 6, 8 => some ((Value.bool true), hh552) | _, _ => none, fun _ => none, none⟩)
          (A := ((Value.pointer (some ⟨b531, 0, none⟩)) = (Value.pointer (some ⟨h.size, 0, none⟩)) ∧ h529 = h.push (.cells #[(Value.int .i64 (e)), (Value.int .i64 (n)), (Value.string d)] 45 (0, 0))) ∧ SoundCall Try.prog 40 #[(Value.pointer (some ⟨t, 0, none⟩)), (Value.int .i64 (k))] h529 (Value.int .i64 ((if (k) < 1 ∨ ((m.ats.length : Nat) : Int) < (k) then (3 : Int) else 0))) h529 ∧ (binA Try.prog .neq 28 (Value.int .i64 ((if (k) < 1 ∨ ((m.ats.length : Nat) : Int) < (k) then (3 : Int) else 0))) (Value.int .i64 0) = some (Value.bool false) ∧ h529 = h529) ∧ (loadT Try.prog h529 45 (Value.pointer (some ⟨b531, 0, none⟩)) = some (Value.agg #[(Value.int .i64 (e)), (Value.int .i64 (n)), (Value.string d)]) ∧ h529 = h529) ∧ SoundCall Try.prog 22 #[(Value.agg #[(Value.int .i64 (e)), (Value.int .i64 (n)), (Value.string d)])] h529 (Value.int .i64 (chkR (e) (n) d)) hh552 ∧ (binA Try.prog .neq 28 (Value.int .i64 (chkR (e) (n) d)) (Value.int .i64 0) = some (Value.bool false) ∧ hh552 = hh552) ∧ (loadT Try.prog hh552 53 (Value.pointer (some ⟨t, 3, none⟩)) = some (Value.slice ar525 (m.rps.length) (cr528)) ∧ hh552 = hh552) ∧ (binA Try.prog .sub 3 (Value.int .i64 (k)) (Value.int .i64 1) = some (Value.int .i64 ((k) - 1)) ∧ hh552 = hh552) ∧ (indexAddrA Try.prog 53 (Value.slice ar525 (m.rps.length) (cr528)) (Value.int .i64 ((k) - 1)) = some (Value.pointer (some ⟨b569, o570, none⟩)) ∧ hh552 = hh552) ∧ (loadT Try.prog hh552 3 (Value.pointer (some ⟨b569, o570, none⟩)) = some (Value.int .i64 (v565)) ∧ hh552 = hh552) ∧ (binA Try.prog .geq 3 (Value.int .i64 (v565)) (Value.int .i64 0) = some (Value.bool true) ∧ hh552 = hh552) ∧ (fun v h1 => (k < 1 ∨ ((m.ats.length : Nat) : Int) < k → v = .int .i64 3 ∧ Ext h h1) ∧ (1 ≤ k ∧ k ≤ ((m.ats.length : Nat) : Int) ∧ chkR e n d ≠ 0 → v = .int .i64 2 ∧ Ext h h1) ∧ (∀ r, 1 ≤ k ∧ k ≤ ((m.ats.length : Nat) : Int) ∧ chkR e n d = 0 ∧ m.rps[(k - 1).toNat]? = some r ∧ 0 ≤ r → v = .int .i64 6 ∧ Ext h h1) ∧ (∀ r, 1 ≤ k ∧ k ≤ ((m.ats.length : Nat) : Int) ∧ chkR e n d = 0 ∧ m.rps[(k - 1).toNat]? = some r ∧ r < 0 → v = .int .i64 0 ∧ Chg O h h1 ∧ TabAt h1 (fun b => O b ∨ h.size ≤ b) t (m.closed k e n d))) (Value.int .i64 6) hh552) (by kernel_rfl) ⟨⟨by rw [eb532], e530⟩, sn549, ⟨cmp_neq (decide_eq_false (not_not_intro c551)), rfl⟩, ⟨load_agg agg45 size45 f533 (by simp) (by kernel_rfl), rfl⟩, sn553, ⟨cmp_neq (decide_eq_false (not_not_intro c563)), rfl⟩, ⟨load_cell agg53 f555 rfl, rfl⟩, ⟨sub_i64 (by omega) (by omega), rfl⟩, ⟨a573 und53 size3 e566, rfl⟩, ⟨k571.cell (j := 0) agg3 rfl, rfl⟩, ⟨cmp_geq (decide_eq_true c575), rfl⟩, ⟨fun q => absurd q (by omega), fun q => absurd q (by omega), fun r q => ⟨rfl, y562⟩, fun r q => absurd q.2.2.2.1 (by rw [g568]; intro w; cases w; omega)⟩⟩
      · obtain ⟨b581, o582, q584, a585, k583, u586⟩ := p559.store icell_size g568
        obtain ⟨h587, e588, p589, c590, z591⟩ := u586 (j := 0) (y := ((raw522.length : Nat) : Int)) (u := (Value.int .i64 ((raw522.length : Nat)))) size3 rfl rfl (by decide) (by kernel_rfl)
        have c592 : Chg (blk (Value.slice ar525 (m.rps.length) (cr528))) hh552 h587 := c590.weak fun q hq => by subst hq; exact q584
        have z593 : h.size ≤ hh552.size := x561.size
        have x594 := x561.then c592 (fun b hb => .inl (T521.inR b hb))
        have f595 := c592.same _ _ f555 (fun hb => p559.ne f555 (by decide) hb rfl)
        have f596 := c592.same _ _ f556 (fun hb => n537 _ hb rfl)
        have p597 := p557.keep fun b r hb q => c592.same b r q ((fun b hb hb2 => p557.apart p559 (by decide) hb hb2) b hb)
        have p598 := p558.keep fun b r hb q => c592.same b r q (T521.apart b hb)
        have p599 := p560.keep fun b r hb q => c592.same b r q ((fun b hb hb2 => p560.apart p559 (by decide) hb hb2) b hb)
        obtain ⟨b602, eb603⟩ : ∃ zq, zq = h587.size := ⟨_, rfl⟩
        obtain ⟨h600, e601⟩ : ∃ zq, zq = h587.push (.cells #[(Value.int .i64 (k)), (Value.bool true), (Value.int .i64 0), (Value.int .i64 0), (Value.int .i64 0), (Value.int .i64 0), (Value.int .i64 0), (Value.int .i64 0), (Value.string .empty), (Value.int .i64 0), (Value.int .i64 0), (Value.string .empty), (Value.string .empty), (Value.int .i64 0), (Value.string .empty), (Value.int .i64 0), (Value.int .i64 0), (Value.slice none 0 0), (Value.int .i64 0), (Value.int .i64 0), (Value.int .i64 0), (Value.int .i64 0), (Value.bool false), (Value.int .i64 0), (Value.int .i64 0), (Value.string .empty), (Value.int .i64 (e)), (Value.int .i64 (n)), (Value.string d)] 47 (0, 0)) := ⟨_, rfl⟩
        have f604 := push_new e601
        rw [← eb603] at f604
        have n605 : b602 ≠ t := by have := row_lt f595; omega
        have n606 : b602 ≠ b531 := by have := row_lt f596; omega
        have n607 : ∀ zz, (blk (Value.slice ae523 (raw522.length) (ce526))) zz → ¬ zz = b602 := fun zz hz ez => by have := p597.blk_lt hz; omega
        have n608 : ∀ zz, (blk (Value.slice aa524 (m.ats.length) (ca527))) zz → ¬ zz = b602 := fun zz hz ez => by have := p598.blk_lt hz; omega
        have n609 : ∀ zz, (blk (Value.slice ar525 (m.rps.length) (cr528))) zz → ¬ zz = b602 := fun zz hz ez => by have := p589.blk_lt hz; omega
        have n610 : ∀ zz, (sfoot raw522) zz → ¬ zz = b602 := fun zz hz ez => by have := p599.blk_lt hz; omega
        have x611 : Ext h587 h600 := by rw [e601]; exact Ext.push _ _
        have o612 : h.size ≤ b602 := by have := x594.size; omega
        have f613 := x611 _ _ f595
        have f614 := x611 _ _ f596
        have p615 := p597.keep fun b r _ q => x611 b r q
        have p616 := p598.keep fun b r _ q => x611 b r q
        have p617 := p589.keep fun b r _ q => x611 b r q
        have p618 := p599.keep fun b r _ q => x611 b r q
        have x619 := x594.trans (Chg.ext x611)
        obtain ⟨w620, h621, e622, p623, c624, n625, z626⟩ := own_append und31 sizeb47 zero47 rfl (by decide) evc_size (x := ((EvM.mk (k : Int) (true : Bool) (CmdM.mk (0 : Int) (0 : Int) (0 : Int) (0 : Int) (0 : Int) (0 : Int) (.empty : ByteArray) (0 : Int) (0 : Int) (.empty : ByteArray) (.empty : ByteArray) (0 : Int) (.empty : ByteArray) (0 : Int) (0 : Int) ([] : List StepM) (0 : Int) (0 : Int) (0 : Int) (0 : Int) (false : Bool) (0 : Int) (0 : Int) (.empty : ByteArray)) (e : Int) (n : Int) (d : ByteArray), none, 0) : EvM × Option Addr × Nat)) p615 f604 rfl (by omega) (by unfold maxLen; omega)
        obtain ⟨a627, c628, rfl⟩ := (p623.slice evc_size).len
        have z629 : h.size ≤ h600.size := x619.size
        have x630 := x619.then c624 (fun b hb => .inl (T521.inE b hb))
        have f631 := c624.same _ _ f613 (fun hb => p615.ne f613 (by decide) hb rfl)
        have f632 := c624.same _ _ f614 (fun hb => n535 _ hb rfl)
        have f633 := c624.same _ _ f604 (fun hb => n607 _ hb rfl)
        have p634 := p616.keep fun b r hb q => c624.same b r q ((fun b hb hb2 => p616.apart p615 (by decide) hb hb2) b hb)
        have p635 := p617.keep fun b r hb q => c624.same b r q ((fun b hb hb2 => p617.apart p615 (by decide) hb hb2) b hb)
        have p636 := p618.keep fun b r hb q => c624.same b r q ((fun b hb hb2 => p618.apart p615 (by decide) hb hb2) b hb)
        have n638 : ∀ zz, blk (Value.slice a627 ((raw522 ++ [((EvM.mk (k : Int) (true : Bool) (CmdM.mk (0 : Int) (0 : Int) (0 : Int) (0 : Int) (0 : Int) (0 : Int) (.empty : ByteArray) (0 : Int) (0 : Int) (.empty : ByteArray) (.empty : ByteArray) (0 : Int) (.empty : ByteArray) (0 : Int) (0 : Int) ([] : List StepM) (0 : Int) (0 : Int) (0 : Int) (0 : Int) (false : Bool) (0 : Int) (0 : Int) (.empty : ByteArray)) (e : Int) (n : Int) (d : ByteArray), none, 0) : EvM × Option Addr × Nat)]).length) (c628)) zz → ¬ zz = t := fun zz hz ez => by have := n625 zz hz; have := row_lt f613; omega
        have n639 : ∀ zz, blk (Value.slice a627 ((raw522 ++ [((EvM.mk (k : Int) (true : Bool) (CmdM.mk (0 : Int) (0 : Int) (0 : Int) (0 : Int) (0 : Int) (0 : Int) (.empty : ByteArray) (0 : Int) (0 : Int) (.empty : ByteArray) (.empty : ByteArray) (0 : Int) (.empty : ByteArray) (0 : Int) (0 : Int) ([] : List StepM) (0 : Int) (0 : Int) (0 : Int) (0 : Int) (false : Bool) (0 : Int) (0 : Int) (.empty : ByteArray)) (e : Int) (n : Int) (d : ByteArray), none, 0) : EvM × Option Addr × Nat)]).length) (c628)) zz → ¬ zz = b531 := fun zz hz ez => by have := n625 zz hz; have := row_lt f614; omega
        have n640 : ∀ zz, blk (Value.slice a627 ((raw522 ++ [((EvM.mk (k : Int) (true : Bool) (CmdM.mk (0 : Int) (0 : Int) (0 : Int) (0 : Int) (0 : Int) (0 : Int) (.empty : ByteArray) (0 : Int) (0 : Int) (.empty : ByteArray) (.empty : ByteArray) (0 : Int) (.empty : ByteArray) (0 : Int) (0 : Int) ([] : List StepM) (0 : Int) (0 : Int) (0 : Int) (0 : Int) (false : Bool) (0 : Int) (0 : Int) (.empty : ByteArray)) (e : Int) (n : Int) (d : ByteArray), none, 0) : EvM × Option Addr × Nat)]).length) (c628)) zz → ¬ zz = b602 := fun zz hz ez => by have := n625 zz hz; have := row_lt f604; omega
        have n641 : ∀ zz, blk (Value.slice a627 ((raw522 ++ [((EvM.mk (k : Int) (true : Bool) (CmdM.mk (0 : Int) (0 : Int) (0 : Int) (0 : Int) (0 : Int) (0 : Int) (.empty : ByteArray) (0 : Int) (0 : Int) (.empty : ByteArray) (.empty : ByteArray) (0 : Int) (.empty : ByteArray) (0 : Int) (0 : Int) ([] : List StepM) (0 : Int) (0 : Int) (0 : Int) (0 : Int) (false : Bool) (0 : Int) (0 : Int) (.empty : ByteArray)) (e : Int) (n : Int) (d : ByteArray), none, 0) : EvM × Option Addr × Nat)]).length) (c628)) zz → ¬ (blk (Value.slice aa524 (m.ats.length) (ca527))) zz := fun zz hz ez => by have := n625 zz hz; have := p616.blk_lt ez; omega
        have n642 : ∀ zz, blk (Value.slice a627 ((raw522 ++ [((EvM.mk (k : Int) (true : Bool) (CmdM.mk (0 : Int) (0 : Int) (0 : Int) (0 : Int) (0 : Int) (0 : Int) (.empty : ByteArray) (0 : Int) (0 : Int) (.empty : ByteArray) (.empty : ByteArray) (0 : Int) (.empty : ByteArray) (0 : Int) (0 : Int) ([] : List StepM) (0 : Int) (0 : Int) (0 : Int) (0 : Int) (false : Bool) (0 : Int) (0 : Int) (.empty : ByteArray)) (e : Int) (n : Int) (d : ByteArray), none, 0) : EvM × Option Addr × Nat)]).length) (c628)) zz → ¬ (blk (Value.slice ar525 (m.rps.length) (cr528))) zz := fun zz hz ez => by have := n625 zz hz; have := p617.blk_lt ez; omega
        have n643 : ∀ zz, blk (Value.slice a627 ((raw522 ++ [((EvM.mk (k : Int) (true : Bool) (CmdM.mk (0 : Int) (0 : Int) (0 : Int) (0 : Int) (0 : Int) (0 : Int) (.empty : ByteArray) (0 : Int) (0 : Int) (.empty : ByteArray) (.empty : ByteArray) (0 : Int) (.empty : ByteArray) (0 : Int) (0 : Int) ([] : List StepM) (0 : Int) (0 : Int) (0 : Int) (0 : Int) (false : Bool) (0 : Int) (0 : Int) (.empty : ByteArray)) (e : Int) (n : Int) (d : ByteArray), none, 0) : EvM × Option Addr × Nat)]).length) (c628)) zz → ¬ (sfoot raw522) zz := fun zz hz ez => by have := n625 zz hz; have := p618.blk_lt ez; omega
        have o644 : ∀ zz, blk (Value.slice a627 ((raw522 ++ [((EvM.mk (k : Int) (true : Bool) (CmdM.mk (0 : Int) (0 : Int) (0 : Int) (0 : Int) (0 : Int) (0 : Int) (.empty : ByteArray) (0 : Int) (0 : Int) (.empty : ByteArray) (.empty : ByteArray) (0 : Int) (.empty : ByteArray) (0 : Int) (0 : Int) ([] : List StepM) (0 : Int) (0 : Int) (0 : Int) (0 : Int) (false : Bool) (0 : Int) (0 : Int) (.empty : ByteArray)) (e : Int) (n : Int) (d : ByteArray), none, 0) : EvM × Option Addr × Nat)]).length) (c628)) zz → h.size ≤ zz := fun zz hz => by have := n625 zz hz; have := z629; omega
        obtain ⟨h645, e646⟩ : ∃ zq, zq = h621.setIfInBounds t (.cells #[(Value.bool true), (Value.slice a627 ((raw522 ++ [((EvM.mk (k : Int) (true : Bool) (CmdM.mk (0 : Int) (0 : Int) (0 : Int) (0 : Int) (0 : Int) (0 : Int) (.empty : ByteArray) (0 : Int) (0 : Int) (.empty : ByteArray) (.empty : ByteArray) (0 : Int) (.empty : ByteArray) (0 : Int) (0 : Int) ([] : List StepM) (0 : Int) (0 : Int) (0 : Int) (0 : Int) (false : Bool) (0 : Int) (0 : Int) (.empty : ByteArray)) (e : Int) (n : Int) (d : ByteArray), none, 0) : EvM × Option Addr × Nat)]).length) (c628)), (Value.slice aa524 (m.ats.length) (ca527)), (Value.slice ar525 (m.rps.length) (cr528))] 68 (0, 0)) := ⟨_, rfl⟩
        have f647 := set_same e646 f631
        have f649 := set_other e646 f632 n534.symm
        have f650 := set_other e646 f633 n605.symm
        have p651 := p634.keep fun b r hb q => (Chg.set e646).same b r q ((fun b hb => p634.ne f631 (by decide) hb) b hb)
        have p652 := p635.keep fun b r hb q => (Chg.set e646).same b r q ((fun b hb => p635.ne f631 (by decide) hb) b hb)
        have p653 := p636.keep fun b r hb q => (Chg.set e646).same b r q ((fun b hb => p636.ne f631 (by decide) hb) b hb)
        have p654 := p623.keep fun b r hb q => (Chg.set e646).same b r q (n638 b hb)
        have x655 := x630.then (Chg.set e646) (fun b hb => by subst hb; exact (.inl T521.inT))
        have ej : i564 = (k - 1).toNat := by omega
        rw [el] at p652
        subst ej
        have tb : TabAt h645 (fun b => O b ∨ h.size ≤ b) t (m.closed k e n d) := ⟨raw522 ++ [_], _, _, _, _, _, _, ⟨by simp only [TabM.closed, List.length_set]; exact f647, p654, p651, by simp only [TabM.closed, List.length_set]; exact p652, by simp [TabM.closed, T521.evs, noCmd], (p653).add (.inl ⟨rfl, rfl⟩), by simp only [TabM.closed, List.length_set]; exact T521.apart, .inl T521.inT, fun b hb => .inr (o644 b hb), fun b hb => .inl (T521.inA b hb), by simp only [TabM.closed, List.length_set]; exact fun b hb => .inl (T521.inR b hb), sfoot_add (fun b hb => .inl (T521.inS b hb)) (fun b hb => hb.elim)⟩⟩
        exact hCall_of (n := 200) (T := ⟨fun r i => match r, i with | 0, 0 => some ((Value.pointer (some ⟨b531, 0, none⟩)), h529) | 1, 2 => some ((Value.int .i64 ((if (k) < 1 ∨ ((m.ats.length : Nat) : Int) < (k) then (3 : Int) else 0))), h529) | 2, 1 => some ((Value.bool false), h529) | 4, 0 => some ((Value.agg #[(Value.int .i64 (e)), (Value.int .i64 (n)), (Value.string d)]), h529) | 4, 1 => some ((Value.int .i64 (chkR (e) (n) d)), hh552) | 4, 2 => some ((Value.bool false), hh552) | 6, 3 => some ((Value.slice ar525 (m.rps.length) (cr528)), hh552) | 6, 5 => some ((Value.int .i64 ((k) - 1)), hh552) | 6, 6 => some ((Value.pointer (some ⟨b569, o570, none⟩)), hh552) | 6, 7 => some ((Value.int .i64 (v565)), hh552) | 6, 8 => some ((Value.bool false), hh552) | 8, 3 => some ((Value.slice ar525 (m.rps.length) (cr528)), hh552) | 8, 5 => some ((Value.int .i64 ((k) - 1)), hh552) | 8, 9 => some ((Value.slice ae523 (raw522.length) (ce526)), hh552) | 8, 11 => some ((Value.pointer (some ⟨b581, o582, none⟩)), hh552) | 8, 12 => some (undef, h587) | 9, 4 => some ((Value.slice ae523 (raw522.length) (ce526)), h587) | 9, 6 => some ((Value.agg #[(Value.int .i64 (e)), (Value.int .i64 (n)), (Value.string d)]), h587) | 9, 8 => some ((Value.slice (some ⟨b602, 0, none⟩) 1 1), h600) | 9, 9 => some ((Value.slice a627 ((raw522 ++ [((EvM.mk (k : Int) (true : Bool) (CmdM.mk (0 : Int) (0 : Int) (0 : Int) (0 : Int) (0 : Int) (0 : Int) (.empty : ByteArray) (0 : Int) (0 : Int) (.empty : ByteArray) (.empty : ByteArray) (0 : Int) (.empty : ByteArray) (0 : Int) (0 : Int) ([] : List StepM) (0 : Int) (0 : Int) (0 : Int) (0 : Int) (false : Bool) (0 : Int) (0 : Int) (.empty : ByteArray)) (e : Int) (n : Int) (d : ByteArray), none, 0) : EvM × Option Addr × Nat)]).length) (c628)), h621) | 9, 12 => some (undef, h645) | _, _ => none, fun _ => none, none⟩)
          (A := ((Value.pointer (some ⟨b531, 0, none⟩)) = (Value.pointer (some ⟨h.size, 0, none⟩)) ∧ h529 = h.push (.cells #[(Value.int .i64 (e)), (Value.int .i64 (n)), (Value.string d)] 45 (0, 0))) ∧ SoundCall Try.prog 40 #[(Value.pointer (some ⟨t, 0, none⟩)), (Value.int .i64 (k))] h529 (Value.int .i64 ((if (k) < 1 ∨ ((m.ats.length : Nat) : Int) < (k) then (3 : Int) else 0))) h529 ∧ (binA Try.prog .neq 28 (Value.int .i64 ((if (k) < 1 ∨ ((m.ats.length : Nat) : Int) < (k) then (3 : Int) else 0))) (Value.int .i64 0) = some (Value.bool false) ∧ h529 = h529) ∧ (loadT Try.prog h529 45 (Value.pointer (some ⟨b531, 0, none⟩)) = some (Value.agg #[(Value.int .i64 (e)), (Value.int .i64 (n)), (Value.string d)]) ∧ h529 = h529) ∧ SoundCall Try.prog 22 #[(Value.agg #[(Value.int .i64 (e)), (Value.int .i64 (n)), (Value.string d)])] h529 (Value.int .i64 (chkR (e) (n) d)) hh552 ∧ (binA Try.prog .neq 28 (Value.int .i64 (chkR (e) (n) d)) (Value.int .i64 0) = some (Value.bool false) ∧ hh552 = hh552) ∧ (loadT Try.prog hh552 53 (Value.pointer (some ⟨t, 3, none⟩)) = some (Value.slice ar525 (m.rps.length) (cr528)) ∧ hh552 = hh552) ∧ (binA Try.prog .sub 3 (Value.int .i64 (k)) (Value.int .i64 1) = some (Value.int .i64 ((k) - 1)) ∧ hh552 = hh552) ∧ (indexAddrA Try.prog 53 (Value.slice ar525 (m.rps.length) (cr528)) (Value.int .i64 ((k) - 1)) = some (Value.pointer (some ⟨b569, o570, none⟩)) ∧ hh552 = hh552) ∧ (loadT Try.prog hh552 3 (Value.pointer (some ⟨b569, o570, none⟩)) = some (Value.int .i64 (v565)) ∧ hh552 = hh552) ∧ (binA Try.prog .geq 3 (Value.int .i64 (v565)) (Value.int .i64 0) = some (Value.bool false) ∧ hh552 = hh552) ∧ (loadT Try.prog hh552 53 (Value.pointer (some ⟨t, 3, none⟩)) = some (Value.slice ar525 (m.rps.length) (cr528)) ∧ hh552 = hh552) ∧ (binA Try.prog .sub 3 (Value.int .i64 (k)) (Value.int .i64 1) = some (Value.int .i64 ((k) - 1)) ∧ hh552 = hh552) ∧ (loadT Try.prog hh552 31 (Value.pointer (some ⟨t, 1, none⟩)) = some (Value.slice ae523 (raw522.length) (ce526)) ∧ hh552 = hh552) ∧ (indexAddrA Try.prog 53 (Value.slice ar525 (m.rps.length) (cr528)) (Value.int .i64 ((k) - 1)) = some (Value.pointer (some ⟨b581, o582, none⟩)) ∧ hh552 = hh552) ∧ (storeT Try.prog hh552 3 (Value.pointer (some ⟨b581, o582, none⟩)) (Value.int .i64 ((raw522.length : Nat))) = some h587 ∧ (undef : Value) = undef) ∧ (loadT Try.prog h587 31 (Value.pointer (some ⟨t, 1, none⟩)) = some (Value.slice ae523 (raw522.length) (ce526)) ∧ h587 = h587) ∧ (loadT Try.prog h587 45 (Value.pointer (some ⟨b531, 0, none⟩)) = some (Value.agg #[(Value.int .i64 (e)), (Value.int .i64 (n)), (Value.string d)]) ∧ h587 = h587) ∧ ((Value.slice (some ⟨b602, 0, none⟩) 1 1) = (Value.slice (some ⟨h587.size, 0, none⟩) 1 1) ∧ h600 = h587.push (.cells #[(Value.int .i64 (k)), (Value.bool true), (Value.int .i64 0), (Value.int .i64 0), (Value.int .i64 0), (Value.int .i64 0), (Value.int .i64 0), (Value.int .i64 0), (Value.string .empty), (Value.int .i64 0), (Value.int .i64 0), (Value.string .empty), (Value.string .empty), (Value.int .i64 0), (Value.string .empty), (Value.int .i64 0), (Value.int .i64 0), (Value.slice none 0 0), (Value.int .i64 0), (Value.int .i64 0), (Value.int .i64 0), (Value.int .i64 0), (Value.bool false), (Value.int .i64 0), (Value.int .i64 0), (Value.string .empty), (Value.int .i64 (e)), (Value.int .i64 (n)), (Value.string d)] 47 (0, 0))) ∧ appendA Try.prog h600 #[31, 31] #[(Value.slice ae523 (raw522.length) (ce526)), (Value.slice (some ⟨b602, 0, none⟩) 1 1)] = some ((Value.slice a627 ((raw522 ++ [((EvM.mk (k : Int) (true : Bool) (CmdM.mk (0 : Int) (0 : Int) (0 : Int) (0 : Int) (0 : Int) (0 : Int) (.empty : ByteArray) (0 : Int) (0 : Int) (.empty : ByteArray) (.empty : ByteArray) (0 : Int) (.empty : ByteArray) (0 : Int) (0 : Int) ([] : List StepM) (0 : Int) (0 : Int) (0 : Int) (0 : Int) (false : Bool) (0 : Int) (0 : Int) (.empty : ByteArray)) (e : Int) (n : Int) (d : ByteArray), none, 0) : EvM × Option Addr × Nat)]).length) (c628)), h621) ∧ (storeT Try.prog h621 31 (Value.pointer (some ⟨t, 1, none⟩)) (Value.slice a627 ((raw522 ++ [((EvM.mk (k : Int) (true : Bool) (CmdM.mk (0 : Int) (0 : Int) (0 : Int) (0 : Int) (0 : Int) (0 : Int) (.empty : ByteArray) (0 : Int) (0 : Int) (.empty : ByteArray) (.empty : ByteArray) (0 : Int) (.empty : ByteArray) (0 : Int) (0 : Int) ([] : List StepM) (0 : Int) (0 : Int) (0 : Int) (0 : Int) (false : Bool) (0 : Int) (0 : Int) (.empty : ByteArray)) (e : Int) (n : Int) (d : ByteArray), none, 0) : EvM × Option Addr × Nat)]).length) (c628)) = some h645 ∧ (undef : Value) = undef) ∧ (fun v h1 => (k < 1 ∨ ((m.ats.length : Nat) : Int) < k → v = .int .i64 3 ∧ Ext h h1) ∧ (1 ≤ k ∧ k ≤ ((m.ats.length : Nat) : Int) ∧ chkR e n d ≠ 0 → v = .int .i64 2 ∧ Ext h h1) ∧ (∀ r, 1 ≤ k ∧ k ≤ ((m.ats.length : Nat) : Int) ∧ chkR e n d = 0 ∧ m.rps[(k - 1).toNat]? = some r ∧ 0 ≤ r → v = .int .i64 6 ∧ Ext h h1) ∧ (∀ r, 1 ≤ k ∧ k ≤ ((m.ats.length : Nat) : Int) ∧ chkR e n d = 0 ∧ m.rps[(k - 1).toNat]? = some r ∧ r < 0 → v = .int .i64 0 ∧ Chg O h h1 ∧ TabAt h1 (fun b => O b ∨ h.size ≤ b) t (m.closed k e n d))) (Value.int .i64 0) h645) (by kernel_rfl) ⟨⟨by rw [eb532], e530⟩, sn549, ⟨cmp_neq (decide_eq_false (not_not_intro c551)), rfl⟩, ⟨load_agg agg45 size45 f533 (by simp) (by kernel_rfl), rfl⟩, sn553, ⟨cmp_neq (decide_eq_false (not_not_intro c563)), rfl⟩, ⟨load_cell agg53 f555 rfl, rfl⟩, ⟨sub_i64 (by omega) (by omega), rfl⟩, ⟨a573 und53 size3 e566, rfl⟩, ⟨k571.cell (j := 0) agg3 rfl, rfl⟩, ⟨cmp_geq (decide_eq_false c575), rfl⟩, ⟨load_cell agg53 f555 rfl, rfl⟩, ⟨sub_i64 (by omega) (by omega), rfl⟩, ⟨load_cell agg31 f555 rfl, rfl⟩, ⟨a585 und53 size3 e566, rfl⟩, ⟨e588, rfl⟩, ⟨load_cell agg31 f595 rfl, rfl⟩, ⟨load_agg agg45 size45 f596 (by simp) (by kernel_rfl), rfl⟩, ⟨by rw [eb603], e601⟩, e622, ⟨by rw [e646]; exact store_cells size31 rfl f631 (by decide) (by simp) rfl (by kernel_rfl), rfl⟩, ⟨fun q => absurd q (by omega), fun q => absurd q (by omega), fun r q => absurd q.2.2.2.1 (by rw [g568]; intro w; cases w; omega), fun r q => ⟨rfl, x655, tb⟩⟩⟩
    · exact hCall_of (n := 200) (T := ⟨fun r i => match r, i with | 0, 0 => some ((Value.pointer (some ⟨b531, 0, none⟩)), h529) | 1, 2 => some ((Value.int .i64 ((if (k) < 1 ∨ ((m.ats.length : Nat) : Int) < (k) then (3 : Int) else 0))), h529) | 2, 1 => some ((Value.bool false), h529) | 4, 0 => some ((Value.agg #[(Value.int .i64 (e)), (Value.int .i64 (n)), (Value.string d)]), h529) | 4, 1 => some ((Value.int .i64 (chkR (e) (n) d)), hh552) | 4, 2 => some ((Value.bool true), hh552) | _, _ => none, fun _ => none, none⟩)
        (A := ((Value.pointer (some ⟨b531, 0, none⟩)) = (Value.pointer (some ⟨h.size, 0, none⟩)) ∧ h529 = h.push (.cells #[(Value.int .i64 (e)), (Value.int .i64 (n)), (Value.string d)] 45 (0, 0))) ∧ SoundCall Try.prog 40 #[(Value.pointer (some ⟨t, 0, none⟩)), (Value.int .i64 (k))] h529 (Value.int .i64 ((if (k) < 1 ∨ ((m.ats.length : Nat) : Int) < (k) then (3 : Int) else 0))) h529 ∧ (binA Try.prog .neq 28 (Value.int .i64 ((if (k) < 1 ∨ ((m.ats.length : Nat) : Int) < (k) then (3 : Int) else 0))) (Value.int .i64 0) = some (Value.bool false) ∧ h529 = h529) ∧ (loadT Try.prog h529 45 (Value.pointer (some ⟨b531, 0, none⟩)) = some (Value.agg #[(Value.int .i64 (e)), (Value.int .i64 (n)), (Value.string d)]) ∧ h529 = h529) ∧ SoundCall Try.prog 22 #[(Value.agg #[(Value.int .i64 (e)), (Value.int .i64 (n)), (Value.string d)])] h529 (Value.int .i64 (chkR (e) (n) d)) hh552 ∧ (binA Try.prog .neq 28 (Value.int .i64 (chkR (e) (n) d)) (Value.int .i64 0) = some (Value.bool true) ∧ hh552 = hh552) ∧ (fun v h1 => (k < 1 ∨ ((m.ats.length : Nat) : Int) < k → v = .int .i64 3 ∧ Ext h h1) ∧ (1 ≤ k ∧ k ≤ ((m.ats.length : Nat) : Int) ∧ chkR e n d ≠ 0 → v = .int .i64 2 ∧ Ext h h1) ∧ (∀ r, 1 ≤ k ∧ k ≤ ((m.ats.length : Nat) : Int) ∧ chkR e n d = 0 ∧ m.rps[(k - 1).toNat]? = some r ∧ 0 ≤ r → v = .int .i64 6 ∧ Ext h h1) ∧ (∀ r, 1 ≤ k ∧ k ≤ ((m.ats.length : Nat) : Int) ∧ chkR e n d = 0 ∧ m.rps[(k - 1).toNat]? = some r ∧ r < 0 → v = .int .i64 0 ∧ Chg O h h1 ∧ TabAt h1 (fun b => O b ∨ h.size ≤ b) t (m.closed k e n d))) (Value.int .i64 2) hh552) (by kernel_rfl) ⟨⟨by rw [eb532], e530⟩, sn549, ⟨cmp_neq (decide_eq_false (not_not_intro c551)), rfl⟩, ⟨load_agg agg45 size45 f533 (by simp) (by kernel_rfl), rfl⟩, sn553, ⟨cmp_neq (decide_eq_true c563), rfl⟩, ⟨fun q => absurd q (by omega), fun q => ⟨rfl, y562⟩, fun r q => absurd q.2.2.1 (by omega), fun r q => absurd q.2.2.1 (by omega)⟩⟩
  · exact hCall_of (n := 200) (T := ⟨fun r i => match r, i with | 0, 0 => some ((Value.pointer (some ⟨b531, 0, none⟩)), h529) | 1, 2 => some ((Value.int .i64 ((if (k) < 1 ∨ ((m.ats.length : Nat) : Int) < (k) then (3 : Int) else 0))), h529) | 2, 1 => some ((Value.bool true), h529) | _, _ => none, fun _ => none, none⟩)
      (A := ((Value.pointer (some ⟨b531, 0, none⟩)) = (Value.pointer (some ⟨h.size, 0, none⟩)) ∧ h529 = h.push (.cells #[(Value.int .i64 (e)), (Value.int .i64 (n)), (Value.string d)] 45 (0, 0))) ∧ SoundCall Try.prog 40 #[(Value.pointer (some ⟨t, 0, none⟩)), (Value.int .i64 (k))] h529 (Value.int .i64 ((if (k) < 1 ∨ ((m.ats.length : Nat) : Int) < (k) then (3 : Int) else 0))) h529 ∧ (binA Try.prog .neq 28 (Value.int .i64 ((if (k) < 1 ∨ ((m.ats.length : Nat) : Int) < (k) then (3 : Int) else 0))) (Value.int .i64 0) = some (Value.bool true) ∧ h529 = h529) ∧ (fun v h1 => (k < 1 ∨ ((m.ats.length : Nat) : Int) < k → v = .int .i64 3 ∧ Ext h h1) ∧ (1 ≤ k ∧ k ≤ ((m.ats.length : Nat) : Int) ∧ chkR e n d ≠ 0 → v = .int .i64 2 ∧ Ext h h1) ∧ (∀ r, 1 ≤ k ∧ k ≤ ((m.ats.length : Nat) : Int) ∧ chkR e n d = 0 ∧ m.rps[(k - 1).toNat]? = some r ∧ 0 ≤ r → v = .int .i64 6 ∧ Ext h h1) ∧ (∀ r, 1 ≤ k ∧ k ≤ ((m.ats.length : Nat) : Int) ∧ chkR e n d = 0 ∧ m.rps[(k - 1).toNat]? = some r ∧ r < 0 → v = .int .i64 0 ∧ Chg O h h1 ∧ TabAt h1 (fun b => O b ∨ h.size ≤ b) t (m.closed k e n d))) (Value.int .i64 ((if (k) < 1 ∨ ((m.ats.length : Nat) : Int) < (k) then (3 : Int) else 0))) h529) (by kernel_rfl) ⟨⟨by rw [eb532], e530⟩, sn549, ⟨cmp_neq (decide_eq_true c551), rfl⟩, ⟨fun q => ⟨by rw [if_pos q], y547⟩, fun q => absurd q (by omega), fun r q => absurd q (by omega), fun r q => absurd q (by omega)⟩⟩
set_option maxHeartbeats 4000000 in
theorem len_ok (h : Heap) {O : Nat → Prop} {t : Nat} {m : TabM} (hT : TabAt h O t m) : WCall Try.prog 14 #[(Value.pointer (some ⟨t, 0, none⟩))] h (fun v h1 => v = .int .i64 ((m.ats.length : Nat) : Int) ∧ h = h1) := by
  obtain ⟨raw657, ae658, aa659, ar660, ce661, ca662, cr663, T656⟩ := hT
  have el := T656.elen
  obtain ⟨_, _, sn665, rfl, rfl⟩ := valid_ok h T656.row
  exact hCall_of (n := 200) (T := ⟨fun r i => match r, i with | 1, 1 => some ((Value.bool true), h) | 3, 3 => some ((Value.slice aa659 (m.ats.length) (ca662)), h) | _, _ => none, fun _ => none, none⟩)
    (A := SoundCall Try.prog 39 #[(Value.pointer (some ⟨t, 0, none⟩))] h (Value.bool true) h ∧ (loadT Try.prog h 53 (Value.pointer (some ⟨t, 2, none⟩)) = some (Value.slice aa659 (m.ats.length) (ca662)) ∧ h = h) ∧ (fun v h1 => v = .int .i64 ((m.ats.length : Nat) : Int) ∧ h = h1) (Value.int .i64 ((m.ats.length : Nat))) h) (by kernel_rfl) ⟨sn665, ⟨load_cell agg53 T656.row rfl, rfl⟩, ⟨rfl, rfl⟩⟩
/-- A table, and all of what it rests on is there. -/
def Tab (h : Heap) (O : Nat → Prop) (t : Nat) (m : TabM) : Prop := TabAt h O t m ∧ ∀ b, O b → ∃ r, h[b]? = some r
theorem Tab.keep {h h1 : Heap} {O : Nat → Prop} {t : Nat} {m : TabM} (k : Tab h O t m) (w : ∀ b r, O b → h[b]? = some r → h1[b]? = some r) : Tab h1 O t m :=
  ⟨k.1.keep w, fun b hb => let ⟨r, hr⟩ := k.2 b hb; ⟨r, w b r hb hr⟩⟩
theorem Tab.blk_lt {h : Heap} {O : Nat → Prop} {t : Nat} {m : TabM} (k : Tab h O t m) {b : Nat} (hb : O b) : b < h.size := by
  obtain ⟨r, hr⟩ := k.2 b hb; exact row_lt hr
theorem TabAt.tab {h : Heap} {O : Nat → Prop} {t : Nat} {m : TabM} (k : TabAt h O t m) : ∃ O', Tab h O' t m ∧ ∀ b, O' b → O b := by
  obtain ⟨raw, ae, aa, ar, ce, ca, cr, k⟩ := k
  refine ⟨fun b => O b ∧ b < h.size, ⟨⟨raw, ae, aa, ar, ce, ca, cr, k.row, k.ev, k.at_, k.rp, k.evs, k.steps, k.apart, ⟨k.inT, row_lt k.row⟩, fun b hb => ⟨k.inE b hb, k.ev.blk_lt hb⟩, fun b hb => ⟨k.inA b hb, k.at_.blk_lt hb⟩,
    fun b hb => ⟨k.inR b hb, k.rp.blk_lt hb⟩, fun b hb => ⟨k.inS b hb, k.steps.blk_lt hb⟩⟩, fun b hb => ⟨h[b]'hb.2, by simp [hb.2]⟩⟩, fun b hb => hb.1⟩
theorem opened_lens (m : TabM) (c : CmdM) : (m.opened c).ats.length = m.ats.length + 1 ∧ (m.opened c).rps.length = m.rps.length + 1 ∧ (m.opened c).evs.length = m.evs.length + 1 := by simp [TabM.opened]
theorem closed_lens (m : TabM) (k e n : Int) (d : ByteArray) : (m.closed k e n d).ats.length = m.ats.length ∧ (m.closed k e n d).rps.length = m.rps.length ∧ (m.closed k e n d).evs.length = m.evs.length + 1 := by simp [TabM.closed]
end C36
