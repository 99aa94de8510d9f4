/- The calls of clients: what the functions of the program come to. -/
import Derived.Test.YtdcboianihplpaaProg
import Derived.Test.YtdcboianihplpaaBme
import Derived.KernelRfl
open Go Go.AM Go.Proofs
namespace C36
theorem agg2 : isAggA Try.prog 2 = some false := by kernel_rfl
theorem agg3 : isAggA Try.prog 3 = some false := by kernel_rfl
theorem agg4 : isAggA Try.prog 4 = some false := by kernel_rfl
theorem agg9 : isAggA Try.prog 9 = some false := by kernel_rfl
theorem agg28 : isAggA Try.prog 28 = some false := by kernel_rfl
theorem agg31 : isAggA Try.prog 31 = some false := by kernel_rfl
theorem agg37 : isAggA Try.prog 37 = some false := by kernel_rfl
theorem agg39 : isAggA Try.prog 39 = some true := by kernel_rfl
theorem agg43 : isAggA Try.prog 43 = some true := by kernel_rfl
theorem agg45 : isAggA Try.prog 45 = some true := by kernel_rfl
theorem agg53 : isAggA Try.prog 53 = some false := by kernel_rfl
theorem size3 : (Try.prog.info? 3).map (·.size) = some 1 := by kernel_rfl
theorem size31 : (Try.prog.info? 31).map (·.size) = some 1 := by kernel_rfl
theorem size37 : (Try.prog.info? 37).map (·.size) = some 1 := by kernel_rfl
theorem size39 : (Try.prog.info? 39).map (·.size) = some 4 := by kernel_rfl
theorem size43 : (Try.prog.info? 43).map (·.size) = some 24 := by kernel_rfl
theorem size45 : (Try.prog.info? 45).map (·.size) = some 3 := by kernel_rfl
theorem size53 : (Try.prog.info? 53).map (·.size) = some 1 := by kernel_rfl
theorem sizeb3 : (Try.prog.info? 3).map (fun i => (i.size, i.bytes)) = some (1, 8) := by kernel_rfl
theorem sizeb47 : (Try.prog.info? 47).map (fun i => (i.size, i.bytes)) = some (29, 296) := by kernel_rfl
theorem sizeb74 : (Try.prog.info? 74).map (fun i => (i.size, i.bytes)) = some (2, 24) := by kernel_rfl
theorem und31 : Try.prog.underlying 31 = some (.slice 47) := by kernel_rfl
theorem und37 : Try.prog.underlying 37 = some (.slice 74) := by kernel_rfl
theorem und53 : Try.prog.underlying 53 = some (.slice 3) := by kernel_rfl
theorem zero3 : zeroA Try.prog 3 = some (Value.int .i64 0) := by kernel_rfl
theorem zero47 : zeroA Try.prog 47 = some (Value.agg #[(Value.int .i64 0), (Value.bool false), (Value.int .i64 0), (Value.int .i64 0), (Value.int .i64 0), (Value.int .i64 0), (Value.int .i64 0), (Value.int .i64 0), (Value.string .empty), (Value.int .i64 0), (Value.int .i64 0), (Value.string .empty), (Value.string .empty), (Value.int .i64 0), (Value.string .empty), (Value.int .i64 0), (Value.int .i64 0), (Value.slice none 0 0), (Value.int .i64 0), (Value.int .i64 0), (Value.int .i64 0), (Value.int .i64 0), (Value.bool false), (Value.int .i64 0), (Value.int .i64 0), (Value.string .empty), (Value.int .i64 0), (Value.int .i64 0), (Value.string .empty)]) := by kernel_rfl
theorem zero74 : zeroA Try.prog 74 = some (Value.agg #[(Value.string .empty), (Value.int .i64 0)]) := by kernel_rfl
abbrev vI (n : Int) : Value := .int .i64 n
abbrev vS (s : ByteArray) : Value := .string s
abbrev vB (b : Bool) : Value := .bool b
abbrev vP (b o : Nat) : Value := .pointer (some ⟨b, o, none⟩)
/-- A cell that holds an integer. -/
def icell (n : Int) : Array Value := #[.int .i64 n]
theorem icell_size (n : Int) : (icell n).size = 1 := rfl
set_option maxHeartbeats 4000000 in
theorem index_ok (h : Heap) (xs : List Int) (x : Int) (sa : Option Addr) (cp : Nat) (hl : SliceAt h icell 1 xs (.slice sa xs.length cp)) (hlen : xs.length ≤ 1048576) : WCall Try.prog 59 #[(Value.slice sa (xs.length) (cp)), (vI (x))] h (fun v h1 => ∃ r : Int, v = .int .i64 r ∧ (0 ≤ r ↔ x ∈ xs) ∧ Ext h h1) := by
  suffices H : ∀ K : Value → Heap → Prop, (∀ v h1, (fun v h1 => ∃ r : Int, v = .int .i64 r ∧ (0 ≤ r ↔ x ∈ xs) ∧ Ext h h1) v h1 → K v h1) → WCall Try.prog 59 #[(Value.slice sa (xs.length) (cp)), (vI (x))] h K from H _ fun _ _ q => q
  intro K hK
  refine wcall_at { tmps := #[(Value.slice sa (xs.length) (cp)), (vI (x)), (Value.tuple #[]), (Value.tuple #[]), (Value.tuple #[]), (Value.tuple #[]), (Value.tuple #[]), (Value.tuple #[]), (Value.tuple #[]), (Value.tuple #[]), (Value.tuple #[]), (Value.tuple #[]), (Value.tuple #[]), (Value.tuple #[]), (Value.tuple #[]), (Value.tuple #[]), (Value.tuple #[]), (Value.tuple #[]), (Value.tuple #[])], defers := [] } (by kernel_rfl) ?_
  refine wc_seq' (subc (bodyOf Try.prog 59) [0]) (subc (bodyOf Try.prog 59) [1]) (by kernel_rfl) ?_
  refine wc_upd (n := 200) (T := ⟨fun r i => match r, i with | _, _ => none, fun _ => none, none⟩) (x := .normal) (h1 := h) [(4, (vI 0))]
    (fun q => q) (by intro K'; kernel_rfl) (fun _ q => q) ?_
  refine wc_seq' (subc (bodyOf Try.prog 59) [1, 0]) (subc (bodyOf Try.prog 59) [1, 1]) (by kernel_rfl) ?_
  refine wc_seq' (subc (bodyOf Try.prog 59) [1, 0, 0]) (subc (bodyOf Try.prog 59) [1, 0, 1]) (by kernel_rfl) ?_
  refine wc_upd (n := 200) (T := ⟨fun r i => match r, i with | _, _ => none, fun _ => none, none⟩) (x := .normal) (h1 := h) [(6, (Value.slice sa (xs.length) (cp))), (7, (vI ((xs.length : Nat)))), (8, (vI 0))]
    (fun q => q) (by intro K'; kernel_rfl) (fun _ q => q) ?_
  refine wc_block' 0 (subc (bodyOf Try.prog 59) [1, 0, 1, 0]) (by kernel_rfl) ?_
  refine wc_loop' (subc (bodyOf Try.prog 59) [1, 0, 1, 0, 0]) (by kernel_rfl) (fun n' a' h' => ∃ (k : Int) (gb1 : Nat → Value), a' = { tmps := #[(Value.slice sa (xs.length) (cp)), (vI (x)), (Value.tuple #[]), (Value.tuple #[]), (gb1 4), (gb1 5), (Value.slice sa (xs.length) (cp)), (vI ((xs.length : Nat))), (vI (k)), (gb1 9), (gb1 10), (gb1 11), (gb1 12), (gb1 13), (gb1 14), (gb1 15), (gb1 16), (gb1 17), (gb1 18)], defers := [] } ∧ h = h' ∧ n' = xs.length - k.toNat ∧ 0 ≤ k ∧ k ≤ xs.length ∧ (∀ j : Nat, (j : Int) < k → xs[j]? ≠ some x)) ?_ (xs.length - (0 : Int).toNat) ⟨0, (fun i => ([undef, undef, undef, undef, (vI 0), (Value.tuple #[]), undef, undef, undef, (Value.tuple #[]), (Value.tuple #[]), (Value.tuple #[]), (Value.tuple #[]), (Value.tuple #[]), (Value.tuple #[]), (Value.tuple #[]), (Value.tuple #[]), (Value.tuple #[]), (Value.tuple #[])] : List Value).getD i undef), by kernel_rfl, rfl, rfl, by omega, by omega, fun j hj => absurd hj (by omega)⟩
  rintro n' _ _ ⟨k, gb1, rfl, rfl, m6, i3, i4, i5⟩
  by_cases c8 : ((k) : Int) < ((xs.length : Nat))
  · obtain ⟨i9, v10, e11, l12, g13⟩ := list_at xs (e := (k)) (by omega) (by omega)
    obtain ⟨b14, o15, k16, q17, a18⟩ := hl.at icell_size g13
    by_cases c20 : ((x) : Int) = (v10)
    · refine wc_upd (n := 200) (T := ⟨fun r i => match r, i with | 2, 0 => some ((vB true), h) | 4, 3 => some ((vP b14 o15), h) | 4, 4 => some ((vI (v10)), h) | 4, 5 => some ((vB true), h) | _, _ => none, fun _ => none, none⟩) (x := .ret) (h1 := h) [(9, (vB true)), (10, (vI (k))), (5, (vI (k))), (11, (vI (x))), (12, (Value.slice sa (xs.length) (cp))), (13, (vI (k))), (14, (vP b14 o15)), (15, (vI (v10))), (16, (vB true)), (17, (vI (k))), (4, (vI (k)))]
        (fun q => (binA Try.prog .lss 3 (vI (k)) (vI ((xs.length : Nat))) = some (vB true) ∧ h = h) ∧ (indexAddrA Try.prog 53 (Value.slice sa (xs.length) (cp)) (vI (k)) = some (vP b14 o15) ∧ h = h) ∧ (loadT Try.prog h 3 (vP b14 o15) = some (vI (v10)) ∧ h = h) ∧ (binA Try.prog .eql 3 (vI (x)) (vI (v10)) = some (vB true) ∧ h = h) ∧ q) (by intro K'; kernel_rfl) (fun _ q => ⟨⟨cmp_lss (decide_eq_true c8), rfl⟩, ⟨a18 und53 size3 e11, rfl⟩, ⟨k16.cell (j := 0) agg3 rfl, rfl⟩, ⟨cmp_eql (decide_eq_true c20), rfl⟩, q⟩) ?_
      refine end_at (T := ⟨fun _ _ => none, fun _ => none, none⟩) (A := K (vI (k)) h) (by kernel_rfl) ?_
      exact hK _ _ (⟨_, rfl, ⟨fun _ => by rw [c20]; exact List.mem_of_getElem? g13, fun _ => by omega⟩, Ext.refl h⟩)
    · refine wc_upd (n := 200) (T := ⟨fun r i => match r, i with | 2, 0 => some ((vB true), h) | 4, 3 => some ((vP b14 o15), h) | 4, 4 => some ((vI (v10)), h) | 4, 5 => some ((vB false), h) | 6, 0 => some ((vI ((k) + 1)), h) | _, _ => none, fun _ => none, none⟩) (x := .normal) (h1 := h) [(9, (vB true)), (10, (vI (k))), (5, (vI (k))), (11, (vI (x))), (12, (Value.slice sa (xs.length) (cp))), (13, (vI (k))), (14, (vP b14 o15)), (15, (vI (v10))), (16, (vB false)), (18, (vI ((k) + 1))), (8, (vI ((k) + 1)))]
        (fun q => (binA Try.prog .lss 3 (vI (k)) (vI ((xs.length : Nat))) = some (vB true) ∧ h = h) ∧ (indexAddrA Try.prog 53 (Value.slice sa (xs.length) (cp)) (vI (k)) = some (vP b14 o15) ∧ h = h) ∧ (loadT Try.prog h 3 (vP b14 o15) = some (vI (v10)) ∧ h = h) ∧ (binA Try.prog .eql 3 (vI (x)) (vI (v10)) = some (vB false) ∧ h = h) ∧ (binA Try.prog .add 3 (vI (k)) (vI 1) = some (vI ((k) + 1)) ∧ h = h) ∧ q) (by intro K'; kernel_rfl) (fun _ q => ⟨⟨cmp_lss (decide_eq_true c8), rfl⟩, ⟨a18 und53 size3 e11, rfl⟩, ⟨k16.cell (j := 0) agg3 rfl, rfl⟩, ⟨cmp_eql (decide_eq_false c20), rfl⟩, ⟨add_i64 (by omega) (by omega), rfl⟩, q⟩) ?_
      exact ⟨xs.length - (k + 1).toNat, by omega, ⟨k + 1, (fun i => ([undef, undef, undef, undef, (gb1 4), (vI (k)), undef, undef, undef, (vB true), (vI (k)), (vI (x)), (Value.slice sa (xs.length) (cp)), (vI (k)), (vP b14 o15), (vI (v10)), (vB false), (gb1 17), (vI ((k) + 1))] : List Value).getD i undef), by kernel_rfl, rfl, rfl, by omega, by omega, fun j hj q => by rcases Int.lt_or_eq_of_le (Int.lt_add_one_iff.1 hj) with g | g; exact i5 j g q; have e : j = i9 := (by omega); subst e; rw [q] at g13; cases g13; exact c20 rfl⟩⟩
  · refine wc_upd (n := 200) (T := ⟨fun r i => match r, i with | 2, 0 => some ((vB false), h) | _, _ => none, fun _ => none, none⟩) (x := (.exit 0)) (h1 := h) [(9, (vB false))]
      (fun q => (binA Try.prog .lss 3 (vI (k)) (vI ((xs.length : Nat))) = some (vB false) ∧ h = h) ∧ q) (by intro K'; kernel_rfl) (fun _ q => ⟨⟨cmp_lss (decide_eq_false c8), rfl⟩, q⟩) ?_
    refine wc_upd (n := 200) (T := ⟨fun r i => match r, i with | _, _ => none, fun _ => none, none⟩) (x := .ret) (h1 := h) [(4, (vI (-1)))]
      (fun q => q) (by intro K'; kernel_rfl) (fun _ q => q) ?_
    refine end_at (T := ⟨fun _ _ => none, fun _ => none, none⟩) (A := K (vI (-1)) h) (by kernel_rfl) ?_
    exact hK _ _ (⟨_, rfl, ⟨fun q => absurd q (by omega), fun q => by obtain ⟨j, hj, e⟩ := List.getElem_of_mem q; exact absurd (List.getElem?_eq_some_iff.2 ⟨hj, e⟩) (i5 j (by omega))⟩, Ext.refl h⟩)
theorem SliceAt_none {α : Type} {h : Heap} {f : α → Array Value} {z n cp : Nat} {xs : List α} (k : SliceAt h f z xs (.slice none n cp)) : n = 0 ∧ cp = 0 ∧ xs = [] := by
  rcases k with ⟨e, k⟩ | ⟨b, off, cp, c, e, fr, e2, k⟩
  · cases e; exact ⟨rfl, rfl, k⟩
  · cases e2
set_option maxHeartbeats 4000000 in
theorem contains_ok (h : Heap) (xs : List Int) (x : Int) (sa : Option Addr) (cp : Nat) (hl : SliceAt h icell 1 xs (.slice sa xs.length cp)) (hlen : xs.length ≤ 1048576) : WCall Try.prog 54 #[(Value.slice sa (xs.length) (cp)), (vI (x))] h (fun v h1 => v = .bool (decide (x ∈ xs)) ∧ Ext h h1) := by
  obtain ⟨_, hh23, sn24, r21, rfl, q22, x25⟩ := index_ok h xs (x) _ _ hl (by omega)
  have x27 := (Ext.refl h).trans x25
  by_cases c28 : (0 : Int) ≤ (r21)
  · exact hCall_of (n := 200) (T := ⟨fun r i => match r, i with | 1, 2 => some ((vI (r21)), hh23) | 1, 3 => some ((vB true), hh23) | _, _ => none, fun _ => none, none⟩)
      (A := SoundCall Try.prog 59 #[(Value.slice sa (xs.length) (cp)), (vI (x))] h (vI (r21)) hh23 ∧ (binA Try.prog .geq 3 (vI (r21)) (vI 0) = some (vB true) ∧ hh23 = hh23) ∧ (fun v h1 => v = .bool (decide (x ∈ xs)) ∧ Ext h h1) (vB true) hh23) (by kernel_rfl) ⟨sn24, ⟨cmp_geq (decide_eq_true c28), rfl⟩, ⟨by rw [decide_eq_true (q22.1 (by omega))], x27⟩⟩
  · exact hCall_of (n := 200) (T := ⟨fun r i => match r, i with | 1, 2 => some ((vI (r21)), hh23) | 1, 3 => some ((vB false), hh23) | _, _ => none, fun _ => none, none⟩)
      (A := SoundCall Try.prog 59 #[(Value.slice sa (xs.length) (cp)), (vI (x))] h (vI (r21)) hh23 ∧ (binA Try.prog .geq 3 (vI (r21)) (vI 0) = some (vB false) ∧ hh23 = hh23) ∧ (fun v h1 => v = .bool (decide (x ∈ xs)) ∧ Ext h h1) (vB false) hh23) (by kernel_rfl) ⟨sn24, ⟨cmp_geq (decide_eq_false c28), rfl⟩, ⟨by rw [decide_eq_false (fun w => absurd (q22.2 w) (by omega))], x27⟩⟩
set_option maxHeartbeats 4000000 in
theorem among_ok (h : Heap) (xs : List Int) (x : Int) (sa : Option Addr) (cp : Nat) (hl : SliceAt h icell 1 xs (.slice sa xs.length cp)) (hlen : xs.length ≤ 1048576) : WCall Try.prog 43 #[(vI (x)), (Value.slice sa (xs.length) (cp))] h (fun v h1 => v = .bool (decide (x ∈ xs)) ∧ Ext h h1) := by
  obtain ⟨_, hh29, sn30, rfl, x31⟩ := contains_ok h xs (x) _ _ hl (by omega)
  have x33 := (Ext.refl h).trans x31
  rcases Bool.eq_false_or_eq_true ((decide ((x) ∈ xs))) with c34 | c34
  · exact hCall_of (n := 200) (T := ⟨fun r i => match r, i with | 1, 2 => some ((vB true), hh29) | _, _ => none, fun _ => none, none⟩)
      (A := SoundCall Try.prog 54 #[(Value.slice sa (xs.length) (cp)), (vI (x))] h (vB true) hh29 ∧ (fun v h1 => v = .bool (decide (x ∈ xs)) ∧ Ext h h1) (vB true) hh29) (by kernel_rfl) ⟨(by rw [← c34]; exact sn30), ⟨by rw [c34], x33⟩⟩
  · exact hCall_of (n := 200) (T := ⟨fun r i => match r, i with | 1, 2 => some ((vB false), hh29) | _, _ => none, fun _ => none, none⟩)
      (A := SoundCall Try.prog 54 #[(Value.slice sa (xs.length) (cp)), (vI (x))] h (vB false) hh29 ∧ (fun v h1 => v = .bool (decide (x ∈ xs)) ∧ Ext h h1) (vB false) hh29) (by kernel_rfl) ⟨(by rw [← c34]; exact sn30), ⟨by rw [c34], x33⟩⟩
/-- A step of a definition. -/
structure StepM where
  key : ByteArray
  delta : Int
def stepc (s : StepM) : Array Value := #[.string s.key, .int .i64 s.delta]
theorem stepc_size (s : StepM) : (stepc s).size = 2 := rfl
/-- A command. -/
structure CmdM where
  kind : Int
  call : Int
  saga : Int
  e1 : Int
  e2 : Int
  e3 : Int
  key : ByteArray
  delta : Int
  move : Int
  rf : ByteArray
  rt : ByteArray
  group : Int
  dn : ByteArray
  dr : Int
  dd : Int
  steps : List StepM
  i1 : Int
  i2 : Int
  i3 : Int
  im : Int
  ii : Bool
  ig : Int
  res : Int
  data : ByteArray
abbrev cmdc (c : CmdM) (v : Value) : Array Value := #[.int .i64 c.kind, .int .i64 c.call, .int .i64 c.saga, .int .i64 c.e1, .int .i64 c.e2, .int .i64 c.e3, .string c.key, .int .i64 c.delta, .int .i64 c.move, .string c.rf, .string c.rt, .int .i64 c.group, .string c.dn, .int .i64 c.dr, .int .i64 c.dd, v,
  .int .i64 c.i1, .int .i64 c.i2, .int .i64 c.i3, .int .i64 c.im, .bool c.ii, .int .i64 c.ig, .int .i64 c.res, .string c.data]
/-- An event. -/
structure EvM where
  call : Int
  reply : Bool
  cmd : CmdM
  err : Int
  num : Int
  text : ByteArray
def evc (x : EvM × Option Addr × Nat) : Array Value := #[.int .i64 x.1.call, .bool x.1.reply, .int .i64 x.1.cmd.kind, .int .i64 x.1.cmd.call, .int .i64 x.1.cmd.saga, .int .i64 x.1.cmd.e1, .int .i64 x.1.cmd.e2, .int .i64 x.1.cmd.e3, .string x.1.cmd.key, .int .i64 x.1.cmd.delta, .int .i64 x.1.cmd.move, .string x.1.cmd.rf, .string x.1.cmd.rt, .int .i64 x.1.cmd.group, .string x.1.cmd.dn, .int .i64 x.1.cmd.dr, .int .i64 x.1.cmd.dd, .slice x.2.1 x.1.cmd.steps.length x.2.2,
  .int .i64 x.1.cmd.i1, .int .i64 x.1.cmd.i2, .int .i64 x.1.cmd.i3, .int .i64 x.1.cmd.im, .bool x.1.cmd.ii, .int .i64 x.1.cmd.ig, .int .i64 x.1.cmd.res, .string x.1.cmd.data, .int .i64 x.1.err, .int .i64 x.1.num, .string x.1.text]
theorem evc_size (x : EvM × Option Addr × Nat) : (evc x).size = 29 := rfl
def StepsAt (h : Heap) (raw : List (EvM × Option Addr × Nat)) : Prop := ∀ x ∈ raw, OwnAt h 74 stepc x.1.cmd.steps (.slice x.2.1 x.1.cmd.steps.length x.2.2)
def sfoot (raw : List (EvM × Option Addr × Nat)) (b : Nat) : Prop := ∃ x ∈ raw, blk (.slice x.2.1 x.1.cmd.steps.length x.2.2) b
theorem StepsAt.keep {h h1 : Heap} {raw : List (EvM × Option Addr × Nat)} (k : StepsAt h raw) (w : ∀ b r, sfoot raw b → h[b]? = some r → h1[b]? = some r) : StepsAt h1 raw := fun x hx => (k x hx).keep fun b r hb q => w b r ⟨x, hx, hb⟩ q
theorem StepsAt.ne {h : Heap} {raw : List (EvM × Option Addr × Nat)} (k : StepsAt h raw) {b b2 : Nat} {c : Array Value} {e2 : TypeId} {fr : Nat × Nat} (hb2 : h[b2]? = some (.cells c e2 fr)) (he : 74 ≠ e2) (hb : sfoot raw b) : b ≠ b2 := by
  obtain ⟨x, hx, hb⟩ := hb; exact (k x hx).ne hb2 he hb
theorem StepsAt.apart {β : Type} {g : β → Array Value} {h : Heap} {raw : List (EvM × Option Addr × Nat)} (k : StepsAt h raw) {e2 : TypeId} {ys : List β} {w : Value} (k2 : OwnAt h e2 g ys w) (he : 74 ≠ e2) {b : Nat} (hb : sfoot raw b) (hb2 : blk w b) : False := by
  obtain ⟨x, hx, hb⟩ := hb; exact (k x hx).apart k2 he hb hb2
theorem StepsAt.blk_lt {h : Heap} {raw : List (EvM × Option Addr × Nat)} (k : StepsAt h raw) {b : Nat} (hb : sfoot raw b) : b < h.size := by
  obtain ⟨x, hx, hb⟩ := hb; exact (k x hx).blk_lt hb
/-- A table of calls: its events, and for each call the places of its event and of its reply. -/
structure TabM where
  evs : List EvM
  ats : List Int
  rps : List Int
structure TabRow (h : Heap) (O : Nat → Prop) (t : Nat) (m : TabM) (raw : List (EvM × Option Addr × Nat)) (ae aa ar : Option Addr) (ce ca cr : Nat) : Prop where
  row : h[t]? = some (.cells #[.bool true, .slice ae raw.length ce, .slice aa m.ats.length ca, .slice ar m.rps.length cr] 68 (0, 0))
  ev : OwnAt h 47 evc raw (.slice ae raw.length ce)
  at_ : OwnAt h 3 icell m.ats (.slice aa m.ats.length ca)
  rp : OwnAt h 3 icell m.rps (.slice ar m.rps.length cr)
  evs : raw.map Prod.fst = m.evs
  steps : StepsAt h raw
  apart : ∀ b, blk (.slice aa m.ats.length ca) b → ¬ blk (.slice ar m.rps.length cr) b
  inT : O t
  inE : ∀ b, blk (.slice ae raw.length ce) b → O b
  inA : ∀ b, blk (.slice aa m.ats.length ca) b → O b
  inR : ∀ b, blk (.slice ar m.rps.length cr) b → O b
  inS : ∀ b, sfoot raw b → O b
def TabAt (h : Heap) (O : Nat → Prop) (t : Nat) (m : TabM) : Prop := ∃ raw ae aa ar ce ca cr, TabRow h O t m raw ae aa ar ce ca cr
theorem TabAt.keep {h h1 : Heap} {O : Nat → Prop} {t : Nat} {m : TabM} (k : TabAt h O t m) (w : ∀ b r, O b → h[b]? = some r → h1[b]? = some r) : TabAt h1 O t m := by
  obtain ⟨raw, ae, aa, ar, ce, ca, cr, k⟩ := k
  exact ⟨raw, ae, aa, ar, ce, ca, cr, w _ _ k.inT k.row, k.ev.keep fun b r hb q => w b r (k.inE b hb) q, k.at_.keep fun b r hb q => w b r (k.inA b hb) q, k.rp.keep fun b r hb q => w b r (k.inR b hb) q, k.evs,
    k.steps.keep fun b r hb q => w b r (k.inS b hb) q, k.apart, k.inT, k.inE, k.inA, k.inR, k.inS⟩
theorem TabAt.weak {h : Heap} {O O' : Nat → Prop} {t : Nat} {m : TabM} (k : TabAt h O t m) (w : ∀ b, O b → O' b) : TabAt h O' t m := by
  obtain ⟨raw, ae, aa, ar, ce, ca, cr, k⟩ := k
  exact ⟨raw, ae, aa, ar, ce, ca, cr, k.row, k.ev, k.at_, k.rp, k.evs, k.steps, k.apart, w _ k.inT, fun b hb => w b (k.inE b hb), fun b hb => w b (k.inA b hb), fun b hb => w b (k.inR b hb), fun b hb => w b (k.inS b hb)⟩
set_option maxHeartbeats 4000000 in
theorem clone_int_nil (h : Heap)  : WCall Try.prog 46 #[(Value.slice none 0 0)] h (fun v h1 => v = .slice none 0 0 ∧ Ext h h1) := by
  exact hCall_of (n := 200) (T := ⟨fun r i => match r, i with | _, _ => none, fun _ => none, none⟩)
    (A := (fun v h1 => v = .slice none 0 0 ∧ Ext h h1) (Value.slice none 0 0) h) (by kernel_rfl) ⟨rfl, (Ext.refl h)⟩
set_option maxHeartbeats 4000000 in
theorem clone_int_some (h : Heap) (xs : List Int) (a : Addr) (cp : Nat) (hl : SliceAt h icell 1 xs (.slice (some a) xs.length cp)) (hlen : xs.length ≤ 1048576) : WCall Try.prog 46 #[(Value.slice (some a) (xs.length) (cp))] h (fun v h1 => ∃ w cw, v = .slice w xs.length cw ∧ OwnAt h1 3 icell xs v ∧ Ext h h1 ∧ ∀ b, blk v b → h.size ≤ b) := by
  obtain ⟨b37, eb38⟩ : ∃ zq, zq = h.size := ⟨_, rfl⟩
  obtain ⟨h35, e36⟩ : ∃ zq, zq = h.push (.cells #[] 3 (0, 0)) := ⟨_, rfl⟩
  have f39 := push_new e36
  rw [← eb38] at f39
  have x41 : Ext h h35 := by rw [e36]; exact Ext.push _ _
  have o42 : h.size ≤ b37 := by have := (Ext.refl h).size; omega
  have p43 := hl.keep fun b r _ q => x41 b r q
  have x44 := (Ext.refl h).trans x41
  obtain ⟨w45, h46, e47, p48, x49, n50⟩ := own_clone und53 sizeb3 zero3 rfl (by decide) icell_size f39 p43 (by omega) (by unfold maxLen; omega)
  obtain ⟨a51, c52, rfl⟩ := (p48.slice icell_size).len
  have z55 : b37 < h35.size := row_lt f39
  have n54 : ∀ zz, blk (Value.slice a51 (xs.length) (c52)) zz → zz = b37 ∨ h35.size ≤ zz := fun zz hz => by rcases n50 zz hz with e | e <;> omega
  have o57 : ∀ zz, blk (Value.slice a51 (xs.length) (c52)) zz → h.size ≤ zz := fun zz hz => by have := o42; have := x44.size; rcases n54 zz hz with g | g <;> omega
  have x60 := x44.trans x49
  exact hCall_of (n := 200) (T := ⟨fun r i => match r, i with | 3, 0 => some ((Value.slice (some ⟨b37, 0, none⟩) 0 0), h35) | 3, 2 => some ((Value.slice a51 (xs.length) (c52)), h46) | _, _ => none, fun _ => none, none⟩)
    (A := ((Value.slice (some ⟨b37, 0, none⟩) 0 0) = (Value.slice (some ⟨h.size, 0, none⟩) 0 0) ∧ h35 = h.push (.cells #[] 3 (0, 0))) ∧ appendA Try.prog h35 #[53, 53] #[(Value.slice (some ⟨b37, 0, none⟩) 0 0), (Value.slice (some a) (xs.length) (cp))] = some ((Value.slice a51 (xs.length) (c52)), h46) ∧ (fun v h1 => ∃ w cw, v = .slice w xs.length cw ∧ OwnAt h1 3 icell xs v ∧ Ext h h1 ∧ ∀ b, blk v b → h.size ≤ b) (Value.slice a51 (xs.length) (c52)) h46) (by kernel_rfl) ⟨⟨by rw [eb38], e36⟩, e47, ⟨_, _, rfl, p48, x60, o57⟩⟩
theorem clone_int (h : Heap) (xs : List Int) (sa : Option Addr) (cp : Nat) (hl : SliceAt h icell 1 xs (.slice sa xs.length cp)) (hlen : xs.length ≤ 1048576) : WCall Try.prog 46 #[.slice sa xs.length cp] h (fun v h1 => ∃ w cw, v = .slice w xs.length cw ∧ OwnAt h1 3 icell xs v ∧ Ext h h1 ∧ ∀ b, blk v b → h.size ≤ b) := by
  rcases sa with _ | a
  · obtain ⟨e0, e1, e2⟩ := SliceAt_none hl
    subst e2; subst e1
    exact (clone_int_nil h).mono fun v h1 q => ⟨none, 0, q.1, .inl ⟨q.1, rfl⟩, q.2, fun b hb => by rw [q.1] at hb; exact hb.elim⟩
  · exact clone_int_some h xs a cp hl hlen
set_option maxHeartbeats 4000000 in
theorem clone_steps_nil (h : Heap)  : WCall Try.prog 55 #[(Value.slice none 0 0)] h (fun v h1 => v = .slice none 0 0 ∧ Ext h h1) := by
  exact hCall_of (n := 200) (T := ⟨fun r i => match r, i with | _, _ => none, fun _ => none, none⟩)
    (A := (fun v h1 => v = .slice none 0 0 ∧ Ext h h1) (Value.slice none 0 0) h) (by kernel_rfl) ⟨rfl, (Ext.refl h)⟩
set_option maxHeartbeats 4000000 in
theorem clone_steps_some (h : Heap) (xs : List StepM) (a : Addr) (cp : Nat) (hl : SliceAt h stepc 2 xs (.slice (some a) xs.length cp)) (hlen : xs.length ≤ 1048576) : WCall Try.prog 55 #[(Value.slice (some a) (xs.length) (cp))] h (fun v h1 => ∃ w cw, v = .slice w xs.length cw ∧ OwnAt h1 74 stepc xs v ∧ Ext h h1 ∧ ∀ b, blk v b → h.size ≤ b) := by
  obtain ⟨b63, eb64⟩ : ∃ zq, zq = h.size := ⟨_, rfl⟩
  obtain ⟨h61, e62⟩ : ∃ zq, zq = h.push (.cells #[] 74 (0, 0)) := ⟨_, rfl⟩
  have f65 := push_new e62
  rw [← eb64] at f65
  have x67 : Ext h h61 := by rw [e62]; exact Ext.push _ _
  have o68 : h.size ≤ b63 := by have := (Ext.refl h).size; omega
  have p69 := hl.keep fun b r _ q => x67 b r q
  have x70 := (Ext.refl h).trans x67
  obtain ⟨w71, h72, e73, p74, x75, n76⟩ := own_clone und37 sizeb74 zero74 rfl (by decide) stepc_size f65 p69 (by omega) (by unfold maxLen; omega)
  obtain ⟨a77, c78, rfl⟩ := (p74.slice stepc_size).len
  have z81 : b63 < h61.size := row_lt f65
  have n80 : ∀ zz, blk (Value.slice a77 (xs.length) (c78)) zz → zz = b63 ∨ h61.size ≤ zz := fun zz hz => by rcases n76 zz hz with e | e <;> omega
  have o83 : ∀ zz, blk (Value.slice a77 (xs.length) (c78)) zz → h.size ≤ zz := fun zz hz => by have := o68; have := x70.size; rcases n80 zz hz with g | g <;> omega
  have x86 := x70.trans x75
  exact hCall_of (n := 200) (T := ⟨fun r i => match r, i with | 3, 0 => some ((Value.slice (some ⟨b63, 0, none⟩) 0 0), h61) | 3, 2 => some ((Value.slice a77 (xs.length) (c78)), h72) | _, _ => none, fun _ => none, none⟩)
    (A := ((Value.slice (some ⟨b63, 0, none⟩) 0 0) = (Value.slice (some ⟨h.size, 0, none⟩) 0 0) ∧ h61 = h.push (.cells #[] 74 (0, 0))) ∧ appendA Try.prog h61 #[37, 37] #[(Value.slice (some ⟨b63, 0, none⟩) 0 0), (Value.slice (some a) (xs.length) (cp))] = some ((Value.slice a77 (xs.length) (c78)), h72) ∧ (fun v h1 => ∃ w cw, v = .slice w xs.length cw ∧ OwnAt h1 74 stepc xs v ∧ Ext h h1 ∧ ∀ b, blk v b → h.size ≤ b) (Value.slice a77 (xs.length) (c78)) h72) (by kernel_rfl) ⟨⟨by rw [eb64], e62⟩, e73, ⟨_, _, rfl, p74, x86, o83⟩⟩
theorem clone_steps (h : Heap) (xs : List StepM) (sa : Option Addr) (cp : Nat) (hl : SliceAt h stepc 2 xs (.slice sa xs.length cp)) (hlen : xs.length ≤ 1048576) : WCall Try.prog 55 #[.slice sa xs.length cp] h (fun v h1 => ∃ w cw, v = .slice w xs.length cw ∧ OwnAt h1 74 stepc xs v ∧ Ext h h1 ∧ ∀ b, blk v b → h.size ≤ b) := by
  rcases sa with _ | a
  · obtain ⟨e0, e1, e2⟩ := SliceAt_none hl
    subst e2; subst e1
    exact (clone_steps_nil h).mono fun v h1 q => ⟨none, 0, q.1, .inl ⟨q.1, rfl⟩, q.2, fun b hb => by rw [q.1] at hb; exact hb.elim⟩
  · exact clone_steps_some h xs a cp hl hlen
set_option maxHeartbeats 4000000 in
theorem copy_def (h : Heap) (xs : List StepM) (nm : ByteArray) (rt dl : Int) (sa : Option Addr) (cp : Nat) (hl : SliceAt h stepc 2 xs (.slice sa xs.length cp)) (hlen : xs.length ≤ 1048576) : WCall Try.prog 44 #[(Value.agg #[(vS nm), (vI (rt)), (vI (dl)), (Value.slice sa (xs.length) (cp))])] h (fun v h1 => ∃ w cw, v = .agg #[.string nm, .int .i64 rt, .int .i64 dl, .slice w xs.length cw] ∧ OwnAt h1 74 stepc xs (.slice w xs.length cw) ∧ Ext h h1 ∧ ∀ b, blk (.slice w xs.length cw) b → h.size ≤ b) := by
  obtain ⟨b89, eb90⟩ : ∃ zq, zq = h.size := ⟨_, rfl⟩
  obtain ⟨h87, e88⟩ : ∃ zq, zq = h.push (.cells #[(vS nm), (vI (rt)), (vI (dl)), (Value.slice sa (xs.length) (cp))] 39 (0, 0)) := ⟨_, rfl⟩
  have f91 := push_new e88
  rw [← eb90] at f91
  have x93 : Ext h h87 := by rw [e88]; exact Ext.push _ _
  have o94 : h.size ≤ b89 := by have := (Ext.refl h).size; omega
  have p95 := hl.keep fun b r _ q => x93 b r q
  have x96 := (Ext.refl h).trans x93
  obtain ⟨b99, eb100⟩ : ∃ zq, zq = h87.size := ⟨_, rfl⟩
  obtain ⟨h97, e98⟩ : ∃ zq, zq = h87.push (.cells #[(vS .empty), (vI 0), (vI 0), (Value.slice none 0 0)] 39 (0, 0)) := ⟨_, rfl⟩
  have f101 := push_new e98
  rw [← eb100] at f101
  have n102 : b99 ≠ b89 := by have := row_lt f91; omega
  have x104 : Ext h87 h97 := by rw [e98]; exact Ext.push _ _
  have o105 : h.size ≤ b99 := by have := x96.size; omega
  have f106 := x104 _ _ f91
  have p107 := p95.keep fun b r _ q => x104 b r q
  have x108 := x96.trans x104
  obtain ⟨_, hh113, sn114, w109, c110, rfl, o111, x115, b112⟩ := clone_steps h97 xs _ _ p107 (by omega)
  have f116 := x115 _ _ f106
  have f117 := x115 _ _ f101
  have x119 := x108.trans x115
  have z121 : h.size ≤ h97.size := x108.size
  have n122 : ∀ zz, blk (Value.slice w109 (xs.length) (c110)) zz → ¬ zz = b89 := fun zz hz ez => by have := b112 zz hz; have := row_lt f106; omega
  have n123 : ∀ zz, blk (Value.slice w109 (xs.length) (c110)) zz → ¬ zz = b99 := fun zz hz ez => by have := b112 zz hz; have := row_lt f101; omega
  have o125 : ∀ zz, blk (Value.slice w109 (xs.length) (c110)) zz → h.size ≤ zz := fun zz hz => by have := b112 zz hz; omega
  obtain ⟨h126, e127⟩ : ∃ zq, zq = hh113.setIfInBounds b89 (.cells #[(vS nm), (vI (rt)), (vI (dl)), (Value.slice w109 (xs.length) (c110))] 39 (0, 0)) := ⟨_, rfl⟩
  have f128 := set_same e127 f116
  have f130 := set_other e127 f117 n102.symm
  have p132 := o111.keep fun b r hb q => (Chg.set e127).same b r q (n122 b hb)
  have x133 := Ext.setNew x119 e127 o94
  obtain ⟨h134, e135⟩ : ∃ zq, zq = h126.setIfInBounds b99 (.cells #[(vS nm), (vI (rt)), (vI (dl)), (Value.slice w109 (xs.length) (c110))] 39 (0, 0)) := ⟨_, rfl⟩
  have f136 := set_same e135 f130
  have p140 := p132.keep fun b r hb q => (Chg.set e135).same b r q (n123 b hb)
  have x141 := Ext.setNew x133 e135 o105
  exact hCall_of (n := 200) (T := ⟨fun r i => match r, i with | 0, 0 => some ((vP b89 0), h87) | 0, 1 => some ((vP b99 0), h97) | 1, 1 => some ((Value.slice sa (xs.length) (cp)), h97) | 1, 2 => some ((Value.slice w109 (xs.length) (c110)), hh113) | 1, 4 => some (undef, h126) | 2, 0 => some ((Value.agg #[(vS nm), (vI (rt)), (vI (dl)), (Value.slice w109 (xs.length) (c110))]), h126) | 2, 1 => some (undef, h134) | _, _ => none, fun _ => none, some [(Value.agg #[(vS nm), (vI (rt)), (vI (dl)), (Value.slice w109 (xs.length) (c110))])]⟩)
    (A := ((vP b89 0) = (Value.pointer (some ⟨h.size, 0, none⟩)) ∧ h87 = h.push (.cells #[(vS nm), (vI (rt)), (vI (dl)), (Value.slice sa (xs.length) (cp))] 39 (0, 0))) ∧ ((vP b99 0) = (Value.pointer (some ⟨h87.size, 0, none⟩)) ∧ h97 = h87.push (.cells #[(vS .empty), (vI 0), (vI 0), (Value.slice none 0 0)] 39 (0, 0))) ∧ (loadT Try.prog h97 37 (vP b89 3) = some (Value.slice sa (xs.length) (cp)) ∧ h97 = h97) ∧ SoundCall Try.prog 55 #[(Value.slice sa (xs.length) (cp))] h97 (Value.slice w109 (xs.length) (c110)) hh113 ∧ (storeT Try.prog hh113 37 (vP b89 3) (Value.slice w109 (xs.length) (c110)) = some h126 ∧ (undef : Value) = undef) ∧ (loadT Try.prog h126 39 (vP b89 0) = some (Value.agg #[(vS nm), (vI (rt)), (vI (dl)), (Value.slice w109 (xs.length) (c110))]) ∧ h126 = h126) ∧ (storeT Try.prog h126 39 (vP b99 0) (Value.agg #[(vS nm), (vI (rt)), (vI (dl)), (Value.slice w109 (xs.length) (c110))]) = some h134 ∧ (undef : Value) = undef) ∧ (loadT Try.prog h134 39 (vP b99 0) = some (Value.agg #[(vS nm), (vI (rt)), (vI (dl)), (Value.slice w109 (xs.length) (c110))]) ∧ True) ∧ (fun v h1 => ∃ w cw, v = .agg #[.string nm, .int .i64 rt, .int .i64 dl, .slice w xs.length cw] ∧ OwnAt h1 74 stepc xs (.slice w xs.length cw) ∧ Ext h h1 ∧ ∀ b, blk (.slice w xs.length cw) b → h.size ≤ b) (Value.agg #[(vS nm), (vI (rt)), (vI (dl)), (Value.slice w109 (xs.length) (c110))]) h134) (by kernel_rfl) ⟨⟨by rw [eb90], e88⟩, ⟨by rw [eb100], e98⟩, ⟨load_cell agg37 f106 rfl, rfl⟩, sn114, ⟨by rw [e127]; exact store_cells size37 rfl f116 (by decide) (by simp) rfl (by kernel_rfl), rfl⟩, ⟨load_agg agg39 size39 f128 (by simp) (by kernel_rfl), rfl⟩, ⟨by rw [e135]; exact store_cells size39 rfl f130 (by decide) (by simp) rfl (by kernel_rfl), rfl⟩, ⟨load_agg agg39 size39 f136 (by simp) (by kernel_rfl), trivial⟩, ⟨_, _, rfl, p140, x141, o125⟩⟩
set_option maxHeartbeats 4000000 in
theorem num_check (h : Heap) (x : Int) : WCall Try.prog 45 #[(vI (x))] h (fun v h1 => v = .int .i64 (if x < -1152921504606846976 ∨ 1152921504606846976 < x then (7 : Int) else 0) ∧ h = h1) := by
  by_cases c142 : ((x) : Int) < (-1152921504606846976)
  · exact hCall_of (n := 200) (T := ⟨fun r i => match r, i with | 1, 1 => some ((vB true), h) | _, _ => none, fun _ => none, none⟩)
      (A := (binA Try.prog .lss 2 (vI (x)) (vI (-1152921504606846976)) = some (vB true) ∧ h = h) ∧ (fun v h1 => v = .int .i64 (if x < -1152921504606846976 ∨ 1152921504606846976 < x then (7 : Int) else 0) ∧ h = h1) (vI 7) h) (by kernel_rfl) ⟨⟨cmp_lss (decide_eq_true c142), rfl⟩, ⟨by simp [c142], rfl⟩⟩
  · by_cases c143 : (1152921504606846976 : Int) < (x)
    · exact hCall_of (n := 200) (T := ⟨fun r i => match r, i with | 1, 1 => some ((vB false), h) | 1, 4 => some ((vB true), h) | _, _ => none, fun _ => none, none⟩)
        (A := (binA Try.prog .lss 2 (vI (x)) (vI (-1152921504606846976)) = some (vB false) ∧ h = h) ∧ (binA Try.prog .gtr 2 (vI (x)) (vI 1152921504606846976) = some (vB true) ∧ h = h) ∧ (fun v h1 => v = .int .i64 (if x < -1152921504606846976 ∨ 1152921504606846976 < x then (7 : Int) else 0) ∧ h = h1) (vI 7) h) (by kernel_rfl) ⟨⟨cmp_lss (decide_eq_false c142), rfl⟩, ⟨cmp_gtr (decide_eq_true c143), rfl⟩, ⟨by simp [c142, c143], rfl⟩⟩
    · exact hCall_of (n := 200) (T := ⟨fun r i => match r, i with | 1, 1 => some ((vB false), h) | 1, 4 => some ((vB false), h) | _, _ => none, fun _ => none, none⟩)
        (A := (binA Try.prog .lss 2 (vI (x)) (vI (-1152921504606846976)) = some (vB false) ∧ h = h) ∧ (binA Try.prog .gtr 2 (vI (x)) (vI 1152921504606846976) = some (vB false) ∧ h = h) ∧ (fun v h1 => v = .int .i64 (if x < -1152921504606846976 ∨ 1152921504606846976 < x then (7 : Int) else 0) ∧ h = h1) (vI 0) h) (by kernel_rfl) ⟨⟨cmp_lss (decide_eq_false c142), rfl⟩, ⟨cmp_gtr (decide_eq_false c143), rfl⟩, ⟨by simp [c142, c143], rfl⟩⟩
/-- Whether a reply is allowed. -/
def chkR (e m : Int) (d : ByteArray) : Int := (if e < 0 ∨ 18 < e ∨ (if m < -1152921504606846976 ∨ 1152921504606846976 < m then (7 : Int) else 0) ≠ 0 ∨ 65536 < ((d.size : Nat) : Int) then (2 : Int) else 0)
set_option maxHeartbeats 4000000 in
theorem check_reply (h : Heap) (e m : Int) (d : ByteArray) : WCall Try.prog 22 #[(Value.agg #[(vI (e)), (vI (m)), (vS d)])] h (fun v h1 => v = .int .i64 (chkR e m d) ∧ Ext h h1) := by
  obtain ⟨b146, eb147⟩ : ∃ zq, zq = h.size := ⟨_, rfl⟩
  obtain ⟨h144, e145⟩ : ∃ zq, zq = h.push (.cells #[(vI (e)), (vI (m)), (vS d)] 45 (0, 0)) := ⟨_, rfl⟩
  have f148 := push_new e145
  rw [← eb147] at f148
  have x149 : Ext h h144 := by rw [e145]; exact Ext.push _ _
  have o150 : h.size ≤ b146 := by have := (Ext.refl h).size; omega
  have x151 := (Ext.refl h).trans x149
  by_cases c152 : ((e) : Int) < 0
  · exact hCall_of (n := 200) (T := ⟨fun r i => match r, i with | 0, 0 => some ((vP b146 0), h144) | 1, 1 => some ((vI (e)), h144) | 1, 2 => some ((vB true), h144) | _, _ => none, fun _ => none, none⟩)
      (A := ((vP b146 0) = (Value.pointer (some ⟨h.size, 0, none⟩)) ∧ h144 = h.push (.cells #[(vI (e)), (vI (m)), (vS d)] 45 (0, 0))) ∧ (loadT Try.prog h144 28 (vP b146 0) = some (vI (e)) ∧ h144 = h144) ∧ (binA Try.prog .lss 28 (vI (e)) (vI 0) = some (vB true) ∧ h144 = h144) ∧ (fun v h1 => v = .int .i64 (chkR e m d) ∧ Ext h h1) (vI 2) h144) (by kernel_rfl) ⟨⟨by rw [eb147], e145⟩, ⟨load_cell agg28 f148 rfl, rfl⟩, ⟨cmp_lss (decide_eq_true c152), rfl⟩, ⟨by simp [chkR, c152], x151⟩⟩
  · by_cases c153 : (18 : Int) < (e)
    · exact hCall_of (n := 200) (T := ⟨fun r i => match r, i with | 0, 0 => some ((vP b146 0), h144) | 1, 1 => some ((vI (e)), h144) | 1, 2 => some ((vB false), h144) | 1, 5 => some ((vI (e)), h144) | 1, 6 => some ((vB true), h144) | _, _ => none, fun _ => none, none⟩)
        (A := ((vP b146 0) = (Value.pointer (some ⟨h.size, 0, none⟩)) ∧ h144 = h.push (.cells #[(vI (e)), (vI (m)), (vS d)] 45 (0, 0))) ∧ (loadT Try.prog h144 28 (vP b146 0) = some (vI (e)) ∧ h144 = h144) ∧ (binA Try.prog .lss 28 (vI (e)) (vI 0) = some (vB false) ∧ h144 = h144) ∧ (loadT Try.prog h144 28 (vP b146 0) = some (vI (e)) ∧ h144 = h144) ∧ (binA Try.prog .gtr 28 (vI (e)) (vI 18) = some (vB true) ∧ h144 = h144) ∧ (fun v h1 => v = .int .i64 (chkR e m d) ∧ Ext h h1) (vI 2) h144) (by kernel_rfl) ⟨⟨by rw [eb147], e145⟩, ⟨load_cell agg28 f148 rfl, rfl⟩, ⟨cmp_lss (decide_eq_false c152), rfl⟩, ⟨load_cell agg28 f148 rfl, rfl⟩, ⟨cmp_gtr (decide_eq_true c153), rfl⟩, ⟨by simp [chkR, c152, c153], x151⟩⟩
    · obtain ⟨_, _, sn155, rfl, rfl⟩ := num_check h144 (m)
      by_cases c157 : (((if (m) < -1152921504606846976 ∨ 1152921504606846976 < (m) then (7 : Int) else 0)) : Int) = 0
      · by_cases c158 : (65536 : Int) < ((d.size : Nat))
        · exact hCall_of (n := 200) (T := ⟨fun r i => match r, i with | 0, 0 => some ((vP b146 0), h144) | 1, 1 => some ((vI (e)), h144) | 1, 2 => some ((vB false), h144) | 1, 5 => some ((vI (e)), h144) | 1, 6 => some ((vB false), h144) | 1, 10 => some ((vI (m)), h144) | 1, 11 => some ((vI ((if (m) < -1152921504606846976 ∨ 1152921504606846976 < (m) then (7 : Int) else 0))), h144) | 1, 12 => some ((vB false), h144) | 1, 16 => some ((vS d), h144) | 1, 18 => some ((vB true), h144) | _, _ => none, fun _ => none, none⟩)
            (A := ((vP b146 0) = (Value.pointer (some ⟨h.size, 0, none⟩)) ∧ h144 = h.push (.cells #[(vI (e)), (vI (m)), (vS d)] 45 (0, 0))) ∧ (loadT Try.prog h144 28 (vP b146 0) = some (vI (e)) ∧ h144 = h144) ∧ (binA Try.prog .lss 28 (vI (e)) (vI 0) = some (vB false) ∧ h144 = h144) ∧ (loadT Try.prog h144 28 (vP b146 0) = some (vI (e)) ∧ h144 = h144) ∧ (binA Try.prog .gtr 28 (vI (e)) (vI 18) = some (vB false) ∧ h144 = h144) ∧ (loadT Try.prog h144 2 (vP b146 1) = some (vI (m)) ∧ h144 = h144) ∧ SoundCall Try.prog 45 #[(vI (m))] h144 (vI ((if (m) < -1152921504606846976 ∨ 1152921504606846976 < (m) then (7 : Int) else 0))) h144 ∧ (binA Try.prog .neq 28 (vI ((if (m) < -1152921504606846976 ∨ 1152921504606846976 < (m) then (7 : Int) else 0))) (vI 0) = some (vB false) ∧ h144 = h144) ∧ (loadT Try.prog h144 9 (vP b146 2) = some (vS d) ∧ h144 = h144) ∧ (binA Try.prog .gtr 3 (vI ((d.size : Nat))) (vI 65536) = some (vB true) ∧ h144 = h144) ∧ (fun v h1 => v = .int .i64 (chkR e m d) ∧ Ext h h1) (vI 2) h144) (by kernel_rfl) ⟨⟨by rw [eb147], e145⟩, ⟨load_cell agg28 f148 rfl, rfl⟩, ⟨cmp_lss (decide_eq_false c152), rfl⟩, ⟨load_cell agg28 f148 rfl, rfl⟩, ⟨cmp_gtr (decide_eq_false c153), rfl⟩, ⟨load_cell agg2 f148 rfl, rfl⟩, sn155, ⟨cmp_neq (decide_eq_false (not_not_intro c157)), rfl⟩, ⟨load_cell agg9 f148 rfl, rfl⟩, ⟨cmp_gtr (decide_eq_true c158), rfl⟩, ⟨by simp [chkR, c152, c153, c157, c158], x151⟩⟩
        · exact hCall_of (n := 200) (T := ⟨fun r i => match r, i with | 0, 0 => some ((vP b146 0), h144) | 1, 1 => some ((vI (e)), h144) | 1, 2 => some ((vB false), h144) | 1, 5 => some ((vI (e)), h144) | 1, 6 => some ((vB false), h144) | 1, 10 => some ((vI (m)), h144) | 1, 11 => some ((vI ((if (m) < -1152921504606846976 ∨ 1152921504606846976 < (m) then (7 : Int) else 0))), h144) | 1, 12 => some ((vB false), h144) | 1, 16 => some ((vS d), h144) | 1, 18 => some ((vB false), h144) | _, _ => none, fun _ => none, none⟩)
            (A := ((vP b146 0) = (Value.pointer (some ⟨h.size, 0, none⟩)) ∧ h144 = h.push (.cells #[(vI (e)), (vI (m)), (vS d)] 45 (0, 0))) ∧ (loadT Try.prog h144 28 (vP b146 0) = some (vI (e)) ∧ h144 = h144) ∧ (binA Try.prog .lss 28 (vI (e)) (vI 0) = some (vB false) ∧ h144 = h144) ∧ (loadT Try.prog h144 28 (vP b146 0) = some (vI (e)) ∧ h144 = h144) ∧ (binA Try.prog .gtr 28 (vI (e)) (vI 18) = some (vB false) ∧ h144 = h144) ∧ (loadT Try.prog h144 2 (vP b146 1) = some (vI (m)) ∧ h144 = h144) ∧ SoundCall Try.prog 45 #[(vI (m))] h144 (vI ((if (m) < -1152921504606846976 ∨ 1152921504606846976 < (m) then (7 : Int) else 0))) h144 ∧ (binA Try.prog .neq 28 (vI ((if (m) < -1152921504606846976 ∨ 1152921504606846976 < (m) then (7 : Int) else 0))) (vI 0) = some (vB false) ∧ h144 = h144) ∧ (loadT Try.prog h144 9 (vP b146 2) = some (vS d) ∧ h144 = h144) ∧ (binA Try.prog .gtr 3 (vI ((d.size : Nat))) (vI 65536) = some (vB false) ∧ h144 = h144) ∧ (fun v h1 => v = .int .i64 (chkR e m d) ∧ Ext h h1) (vI 0) h144) (by kernel_rfl) ⟨⟨by rw [eb147], e145⟩, ⟨load_cell agg28 f148 rfl, rfl⟩, ⟨cmp_lss (decide_eq_false c152), rfl⟩, ⟨load_cell agg28 f148 rfl, rfl⟩, ⟨cmp_gtr (decide_eq_false c153), rfl⟩, ⟨load_cell agg2 f148 rfl, rfl⟩, sn155, ⟨cmp_neq (decide_eq_false (not_not_intro c157)), rfl⟩, ⟨load_cell agg9 f148 rfl, rfl⟩, ⟨cmp_gtr (decide_eq_false c158), rfl⟩, ⟨by simp [chkR, c152, c153, c157, c158], x151⟩⟩
      · exact hCall_of (n := 200) (T := ⟨fun r i => match r, i with | 0, 0 => some ((vP b146 0), h144) | 1, 1 => some ((vI (e)), h144) | 1, 2 => some ((vB false), h144) | 1, 5 => some ((vI (e)), h144) | 1, 6 => some ((vB false), h144) | 1, 10 => some ((vI (m)), h144) | 1, 11 => some ((vI ((if (m) < -1152921504606846976 ∨ 1152921504606846976 < (m) then (7 : Int) else 0))), h144) | 1, 12 => some ((vB true), h144) | _, _ => none, fun _ => none, none⟩)
          (A := ((vP b146 0) = (Value.pointer (some ⟨h.size, 0, none⟩)) ∧ h144 = h.push (.cells #[(vI (e)), (vI (m)), (vS d)] 45 (0, 0))) ∧ (loadT Try.prog h144 28 (vP b146 0) = some (vI (e)) ∧ h144 = h144) ∧ (binA Try.prog .lss 28 (vI (e)) (vI 0) = some (vB false) ∧ h144 = h144) ∧ (loadT Try.prog h144 28 (vP b146 0) = some (vI (e)) ∧ h144 = h144) ∧ (binA Try.prog .gtr 28 (vI (e)) (vI 18) = some (vB false) ∧ h144 = h144) ∧ (loadT Try.prog h144 2 (vP b146 1) = some (vI (m)) ∧ h144 = h144) ∧ SoundCall Try.prog 45 #[(vI (m))] h144 (vI ((if (m) < -1152921504606846976 ∨ 1152921504606846976 < (m) then (7 : Int) else 0))) h144 ∧ (binA Try.prog .neq 28 (vI ((if (m) < -1152921504606846976 ∨ 1152921504606846976 < (m) then (7 : Int) else 0))) (vI 0) = some (vB true) ∧ h144 = h144) ∧ (fun v h1 => v = .int .i64 (chkR e m d) ∧ Ext h h1) (vI 2) h144) (by kernel_rfl) ⟨⟨by rw [eb147], e145⟩, ⟨load_cell agg28 f148 rfl, rfl⟩, ⟨cmp_lss (decide_eq_false c152), rfl⟩, ⟨load_cell agg28 f148 rfl, rfl⟩, ⟨cmp_gtr (decide_eq_false c153), rfl⟩, ⟨load_cell agg2 f148 rfl, rfl⟩, sn155, ⟨cmp_neq (decide_eq_true c157), rfl⟩, ⟨by simp [chkR, c152, c153, c157], x151⟩⟩
set_option maxHeartbeats 4000000 in
theorem valid_nil (h : Heap)  : WCall Try.prog 39 #[(Value.pointer none)] h (fun v h1 => v = .bool false ∧ h = h1) := by
  exact hCall_of (n := 200) (T := ⟨fun r i => match r, i with | _, _ => none, fun _ => none, none⟩)
    (A := (fun v h1 => v = .bool false ∧ h = h1) (vB false) h) (by kernel_rfl) ⟨by simp [], rfl⟩
set_option maxHeartbeats 4000000 in
theorem valid_bad (h : Heap) {t : Nat} {ev : Value} {sa : Option Addr} {n c : Nat} {ra : Value} {fr : Nat × Nat} (ht : h[t]? = some (.cells #[.bool false, ev, .slice sa n c, ra] 68 fr)) : WCall Try.prog 39 #[(vP t 0)] h (fun v h1 => v = .bool false ∧ h = h1) := by
  exact hCall_of (n := 200) (T := ⟨fun r i => match r, i with | 1, 6 => some ((vB false), h) | _, _ => none, fun _ => none, none⟩)
    (A := (loadT Try.prog h 4 (vP t 0) = some (vB false) ∧ h = h) ∧ (fun v h1 => v = .bool false ∧ h = h1) (vB false) h) (by kernel_rfl) ⟨⟨load_cell agg4 ht rfl, rfl⟩, ⟨by simp [], rfl⟩⟩
set_option maxHeartbeats 4000000 in
theorem valid_ok (h : Heap) {t : Nat} {ev : Value} {sa : Option Addr} {n c : Nat} {ra : Value} {fr : Nat × Nat} (ht : h[t]? = some (.cells #[.bool true, ev, .slice sa n c, ra] 68 fr)) : WCall Try.prog 39 #[(vP t 0)] h (fun v h1 => v = .bool true ∧ h = h1) := by
  exact hCall_of (n := 200) (T := ⟨fun r i => match r, i with | 1, 6 => some ((vB true), h) | _, _ => none, fun _ => none, none⟩)
    (A := (loadT Try.prog h 4 (vP t 0) = some (vB true) ∧ h = h) ∧ (fun v h1 => v = .bool true ∧ h = h1) (vB true) h) (by kernel_rfl) ⟨⟨load_cell agg4 ht rfl, rfl⟩, ⟨by simp [], rfl⟩⟩
set_option maxHeartbeats 4000000 in
theorem find_nil (h : Heap) (k : Int) : WCall Try.prog 40 #[(Value.pointer none), (vI (k))] h (fun v h1 => v = .int .i64 1 ∧ h = h1) := by
  obtain ⟨_, _, sn160, rfl, rfl⟩ := valid_nil h
  exact hCall_of (n := 200) (T := ⟨fun r i => match r, i with | 1, 1 => some ((vB false), h) | _, _ => none, fun _ => none, none⟩)
    (A := SoundCall Try.prog 39 #[(Value.pointer none)] h (vB false) h ∧ (fun v h1 => v = .int .i64 1 ∧ h = h1) (vI 1) h) (by kernel_rfl) ⟨sn160, ⟨by simp [], rfl⟩⟩
set_option maxHeartbeats 4000000 in
theorem find_bad (h : Heap) {t : Nat} {ev : Value} {sa : Option Addr} {n c : Nat} {ra : Value} {fr : Nat × Nat} (ht : h[t]? = some (.cells #[.bool false, ev, .slice sa n c, ra] 68 fr)) (k : Int) : WCall Try.prog 40 #[(vP t 0), (vI (k))] h (fun v h1 => v = .int .i64 1 ∧ h = h1) := by
  obtain ⟨_, _, sn163, rfl, rfl⟩ := valid_bad h ht
  exact hCall_of (n := 200) (T := ⟨fun r i => match r, i with | 1, 1 => some ((vB false), h) | _, _ => none, fun _ => none, none⟩)
    (A := SoundCall Try.prog 39 #[(vP t 0)] h (vB false) h ∧ (fun v h1 => v = .int .i64 1 ∧ h = h1) (vI 1) h) (by kernel_rfl) ⟨sn163, ⟨by simp [], rfl⟩⟩
set_option maxHeartbeats 4000000 in
theorem find_ok (h : Heap) {t : Nat} {ev : Value} {sa : Option Addr} {n c : Nat} {ra : Value} {fr : Nat × Nat} (ht : h[t]? = some (.cells #[.bool true, ev, .slice sa n c, ra] 68 fr)) (k : Int) : WCall Try.prog 40 #[(vP t 0), (vI (k))] h (fun v h1 => v = .int .i64 (if k < 1 ∨ ((n : Nat) : Int) < k then (3 : Int) else 0) ∧ h = h1) := by
  obtain ⟨_, _, sn166, rfl, rfl⟩ := valid_ok h ht
  by_cases c168 : ((k) : Int) < 1
  · exact hCall_of (n := 200) (T := ⟨fun r i => match r, i with | 1, 1 => some ((vB true), h) | 3, 1 => some ((vB true), h) | _, _ => none, fun _ => none, none⟩)
      (A := SoundCall Try.prog 39 #[(vP t 0)] h (vB true) h ∧ (binA Try.prog .lss 3 (vI (k)) (vI 1) = some (vB true) ∧ h = h) ∧ (fun v h1 => v = .int .i64 (if k < 1 ∨ ((n : Nat) : Int) < k then (3 : Int) else 0) ∧ h = h1) (vI 3) h) (by kernel_rfl) ⟨sn166, ⟨cmp_lss (decide_eq_true c168), rfl⟩, ⟨by simp [c168], rfl⟩⟩
  · by_cases c169 : (((n : Nat)) : Int) < (k)
    · exact hCall_of (n := 200) (T := ⟨fun r i => match r, i with | 1, 1 => some ((vB true), h) | 3, 1 => some ((vB false), h) | 3, 7 => some ((Value.slice sa (n) (c)), h) | 3, 9 => some ((vB true), h) | _, _ => none, fun _ => none, none⟩)
        (A := SoundCall Try.prog 39 #[(vP t 0)] h (vB true) h ∧ (binA Try.prog .lss 3 (vI (k)) (vI 1) = some (vB false) ∧ h = h) ∧ (loadT Try.prog h 53 (vP t 2) = some (Value.slice sa (n) (c)) ∧ h = h) ∧ (binA Try.prog .gtr 3 (vI (k)) (vI ((n : Nat))) = some (vB true) ∧ h = h) ∧ (fun v h1 => v = .int .i64 (if k < 1 ∨ ((n : Nat) : Int) < k then (3 : Int) else 0) ∧ h = h1) (vI 3) h) (by kernel_rfl) ⟨sn166, ⟨cmp_lss (decide_eq_false c168), rfl⟩, ⟨load_cell agg53 ht rfl, rfl⟩, ⟨cmp_gtr (decide_eq_true c169), rfl⟩, ⟨by simp [c168, c169], rfl⟩⟩
    · exact hCall_of (n := 200) (T := ⟨fun r i => match r, i with | 1, 1 => some ((vB true), h) | 3, 1 => some ((vB false), h) | 3, 7 => some ((Value.slice sa (n) (c)), h) | 3, 9 => some ((vB false), h) | _, _ => none, fun _ => none, none⟩)
        (A := SoundCall Try.prog 39 #[(vP t 0)] h (vB true) h ∧ (binA Try.prog .lss 3 (vI (k)) (vI 1) = some (vB false) ∧ h = h) ∧ (loadT Try.prog h 53 (vP t 2) = some (Value.slice sa (n) (c)) ∧ h = h) ∧ (binA Try.prog .gtr 3 (vI (k)) (vI ((n : Nat))) = some (vB false) ∧ h = h) ∧ (fun v h1 => v = .int .i64 (if k < 1 ∨ ((n : Nat) : Int) < k then (3 : Int) else 0) ∧ h = h1) (vI 0) h) (by kernel_rfl) ⟨sn166, ⟨cmp_lss (decide_eq_false c168), rfl⟩, ⟨load_cell agg53 ht rfl, rfl⟩, ⟨cmp_gtr (decide_eq_false c169), rfl⟩, ⟨by simp [c168, c169], rfl⟩⟩
theorem TabRow.elen {h : Heap} {O : Nat → Prop} {t : Nat} {m : TabM} {raw : List (EvM × Option Addr × Nat)} {ae aa ar : Option Addr} {ce ca cr : Nat} (T : TabRow h O t m raw ae aa ar ce ca cr) : raw.length = m.evs.length := by rw [← T.evs]; simp
def noCmd : CmdM := ⟨0, 0, 0, 0, 0, 0, .empty, 0, 0, .empty, .empty, 0, .empty, 0, 0, [], 0, 0, 0, 0, false, 0, 0, .empty⟩
def TabM.opened (m : TabM) (c : CmdM) : TabM := ⟨m.evs ++ [⟨m.ats.length + 1, false, { c with call := m.ats.length + 1 }, 0, 0, .empty⟩], m.ats ++ [(m.evs.length : Int)], m.rps ++ [-1]⟩
def TabM.closed (m : TabM) (k : Int) (e n : Int) (d : ByteArray) : TabM := ⟨m.evs ++ [⟨k, true, noCmd, e, n, d⟩], m.ats, m.rps.set (k - 1).toNat (m.evs.length : Int)⟩
theorem StepsAt.add {h : Heap} {raw : List (EvM × Option Addr × Nat)} {x : EvM × Option Addr × Nat} (k : StepsAt h raw) (o : OwnAt h 74 stepc x.1.cmd.steps (.slice x.2.1 x.1.cmd.steps.length x.2.2)) : StepsAt h (raw ++ [x]) := fun y hy => (List.mem_append.1 hy).elim (k y) fun q => by rw [List.mem_singleton.1 q]; exact o
theorem sfoot_add {O : Nat → Prop} {raw : List (EvM × Option Addr × Nat)} {x : EvM × Option Addr × Nat} (k : ∀ b, sfoot raw b → O b) (o : ∀ b, blk (.slice x.2.1 x.1.cmd.steps.length x.2.2) b → O b) (b : Nat) (hb : sfoot (raw ++ [x]) b) : O b := by
  obtain ⟨y, hy, hb⟩ := hb
  rcases List.mem_append.1 hy with q | q
  · exact k b ⟨y, q, hb⟩
  · rw [List.mem_singleton.1 q] at hb; exact o b hb
set_option maxHeartbeats 4000000 in
theorem new_ok (h : Heap)  : WCall Try.prog 17 #[] h (fun v h1 => ∃ b, v = .pointer (some ⟨b, 0, none⟩) ∧ TabAt h1 (fun k => k = b) b ⟨[], [], []⟩ ∧ Ext h h1 ∧ h.size ≤ b) := by
  obtain ⟨b172, eb173⟩ : ∃ zq, zq = h.size := ⟨_, rfl⟩
  obtain ⟨h170, e171⟩ : ∃ zq, zq = h.push (.cells #[(vB true), (Value.slice none 0 0), (Value.slice none 0 0), (Value.slice none 0 0)] 68 (0, 0)) := ⟨_, rfl⟩
  have f174 := push_new e171
  rw [← eb173] at f174
  have x175 : Ext h h170 := by rw [e171]; exact Ext.push _ _
  have o176 : h.size ≤ b172 := by have := (Ext.refl h).size; omega
  have x177 := (Ext.refl h).trans x175
  exact hCall_of (n := 200) (T := ⟨fun r i => match r, i with | 1, 1 => some ((vP b172 0), h170) | _, _ => none, fun _ => none, none⟩)
    (A := ((vP b172 0) = (Value.pointer (some ⟨h.size, 0, none⟩)) ∧ h170 = h.push (.cells #[(vB true), (Value.slice none 0 0), (Value.slice none 0 0), (Value.slice none 0 0)] 68 (0, 0))) ∧ (fun v h1 => ∃ b, v = .pointer (some ⟨b, 0, none⟩) ∧ TabAt h1 (fun k => k = b) b ⟨[], [], []⟩ ∧ Ext h h1 ∧ h.size ≤ b) (vP b172 0) h170) (by kernel_rfl) ⟨⟨by rw [eb173], e171⟩, ⟨_, rfl, ⟨[], none, none, none, 0, 0, 0, f174, .inl ⟨rfl, rfl⟩, .inl ⟨rfl, rfl⟩, .inl ⟨rfl, rfl⟩, rfl, (fun x hx => by cases hx), fun b hb => hb.elim, rfl, fun b hb => hb.elim, fun b hb => hb.elim, fun b hb => hb.elim, fun b hb => (by obtain ⟨x, hx, _⟩ := hb; cases hx)⟩, x177, o176⟩⟩
set_option maxHeartbeats 4000000 in
theorem open_ok (h : Heap) {O : Nat → Prop} {t : Nat} {m : TabM} (hT : TabAt h O t m) (hm : m.evs.length ≤ 100000) (hr : m.rps.length = m.ats.length) (c : CmdM) (sa : Option Addr) (cp : Nat) (hl : SliceAt h stepc 2 c.steps (.slice sa c.steps.length cp)) (hlen : c.steps.length ≤ 1048576) : WCall Try.prog 18 #[(vP t 0), (Value.agg (cmdc c (Value.slice sa (c.steps.length) (cp))))] h (fun v h1 => (c.call ≠ 0 ∨ ¬ c.kind ∈ ([2, 11, 12, 13, 14] : List Int) → v = .tuple #[.int .i64 0, .int .i64 2] ∧ Ext h h1) ∧ (c.call = 0 ∧ c.kind ∈ ([2, 11, 12, 13, 14] : List Int) ∧ 2000 ≤ m.ats.length → v = .tuple #[.int .i64 0, .int .i64 4] ∧ Ext h h1) ∧ (c.call = 0 ∧ c.kind ∈ ([2, 11, 12, 13, 14] : List Int) ∧ m.ats.length < 2000 → v = .tuple #[.int .i64 ((m.ats.length : Nat) + 1), .int .i64 0] ∧ Chg O h h1 ∧ TabAt h1 (fun b => O b ∨ h.size ≤ b) t (m.opened c))) := by
  obtain ⟨raw179, ae180, aa181, ar182, ce183, ca184, cr185, T178⟩ := hT
  have el := T178.elen
  obtain ⟨b188, eb189⟩ : ∃ zq, zq = h.size := ⟨_, rfl⟩
  obtain ⟨h186, e187⟩ : ∃ zq, zq = h.push (.cells #[(vI (c.kind)), (vI (c.call)), (vI (c.saga)), (vI (c.e1)), (vI (c.e2)), (vI (c.e3)), (vS c.key), (vI (c.delta)), (vI (c.move)), (vS c.rf), (vS c.rt), (vI (c.group)), (vS c.dn), (vI (c.dr)), (vI (c.dd)), (Value.slice sa (c.steps.length) (cp)), (vI (c.i1)), (vI (c.i2)), (vI (c.i3)), (vI (c.im)), (vB c.ii), (vI (c.ig)), (vI (c.res)), (vS c.data)] 43 (0, 0)) := ⟨_, rfl⟩
  have f190 := push_new e187
  rw [← eb189] at f190
  have n191 : b188 ≠ t := by have := row_lt T178.row; omega
  have n192 : ∀ zz, (blk (Value.slice ae180 (raw179.length) (ce183))) zz → ¬ zz = b188 := fun zz hz ez => by have := T178.ev.blk_lt hz; omega
  have n193 : ∀ zz, (blk (Value.slice aa181 (m.ats.length) (ca184))) zz → ¬ zz = b188 := fun zz hz ez => by have := T178.at_.blk_lt hz; omega
  have n194 : ∀ zz, (blk (Value.slice ar182 (m.rps.length) (cr185))) zz → ¬ zz = b188 := fun zz hz ez => by have := T178.rp.blk_lt hz; omega
  have n195 : ∀ zz, (sfoot raw179) zz → ¬ zz = b188 := fun zz hz ez => by have := T178.steps.blk_lt hz; omega
  have x197 : Ext h h186 := by rw [e187]; exact Ext.push _ _
  have o198 : h.size ≤ b188 := by have := (Chg.refl (O := O) h).size; omega
  have f199 := x197 _ _ T178.row
  have p200 := T178.ev.keep fun b r _ q => x197 b r q
  have p201 := T178.at_.keep fun b r _ q => x197 b r q
  have p202 := T178.rp.keep fun b r _ q => x197 b r q
  have p203 := T178.steps.keep fun b r _ q => x197 b r q
  have p204 := hl.keep fun b r _ q => x197 b r q
  have x205 := (Chg.refl (O := O) h).trans (Chg.ext x197)
  have y206 := (Ext.refl h).trans x197
  obtain ⟨_, _, sn208, rfl, rfl⟩ := valid_ok h186 f199
  by_cases c210 : ((c.call) : Int) = 0
  · obtain ⟨b213, eb214⟩ : ∃ zq, zq = h186.size := ⟨_, rfl⟩
    obtain ⟨h211, e212⟩ : ∃ zq, zq = h186.push (.cells #[(vI 2), (vI 11), (vI 12), (vI 13), (vI 14)] 3 (0, 0)) := ⟨_, rfl⟩
    have f215 := push_new e212
    rw [← eb214] at f215
    have x223 : Ext h186 h211 := by rw [e212]; exact Ext.push _ _
    have o224 : h.size ≤ b213 := by have := x205.size; omega
    have f225 := x223 _ _ f199
    have f226 := x223 _ _ f190
    have p227 := p200.keep fun b r _ q => x223 b r q
    have p228 := p201.keep fun b r _ q => x223 b r q
    have p229 := p202.keep fun b r _ q => x223 b r q
    have p230 := p203.keep fun b r _ q => x223 b r q
    have p231 := p204.keep fun b r _ q => x223 b r q
    have x232 := x205.trans (Chg.ext x223)
    have y233 := y206.trans x223
    have p234 : SliceAt h211 icell 1 ([2, 11, 12, 13, 14] : List Int) (Value.slice (some ⟨b213, 0, none⟩) 5 5) := .inr ⟨b213, 0, 5, _, _, _, rfl, ⟨f215, by decide, by simp, by simp, rfl⟩⟩
    obtain ⟨_, hh235, sn236, rfl, x237⟩ := among_ok h211 [2, 11, 12, 13, 14] (c.kind) _ _ p234 (by simp)
    have f238 := x237 _ _ f225
    have f239 := x237 _ _ f226
    have p241 := p227.keep fun b r _ q => x237 b r q
    have p242 := p228.keep fun b r _ q => x237 b r q
    have p243 := p229.keep fun b r _ q => x237 b r q
    have p244 := p230.keep fun b r _ q => x237 b r q
    have p245 := p231.keep fun b r _ q => x237 b r q
    have x246 := x232.trans (Chg.ext x237)
    have y247 := y233.trans x237
    rcases Bool.eq_false_or_eq_true ((decide ((c.kind) ∈ ([2, 11, 12, 13, 14] : List Int)))) with c248 | c248
    · by_cases c249 : (2000 : Int) ≤ ((m.ats.length : Nat))
      · exact hCall_of (n := 200) (T := ⟨fun r i => match r, i with | 0, 0 => some ((vP b188 0), h186) | 1, 1 => some ((vB true), h186) | 3, 1 => some ((vI (c.call)), h186) | 3, 2 => some ((vB false), h186) | 3, 5 => some ((vI (c.kind)), h186) | 3, 6 => some ((Value.slice (some ⟨b213, 0, none⟩) 5 5), h211) | 3, 7 => some ((vB true), hh235) | 5, 3 => some ((Value.slice aa181 (m.ats.length) (ca184)), hh235) | 5, 5 => some ((vB true), hh235) | _, _ => none, fun _ => none, none⟩)
          (A := ((vP b188 0) = (Value.pointer (some ⟨h.size, 0, none⟩)) ∧ h186 = h.push (.cells #[(vI (c.kind)), (vI (c.call)), (vI (c.saga)), (vI (c.e1)), (vI (c.e2)), (vI (c.e3)), (vS c.key), (vI (c.delta)), (vI (c.move)), (vS c.rf), (vS c.rt), (vI (c.group)), (vS c.dn), (vI (c.dr)), (vI (c.dd)), (Value.slice sa (c.steps.length) (cp)), (vI (c.i1)), (vI (c.i2)), (vI (c.i3)), (vI (c.im)), (vB c.ii), (vI (c.ig)), (vI (c.res)), (vS c.data)] 43 (0, 0))) ∧ SoundCall Try.prog 39 #[(vP t 0)] h186 (vB true) h186 ∧ (loadT Try.prog h186 3 (vP b188 1) = some (vI (c.call)) ∧ h186 = h186) ∧ (binA Try.prog .neq 3 (vI (c.call)) (vI 0) = some (vB false) ∧ h186 = h186) ∧ (loadT Try.prog h186 3 (vP b188 0) = some (vI (c.kind)) ∧ h186 = h186) ∧ ((Value.slice (some ⟨b213, 0, none⟩) 5 5) = (Value.slice (some ⟨h186.size, 0, none⟩) 5 5) ∧ h211 = h186.push (.cells #[(vI 2), (vI 11), (vI 12), (vI 13), (vI 14)] 3 (0, 0))) ∧ SoundCall Try.prog 43 #[(vI (c.kind)), (Value.slice (some ⟨b213, 0, none⟩) 5 5)] h211 (vB true) hh235 ∧ (loadT Try.prog hh235 53 (vP t 2) = some (Value.slice aa181 (m.ats.length) (ca184)) ∧ hh235 = hh235) ∧ (binA Try.prog .geq 3 (vI ((m.ats.length : Nat))) (vI 2000) = some (vB true) ∧ hh235 = hh235) ∧ (fun v h1 => (c.call ≠ 0 ∨ ¬ c.kind ∈ ([2, 11, 12, 13, 14] : List Int) → v = .tuple #[.int .i64 0, .int .i64 2] ∧ Ext h h1) ∧ (c.call = 0 ∧ c.kind ∈ ([2, 11, 12, 13, 14] : List Int) ∧ 2000 ≤ m.ats.length → v = .tuple #[.int .i64 0, .int .i64 4] ∧ Ext h h1) ∧ (c.call = 0 ∧ c.kind ∈ ([2, 11, 12, 13, 14] : List Int) ∧ m.ats.length < 2000 → v = .tuple #[.int .i64 ((m.ats.length : Nat) + 1), .int .i64 0] ∧ Chg O h h1 ∧ TabAt h1 (fun b => O b ∨ h.size ≤ b) t (m.opened c))) (Value.tuple #[(vI 0), (vI 4)]) hh235) (by kernel_rfl) ⟨⟨by rw [eb189], e187⟩, sn208, ⟨load_cell agg3 f190 rfl, rfl⟩, ⟨cmp_neq (decide_eq_false (not_not_intro c210)), rfl⟩, ⟨load_cell agg3 f190 rfl, rfl⟩, ⟨by rw [eb214], e212⟩, (by rw [← c248]; exact sn236), ⟨load_cell agg53 f238 rfl, rfl⟩, ⟨cmp_geq (decide_eq_true c249), rfl⟩, ⟨fun q => absurd q (not_or_intro (not_not_intro c210) (not_not_intro (of_decide_eq_true c248))), fun _ => ⟨rfl, y247⟩, fun q => absurd q.2.2 (by omega)⟩⟩
      · obtain ⟨_, hh254, sn255, w250, c251, rfl, o252, x256, b253⟩ := copy_def hh235 c.steps c.dn (c.dr) (c.dd) _ _ p245 (by omega)
        have f257 := x256 _ _ f238
        have f258 := x256 _ _ f239
        have p260 := p241.keep fun b r _ q => x256 b r q
        have p261 := p242.keep fun b r _ q => x256 b r q
        have p262 := p243.keep fun b r _ q => x256 b r q
        have p263 := p244.keep fun b r _ q => x256 b r q
        have x265 := x246.trans (Chg.ext x256)
        have y266 := y247.trans x256
        have z268 : h.size ≤ hh235.size := x246.size
        have n269 : ∀ zz, blk (Value.slice w250 (c.steps.length) (c251)) zz → ¬ zz = t := fun zz hz ez => by have := b253 zz hz; have := row_lt f238; omega
        have n270 : ∀ zz, blk (Value.slice w250 (c.steps.length) (c251)) zz → ¬ zz = b188 := fun zz hz ez => by have := b253 zz hz; have := row_lt f239; omega
        have n272 : ∀ zz, blk (Value.slice w250 (c.steps.length) (c251)) zz → ¬ (blk (Value.slice ae180 (raw179.length) (ce183))) zz := fun zz hz ez => by have := b253 zz hz; have := p241.blk_lt ez; omega
        have n273 : ∀ zz, blk (Value.slice w250 (c.steps.length) (c251)) zz → ¬ (blk (Value.slice aa181 (m.ats.length) (ca184))) zz := fun zz hz ez => by have := b253 zz hz; have := p242.blk_lt ez; omega
        have n274 : ∀ zz, blk (Value.slice w250 (c.steps.length) (c251)) zz → ¬ (blk (Value.slice ar182 (m.rps.length) (cr185))) zz := fun zz hz ez => by have := b253 zz hz; have := p243.blk_lt ez; omega
        have o277 : ∀ zz, blk (Value.slice w250 (c.steps.length) (c251)) zz → h.size ≤ zz := fun zz hz => by have := b253 zz hz; omega
        obtain ⟨h278, e279⟩ : ∃ zq, zq = hh254.setIfInBounds b188 (.cells #[(vI (c.kind)), (vI (c.call)), (vI (c.saga)), (vI (c.e1)), (vI (c.e2)), (vI (c.e3)), (vS c.key), (vI (c.delta)), (vI (c.move)), (vS c.rf), (vS c.rt), (vI (c.group)), (vS c.dn), (vI (c.dr)), (vI (c.dd)), (Value.slice w250 (c.steps.length) (c251)), (vI (c.i1)), (vI (c.i2)), (vI (c.i3)), (vI (c.im)), (vB c.ii), (vI (c.ig)), (vI (c.res)), (vS c.data)] 43 (0, 0)) := ⟨_, rfl⟩
        have f280 := set_same e279 f258
        have f281 := set_other e279 f257 n191
        have p284 := p260.keep fun b r hb q => (Chg.set e279).same b r q (n192 b hb)
        have p285 := p261.keep fun b r hb q => (Chg.set e279).same b r q (n193 b hb)
        have p286 := p262.keep fun b r hb q => (Chg.set e279).same b r q (n194 b hb)
        have p287 := p263.keep fun b r hb q => (Chg.set e279).same b r q (n195 b hb)
        have p288 := o252.keep fun b r hb q => (Chg.set e279).same b r q (n270 b hb)
        have x289 := x265.then (Chg.set e279) (fun b hb => by subst hb; exact (.inr o198))
        have y290 := Ext.setNew y266 e279 o198
        obtain ⟨h291, e292⟩ : ∃ zq, zq = h278.setIfInBounds b188 (.cells #[(vI (c.kind)), (vI (((m.ats.length : Nat)) + 1)), (vI (c.saga)), (vI (c.e1)), (vI (c.e2)), (vI (c.e3)), (vS c.key), (vI (c.delta)), (vI (c.move)), (vS c.rf), (vS c.rt), (vI (c.group)), (vS c.dn), (vI (c.dr)), (vI (c.dd)), (Value.slice w250 (c.steps.length) (c251)), (vI (c.i1)), (vI (c.i2)), (vI (c.i3)), (vI (c.im)), (vB c.ii), (vI (c.ig)), (vI (c.res)), (vS c.data)] 43 (0, 0)) := ⟨_, rfl⟩
        have f293 := set_same e292 f280
        have f294 := set_other e292 f281 n191
        have p297 := p284.keep fun b r hb q => (Chg.set e292).same b r q (n192 b hb)
        have p298 := p285.keep fun b r hb q => (Chg.set e292).same b r q (n193 b hb)
        have p299 := p286.keep fun b r hb q => (Chg.set e292).same b r q (n194 b hb)
        have p300 := p287.keep fun b r hb q => (Chg.set e292).same b r q (n195 b hb)
        have p301 := p288.keep fun b r hb q => (Chg.set e292).same b r q (n270 b hb)
        have x302 := x289.then (Chg.set e292) (fun b hb => by subst hb; exact (.inr o198))
        have y303 := Ext.setNew y290 e292 o198
        obtain ⟨b306, eb307⟩ : ∃ zq, zq = h291.size := ⟨_, rfl⟩
        obtain ⟨h304, e305⟩ : ∃ zq, zq = h291.push (.cells #[(vI ((raw179.length : Nat)))] 3 (0, 0)) := ⟨_, rfl⟩
        have f308 := push_new e305
        rw [← eb307] at f308
        have x317 : Ext h291 h304 := by rw [e305]; exact Ext.push _ _
        have o318 : h.size ≤ b306 := by have := x302.size; omega
        have f319 := x317 _ _ f294
        have f320 := x317 _ _ f293
        have p322 := p297.keep fun b r _ q => x317 b r q
        have p323 := p298.keep fun b r _ q => x317 b r q
        have p324 := p299.keep fun b r _ q => x317 b r q
        have p325 := p300.keep fun b r _ q => x317 b r q
        have p326 := p301.keep fun b r _ q => x317 b r q
        have x327 := x302.trans (Chg.ext x317)
        have y328 := y303.trans x317
        obtain ⟨b331, eb332⟩ : ∃ zq, zq = h304.size := ⟨_, rfl⟩
        obtain ⟨h329, e330⟩ : ∃ zq, zq = h304.push (.cells #[(vI (-1))] 3 (0, 0)) := ⟨_, rfl⟩
        have f333 := push_new e330
        rw [← eb332] at f333
        have n339 : ∀ zz, (blk (Value.slice aa181 (m.ats.length) (ca184))) zz → ¬ zz = b331 := fun zz hz ez => by have := p323.blk_lt hz; omega
        have x343 : Ext h304 h329 := by rw [e330]; exact Ext.push _ _
        have o344 : h.size ≤ b331 := by have := x327.size; omega
        have f345 := x343 _ _ f319
        have f346 := x343 _ _ f320
        have f348 := x343 _ _ f308
        have p349 := p322.keep fun b r _ q => x343 b r q
        have p350 := p323.keep fun b r _ q => x343 b r q
        have p351 := p324.keep fun b r _ q => x343 b r q
        have p352 := p325.keep fun b r _ q => x343 b r q
        have p353 := p326.keep fun b r _ q => x343 b r q
        have x354 := x327.trans (Chg.ext x343)
        have y355 := y328.trans x343
        obtain ⟨w356, h357, e358, p359, c360, n361, z362⟩ := own_append und53 sizeb3 zero3 rfl (by decide) icell_size (x := ((raw179.length : Nat) : Int)) p350 f348 rfl (by omega) (by unfold maxLen; omega)
        obtain ⟨a363, c364, rfl⟩ := (p359.slice icell_size).len
        have z365 : h.size ≤ h329.size := x354.size
        have x366 := x354.then c360 (fun b hb => .inl (T178.inA b hb))
        have f367 := c360.same _ _ f345 (fun hb => p350.ne f345 (by decide) hb rfl)
        have f368 := c360.same _ _ f346 (fun hb => n193 _ hb rfl)
        have f371 := c360.same _ _ f333 (fun hb => n339 _ hb rfl)
        have p372 := p349.keep fun b r hb q => c360.same b r q ((fun b hb hb2 => p349.apart p350 (by decide) hb hb2) b hb)
        have p373 := p351.keep fun b r hb q => c360.same b r q ((fun b hb hb2 => T178.apart b hb2 hb) b hb)
        have p374 := p352.keep fun b r hb q => c360.same b r q ((fun b hb hb2 => p352.apart p350 (by decide) hb hb2) b hb)
        have p375 := p353.keep fun b r hb q => c360.same b r q (n273 b hb)
        have n377 : ∀ zz, blk (Value.slice a363 ((m.ats ++ [((raw179.length : Nat) : Int)]).length) (c364)) zz → ¬ zz = t := fun zz hz ez => by have := n361 zz hz; have := row_lt f345; omega
        have n382 : ∀ zz, blk (Value.slice a363 ((m.ats ++ [((raw179.length : Nat) : Int)]).length) (c364)) zz → ¬ (blk (Value.slice ae180 (raw179.length) (ce183))) zz := fun zz hz ez => by have := n361 zz hz; have := p349.blk_lt ez; omega
        have n383 : ∀ zz, blk (Value.slice a363 ((m.ats ++ [((raw179.length : Nat) : Int)]).length) (c364)) zz → ¬ (blk (Value.slice ar182 (m.rps.length) (cr185))) zz := fun zz hz ez => by have := n361 zz hz; have := p351.blk_lt ez; omega
        have o386 : ∀ zz, blk (Value.slice a363 ((m.ats ++ [((raw179.length : Nat) : Int)]).length) (c364)) zz → h.size ≤ zz := fun zz hz => by have := n361 zz hz; have := z365; omega
        obtain ⟨w387, h388, e389, p390, c391, n392, z393⟩ := own_append und53 sizeb3 zero3 rfl (by decide) icell_size (x := (-1 : Int)) p373 f371 rfl (by omega) (by unfold maxLen; omega)
        obtain ⟨a394, c395, rfl⟩ := (p390.slice icell_size).len
        have z396 : h.size ≤ h357.size := x366.size
        have x397 := x366.then c391 (fun b hb => .inl (T178.inR b hb))
        have f398 := c391.same _ _ f367 (fun hb => p373.ne f367 (by decide) hb rfl)
        have f399 := c391.same _ _ f368 (fun hb => n194 _ hb rfl)
        have p403 := p372.keep fun b r hb q => c391.same b r q ((fun b hb hb2 => p372.apart p373 (by decide) hb hb2) b hb)
        have p404 := p374.keep fun b r hb q => c391.same b r q ((fun b hb hb2 => p374.apart p373 (by decide) hb hb2) b hb)
        have p405 := p375.keep fun b r hb q => c391.same b r q (n274 b hb)
        have p406 := p359.keep fun b r hb q => c391.same b r q (n383 b hb)
        have n408 : ∀ zz, blk (Value.slice a394 ((m.rps ++ [(-1 : Int)]).length) (c395)) zz → ¬ zz = t := fun zz hz ez => by have := n392 zz hz; have := row_lt f367; omega
        have n413 : ∀ zz, blk (Value.slice a394 ((m.rps ++ [(-1 : Int)]).length) (c395)) zz → ¬ (blk (Value.slice ae180 (raw179.length) (ce183))) zz := fun zz hz ez => by have := n392 zz hz; have := p372.blk_lt ez; omega
        have n416 : ∀ zz, blk (Value.slice a394 ((m.rps ++ [(-1 : Int)]).length) (c395)) zz → ¬ (blk (Value.slice a363 ((m.ats ++ [((raw179.length : Nat) : Int)]).length) (c364))) zz := fun zz hz ez => by have := n392 zz hz; have := p359.blk_lt ez; omega
        have o417 : ∀ zz, blk (Value.slice a394 ((m.rps ++ [(-1 : Int)]).length) (c395)) zz → h.size ≤ zz := fun zz hz => by have := n392 zz hz; have := z396; omega
        obtain ⟨h418, e419⟩ : ∃ zq, zq = h388.setIfInBounds t (.cells #[(vB true), (Value.slice ae180 (raw179.length) (ce183)), (Value.slice a363 ((m.ats ++ [((raw179.length : Nat) : Int)]).length) (c364)), (Value.slice ar182 (m.rps.length) (cr185))] 68 (0, 0)) := ⟨_, rfl⟩
        have f420 := set_same e419 f398
        have f422 := set_other e419 f399 n191.symm
        have p426 := p403.keep fun b r hb q => (Chg.set e419).same b r q ((fun b hb => p403.ne f398 (by decide) hb) b hb)
        have p427 := p404.keep fun b r hb q => (Chg.set e419).same b r q ((fun b hb => p404.ne f398 (by decide) hb) b hb)
        have p428 := p405.keep fun b r hb q => (Chg.set e419).same b r q (n269 b hb)
        have p429 := p406.keep fun b r hb q => (Chg.set e419).same b r q (n377 b hb)
        have p430 := p390.keep fun b r hb q => (Chg.set e419).same b r q (n408 b hb)
        have x431 := x397.then (Chg.set e419) (fun b hb => by subst hb; exact (.inl T178.inT))
        obtain ⟨h432, e433⟩ : ∃ zq, zq = h418.setIfInBounds t (.cells #[(vB true), (Value.slice ae180 (raw179.length) (ce183)), (Value.slice a363 ((m.ats ++ [((raw179.length : Nat) : Int)]).length) (c364)), (Value.slice a394 ((m.rps ++ [(-1 : Int)]).length) (c395))] 68 (0, 0)) := ⟨_, rfl⟩
        have f434 := set_same e433 f420
        have f436 := set_other e433 f422 n191.symm
        have p440 := p426.keep fun b r hb q => (Chg.set e433).same b r q ((fun b hb => p426.ne f420 (by decide) hb) b hb)
        have p441 := p427.keep fun b r hb q => (Chg.set e433).same b r q ((fun b hb => p427.ne f420 (by decide) hb) b hb)
        have p442 := p428.keep fun b r hb q => (Chg.set e433).same b r q (n269 b hb)
        have p443 := p429.keep fun b r hb q => (Chg.set e433).same b r q (n377 b hb)
        have p444 := p430.keep fun b r hb q => (Chg.set e433).same b r q (n408 b hb)
        have x445 := x431.then (Chg.set e433) (fun b hb => by subst hb; exact (.inl T178.inT))
        obtain ⟨b448, eb449⟩ : ∃ zq, zq = h432.size := ⟨_, rfl⟩
        obtain ⟨h446, e447⟩ : ∃ zq, zq = h432.push (.cells #[(vI (((m.ats.length : Nat)) + 1)), (vB false), (vI (c.kind)), (vI (((m.ats.length : Nat)) + 1)), (vI (c.saga)), (vI (c.e1)), (vI (c.e2)), (vI (c.e3)), (vS c.key), (vI (c.delta)), (vI (c.move)), (vS c.rf), (vS c.rt), (vI (c.group)), (vS c.dn), (vI (c.dr)), (vI (c.dd)), (Value.slice w250 (c.steps.length) (c251)), (vI (c.i1)), (vI (c.i2)), (vI (c.i3)), (vI (c.im)), (vB c.ii), (vI (c.ig)), (vI (c.res)), (vS c.data), (vI 0), (vI 0), (vS .empty)] 47 (0, 0)) := ⟨_, rfl⟩
        have f450 := push_new e447
        rw [← eb449] at f450
        have x461 : Ext h432 h446 := by rw [e447]; exact Ext.push _ _
        have o462 : h.size ≤ b448 := by have := x445.size; omega
        have f463 := x461 _ _ f434
        have f464 := x461 _ _ f436
        have p468 := p440.keep fun b r _ q => x461 b r q
        have p469 := p441.keep fun b r _ q => x461 b r q
        have p470 := p442.keep fun b r _ q => x461 b r q
        have p471 := p443.keep fun b r _ q => x461 b r q
        have p472 := p444.keep fun b r _ q => x461 b r q
        have x473 := x445.trans (Chg.ext x461)
        obtain ⟨w474, h475, e476, p477, c478, n479, z480⟩ := own_append und31 sizeb47 zero47 rfl (by decide) evc_size (x := ((EvM.mk (((m.ats.length : Nat)) + 1 : Int) (false : Bool) (CmdM.mk (c.kind : Int) (((m.ats.length : Nat)) + 1 : Int) (c.saga : Int) (c.e1 : Int) (c.e2 : Int) (c.e3 : Int) (c.key : ByteArray) (c.delta : Int) (c.move : Int) (c.rf : ByteArray) (c.rt : ByteArray) (c.group : Int) (c.dn : ByteArray) (c.dr : Int) (c.dd : Int) c.steps (c.i1 : Int) (c.i2 : Int) (c.i3 : Int) (c.im : Int) (c.ii : Bool) (c.ig : Int) (c.res : Int) (c.data : ByteArray)) (0 : Int) (0 : Int) (.empty : ByteArray), w250, c251) : EvM × Option Addr × Nat)) p468 f450 rfl (by omega) (by unfold maxLen; omega)
        obtain ⟨a481, c482, rfl⟩ := (p477.slice evc_size).len
        have z483 : h.size ≤ h446.size := x473.size
        have x484 := x473.then c478 (fun b hb => .inl (T178.inE b hb))
        have f485 := c478.same _ _ f463 (fun hb => p468.ne f463 (by decide) hb rfl)
        have f486 := c478.same _ _ f464 (fun hb => n192 _ hb rfl)
        have p491 := p469.keep fun b r hb q => c478.same b r q ((fun b hb hb2 => p469.apart p468 (by decide) hb hb2) b hb)
        have p492 := p470.keep fun b r hb q => c478.same b r q (n272 b hb)
        have p493 := p471.keep fun b r hb q => c478.same b r q (n382 b hb)
        have p494 := p472.keep fun b r hb q => c478.same b r q (n413 b hb)
        have n496 : ∀ zz, blk (Value.slice a481 ((raw179 ++ [((EvM.mk (((m.ats.length : Nat)) + 1 : Int) (false : Bool) (CmdM.mk (c.kind : Int) (((m.ats.length : Nat)) + 1 : Int) (c.saga : Int) (c.e1 : Int) (c.e2 : Int) (c.e3 : Int) (c.key : ByteArray) (c.delta : Int) (c.move : Int) (c.rf : ByteArray) (c.rt : ByteArray) (c.group : Int) (c.dn : ByteArray) (c.dr : Int) (c.dd : Int) c.steps (c.i1 : Int) (c.i2 : Int) (c.i3 : Int) (c.im : Int) (c.ii : Bool) (c.ig : Int) (c.res : Int) (c.data : ByteArray)) (0 : Int) (0 : Int) (.empty : ByteArray), w250, c251) : EvM × Option Addr × Nat)]).length) (c482)) zz → ¬ zz = t := fun zz hz ez => by have := n479 zz hz; have := row_lt f463; omega
        have o506 : ∀ zz, blk (Value.slice a481 ((raw179 ++ [((EvM.mk (((m.ats.length : Nat)) + 1 : Int) (false : Bool) (CmdM.mk (c.kind : Int) (((m.ats.length : Nat)) + 1 : Int) (c.saga : Int) (c.e1 : Int) (c.e2 : Int) (c.e3 : Int) (c.key : ByteArray) (c.delta : Int) (c.move : Int) (c.rf : ByteArray) (c.rt : ByteArray) (c.group : Int) (c.dn : ByteArray) (c.dr : Int) (c.dd : Int) c.steps (c.i1 : Int) (c.i2 : Int) (c.i3 : Int) (c.im : Int) (c.ii : Bool) (c.ig : Int) (c.res : Int) (c.data : ByteArray)) (0 : Int) (0 : Int) (.empty : ByteArray), w250, c251) : EvM × Option Addr × Nat)]).length) (c482)) zz → h.size ≤ zz := fun zz hz => by have := n479 zz hz; have := z483; omega
        obtain ⟨h507, e508⟩ : ∃ zq, zq = h475.setIfInBounds t (.cells #[(vB true), (Value.slice a481 ((raw179 ++ [((EvM.mk (((m.ats.length : Nat)) + 1 : Int) (false : Bool) (CmdM.mk (c.kind : Int) (((m.ats.length : Nat)) + 1 : Int) (c.saga : Int) (c.e1 : Int) (c.e2 : Int) (c.e3 : Int) (c.key : ByteArray) (c.delta : Int) (c.move : Int) (c.rf : ByteArray) (c.rt : ByteArray) (c.group : Int) (c.dn : ByteArray) (c.dr : Int) (c.dd : Int) c.steps (c.i1 : Int) (c.i2 : Int) (c.i3 : Int) (c.im : Int) (c.ii : Bool) (c.ig : Int) (c.res : Int) (c.data : ByteArray)) (0 : Int) (0 : Int) (.empty : ByteArray), w250, c251) : EvM × Option Addr × Nat)]).length) (c482)), (Value.slice a363 ((m.ats ++ [((raw179.length : Nat) : Int)]).length) (c364)), (Value.slice a394 ((m.rps ++ [(-1 : Int)]).length) (c395))] 68 (0, 0)) := ⟨_, rfl⟩
        have f509 := set_same e508 f485
        have f511 := set_other e508 f486 n191.symm
        have p516 := p491.keep fun b r hb q => (Chg.set e508).same b r q ((fun b hb => p491.ne f485 (by decide) hb) b hb)
        have p517 := p492.keep fun b r hb q => (Chg.set e508).same b r q (n269 b hb)
        have p518 := p493.keep fun b r hb q => (Chg.set e508).same b r q (n377 b hb)
        have p519 := p494.keep fun b r hb q => (Chg.set e508).same b r q (n408 b hb)
        have p520 := p477.keep fun b r hb q => (Chg.set e508).same b r q (n496 b hb)
        have x521 := x484.then (Chg.set e508) (fun b hb => by subst hb; exact (.inl T178.inT))
        rw [el] at f509 p518
        have ap : ∀ b, blk (Value.slice a363 ((m.ats ++ [((m.evs.length : Nat) : Int)]).length) (c364)) b → ¬ blk (Value.slice a394 ((m.rps ++ [(-1 : Int)]).length) (c395)) b := fun b hb hb2 => n416 b hb2 (by rw [← el] at hb; exact hb)
        have iA : ∀ b, blk (Value.slice a363 ((m.ats ++ [((m.evs.length : Nat) : Int)]).length) (c364)) b → h.size ≤ b := fun b hb => o386 b (by rw [← el] at hb; exact hb)
        have tb : TabAt h507 (fun b => O b ∨ h.size ≤ b) t (m.opened c) := ⟨raw179 ++ [_], _, _, _, _, _, _, ⟨f509, p520, p518, p519, by simp [TabM.opened, T178.evs], (p516).add p517, ap, .inl T178.inT, fun b hb => .inr (o506 b hb), fun b hb => .inr (iA b hb), fun b hb => .inr (o417 b hb), sfoot_add (fun b hb => .inl (T178.inS b hb)) (fun b hb => .inr (o277 b hb))⟩⟩
        exact hCall_of (n := 200) (T := ⟨fun r i => match r, i with | 0, 0 => some ((vP b188 0), h186) | 1, 1 => some ((vB true), h186) | 3, 1 => some ((vI (c.call)), h186) | 3, 2 => some ((vB false), h186) | 3, 5 => some ((vI (c.kind)), h186) | 3, 6 => some ((Value.slice (some ⟨b213, 0, none⟩) 5 5), h211) | 3, 7 => some ((vB true), hh235) | 5, 3 => some ((Value.slice aa181 (m.ats.length) (ca184)), hh235) | 5, 5 => some ((vB false), hh235) | 7, 1 => some ((Value.agg #[(vS c.dn), (vI (c.dr)), (vI (c.dd)), (Value.slice sa (c.steps.length) (cp))]), hh235) | 7, 2 => some ((Value.agg #[(vS c.dn), (vI (c.dr)), (vI (c.dd)), (Value.slice w250 (c.steps.length) (c251))]), hh254) | 7, 4 => some (undef, h278) | 8, 3 => some ((Value.slice aa181 (m.ats.length) (ca184)), h278) | 8, 5 => some ((vI (((m.ats.length : Nat)) + 1)), h278) | 8, 7 => some (undef, h291) | 9, 5 => some ((Value.slice aa181 (m.ats.length) (ca184)), h291) | 9, 9 => some ((Value.slice ae180 (raw179.length) (ce183)), h291) | 9, 11 => some ((Value.slice (some ⟨b306, 0, none⟩) 1 1), h304) | 9, 16 => some ((Value.slice ar182 (m.rps.length) (cr185)), h304) | 9, 17 => some ((Value.slice (some ⟨b331, 0, none⟩) 1 1), h329) | 9, 12 => some ((Value.slice a363 ((m.ats ++ [((raw179.length : Nat) : Int)]).length) (c364)), h357) | 9, 18 => some ((Value.slice a394 ((m.rps ++ [(-1 : Int)]).length) (c395)), h388) | 9, 21 => some (undef, h418) | 9, 24 => some (undef, h432) | 10, 4 => some ((Value.slice ae180 (raw179.length) (ce183)), h432) | 10, 6 => some ((vI (((m.ats.length : Nat)) + 1)), h432) | 10, 7 => some ((Value.agg #[(vI (c.kind)), (vI (((m.ats.length : Nat)) + 1)), (vI (c.saga)), (vI (c.e1)), (vI (c.e2)), (vI (c.e3)), (vS c.key), (vI (c.delta)), (vI (c.move)), (vS c.rf), (vS c.rt), (vI (c.group)), (vS c.dn), (vI (c.dr)), (vI (c.dd)), (Value.slice w250 (c.steps.length) (c251)), (vI (c.i1)), (vI (c.i2)), (vI (c.i3)), (vI (c.im)), (vB c.ii), (vI (c.ig)), (vI (c.res)), (vS c.data)]), h432) | 10, 9 => some ((Value.slice (some ⟨b448, 0, none⟩) 1 1), h446) | 10, 10 => some ((Value.slice a481 ((raw179 ++ [((EvM.mk (((m.ats.length : Nat)) + 1 : Int) (false : Bool) (CmdM.mk (c.kind : Int) (((m.ats.length : Nat)) + 1 : Int) (c.saga : Int) (c.e1 : Int) (c.e2 : Int) (c.e3 : Int) (c.key : ByteArray) (c.delta : Int) (c.move : Int) (c.rf : ByteArray) (c.rt : ByteArray) (c.group : Int) (c.dn : ByteArray) (c.dr : Int) (c.dd : Int) c.steps (c.i1 : Int) (c.i2 : Int) (c.i3 : Int) (c.im : Int) (c.ii : Bool) (c.ig : Int) (c.res : Int) (c.data : ByteArray)) (0 : Int) (0 : Int) (.empty : ByteArray), w250, c251) : EvM × Option Addr × Nat)]).length) (c482)), h475) | 10, 13 => some (undef, h507) | 11, 1 => some ((vI (((m.ats.length : Nat)) + 1)), h507) | _, _ => none, fun _ => none, none⟩)
          (A := ((vP b188 0) = (Value.pointer (some ⟨h.size, 0, none⟩)) ∧ h186 = h.push (.cells #[(vI (c.kind)), (vI (c.call)), (vI (c.saga)), (vI (c.e1)), (vI (c.e2)), (vI (c.e3)), (vS c.key), (vI (c.delta)), (vI (c.move)), (vS c.rf), (vS c.rt), (vI (c.group)), (vS c.dn), (vI (c.dr)), (vI (c.dd)), (Value.slice sa (c.steps.length) (cp)), (vI (c.i1)), (vI (c.i2)), (vI (c.i3)), (vI (c.im)), (vB c.ii), (vI (c.ig)), (vI (c.res)), (vS c.data)] 43 (0, 0))) ∧ SoundCall Try.prog 39 #[(vP t 0)] h186 (vB true) h186 ∧ (loadT Try.prog h186 3 (vP b188 1) = some (vI (c.call)) ∧ h186 = h186) ∧ (binA Try.prog .neq 3 (vI (c.call)) (vI 0) = some (vB false) ∧ h186 = h186) ∧ (loadT Try.prog h186 3 (vP b188 0) = some (vI (c.kind)) ∧ h186 = h186) ∧ ((Value.slice (some ⟨b213, 0, none⟩) 5 5) = (Value.slice (some ⟨h186.size, 0, none⟩) 5 5) ∧ h211 = h186.push (.cells #[(vI 2), (vI 11), (vI 12), (vI 13), (vI 14)] 3 (0, 0))) ∧ SoundCall Try.prog 43 #[(vI (c.kind)), (Value.slice (some ⟨b213, 0, none⟩) 5 5)] h211 (vB true) hh235 ∧ (loadT Try.prog hh235 53 (vP t 2) = some (Value.slice aa181 (m.ats.length) (ca184)) ∧ hh235 = hh235) ∧ (binA Try.prog .geq 3 (vI ((m.ats.length : Nat))) (vI 2000) = some (vB false) ∧ hh235 = hh235) ∧ (loadT Try.prog hh235 39 (vP b188 12) = some (Value.agg #[(vS c.dn), (vI (c.dr)), (vI (c.dd)), (Value.slice sa (c.steps.length) (cp))]) ∧ hh235 = hh235) ∧ SoundCall Try.prog 44 #[(Value.agg #[(vS c.dn), (vI (c.dr)), (vI (c.dd)), (Value.slice sa (c.steps.length) (cp))])] hh235 (Value.agg #[(vS c.dn), (vI (c.dr)), (vI (c.dd)), (Value.slice w250 (c.steps.length) (c251))]) hh254 ∧ (storeT Try.prog hh254 39 (vP b188 12) (Value.agg #[(vS c.dn), (vI (c.dr)), (vI (c.dd)), (Value.slice w250 (c.steps.length) (c251))]) = some h278 ∧ (undef : Value) = undef) ∧ (loadT Try.prog h278 53 (vP t 2) = some (Value.slice aa181 (m.ats.length) (ca184)) ∧ h278 = h278) ∧ (binA Try.prog .add 3 (vI ((m.ats.length : Nat))) (vI 1) = some (vI (((m.ats.length : Nat)) + 1)) ∧ h278 = h278) ∧ (storeT Try.prog h278 3 (vP b188 1) (vI (((m.ats.length : Nat)) + 1)) = some h291 ∧ (undef : Value) = undef) ∧ (loadT Try.prog h291 53 (vP t 2) = some (Value.slice aa181 (m.ats.length) (ca184)) ∧ h291 = h291) ∧ (loadT Try.prog h291 31 (vP t 1) = some (Value.slice ae180 (raw179.length) (ce183)) ∧ h291 = h291) ∧ ((Value.slice (some ⟨b306, 0, none⟩) 1 1) = (Value.slice (some ⟨h291.size, 0, none⟩) 1 1) ∧ h304 = h291.push (.cells #[(vI ((raw179.length : Nat)))] 3 (0, 0))) ∧ (loadT Try.prog h304 53 (vP t 3) = some (Value.slice ar182 (m.rps.length) (cr185)) ∧ h304 = h304) ∧ ((Value.slice (some ⟨b331, 0, none⟩) 1 1) = (Value.slice (some ⟨h304.size, 0, none⟩) 1 1) ∧ h329 = h304.push (.cells #[(vI (-1))] 3 (0, 0))) ∧ appendA Try.prog h329 #[53, 53] #[(Value.slice aa181 (m.ats.length) (ca184)), (Value.slice (some ⟨b306, 0, none⟩) 1 1)] = some ((Value.slice a363 ((m.ats ++ [((raw179.length : Nat) : Int)]).length) (c364)), h357) ∧ (loadT Try.prog h357 53 (vP t 3) = some (Value.slice ar182 (m.rps.length) (cr185)) ∧ h357 = h357) ∧ appendA Try.prog h357 #[53, 53] #[(Value.slice ar182 (m.rps.length) (cr185)), (Value.slice (some ⟨b331, 0, none⟩) 1 1)] = some ((Value.slice a394 ((m.rps ++ [(-1 : Int)]).length) (c395)), h388) ∧ (storeT Try.prog h388 53 (vP t 2) (Value.slice a363 ((m.ats ++ [((raw179.length : Nat) : Int)]).length) (c364)) = some h418 ∧ (undef : Value) = undef) ∧ (storeT Try.prog h418 53 (vP t 3) (Value.slice a394 ((m.rps ++ [(-1 : Int)]).length) (c395)) = some h432 ∧ (undef : Value) = undef) ∧ (loadT Try.prog h432 31 (vP t 1) = some (Value.slice ae180 (raw179.length) (ce183)) ∧ h432 = h432) ∧ (loadT Try.prog h432 3 (vP b188 1) = some (vI (((m.ats.length : Nat)) + 1)) ∧ h432 = h432) ∧ (loadT Try.prog h432 43 (vP b188 0) = some (Value.agg #[(vI (c.kind)), (vI (((m.ats.length : Nat)) + 1)), (vI (c.saga)), (vI (c.e1)), (vI (c.e2)), (vI (c.e3)), (vS c.key), (vI (c.delta)), (vI (c.move)), (vS c.rf), (vS c.rt), (vI (c.group)), (vS c.dn), (vI (c.dr)), (vI (c.dd)), (Value.slice w250 (c.steps.length) (c251)), (vI (c.i1)), (vI (c.i2)), (vI (c.i3)), (vI (c.im)), (vB c.ii), (vI (c.ig)), (vI (c.res)), (vS c.data)]) ∧ h432 = h432) ∧ ((Value.slice (some ⟨b448, 0, none⟩) 1 1) = (Value.slice (some ⟨h432.size, 0, none⟩) 1 1) ∧ h446 = h432.push (.cells #[(vI (((m.ats.length : Nat)) + 1)), (vB false), (vI (c.kind)), (vI (((m.ats.length : Nat)) + 1)), (vI (c.saga)), (vI (c.e1)), (vI (c.e2)), (vI (c.e3)), (vS c.key), (vI (c.delta)), (vI (c.move)), (vS c.rf), (vS c.rt), (vI (c.group)), (vS c.dn), (vI (c.dr)), (vI (c.dd)), (Value.slice w250 (c.steps.length) (c251)), (vI (c.i1)), (vI (c.i2)), (vI (c.i3)), (vI (c.im)), (vB c.ii), (vI (c.ig)), (vI (c.res)), (vS c.data), (vI 0), (vI 0), (vS .empty)] 47 (0, 0))) ∧ appendA Try.prog h446 #[31, 31] #[(Value.slice ae180 (raw179.length) (ce183)), (Value.slice (some ⟨b448, 0, none⟩) 1 1)] = some ((Value.slice a481 ((raw179 ++ [((EvM.mk (((m.ats.length : Nat)) + 1 : Int) (false : Bool) (CmdM.mk (c.kind : Int) (((m.ats.length : Nat)) + 1 : Int) (c.saga : Int) (c.e1 : Int) (c.e2 : Int) (c.e3 : Int) (c.key : ByteArray) (c.delta : Int) (c.move : Int) (c.rf : ByteArray) (c.rt : ByteArray) (c.group : Int) (c.dn : ByteArray) (c.dr : Int) (c.dd : Int) c.steps (c.i1 : Int) (c.i2 : Int) (c.i3 : Int) (c.im : Int) (c.ii : Bool) (c.ig : Int) (c.res : Int) (c.data : ByteArray)) (0 : Int) (0 : Int) (.empty : ByteArray), w250, c251) : EvM × Option Addr × Nat)]).length) (c482)), h475) ∧ (storeT Try.prog h475 31 (vP t 1) (Value.slice a481 ((raw179 ++ [((EvM.mk (((m.ats.length : Nat)) + 1 : Int) (false : Bool) (CmdM.mk (c.kind : Int) (((m.ats.length : Nat)) + 1 : Int) (c.saga : Int) (c.e1 : Int) (c.e2 : Int) (c.e3 : Int) (c.key : ByteArray) (c.delta : Int) (c.move : Int) (c.rf : ByteArray) (c.rt : ByteArray) (c.group : Int) (c.dn : ByteArray) (c.dr : Int) (c.dd : Int) c.steps (c.i1 : Int) (c.i2 : Int) (c.i3 : Int) (c.im : Int) (c.ii : Bool) (c.ig : Int) (c.res : Int) (c.data : ByteArray)) (0 : Int) (0 : Int) (.empty : ByteArray), w250, c251) : EvM × Option Addr × Nat)]).length) (c482)) = some h507 ∧ (undef : Value) = undef) ∧ (loadT Try.prog h507 3 (vP b188 1) = some (vI (((m.ats.length : Nat)) + 1)) ∧ h507 = h507) ∧ (fun v h1 => (c.call ≠ 0 ∨ ¬ c.kind ∈ ([2, 11, 12, 13, 14] : List Int) → v = .tuple #[.int .i64 0, .int .i64 2] ∧ Ext h h1) ∧ (c.call = 0 ∧ c.kind ∈ ([2, 11, 12, 13, 14] : List Int) ∧ 2000 ≤ m.ats.length → v = .tuple #[.int .i64 0, .int .i64 4] ∧ Ext h h1) ∧ (c.call = 0 ∧ c.kind ∈ ([2, 11, 12, 13, 14] : List Int) ∧ m.ats.length < 2000 → v = .tuple #[.int .i64 ((m.ats.length : Nat) + 1), .int .i64 0] ∧ Chg O h h1 ∧ TabAt h1 (fun b => O b ∨ h.size ≤ b) t (m.opened c))) (Value.tuple #[(vI (((m.ats.length : Nat)) + 1)), (vI 0)]) h507) (by kernel_rfl) ⟨⟨by rw [eb189], e187⟩, sn208, ⟨load_cell agg3 f190 rfl, rfl⟩, ⟨cmp_neq (decide_eq_false (not_not_intro c210)), rfl⟩, ⟨load_cell agg3 f190 rfl, rfl⟩, ⟨by rw [eb214], e212⟩, (by rw [← c248]; exact sn236), ⟨load_cell agg53 f238 rfl, rfl⟩, ⟨cmp_geq (decide_eq_false c249), rfl⟩, ⟨load_agg agg39 size39 f239 (by simp) (by kernel_rfl), rfl⟩, sn255, ⟨by rw [e279]; exact store_cells size39 rfl f258 (by decide) (by simp) rfl (by kernel_rfl), rfl⟩, ⟨load_cell agg53 f281 rfl, rfl⟩, ⟨add_i64 (by omega) (by omega), rfl⟩, ⟨by rw [e292]; exact store_cells size3 rfl f280 (by decide) (by simp) rfl (by kernel_rfl), rfl⟩, ⟨load_cell agg53 f294 rfl, rfl⟩, ⟨load_cell agg31 f294 rfl, rfl⟩, ⟨by rw [eb307], e305⟩, ⟨load_cell agg53 f319 rfl, rfl⟩, ⟨by rw [eb332], e330⟩, e358, ⟨load_cell agg53 f367 rfl, rfl⟩, e389, ⟨by rw [e419]; exact store_cells size53 rfl f398 (by decide) (by simp) rfl (by kernel_rfl), rfl⟩, ⟨by rw [e433]; exact store_cells size53 rfl f420 (by decide) (by simp) rfl (by kernel_rfl), rfl⟩, ⟨load_cell agg31 f434 rfl, rfl⟩, ⟨load_cell agg3 f436 rfl, rfl⟩, ⟨load_agg agg43 size43 f436 (by simp) (by kernel_rfl), rfl⟩, ⟨by rw [eb449], e447⟩, e476, ⟨by rw [e508]; exact store_cells size31 rfl f485 (by decide) (by simp) rfl (by kernel_rfl), rfl⟩, ⟨load_cell agg3 f511 rfl, rfl⟩, ⟨fun q => absurd q (not_or_intro (not_not_intro c210) (not_not_intro (of_decide_eq_true c248))), fun q => absurd q.2.2 (by omega), fun _ => ⟨rfl, x521, tb⟩⟩⟩
    · exact hCall_of (n := 200) (T := ⟨fun r i => match r, i with | 0, 0 => some ((vP b188 0), h186) | 1, 1 => some ((vB true), h186) | 3, 1 => some ((vI (c.call)), h186) | 3, 2 => some ((vB false), h186) | 3, 5 => some ((vI (c.kind)), h186) | 3, 6 => some ((Value.slice (some ⟨b213, 0, none⟩) 5 5), h211) | 3, 7 => some ((vB false), hh235) | _, _ => none, fun _ => none, none⟩)
        (A := ((vP b188 0) = (Value.pointer (some ⟨h.size, 0, none⟩)) ∧ h186 = h.push (.cells #[(vI (c.kind)), (vI (c.call)), (vI (c.saga)), (vI (c.e1)), (vI (c.e2)), (vI (c.e3)), (vS c.key), (vI (c.delta)), (vI (c.move)), (vS c.rf), (vS c.rt), (vI (c.group)), (vS c.dn), (vI (c.dr)), (vI (c.dd)), (Value.slice sa (c.steps.length) (cp)), (vI (c.i1)), (vI (c.i2)), (vI (c.i3)), (vI (c.im)), (vB c.ii), (vI (c.ig)), (vI (c.res)), (vS c.data)] 43 (0, 0))) ∧ SoundCall Try.prog 39 #[(vP t 0)] h186 (vB true) h186 ∧ (loadT Try.prog h186 3 (vP b188 1) = some (vI (c.call)) ∧ h186 = h186) ∧ (binA Try.prog .neq 3 (vI (c.call)) (vI 0) = some (vB false) ∧ h186 = h186) ∧ (loadT Try.prog h186 3 (vP b188 0) = some (vI (c.kind)) ∧ h186 = h186) ∧ ((Value.slice (some ⟨b213, 0, none⟩) 5 5) = (Value.slice (some ⟨h186.size, 0, none⟩) 5 5) ∧ h211 = h186.push (.cells #[(vI 2), (vI 11), (vI 12), (vI 13), (vI 14)] 3 (0, 0))) ∧ SoundCall Try.prog 43 #[(vI (c.kind)), (Value.slice (some ⟨b213, 0, none⟩) 5 5)] h211 (vB false) hh235 ∧ (fun v h1 => (c.call ≠ 0 ∨ ¬ c.kind ∈ ([2, 11, 12, 13, 14] : List Int) → v = .tuple #[.int .i64 0, .int .i64 2] ∧ Ext h h1) ∧ (c.call = 0 ∧ c.kind ∈ ([2, 11, 12, 13, 14] : List Int) ∧ 2000 ≤ m.ats.length → v = .tuple #[.int .i64 0, .int .i64 4] ∧ Ext h h1) ∧ (c.call = 0 ∧ c.kind ∈ ([2, 11, 12, 13, 14] : List Int) ∧ m.ats.length < 2000 → v = .tuple #[.int .i64 ((m.ats.length : Nat) + 1), .int .i64 0] ∧ Chg O h h1 ∧ TabAt h1 (fun b => O b ∨ h.size ≤ b) t (m.opened c))) (Value.tuple #[(vI 0), (vI 2)]) hh235) (by kernel_rfl) ⟨⟨by rw [eb189], e187⟩, sn208, ⟨load_cell agg3 f190 rfl, rfl⟩, ⟨cmp_neq (decide_eq_false (not_not_intro c210)), rfl⟩, ⟨load_cell agg3 f190 rfl, rfl⟩, ⟨by rw [eb214], e212⟩, (by rw [← c248]; exact sn236), ⟨fun _ => ⟨rfl, y247⟩, fun q => absurd q.2.1 (of_decide_eq_false c248), fun q => absurd q.2.1 (of_decide_eq_false c248)⟩⟩
  · exact hCall_of (n := 200) (T := ⟨fun r i => match r, i with | 0, 0 => some ((vP b188 0), h186) | 1, 1 => some ((vB true), h186) | 3, 1 => some ((vI (c.call)), h186) | 3, 2 => some ((vB true), h186) | _, _ => none, fun _ => none, none⟩)
      (A := ((vP b188 0) = (Value.pointer (some ⟨h.size, 0, none⟩)) ∧ h186 = h.push (.cells #[(vI (c.kind)), (vI (c.call)), (vI (c.saga)), (vI (c.e1)), (vI (c.e2)), (vI (c.e3)), (vS c.key), (vI (c.delta)), (vI (c.move)), (vS c.rf), (vS c.rt), (vI (c.group)), (vS c.dn), (vI (c.dr)), (vI (c.dd)), (Value.slice sa (c.steps.length) (cp)), (vI (c.i1)), (vI (c.i2)), (vI (c.i3)), (vI (c.im)), (vB c.ii), (vI (c.ig)), (vI (c.res)), (vS c.data)] 43 (0, 0))) ∧ SoundCall Try.prog 39 #[(vP t 0)] h186 (vB true) h186 ∧ (loadT Try.prog h186 3 (vP b188 1) = some (vI (c.call)) ∧ h186 = h186) ∧ (binA Try.prog .neq 3 (vI (c.call)) (vI 0) = some (vB true) ∧ h186 = h186) ∧ (fun v h1 => (c.call ≠ 0 ∨ ¬ c.kind ∈ ([2, 11, 12, 13, 14] : List Int) → v = .tuple #[.int .i64 0, .int .i64 2] ∧ Ext h h1) ∧ (c.call = 0 ∧ c.kind ∈ ([2, 11, 12, 13, 14] : List Int) ∧ 2000 ≤ m.ats.length → v = .tuple #[.int .i64 0, .int .i64 4] ∧ Ext h h1) ∧ (c.call = 0 ∧ c.kind ∈ ([2, 11, 12, 13, 14] : List Int) ∧ m.ats.length < 2000 → v = .tuple #[.int .i64 ((m.ats.length : Nat) + 1), .int .i64 0] ∧ Chg O h h1 ∧ TabAt h1 (fun b => O b ∨ h.size ≤ b) t (m.opened c))) (Value.tuple #[(vI 0), (vI 2)]) h186) (by kernel_rfl) ⟨⟨by rw [eb189], e187⟩, sn208, ⟨load_cell agg3 f190 rfl, rfl⟩, ⟨cmp_neq (decide_eq_true c210), rfl⟩, ⟨fun _ => ⟨rfl, y206⟩, fun q => absurd q.1 (by intro w; omega), fun q => absurd q.1 (by intro w; omega)⟩⟩
set_option maxHeartbeats 4000000 in
theorem close_ok (h : Heap) {O : Nat → Prop} {t : Nat} {m : TabM} (hT : TabAt h O t m) (hm : m.evs.length ≤ 100000) (hr : m.rps.length = m.ats.length) (ha : m.ats.length ≤ 2000) (k e n : Int) (d : ByteArray) : WCall Try.prog 19 #[(vP t 0), (vI (k)), (Value.agg #[(vI (e)), (vI (n)), (vS d)])] h (fun v h1 => (k < 1 ∨ ((m.ats.length : Nat) : Int) < k → v = .int .i64 3 ∧ Ext h h1) ∧ (1 ≤ k ∧ k ≤ ((m.ats.length : Nat) : Int) ∧ chkR e n d ≠ 0 → v = .int .i64 2 ∧ Ext h h1) ∧ (∀ r, 1 ≤ k ∧ k ≤ ((m.ats.length : Nat) : Int) ∧ chkR e n d = 0 ∧ m.rps[(k - 1).toNat]? = some r ∧ 0 ≤ r → v = .int .i64 6 ∧ Ext h h1) ∧ (∀ r, 1 ≤ k ∧ k ≤ ((m.ats.length : Nat) : Int) ∧ chkR e n d = 0 ∧ m.rps[(k - 1).toNat]? = some r ∧ r < 0 → v = .int .i64 0 ∧ Chg O h h1 ∧ TabAt h1 (fun b => O b ∨ h.size ≤ b) t (m.closed k e n d))) := by
  obtain ⟨raw523, ae524, aa525, ar526, ce527, ca528, cr529, T522⟩ := hT
  have el := T522.elen
  obtain ⟨b532, eb533⟩ : ∃ zq, zq = h.size := ⟨_, rfl⟩
  obtain ⟨h530, e531⟩ : ∃ zq, zq = h.push (.cells #[(vI (e)), (vI (n)), (vS d)] 45 (0, 0)) := ⟨_, rfl⟩
  have f534 := push_new e531
  rw [← eb533] at f534
  have n538 : ∀ zz, (blk (Value.slice ar526 (m.rps.length) (cr529))) zz → ¬ zz = b532 := fun zz hz ez => by have := T522.rp.blk_lt hz; omega
  have x540 : Ext h h530 := by rw [e531]; exact Ext.push _ _
  have o541 : h.size ≤ b532 := by have := (Chg.refl (O := O) h).size; omega
  have f542 := x540 _ _ T522.row
  have p543 := T522.ev.keep fun b r _ q => x540 b r q
  have p544 := T522.at_.keep fun b r _ q => x540 b r q
  have p545 := T522.rp.keep fun b r _ q => x540 b r q
  have p546 := T522.steps.keep fun b r _ q => x540 b r q
  have x547 := (Chg.refl (O := O) h).trans (Chg.ext x540)
  have y548 := (Ext.refl h).trans x540
  obtain ⟨_, _, sn550, rfl, rfl⟩ := find_ok h530 f542 (k)
  by_cases c552 : (((if (k) < 1 ∨ ((m.ats.length : Nat) : Int) < (k) then (3 : Int) else 0)) : Int) = 0
  · obtain ⟨_, hh553, sn554, rfl, x555⟩ := check_reply h530 (e) (n) d
    have f556 := x555 _ _ f542
    have f557 := x555 _ _ f534
    have p558 := p543.keep fun b r _ q => x555 b r q
    have p559 := p544.keep fun b r _ q => x555 b r q
    have p560 := p545.keep fun b r _ q => x555 b r q
    have p561 := p546.keep fun b r _ q => x555 b r q
    have x562 := x547.trans (Chg.ext x555)
    have y563 := y548.trans x555
    by_cases c564 : ((chkR (e) (n) d) : Int) = 0
    · obtain ⟨i565, v566, e567, l568, g569⟩ := list_at m.rps (e := ((k) - 1)) (by omega) (by omega)
      obtain ⟨b570, o571, q573, a574, k572, u575⟩ := p560.store icell_size g569
      by_cases c576 : (0 : Int) ≤ (v566)
      · have ej : i565 = (k - 1).toNat := by omega
        subst ej
        exact hCall_of (n := 200) (T := ⟨fun r i => match r, i with | 0, 0 => some ((vP b532 0), h530) | 1, 2 => some ((vI ((if (k) < 1 ∨ ((m.ats.length : Nat) : Int) < (k) then (3 : Int) else 0))), h530) | 2, 1 => some ((vB false), h530) | 4, 0 => some ((Value.agg #[(vI (e)), (vI (n)), (vS d)]), h530) | 4, 1 => some ((vI (chkR (e) (n) d)), hh553) | 4, 2 => some ((vB false), hh553) | 6, 3 => some ((Value.slice ar526 (m.rps.length) (cr529)), hh553) | 6, 5 => some ((vI ((k) - 1)), hh553) | 6, 6 => some ((vP b570 o571), hh553) | 6, 7 => some ((vI (v566)), hh553) | 6, 8 => some ((vB true), hh553) | _, _ => none, fun _ => none, none⟩)
          (A := ((vP b532 0) = (Value.pointer (some ⟨h.size, 0, none⟩)) ∧ h530 = h.push (.cells #[(vI (e)), (vI (n)), (vS d)] 45 (0, 0))) ∧ SoundCall Try.prog 40 #[(vP t 0), (vI (k))] h530 (vI ((if (k) < 1 ∨ ((m.ats.length : Nat) : Int) < (k) then (3 : Int) else 0))) h530 ∧ (binA Try.prog .neq 28 (vI ((if (k) < 1 ∨ ((m.ats.length : Nat) : Int) < (k) then (3 : Int) else 0))) (vI 0) = some (vB false) ∧ h530 = h530) ∧ (loadT Try.prog h530 45 (vP b532 0) = some (Value.agg #[(vI (e)), (vI (n)), (vS d)]) ∧ h530 = h530) ∧ SoundCall Try.prog 22 #[(Value.agg #[(vI (e)), (vI (n)), (vS d)])] h530 (vI (chkR (e) (n) d)) hh553 ∧ (binA Try.prog .neq 28 (vI (chkR (e) (n) d)) (vI 0) = some (vB false) ∧ hh553 = hh553) ∧ (loadT Try.prog hh553 53 (vP t 3) = some (Value.slice ar526 (m.rps.length) (cr529)) ∧ hh553 = hh553) ∧ (binA Try.prog .sub 3 (vI (k)) (vI 1) = some (vI ((k) - 1)) ∧ hh553 = hh553) ∧ (indexAddrA Try.prog 53 (Value.slice ar526 (m.rps.length) (cr529)) (vI ((k) - 1)) = some (vP b570 o571) ∧ hh553 = hh553) ∧ (loadT Try.prog hh553 3 (vP b570 o571) = some (vI (v566)) ∧ hh553 = hh553) ∧ (binA Try.prog .geq 3 (vI (v566)) (vI 0) = some (vB true) ∧ hh553 = hh553) ∧ (fun v h1 => (k < 1 ∨ ((m.ats.length : Nat) : Int) < k → v = .int .i64 3 ∧ Ext h h1) ∧ (1 ≤ k ∧ k ≤ ((m.ats.length : Nat) : Int) ∧ chkR e n d ≠ 0 → v = .int .i64 2 ∧ Ext h h1) ∧ (∀ r, 1 ≤ k ∧ k ≤ ((m.ats.length : Nat) : Int) ∧ chkR e n d = 0 ∧ m.rps[(k - 1).toNat]? = some r ∧ 0 ≤ r → v = .int .i64 6 ∧ Ext h h1) ∧ (∀ r, 1 ≤ k ∧ k ≤ ((m.ats.length : Nat) : Int) ∧ chkR e n d = 0 ∧ m.rps[(k - 1).toNat]? = some r ∧ r < 0 → v = .int .i64 0 ∧ Chg O h h1 ∧ TabAt h1 (fun b => O b ∨ h.size ≤ b) t (m.closed k e n d))) (vI 6) hh553) (by kernel_rfl) ⟨⟨by rw [eb533], e531⟩, sn550, ⟨cmp_neq (decide_eq_false (not_not_intro c552)), rfl⟩, ⟨load_agg agg45 size45 f534 (by simp) (by kernel_rfl), rfl⟩, sn554, ⟨cmp_neq (decide_eq_false (not_not_intro c564)), rfl⟩, ⟨load_cell agg53 f556 rfl, rfl⟩, ⟨sub_i64 (by omega) (by omega), rfl⟩, ⟨a574 und53 size3 e567, rfl⟩, ⟨k572.cell (j := 0) agg3 rfl, rfl⟩, ⟨cmp_geq (decide_eq_true c576), rfl⟩, ⟨fun q => absurd q (by omega), fun q => absurd q (by omega), fun r q => ⟨rfl, y563⟩, fun r q => absurd q.2.2.2.1 (by rw [g569]; intro w; cases w; omega)⟩⟩
      · obtain ⟨b582, o583, q585, a586, k584, u587⟩ := p560.store icell_size g569
        obtain ⟨h588, e589, p590, c591, z592⟩ := u587 (j := 0) (y := ((raw523.length : Nat) : Int)) (u := (vI ((raw523.length : Nat)))) size3 rfl rfl (by decide) (by kernel_rfl)
        have c593 : Chg (blk (Value.slice ar526 (m.rps.length) (cr529))) hh553 h588 := c591.weak fun q hq => by subst hq; exact q585
        have z594 : h.size ≤ hh553.size := x562.size
        have x595 := x562.then c593 (fun b hb => .inl (T522.inR b hb))
        have f596 := c593.same _ _ f556 (fun hb => p560.ne f556 (by decide) hb rfl)
        have f597 := c593.same _ _ f557 (fun hb => n538 _ hb rfl)
        have p598 := p558.keep fun b r hb q => c593.same b r q ((fun b hb hb2 => p558.apart p560 (by decide) hb hb2) b hb)
        have p599 := p559.keep fun b r hb q => c593.same b r q (T522.apart b hb)
        have p600 := p561.keep fun b r hb q => c593.same b r q ((fun b hb hb2 => p561.apart p560 (by decide) hb hb2) b hb)
        obtain ⟨b603, eb604⟩ : ∃ zq, zq = h588.size := ⟨_, rfl⟩
        obtain ⟨h601, e602⟩ : ∃ zq, zq = h588.push (.cells #[(vI (k)), (vB true), (vI 0), (vI 0), (vI 0), (vI 0), (vI 0), (vI 0), (vS .empty), (vI 0), (vI 0), (vS .empty), (vS .empty), (vI 0), (vS .empty), (vI 0), (vI 0), (Value.slice none 0 0), (vI 0), (vI 0), (vI 0), (vI 0), (vB false), (vI 0), (vI 0), (vS .empty), (vI (e)), (vI (n)), (vS d)] 47 (0, 0)) := ⟨_, rfl⟩
        have f605 := push_new e602
        rw [← eb604] at f605
        have x612 : Ext h588 h601 := by rw [e602]; exact Ext.push _ _
        have o613 : h.size ≤ b603 := by have := x595.size; omega
        have f614 := x612 _ _ f596
        have p616 := p598.keep fun b r _ q => x612 b r q
        have p617 := p599.keep fun b r _ q => x612 b r q
        have p618 := p590.keep fun b r _ q => x612 b r q
        have p619 := p600.keep fun b r _ q => x612 b r q
        have x620 := x595.trans (Chg.ext x612)
        obtain ⟨w621, h622, e623, p624, c625, n626, z627⟩ := own_append und31 sizeb47 zero47 rfl (by decide) evc_size (x := ((EvM.mk (k : Int) (true : Bool) (CmdM.mk (0 : Int) (0 : Int) (0 : Int) (0 : Int) (0 : Int) (0 : Int) (.empty : ByteArray) (0 : Int) (0 : Int) (.empty : ByteArray) (.empty : ByteArray) (0 : Int) (.empty : ByteArray) (0 : Int) (0 : Int) ([] : List StepM) (0 : Int) (0 : Int) (0 : Int) (0 : Int) (false : Bool) (0 : Int) (0 : Int) (.empty : ByteArray)) (e : Int) (n : Int) (d : ByteArray), none, 0) : EvM × Option Addr × Nat)) p616 f605 rfl (by omega) (by unfold maxLen; omega)
        obtain ⟨a628, c629, rfl⟩ := (p624.slice evc_size).len
        have z630 : h.size ≤ h601.size := x620.size
        have x631 := x620.then c625 (fun b hb => .inl (T522.inE b hb))
        have f632 := c625.same _ _ f614 (fun hb => p616.ne f614 (by decide) hb rfl)
        have p635 := p617.keep fun b r hb q => c625.same b r q ((fun b hb hb2 => p617.apart p616 (by decide) hb hb2) b hb)
        have p636 := p618.keep fun b r hb q => c625.same b r q ((fun b hb hb2 => p618.apart p616 (by decide) hb hb2) b hb)
        have p637 := p619.keep fun b r hb q => c625.same b r q ((fun b hb hb2 => p619.apart p616 (by decide) hb hb2) b hb)
        have n639 : ∀ zz, blk (Value.slice a628 ((raw523 ++ [((EvM.mk (k : Int) (true : Bool) (CmdM.mk (0 : Int) (0 : Int) (0 : Int) (0 : Int) (0 : Int) (0 : Int) (.empty : ByteArray) (0 : Int) (0 : Int) (.empty : ByteArray) (.empty : ByteArray) (0 : Int) (.empty : ByteArray) (0 : Int) (0 : Int) ([] : List StepM) (0 : Int) (0 : Int) (0 : Int) (0 : Int) (false : Bool) (0 : Int) (0 : Int) (.empty : ByteArray)) (e : Int) (n : Int) (d : ByteArray), none, 0) : EvM × Option Addr × Nat)]).length) (c629)) zz → ¬ zz = t := fun zz hz ez => by have := n626 zz hz; have := row_lt f614; omega
        have o645 : ∀ zz, blk (Value.slice a628 ((raw523 ++ [((EvM.mk (k : Int) (true : Bool) (CmdM.mk (0 : Int) (0 : Int) (0 : Int) (0 : Int) (0 : Int) (0 : Int) (.empty : ByteArray) (0 : Int) (0 : Int) (.empty : ByteArray) (.empty : ByteArray) (0 : Int) (.empty : ByteArray) (0 : Int) (0 : Int) ([] : List StepM) (0 : Int) (0 : Int) (0 : Int) (0 : Int) (false : Bool) (0 : Int) (0 : Int) (.empty : ByteArray)) (e : Int) (n : Int) (d : ByteArray), none, 0) : EvM × Option Addr × Nat)]).length) (c629)) zz → h.size ≤ zz := fun zz hz => by have := n626 zz hz; have := z630; omega
        obtain ⟨h646, e647⟩ : ∃ zq, zq = h622.setIfInBounds t (.cells #[(vB true), (Value.slice a628 ((raw523 ++ [((EvM.mk (k : Int) (true : Bool) (CmdM.mk (0 : Int) (0 : Int) (0 : Int) (0 : Int) (0 : Int) (0 : Int) (.empty : ByteArray) (0 : Int) (0 : Int) (.empty : ByteArray) (.empty : ByteArray) (0 : Int) (.empty : ByteArray) (0 : Int) (0 : Int) ([] : List StepM) (0 : Int) (0 : Int) (0 : Int) (0 : Int) (false : Bool) (0 : Int) (0 : Int) (.empty : ByteArray)) (e : Int) (n : Int) (d : ByteArray), none, 0) : EvM × Option Addr × Nat)]).length) (c629)), (Value.slice aa525 (m.ats.length) (ca528)), (Value.slice ar526 (m.rps.length) (cr529))] 68 (0, 0)) := ⟨_, rfl⟩
        have f648 := set_same e647 f632
        have p652 := p635.keep fun b r hb q => (Chg.set e647).same b r q ((fun b hb => p635.ne f632 (by decide) hb) b hb)
        have p653 := p636.keep fun b r hb q => (Chg.set e647).same b r q ((fun b hb => p636.ne f632 (by decide) hb) b hb)
        have p654 := p637.keep fun b r hb q => (Chg.set e647).same b r q ((fun b hb => p637.ne f632 (by decide) hb) b hb)
        have p655 := p624.keep fun b r hb q => (Chg.set e647).same b r q (n639 b hb)
        have x656 := x631.then (Chg.set e647) (fun b hb => by subst hb; exact (.inl T522.inT))
        have ej : i565 = (k - 1).toNat := by omega
        rw [el] at p653
        subst ej
        have tb : TabAt h646 (fun b => O b ∨ h.size ≤ b) t (m.closed k e n d) := ⟨raw523 ++ [_], _, _, _, _, _, _, ⟨by simp only [TabM.closed, List.length_set]; exact f648, p655, p652, by simp only [TabM.closed, List.length_set]; exact p653, by simp [TabM.closed, T522.evs, noCmd], (p654).add (.inl ⟨rfl, rfl⟩), by simp only [TabM.closed, List.length_set]; exact T522.apart, .inl T522.inT, fun b hb => .inr (o645 b hb), fun b hb => .inl (T522.inA b hb), by simp only [TabM.closed, List.length_set]; exact fun b hb => .inl (T522.inR b hb), sfoot_add (fun b hb => .inl (T522.inS b hb)) (fun b hb => hb.elim)⟩⟩
        exact hCall_of (n := 200) (T := ⟨fun r i => match r, i with | 0, 0 => some ((vP b532 0), h530) | 1, 2 => some ((vI ((if (k) < 1 ∨ ((m.ats.length : Nat) : Int) < (k) then (3 : Int) else 0))), h530) | 2, 1 => some ((vB false), h530) | 4, 0 => some ((Value.agg #[(vI (e)), (vI (n)), (vS d)]), h530) | 4, 1 => some ((vI (chkR (e) (n) d)), hh553) | 4, 2 => some ((vB false), hh553) | 6, 3 => some ((Value.slice ar526 (m.rps.length) (cr529)), hh553) | 6, 5 => some ((vI ((k) - 1)), hh553) | 6, 6 => some ((vP b570 o571), hh553) | 6, 7 => some ((vI (v566)), hh553) | 6, 8 => some ((vB false), hh553) | 8, 3 => some ((Value.slice ar526 (m.rps.length) (cr529)), hh553) | 8, 5 => some ((vI ((k) - 1)), hh553) | 8, 9 => some ((Value.slice ae524 (raw523.length) (ce527)), hh553) | 8, 11 => some ((vP b582 o583), hh553) | 8, 12 => some (undef, h588) | 9, 4 => some ((Value.slice ae524 (raw523.length) (ce527)), h588) | 9, 6 => some ((Value.agg #[(vI (e)), (vI (n)), (vS d)]), h588) | 9, 8 => some ((Value.slice (some ⟨b603, 0, none⟩) 1 1), h601) | 9, 9 => some ((Value.slice a628 ((raw523 ++ [((EvM.mk (k : Int) (true : Bool) (CmdM.mk (0 : Int) (0 : Int) (0 : Int) (0 : Int) (0 : Int) (0 : Int) (.empty : ByteArray) (0 : Int) (0 : Int) (.empty : ByteArray) (.empty : ByteArray) (0 : Int) (.empty : ByteArray) (0 : Int) (0 : Int) ([] : List StepM) (0 : Int) (0 : Int) (0 : Int) (0 : Int) (false : Bool) (0 : Int) (0 : Int) (.empty : ByteArray)) (e : Int) (n : Int) (d : ByteArray), none, 0) : EvM × Option Addr × Nat)]).length) (c629)), h622) | 9, 12 => some (undef, h646) | _, _ => none, fun _ => none, none⟩)
          (A := ((vP b532 0) = (Value.pointer (some ⟨h.size, 0, none⟩)) ∧ h530 = h.push (.cells #[(vI (e)), (vI (n)), (vS d)] 45 (0, 0))) ∧ SoundCall Try.prog 40 #[(vP t 0), (vI (k))] h530 (vI ((if (k) < 1 ∨ ((m.ats.length : Nat) : Int) < (k) then (3 : Int) else 0))) h530 ∧ (binA Try.prog .neq 28 (vI ((if (k) < 1 ∨ ((m.ats.length : Nat) : Int) < (k) then (3 : Int) else 0))) (vI 0) = some (vB false) ∧ h530 = h530) ∧ (loadT Try.prog h530 45 (vP b532 0) = some (Value.agg #[(vI (e)), (vI (n)), (vS d)]) ∧ h530 = h530) ∧ SoundCall Try.prog 22 #[(Value.agg #[(vI (e)), (vI (n)), (vS d)])] h530 (vI (chkR (e) (n) d)) hh553 ∧ (binA Try.prog .neq 28 (vI (chkR (e) (n) d)) (vI 0) = some (vB false) ∧ hh553 = hh553) ∧ (loadT Try.prog hh553 53 (vP t 3) = some (Value.slice ar526 (m.rps.length) (cr529)) ∧ hh553 = hh553) ∧ (binA Try.prog .sub 3 (vI (k)) (vI 1) = some (vI ((k) - 1)) ∧ hh553 = hh553) ∧ (indexAddrA Try.prog 53 (Value.slice ar526 (m.rps.length) (cr529)) (vI ((k) - 1)) = some (vP b570 o571) ∧ hh553 = hh553) ∧ (loadT Try.prog hh553 3 (vP b570 o571) = some (vI (v566)) ∧ hh553 = hh553) ∧ (binA Try.prog .geq 3 (vI (v566)) (vI 0) = some (vB false) ∧ hh553 = hh553) ∧ (loadT Try.prog hh553 53 (vP t 3) = some (Value.slice ar526 (m.rps.length) (cr529)) ∧ hh553 = hh553) ∧ (binA Try.prog .sub 3 (vI (k)) (vI 1) = some (vI ((k) - 1)) ∧ hh553 = hh553) ∧ (loadT Try.prog hh553 31 (vP t 1) = some (Value.slice ae524 (raw523.length) (ce527)) ∧ hh553 = hh553) ∧ (indexAddrA Try.prog 53 (Value.slice ar526 (m.rps.length) (cr529)) (vI ((k) - 1)) = some (vP b582 o583) ∧ hh553 = hh553) ∧ (storeT Try.prog hh553 3 (vP b582 o583) (vI ((raw523.length : Nat))) = some h588 ∧ (undef : Value) = undef) ∧ (loadT Try.prog h588 31 (vP t 1) = some (Value.slice ae524 (raw523.length) (ce527)) ∧ h588 = h588) ∧ (loadT Try.prog h588 45 (vP b532 0) = some (Value.agg #[(vI (e)), (vI (n)), (vS d)]) ∧ h588 = h588) ∧ ((Value.slice (some ⟨b603, 0, none⟩) 1 1) = (Value.slice (some ⟨h588.size, 0, none⟩) 1 1) ∧ h601 = h588.push (.cells #[(vI (k)), (vB true), (vI 0), (vI 0), (vI 0), (vI 0), (vI 0), (vI 0), (vS .empty), (vI 0), (vI 0), (vS .empty), (vS .empty), (vI 0), (vS .empty), (vI 0), (vI 0), (Value.slice none 0 0), (vI 0), (vI 0), (vI 0), (vI 0), (vB false), (vI 0), (vI 0), (vS .empty), (vI (e)), (vI (n)), (vS d)] 47 (0, 0))) ∧ appendA Try.prog h601 #[31, 31] #[(Value.slice ae524 (raw523.length) (ce527)), (Value.slice (some ⟨b603, 0, none⟩) 1 1)] = some ((Value.slice a628 ((raw523 ++ [((EvM.mk (k : Int) (true : Bool) (CmdM.mk (0 : Int) (0 : Int) (0 : Int) (0 : Int) (0 : Int) (0 : Int) (.empty : ByteArray) (0 : Int) (0 : Int) (.empty : ByteArray) (.empty : ByteArray) (0 : Int) (.empty : ByteArray) (0 : Int) (0 : Int) ([] : List StepM) (0 : Int) (0 : Int) (0 : Int) (0 : Int) (false : Bool) (0 : Int) (0 : Int) (.empty : ByteArray)) (e : Int) (n : Int) (d : ByteArray), none, 0) : EvM × Option Addr × Nat)]).length) (c629)), h622) ∧ (storeT Try.prog h622 31 (vP t 1) (Value.slice a628 ((raw523 ++ [((EvM.mk (k : Int) (true : Bool) (CmdM.mk (0 : Int) (0 : Int) (0 : Int) (0 : Int) (0 : Int) (0 : Int) (.empty : ByteArray) (0 : Int) (0 : Int) (.empty : ByteArray) (.empty : ByteArray) (0 : Int) (.empty : ByteArray) (0 : Int) (0 : Int) ([] : List StepM) (0 : Int) (0 : Int) (0 : Int) (0 : Int) (false : Bool) (0 : Int) (0 : Int) (.empty : ByteArray)) (e : Int) (n : Int) (d : ByteArray), none, 0) : EvM × Option Addr × Nat)]).length) (c629)) = some h646 ∧ (undef : Value) = undef) ∧ (fun v h1 => (k < 1 ∨ ((m.ats.length : Nat) : Int) < k → v = .int .i64 3 ∧ Ext h h1) ∧ (1 ≤ k ∧ k ≤ ((m.ats.length : Nat) : Int) ∧ chkR e n d ≠ 0 → v = .int .i64 2 ∧ Ext h h1) ∧ (∀ r, 1 ≤ k ∧ k ≤ ((m.ats.length : Nat) : Int) ∧ chkR e n d = 0 ∧ m.rps[(k - 1).toNat]? = some r ∧ 0 ≤ r → v = .int .i64 6 ∧ Ext h h1) ∧ (∀ r, 1 ≤ k ∧ k ≤ ((m.ats.length : Nat) : Int) ∧ chkR e n d = 0 ∧ m.rps[(k - 1).toNat]? = some r ∧ r < 0 → v = .int .i64 0 ∧ Chg O h h1 ∧ TabAt h1 (fun b => O b ∨ h.size ≤ b) t (m.closed k e n d))) (vI 0) h646) (by kernel_rfl) ⟨⟨by rw [eb533], e531⟩, sn550, ⟨cmp_neq (decide_eq_false (not_not_intro c552)), rfl⟩, ⟨load_agg agg45 size45 f534 (by simp) (by kernel_rfl), rfl⟩, sn554, ⟨cmp_neq (decide_eq_false (not_not_intro c564)), rfl⟩, ⟨load_cell agg53 f556 rfl, rfl⟩, ⟨sub_i64 (by omega) (by omega), rfl⟩, ⟨a574 und53 size3 e567, rfl⟩, ⟨k572.cell (j := 0) agg3 rfl, rfl⟩, ⟨cmp_geq (decide_eq_false c576), rfl⟩, ⟨load_cell agg53 f556 rfl, rfl⟩, ⟨sub_i64 (by omega) (by omega), rfl⟩, ⟨load_cell agg31 f556 rfl, rfl⟩, ⟨a586 und53 size3 e567, rfl⟩, ⟨e589, rfl⟩, ⟨load_cell agg31 f596 rfl, rfl⟩, ⟨load_agg agg45 size45 f597 (by simp) (by kernel_rfl), rfl⟩, ⟨by rw [eb604], e602⟩, e623, ⟨by rw [e647]; exact store_cells size31 rfl f632 (by decide) (by simp) rfl (by kernel_rfl), rfl⟩, ⟨fun q => absurd q (by omega), fun q => absurd q (by omega), fun r q => absurd q.2.2.2.1 (by rw [g569]; intro w; cases w; omega), fun r q => ⟨rfl, x656, tb⟩⟩⟩
    · exact hCall_of (n := 200) (T := ⟨fun r i => match r, i with | 0, 0 => some ((vP b532 0), h530) | 1, 2 => some ((vI ((if (k) < 1 ∨ ((m.ats.length : Nat) : Int) < (k) then (3 : Int) else 0))), h530) | 2, 1 => some ((vB false), h530) | 4, 0 => some ((Value.agg #[(vI (e)), (vI (n)), (vS d)]), h530) | 4, 1 => some ((vI (chkR (e) (n) d)), hh553) | 4, 2 => some ((vB true), hh553) | _, _ => none, fun _ => none, none⟩)
        (A := ((vP b532 0) = (Value.pointer (some ⟨h.size, 0, none⟩)) ∧ h530 = h.push (.cells #[(vI (e)), (vI (n)), (vS d)] 45 (0, 0))) ∧ SoundCall Try.prog 40 #[(vP t 0), (vI (k))] h530 (vI ((if (k) < 1 ∨ ((m.ats.length : Nat) : Int) < (k) then (3 : Int) else 0))) h530 ∧ (binA Try.prog .neq 28 (vI ((if (k) < 1 ∨ ((m.ats.length : Nat) : Int) < (k) then (3 : Int) else 0))) (vI 0) = some (vB false) ∧ h530 = h530) ∧ (loadT Try.prog h530 45 (vP b532 0) = some (Value.agg #[(vI (e)), (vI (n)), (vS d)]) ∧ h530 = h530) ∧ SoundCall Try.prog 22 #[(Value.agg #[(vI (e)), (vI (n)), (vS d)])] h530 (vI (chkR (e) (n) d)) hh553 ∧ (binA Try.prog .neq 28 (vI (chkR (e) (n) d)) (vI 0) = some (vB true) ∧ hh553 = hh553) ∧ (fun v h1 => (k < 1 ∨ ((m.ats.length : Nat) : Int) < k → v = .int .i64 3 ∧ Ext h h1) ∧ (1 ≤ k ∧ k ≤ ((m.ats.length : Nat) : Int) ∧ chkR e n d ≠ 0 → v = .int .i64 2 ∧ Ext h h1) ∧ (∀ r, 1 ≤ k ∧ k ≤ ((m.ats.length : Nat) : Int) ∧ chkR e n d = 0 ∧ m.rps[(k - 1).toNat]? = some r ∧ 0 ≤ r → v = .int .i64 6 ∧ Ext h h1) ∧ (∀ r, 1 ≤ k ∧ k ≤ ((m.ats.length : Nat) : Int) ∧ chkR e n d = 0 ∧ m.rps[(k - 1).toNat]? = some r ∧ r < 0 → v = .int .i64 0 ∧ Chg O h h1 ∧ TabAt h1 (fun b => O b ∨ h.size ≤ b) t (m.closed k e n d))) (vI 2) hh553) (by kernel_rfl) ⟨⟨by rw [eb533], e531⟩, sn550, ⟨cmp_neq (decide_eq_false (not_not_intro c552)), rfl⟩, ⟨load_agg agg45 size45 f534 (by simp) (by kernel_rfl), rfl⟩, sn554, ⟨cmp_neq (decide_eq_true c564), rfl⟩, ⟨fun q => absurd q (by omega), fun q => ⟨rfl, y563⟩, fun r q => absurd q.2.2.1 (by omega), fun r q => absurd q.2.2.1 (by omega)⟩⟩
  · exact hCall_of (n := 200) (T := ⟨fun r i => match r, i with | 0, 0 => some ((vP b532 0), h530) | 1, 2 => some ((vI ((if (k) < 1 ∨ ((m.ats.length : Nat) : Int) < (k) then (3 : Int) else 0))), h530) | 2, 1 => some ((vB true), h530) | _, _ => none, fun _ => none, none⟩)
      (A := ((vP b532 0) = (Value.pointer (some ⟨h.size, 0, none⟩)) ∧ h530 = h.push (.cells #[(vI (e)), (vI (n)), (vS d)] 45 (0, 0))) ∧ SoundCall Try.prog 40 #[(vP t 0), (vI (k))] h530 (vI ((if (k) < 1 ∨ ((m.ats.length : Nat) : Int) < (k) then (3 : Int) else 0))) h530 ∧ (binA Try.prog .neq 28 (vI ((if (k) < 1 ∨ ((m.ats.length : Nat) : Int) < (k) then (3 : Int) else 0))) (vI 0) = some (vB true) ∧ h530 = h530) ∧ (fun v h1 => (k < 1 ∨ ((m.ats.length : Nat) : Int) < k → v = .int .i64 3 ∧ Ext h h1) ∧ (1 ≤ k ∧ k ≤ ((m.ats.length : Nat) : Int) ∧ chkR e n d ≠ 0 → v = .int .i64 2 ∧ Ext h h1) ∧ (∀ r, 1 ≤ k ∧ k ≤ ((m.ats.length : Nat) : Int) ∧ chkR e n d = 0 ∧ m.rps[(k - 1).toNat]? = some r ∧ 0 ≤ r → v = .int .i64 6 ∧ Ext h h1) ∧ (∀ r, 1 ≤ k ∧ k ≤ ((m.ats.length : Nat) : Int) ∧ chkR e n d = 0 ∧ m.rps[(k - 1).toNat]? = some r ∧ r < 0 → v = .int .i64 0 ∧ Chg O h h1 ∧ TabAt h1 (fun b => O b ∨ h.size ≤ b) t (m.closed k e n d))) (vI ((if (k) < 1 ∨ ((m.ats.length : Nat) : Int) < (k) then (3 : Int) else 0))) h530) (by kernel_rfl) ⟨⟨by rw [eb533], e531⟩, sn550, ⟨cmp_neq (decide_eq_true c552), rfl⟩, ⟨fun q => ⟨by rw [if_pos q], y548⟩, fun q => absurd q (by omega), fun r q => absurd q (by omega), fun r q => absurd q (by omega)⟩⟩
set_option maxHeartbeats 4000000 in
theorem len_ok (h : Heap) {O : Nat → Prop} {t : Nat} {m : TabM} (hT : TabAt h O t m) : WCall Try.prog 14 #[(vP t 0)] h (fun v h1 => v = .int .i64 ((m.ats.length : Nat) : Int) ∧ h = h1) := by
  obtain ⟨raw658, ae659, aa660, ar661, ce662, ca663, cr664, T657⟩ := hT
  have el := T657.elen
  obtain ⟨_, _, sn666, rfl, rfl⟩ := valid_ok h T657.row
  exact hCall_of (n := 200) (T := ⟨fun r i => match r, i with | 1, 1 => some ((vB true), h) | 3, 3 => some ((Value.slice aa660 (m.ats.length) (ca663)), h) | _, _ => none, fun _ => none, none⟩)
    (A := SoundCall Try.prog 39 #[(vP t 0)] h (vB true) h ∧ (loadT Try.prog h 53 (vP t 2) = some (Value.slice aa660 (m.ats.length) (ca663)) ∧ h = h) ∧ (fun v h1 => v = .int .i64 ((m.ats.length : Nat) : Int) ∧ h = h1) (vI ((m.ats.length : Nat))) h) (by kernel_rfl) ⟨sn666, ⟨load_cell agg53 T657.row rfl, rfl⟩, ⟨rfl, rfl⟩⟩
/-- A table, and all of what it rests on is there. -/
def Tab (h : Heap) (O : Nat → Prop) (t : Nat) (m : TabM) : Prop := TabAt h O t m ∧ ∀ b, O b → ∃ r, h[b]? = some r
theorem Tab.keep {h h1 : Heap} {O : Nat → Prop} {t : Nat} {m : TabM} (k : Tab h O t m) (w : ∀ b r, O b → h[b]? = some r → h1[b]? = some r) : Tab h1 O t m :=
  ⟨k.1.keep w, fun b hb => let ⟨r, hr⟩ := k.2 b hb; ⟨r, w b r hb hr⟩⟩
theorem Tab.blk_lt {h : Heap} {O : Nat → Prop} {t : Nat} {m : TabM} (k : Tab h O t m) {b : Nat} (hb : O b) : b < h.size := by
  obtain ⟨r, hr⟩ := k.2 b hb; exact row_lt hr
theorem TabAt.tab {h : Heap} {O : Nat → Prop} {t : Nat} {m : TabM} (k : TabAt h O t m) : ∃ O', Tab h O' t m ∧ ∀ b, O' b → O b := by
  obtain ⟨raw, ae, aa, ar, ce, ca, cr, k⟩ := k
  refine ⟨fun b => O b ∧ b < h.size, ⟨⟨raw, ae, aa, ar, ce, ca, cr, k.row, k.ev, k.at_, k.rp, k.evs, k.steps, k.apart, ⟨k.inT, row_lt k.row⟩, fun b hb => ⟨k.inE b hb, k.ev.blk_lt hb⟩, fun b hb => ⟨k.inA b hb, k.at_.blk_lt hb⟩,
    fun b hb => ⟨k.inR b hb, k.rp.blk_lt hb⟩, fun b hb => ⟨k.inS b hb, k.steps.blk_lt hb⟩⟩, fun b hb => ⟨h[b]'hb.2, by simp [hb.2]⟩⟩, fun b hb => hb.1⟩
theorem opened_lens (m : TabM) (c : CmdM) : (m.opened c).ats.length = m.ats.length + 1 ∧ (m.opened c).rps.length = m.rps.length + 1 ∧ (m.opened c).evs.length = m.evs.length + 1 := by simp [TabM.opened]
theorem closed_lens (m : TabM) (k e n : Int) (d : ByteArray) : (m.closed k e n d).ats.length = m.ats.length ∧ (m.closed k e n d).rps.length = m.rps.length ∧ (m.closed k e n d).evs.length = m.evs.length + 1 := by simp [TabM.closed]
end C36
