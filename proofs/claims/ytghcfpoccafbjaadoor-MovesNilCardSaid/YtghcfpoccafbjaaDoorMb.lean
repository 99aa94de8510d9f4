/- Tables of moves; the function over the open ones. -/
import Derived.Test.YtghcfpoccafbjaaDoorKd
import Derived.Test.YtghcfpoccafbjaaDoorBmi
import Derived.Test.YtghcfpoccafbjaaDoorBmj
import Derived.Test.YtghcfpoccafbjaaDoorBmf
import Derived.KernelRfl
open Go Go.AM Go.Proofs
namespace C32
theorem agg3 : isAggA Tryd.prog 3 = some false := by kernel_rfl
theorem agg25 : isAggA Tryd.prog 25 = some false := by kernel_rfl
theorem agg32 : isAggA Tryd.prog 32 = some true := by kernel_rfl
theorem agg48 : isAggA Tryd.prog 48 = some false := by kernel_rfl
theorem size32 : (Tryd.prog.info? 32).map (·.size) = some 6 := by kernel_rfl
theorem und48 : Tryd.prog.underlying 48 = some (.slice 32) := by kernel_rfl
/-- A move. -/
structure MoveM where
  rf : ByteArray
  rt : ByteArray
  f : Int
  t : Int
  st : Int
  d : ByteArray
def movec (x : MoveM) : Array Value := #[.string x.rf, .string x.rt, .int .i64 x.f, .int .i64 x.t, .int .i64 x.st, .string x.d]
theorem movec_size (x : MoveM) : (movec x).size = 6 := rfl
def noMove : MoveM := ⟨.empty, .empty, 0, 0, 0, .empty⟩
/-- The open ones of the first k moves, with their numbers. -/
def opn (l : List MoveM) : Nat → List (Int × MoveM)
  | 0 => []
  | k + 1 => opn l k ++ (match l[k]? with
    | some m => if m.st = 3 then [] else [((k : Int) + 1, m)]
    | none => [])
theorem opn_next {l : List MoveM} {k : Nat} {m : MoveM} (hx : l[k]? = some m) : opn l (k + 1) = opn l k ++ if m.st = 3 then [] else [((k : Int) + 1, m)] := by simp only [opn, hx]
theorem opn_pre (l : List MoveM) {k : Nat} : ∀ n, k ≤ n → ∃ r, opn l n = opn l k ++ r
  | 0, h => ⟨[], by rw [show k = 0 by omega]; simp⟩
  | n + 1, h => by
    by_cases e : k = n + 1
    · exact ⟨[], by rw [e]; simp⟩
    · obtain ⟨r, hr⟩ := opn_pre l n (k := k) (by omega)
      exact ⟨r ++ _, by simp only [opn, hr, List.append_assoc]; rfl⟩
theorem opn_at {l : List MoveM} {k : Nat} {m : MoveM} (hx : l[k]? = some m) (hm : ¬ m.st = 3) : (opn l l.length)[(opn l k).length]? = some ((k : Int) + 1, m) := by
  obtain ⟨r, hr⟩ := opn_pre l (k := k + 1) l.length (List.getElem?_eq_some_iff.1 hx).1
  rw [hr, opn_next hx, if_neg hm]; simp
theorem opn_mem {l : List MoveM} {y : Int × MoveM} : ∀ {k : Nat}, y ∈ opn l k → ∃ j, j < k ∧ l[j]? = some y.2 ∧ y.1 = (j : Int) + 1 ∧ ¬ y.2.st = 3
  | 0, h => by cases h
  | k + 1, h => by
    simp only [opn] at h
    rcases List.mem_append.1 h with h | h
    · obtain ⟨j, hj, q⟩ := opn_mem h; exact ⟨j, by omega, q⟩
    · split at h
      · rename_i m hm
        split at h
        · cases h
        · rename_i c
          rw [List.mem_singleton.1 h]; exact ⟨k, by omega, hm, rfl, c⟩
      · cases h
theorem mem_opn {l : List MoveM} {j k : Nat} {m : MoveM} (hj : j < k) (hx : l[j]? = some m) (hm : ¬ m.st = 3) : ((j : Int) + 1, m) ∈ opn l k := by
  obtain ⟨r, hr⟩ := opn_pre l (k := j + 1) k hj
  rw [hr, opn_next hx, if_neg hm]; simp
theorem opn_len (l : List MoveM) : ∀ k, (opn l k).length ≤ k
  | 0 => Nat.le_refl _
  | k + 1 => by
    have := opn_len l k
    simp only [opn, List.length_append]
    split
    · split <;> simp <;> omega
    · simp; omega
/-- What the calls of a table give, and the table behind them. -/
def shareB (l : List MoveM) (r0 r1 : ByteArray) : Bool := (opn l l.length).any fun y => (rmeet y.2.rf y.2.rt r0 r1).2.2.1
def startE (l : List MoveM) (r0 r1 : ByteArray) (f t : Int) : Int := if rchk r0 r1 = 0 ∧ (1 ≤ f ∧ f < 8) ∧ (1 ≤ t ∧ t < 8) ∧ ¬ f = t then (if shareB l r0 r1 = true then 17 else if 64 ≤ l.length then 4 else 0) else 2
def startN (l : List MoveM) (r0 r1 : ByteArray) (f t : Int) : Int := if startE l r0 r1 f t = 0 then (l.length : Int) + 1 else 0
def startL (l : List MoveM) (r0 r1 : ByteArray) (f t : Int) : List MoveM := if startE l r0 r1 f t = 0 then l ++ [⟨r0, r1, f, t, 1, .empty⟩] else l
def findE (l : List MoveM) (n : Int) : Int := if n < 1 ∨ (l.length : Int) < n then 3 else 0
def getM (l : List MoveM) (n : Int) : MoveM := if n < 1 ∨ (l.length : Int) < n then noMove else l.getD (n - 1).toNat noMove
def givenE (l : List MoveM) (n : Int) (d : ByteArray) : Int := if findE l n = 0 then (if (65536 : Int) < (d.size : Nat) then 11 else if (getM l n).st = 1 then 0 else 9) else 3
def givenL (l : List MoveM) (n : Int) (d : ByteArray) : List MoveM := if givenE l n d = 0 then l.set (n - 1).toNat { getM l n with st := 2, d := d } else l
def takenE (l : List MoveM) (n : Int) : Int := if findE l n = 0 then (if (getM l n).st = 2 then 0 else 9) else 3
def takenL (l : List MoveM) (n : Int) : List MoveM := if takenE l n = 0 then l.set (n - 1).toNat { getM l n with st := 3, d := .empty } else l
def busyB (l : List MoveM) (k : ByteArray) : Bool := (opn l l.length).any fun y => rhas y.2.rf y.2.rt k
def openL (l : List MoveM) : List Int := (opn l l.length).map Prod.fst
theorem getM_at {l : List MoveM} {n : Int} {j : Nat} {m : MoveM} (hx : l[j]? = some m) (e : n = (j : Int) + 1) : getM l n = m := by
  have := (List.getElem?_eq_some_iff.1 hx).1
  unfold getM
  rw [if_neg (by omega), show (n - 1).toNat = j by omega, List.getD_eq_getElem?_getD, hx]; rfl
theorem findE_at {l : List MoveM} {n : Int} (h1 : 1 ≤ n) (h2 : n ≤ (l.length : Int)) : findE l n = 0 := if_neg (by omega)
theorem findE_out {l : List MoveM} {n : Int} (h : n < 1 ∨ (l.length : Int) < n) : findE l n = 3 := if_pos h
theorem getM_out {l : List MoveM} {n : Int} (h : n < 1 ∨ (l.length : Int) < n) : getM l n = noMove := if_pos h
theorem take_next {α : Type} {l : List α} {k : Nat} {y : α} (h : l[k]? = some y) : l.take (k + 1) = l.take k ++ [y] := by rw [List.take_add_one, h]; rfl
theorem any_next {α : Type} {l : List α} {k : Nat} {y : α} {F : α → Bool} (h : l[k]? = some y) (ha : (l.take k).any F = false) (hf : F y = false) : (l.take (k + 1)).any F = false := by
  rw [take_next h, List.any_append, ha]; simp [hf]
theorem any_opn {l : List MoveM} {k : Nat} {m : MoveM} {F : Int × MoveM → Bool} (hx : l[k]? = some m) (ha : (opn l k).any F = false) (hf : ¬ m.st = 3 → F ((k : Int) + 1, m) = false) : (opn l (k + 1)).any F = false := by
  rw [opn_next hx, List.any_append, ha]
  by_cases c : m.st = 3
  · rw [if_pos c]; rfl
  · rw [if_neg c]; simp [hf c]
/-- A table: its row, and the row of its list. -/
structure TabRow (T E : TypeId) (h : Heap) (O : Nat → Prop) (t : Nat) (l : List MoveM) (a : Option Addr) (c : Nat) : Prop where
  row : h[t]? = some (.cells #[.bool true, .slice a l.length c] T (0, 0))
  own : OwnAt h E movec l (.slice a l.length c)
  foot : ∀ b, O b ↔ b = t ∨ blk (.slice a l.length c) b
def TabAt (T E : TypeId) (h : Heap) (O : Nat → Prop) (t : Nat) (l : List MoveM) : Prop := ∃ a c, TabRow T E h O t l a c
section
variable {T E : TypeId} {h h1 : Heap} {O : Nat → Prop} {t : Nat} {l : List MoveM}
theorem TabAt.keep (k : TabAt T E h O t l) (w : ∀ b r, O b → h[b]? = some r → h1[b]? = some r) : TabAt T E h1 O t l := by
  obtain ⟨a, c, k⟩ := k
  exact ⟨a, c, w _ _ ((k.foot _).2 (.inl rfl)) k.row, k.own.keep fun b r hb q => w b r ((k.foot _).2 (.inr hb)) q, k.foot⟩
theorem TabAt.celled (k : TabAt T E h O t l) : Celled h O := by
  obtain ⟨a, c, k⟩ := k
  intro b hb
  rcases (k.foot b).1 hb with rfl | hb
  · exact ⟨_, _, _, k.row⟩
  · exact k.own.celled b hb
theorem TabAt.blk_lt (k : TabAt T E h O t l) {b : Nat} (hb : O b) : b < h.size := by
  obtain ⟨cs, e, fr, hr⟩ := k.celled b hb; exact row_lt hr
theorem tab_new {a : Option Addr} {c : Nat} (hr : h[t]? = some (.cells #[.bool true, .slice a l.length c] T (0, 0))) (ho : OwnAt h E movec l (.slice a l.length c)) : TabAt T E h (fun b => b = t ∨ blk (.slice a l.length c) b) t l := ⟨a, c, hr, ho, fun _ => Iff.rfl⟩
end
def icell (n : Int) : Array Value := #[.int .i64 n]
theorem icell_size (n : Int) : (icell n).size = 1 := rfl
set_option maxHeartbeats 4000000 in
theorem valid_nil (h : Heap)  : WCall Tryd.prog 39 #[(Value.pointer none)] h (fun v h1 => v = .bool false ∧ h = h1) := by
  exact hCall_of (n := 200) (T := ⟨fun r i => match r, i with | _, _ => none, fun _ => none, none⟩)
    (A := (fun v h1 => v = .bool false ∧ h = h1) (vB false) h) (by kernel_rfl) ⟨rfl, rfl⟩
set_option maxHeartbeats 4000000 in
theorem valid_bad (h : Heap) {t : Nat} {sa : Option Addr} {n c : Nat} {fr : Nat × Nat} (ht : h[t]? = some (.cells #[.bool false, .slice sa n c] 56 fr)) : WCall Tryd.prog 39 #[(vP t 0)] h (fun v h1 => v = .bool false ∧ h = h1) := by
  exact hCall_of (n := 200) (T := ⟨fun r i => match r, i with | 1, 6 => some ((vB false), h) | _, _ => none, fun _ => none, none⟩)
    (A := (loadT Tryd.prog h 4 (vP t 0) = some (vB false) ∧ h = h) ∧ (fun v h1 => v = .bool false ∧ h = h1) (vB false) h) (by kernel_rfl) ⟨⟨load_cell agg4 ht rfl, rfl⟩, ⟨rfl, rfl⟩⟩
set_option maxHeartbeats 4000000 in
theorem valid_ok (h : Heap) {t : Nat} {sa : Option Addr} {n c : Nat} {fr : Nat × Nat} (ht : h[t]? = some (.cells #[.bool true, .slice sa n c] 56 fr)) : WCall Tryd.prog 39 #[(vP t 0)] h (fun v h1 => v = .bool true ∧ h = h1) := by
  exact hCall_of (n := 200) (T := ⟨fun r i => match r, i with | 1, 6 => some ((vB true), h) | _, _ => none, fun _ => none, none⟩)
    (A := (loadT Tryd.prog h 4 (vP t 0) = some (vB true) ∧ h = h) ∧ (fun v h1 => v = .bool true ∧ h = h1) (vB true) h) (by kernel_rfl) ⟨⟨load_cell agg4 ht rfl, rfl⟩, ⟨rfl, rfl⟩⟩
set_option maxHeartbeats 4000000 in
theorem svalid_nil (h : Heap)  : WCall Tryd.prog 41 #[(Value.pointer none)] h (fun v h1 => v = .bool false ∧ h = h1) := by
  exact hCall_of (n := 200) (T := ⟨fun r i => match r, i with | _, _ => none, fun _ => none, none⟩)
    (A := (fun v h1 => v = .bool false ∧ h = h1) (vB false) h) (by kernel_rfl) ⟨rfl, rfl⟩
set_option maxHeartbeats 4000000 in
theorem svalid_bad (h : Heap) {t : Nat} {sa : Option Addr} {n c : Nat} {fr : Nat × Nat} (ht : h[t]? = some (.cells #[.bool false, .slice sa n c] 76 fr)) : WCall Tryd.prog 41 #[(vP t 0)] h (fun v h1 => v = .bool false ∧ h = h1) := by
  exact hCall_of (n := 200) (T := ⟨fun r i => match r, i with | 1, 6 => some ((vB false), h) | _, _ => none, fun _ => none, none⟩)
    (A := (loadT Tryd.prog h 4 (vP t 0) = some (vB false) ∧ h = h) ∧ (fun v h1 => v = .bool false ∧ h = h1) (vB false) h) (by kernel_rfl) ⟨⟨load_cell agg4 ht rfl, rfl⟩, ⟨rfl, rfl⟩⟩
set_option maxHeartbeats 4000000 in
theorem svalid_ok (h : Heap) {t : Nat} {sa : Option Addr} {n c : Nat} {fr : Nat × Nat} (ht : h[t]? = some (.cells #[.bool true, .slice sa n c] 76 fr)) : WCall Tryd.prog 41 #[(vP t 0)] h (fun v h1 => v = .bool true ∧ h = h1) := by
  exact hCall_of (n := 200) (T := ⟨fun r i => match r, i with | 1, 6 => some ((vB true), h) | _, _ => none, fun _ => none, none⟩)
    (A := (loadT Tryd.prog h 4 (vP t 0) = some (vB true) ∧ h = h) ∧ (fun v h1 => v = .bool true ∧ h = h1) (vB true) h) (by kernel_rfl) ⟨⟨load_cell agg4 ht rfl, rfl⟩, ⟨rfl, rfl⟩⟩
/-- What moves.shard gives. -/
def grpB (n : Int) : Bool := if (1 : Int) ≤ (n) then (if ((n) : Int) < 8 then true else false) else false
set_option maxHeartbeats 4000000 in
theorem grpB_ok (h : Heap) (n : Int) : WCall Tryd.prog 40 #[(vI (n))] h (fun v h1 => v = (vB (grpB n)) ∧ h = h1) := by
  by_cases c680 : (1 : Int) ≤ (n)
  · by_cases c681 : ((n) : Int) < 8
    · have e682 : (grpB n) = true := by unfold grpB; rw [if_pos c680, if_pos c681]
      exact hCall_of (n := 200) (T := ⟨fun r i => match r, i with | 1, 1 => some ((vB true), h) | 1, 4 => some ((vB true), h) | _, _ => none, fun _ => none, none⟩)
        (A := (binA Tryd.prog .geq 3 (vI n) (vI 1) = some (vB true) ∧ h = h) ∧ (binA Tryd.prog .lss 3 (vI n) (vI 8) = some (vB true) ∧ h = h) ∧ (fun v h1 => v = (vB (grpB n)) ∧ h = h1) (vB true) h) (by kernel_rfl) ⟨⟨cmp_geq (decide_eq_true c680), rfl⟩, ⟨cmp_lss (decide_eq_true c681), rfl⟩, ⟨by rw [e682], rfl⟩⟩
    · have e683 : (grpB n) = false := by unfold grpB; rw [if_pos c680, if_neg c681]
      exact hCall_of (n := 200) (T := ⟨fun r i => match r, i with | 1, 1 => some ((vB true), h) | 1, 4 => some ((vB false), h) | _, _ => none, fun _ => none, none⟩)
        (A := (binA Tryd.prog .geq 3 (vI n) (vI 1) = some (vB true) ∧ h = h) ∧ (binA Tryd.prog .lss 3 (vI n) (vI 8) = some (vB false) ∧ h = h) ∧ (fun v h1 => v = (vB (grpB n)) ∧ h = h1) (vB false) h) (by kernel_rfl) ⟨⟨cmp_geq (decide_eq_true c680), rfl⟩, ⟨cmp_lss (decide_eq_false c681), rfl⟩, ⟨by rw [e683], rfl⟩⟩
  · have e684 : (grpB n) = false := by unfold grpB; rw [if_neg c680]
    exact hCall_of (n := 200) (T := ⟨fun r i => match r, i with | 1, 1 => some ((vB false), h) | _, _ => none, fun _ => none, none⟩)
      (A := (binA Tryd.prog .geq 3 (vI n) (vI 1) = some (vB false) ∧ h = h) ∧ (fun v h1 => v = (vB (grpB n)) ∧ h = h1) (vB false) h) (by kernel_rfl) ⟨⟨cmp_geq (decide_eq_false c680), rfl⟩, ⟨by rw [e684], rfl⟩⟩
/-- What skaldref32.group gives. -/
def sgrpB (n : Int) : Bool := if (1 : Int) ≤ (n) then (if ((n) : Int) < 8 then true else false) else false
set_option maxHeartbeats 4000000 in
theorem sgrpB_ok (h : Heap) (n : Int) : WCall Tryd.prog 43 #[(vI (n))] h (fun v h1 => v = (vB (sgrpB n)) ∧ h = h1) := by
  by_cases c685 : (1 : Int) ≤ (n)
  · by_cases c686 : ((n) : Int) < 8
    · have e687 : (sgrpB n) = true := by unfold sgrpB; rw [if_pos c685, if_pos c686]
      exact hCall_of (n := 200) (T := ⟨fun r i => match r, i with | 1, 1 => some ((vB true), h) | 1, 4 => some ((vB true), h) | _, _ => none, fun _ => none, none⟩)
        (A := (binA Tryd.prog .geq 3 (vI n) (vI 1) = some (vB true) ∧ h = h) ∧ (binA Tryd.prog .lss 3 (vI n) (vI 8) = some (vB true) ∧ h = h) ∧ (fun v h1 => v = (vB (sgrpB n)) ∧ h = h1) (vB true) h) (by kernel_rfl) ⟨⟨cmp_geq (decide_eq_true c685), rfl⟩, ⟨cmp_lss (decide_eq_true c686), rfl⟩, ⟨by rw [e687], rfl⟩⟩
    · have e688 : (sgrpB n) = false := by unfold sgrpB; rw [if_pos c685, if_neg c686]
      exact hCall_of (n := 200) (T := ⟨fun r i => match r, i with | 1, 1 => some ((vB true), h) | 1, 4 => some ((vB false), h) | _, _ => none, fun _ => none, none⟩)
        (A := (binA Tryd.prog .geq 3 (vI n) (vI 1) = some (vB true) ∧ h = h) ∧ (binA Tryd.prog .lss 3 (vI n) (vI 8) = some (vB false) ∧ h = h) ∧ (fun v h1 => v = (vB (sgrpB n)) ∧ h = h1) (vB false) h) (by kernel_rfl) ⟨⟨cmp_geq (decide_eq_true c685), rfl⟩, ⟨cmp_lss (decide_eq_false c686), rfl⟩, ⟨by rw [e688], rfl⟩⟩
  · have e689 : (sgrpB n) = false := by unfold sgrpB; rw [if_neg c685]
    exact hCall_of (n := 200) (T := ⟨fun r i => match r, i with | 1, 1 => some ((vB false), h) | _, _ => none, fun _ => none, none⟩)
      (A := (binA Tryd.prog .geq 3 (vI n) (vI 1) = some (vB false) ∧ h = h) ∧ (fun v h1 => v = (vB (sgrpB n)) ∧ h = h1) (vB false) h) (by kernel_rfl) ⟨⟨cmp_geq (decide_eq_false c685), rfl⟩, ⟨by rw [e689], rfl⟩⟩
theorem sgrpB_eq (n : Int) : sgrpB n = grpB n := rfl
theorem sgrpB_can (h : Heap) (n : Int) : WCall Tryd.prog 43 #[(vI (n))] h (fun v h1 => v = (vB (grpB n)) ∧ h = h1) := by
  have q := sgrpB_ok h n
  rw [sgrpB_eq] at q
  exact q
set_option maxHeartbeats 4000000 in
theorem new_ok (h : Heap)  : WCall Tryd.prog 20 #[] h (fun v h1 => ∃ b O, v = .pointer (some ⟨b, 0, none⟩) ∧ TabAt 56 32 h1 O b [] ∧ Ext h h1 ∧ ∀ z, O z → h.size ≤ z) := by
  obtain ⟨b692, eb693⟩ : ∃ zq, zq = h.size := ⟨_, rfl⟩
  obtain ⟨h690, e691⟩ : ∃ zq, zq = h.push (.cells #[(vB true), (Value.slice none 0 0)] 56 (0, 0)) := ⟨_, rfl⟩
  have f694 := push_new e691
  rw [← eb693] at f694
  have x695 : Ext h h690 := by rw [e691]; exact Ext.push _ _
  have o696 : h.size ≤ b692 := by have := (Ext.refl h).size; omega
  have x697 := (Ext.refl h).trans x695
  exact hCall_of (n := 200) (T := ⟨fun r i => match r, i with | 1, 1 => some ((vP b692 0), h690) | _, _ => none, fun _ => none, none⟩)
    (A := ((vP b692 0) = (Value.pointer (some ⟨h.size, 0, none⟩)) ∧ h690 = h.push (.cells #[(vB true), (vL none 0 0)] 56 (0, 0))) ∧ (fun v h1 => ∃ b O, v = .pointer (some ⟨b, 0, none⟩) ∧ TabAt 56 32 h1 O b [] ∧ Ext h h1 ∧ ∀ z, O z → h.size ≤ z) (vP b692 0) h690) (by kernel_rfl) ⟨⟨by rw [eb693], e691⟩, ⟨b692, _, rfl, tab_new (a := none) (c := 0) f694 (.inl ⟨rfl, rfl⟩), x697, fun z hz => hz.elim (fun w => by have := o696; omega) (fun w => w.elim)⟩⟩
set_option maxHeartbeats 4000000 in
theorem snew_ok (h : Heap)  : WCall Tryd.prog 25 #[] h (fun v h1 => ∃ b O, v = .pointer (some ⟨b, 0, none⟩) ∧ TabAt 76 77 h1 O b [] ∧ Ext h h1 ∧ ∀ z, O z → h.size ≤ z) := by
  obtain ⟨b700, eb701⟩ : ∃ zq, zq = h.size := ⟨_, rfl⟩
  obtain ⟨h698, e699⟩ : ∃ zq, zq = h.push (.cells #[(vB true), (Value.slice none 0 0)] 76 (0, 0)) := ⟨_, rfl⟩
  have f702 := push_new e699
  rw [← eb701] at f702
  have x703 : Ext h h698 := by rw [e699]; exact Ext.push _ _
  have o704 : h.size ≤ b700 := by have := (Ext.refl h).size; omega
  have x705 := (Ext.refl h).trans x703
  exact hCall_of (n := 200) (T := ⟨fun r i => match r, i with | 1, 1 => some ((vP b700 0), h698) | _, _ => none, fun _ => none, none⟩)
    (A := ((vP b700 0) = (Value.pointer (some ⟨h.size, 0, none⟩)) ∧ h698 = h.push (.cells #[(vB true), (vL none 0 0)] 76 (0, 0))) ∧ (fun v h1 => ∃ b O, v = .pointer (some ⟨b, 0, none⟩) ∧ TabAt 76 77 h1 O b [] ∧ Ext h h1 ∧ ∀ z, O z → h.size ≤ z) (vP b700 0) h698) (by kernel_rfl) ⟨⟨by rw [eb701], e699⟩, ⟨b700, _, rfl, tab_new (a := none) (c := 0) f702 (.inl ⟨rfl, rfl⟩), x705, fun z hz => hz.elim (fun w => by have := o704; omega) (fun w => w.elim)⟩⟩
set_option maxHeartbeats 4000000 in
theorem open_fn (h : Heap) (t : Nat) : WCall Tryd.prog 35 #[(vP t 0)] h (fun v h1 => ∃ b, v = .func (.func 51) #[] #[.pointer (some ⟨b, 0, none⟩)] ∧ h1[b]? = some (.cells #[(vP t 0)] 25 (0, 0)) ∧ Ext h h1 ∧ h.size ≤ b) := by
  obtain ⟨b708, eb709⟩ : ∃ zq, zq = h.size := ⟨_, rfl⟩
  obtain ⟨h706, e707⟩ : ∃ zq, zq = h.push (.cells #[(vP t 0)] 25 (0, 0)) := ⟨_, rfl⟩
  have f710 := push_new e707
  rw [← eb709] at f710
  have x711 : Ext h h706 := by rw [e707]; exact Ext.push _ _
  have o712 : h.size ≤ b708 := by have := (Ext.refl h).size; omega
  have x713 := (Ext.refl h).trans x711
  exact hCall_of (n := 200) (T := ⟨fun r i => match r, i with | 0, 0 => some ((vP b708 0), h706) | _, _ => none, fun _ => none, none⟩)
    (A := ((vP b708 0) = (Value.pointer (some ⟨h.size, 0, none⟩)) ∧ h706 = h.push (.cells #[(vP t 0)] 25 (0, 0))) ∧ (fun v h1 => ∃ b, v = .func (.func 51) #[] #[.pointer (some ⟨b, 0, none⟩)] ∧ h1[b]? = some (.cells #[(vP t 0)] 25 (0, 0)) ∧ Ext h h1 ∧ h.size ≤ b) (Value.func (.func 51) #[] #[(vP b708 0)]) h706) (by kernel_rfl) ⟨⟨by rw [eb709], e707⟩, ⟨_, rfl, f710, x713, o712⟩⟩
set_option maxHeartbeats 4000000 in
theorem open_nil (h : Heap)  : WCall Tryd.prog 35 #[(Value.pointer none)] h (fun v h1 => ∃ b, v = .func (.func 51) #[] #[.pointer (some ⟨b, 0, none⟩)] ∧ h1[b]? = some (.cells #[(Value.pointer none)] 25 (0, 0)) ∧ Ext h h1 ∧ h.size ≤ b) := by
  obtain ⟨b716, eb717⟩ : ∃ zq, zq = h.size := ⟨_, rfl⟩
  obtain ⟨h714, e715⟩ : ∃ zq, zq = h.push (.cells #[(Value.pointer none)] 25 (0, 0)) := ⟨_, rfl⟩
  have f718 := push_new e715
  rw [← eb717] at f718
  have x719 : Ext h h714 := by rw [e715]; exact Ext.push _ _
  have o720 : h.size ≤ b716 := by have := (Ext.refl h).size; omega
  have x721 := (Ext.refl h).trans x719
  exact hCall_of (n := 200) (T := ⟨fun r i => match r, i with | 0, 0 => some ((vP b716 0), h714) | _, _ => none, fun _ => none, none⟩)
    (A := ((vP b716 0) = (Value.pointer (some ⟨h.size, 0, none⟩)) ∧ h714 = h.push (.cells #[vN] 25 (0, 0))) ∧ (fun v h1 => ∃ b, v = .func (.func 51) #[] #[.pointer (some ⟨b, 0, none⟩)] ∧ h1[b]? = some (.cells #[vN] 25 (0, 0)) ∧ Ext h h1 ∧ h.size ≤ b) (Value.func (.func 51) #[] #[(vP b716 0)]) h714) (by kernel_rfl) ⟨⟨by rw [eb717], e715⟩, ⟨_, rfl, f718, x721, o720⟩⟩
set_option maxHeartbeats 4000000 in
theorem open_it (h : Heap) {O : Nat → Prop} {t : Nat} {ms : List MoveM} (hT : TabAt 56 32 h O t ms) (h64 : ms.length ≤ 64) (bx : Nat) (hx : h[bx]? = some (.cells #[.pointer (some ⟨t, 0, none⟩)] 25 (0, 0))) (l : Nat) (I : Nat → (Nat → Prop) → Heap → Prop) (E : Heap → Prop) (D0 : Nat → Prop) (hF : ∀ b, O b → ¬ D0 b) (hX : ∀ k D h' h'', I k D h' → Ext h' h'' → I k D h'') (hy : ∀ k y D h', ((opn ms ms.length))[k]? = some y → I k D h' → ∃ b h'' D', SoundYield Tryd.prog l #[(vI (y.1)), (Value.agg #[(vS y.2.rf), (vS y.2.rt), (vI (y.2.f)), (vI (y.2.t)), (vI (y.2.st)), (vS y.2.d)])] h' (.bool b) h'' ∧ Chg D h' h'' ∧ (∀ z, D' z → D z ∨ h'.size ≤ z) ∧ (if b = true then I (k + 1) D' h'' else E h'')) (h0 : I 0 D0 h) : WCall Tryd.prog 51 #[(Value.func (.yield l) #[] #[]), (vP bx 0)] h (fun _ h1 => Chg D0 h h1 ∧ ((∃ D, I ((opn ms ms.length)).length D h1 ∧ ∀ z, D z → D0 z ∨ h.size ≤ z) ∨ E h1)) := by
  obtain ⟨a722, cc723, T⟩ := hT
  suffices H : ∀ K : Value → Heap → Prop, (∀ v h1, (fun _ h1 => Chg D0 h h1 ∧ ((∃ D, I ((opn ms ms.length)).length D h1 ∧ ∀ z, D z → D0 z ∨ h.size ≤ z) ∨ E h1)) v h1 → K v h1) → WCall Tryd.prog 51 #[(Value.func (.yield l) #[] #[]), (vP bx 0)] h K from H _ fun _ _ q => q
  intro K hK
  refine wcall_at { tmps := #[(Value.func (.yield l) #[] #[]), (vP bx 0), vZ, vZ, vZ, vZ, vZ, vZ, vZ, vZ, vZ, vZ, vZ, vZ, vZ, vZ, vZ, vZ, vZ, vZ, vZ, vZ, vZ, vZ, vZ, vZ, vZ, vZ, vZ, vZ], defers := [] } (by kernel_rfl) ?_
  refine wc_seq' (subc (bodyOf Tryd.prog 51) [0]) (subc (bodyOf Tryd.prog 51) [1]) (by kernel_rfl) ?_
  obtain ⟨_, _, sn725, rfl, rfl⟩ := valid_ok h T.row
  refine wc_upd (n := 200) (T := ⟨fun r i => match r, i with | 0, 0 => some ((vP t 0), h) | 0, 1 => some ((vB true), h) | _, _ => none, fun _ => none, none⟩) (x := .normal) (h1 := h) [(5, (vP t 0)), (6, (vB true)), (7, (vB false))]
    (fun q => (loadT Tryd.prog h 25 (vP bx 0) = some (vP t 0) ∧ h = h) ∧ SoundCall Tryd.prog 39 #[(vP t 0)] h (vB true) h ∧ q) (by intro K'; as_aux_lemma => kernel_rfl) (fun _ q => ⟨⟨load_cell agg25 hx rfl, rfl⟩, sn725, q⟩) ?_
  refine wc_seq' (subc (bodyOf Tryd.prog 51) [1, 0]) (subc (bodyOf Tryd.prog 51) [1, 1]) (by kernel_rfl) ?_
  refine wc_upd (n := 200) (T := ⟨fun r i => match r, i with | 1, 0 => some ((vP t 0), h) | 1, 3 => some ((vL a722 ms.length cc723), h) | _, _ => none, fun _ => none, none⟩) (x := .normal) (h1 := h) [(8, (vP t 0)), (9, (vP t 0)), (10, (vP t 1)), (11, (vL a722 ms.length cc723)), (12, (vI ((ms.length : Nat)))), (13, (vI 0))]
    (fun q => (loadT Tryd.prog h 25 (vP bx 0) = some (vP t 0) ∧ h = h) ∧ (loadT Tryd.prog h 48 (vP t 1) = some (vL a722 ms.length cc723) ∧ h = h) ∧ q) (by intro K'; as_aux_lemma => kernel_rfl) (fun _ q => ⟨⟨load_cell agg25 hx rfl, rfl⟩, ⟨load_cell agg48 T.row rfl, rfl⟩, q⟩) ?_
  refine wc_block' 0 (subc (bodyOf Tryd.prog 51) [1, 1, 0]) (by kernel_rfl) ?_
  refine wc_loop' (subc (bodyOf Tryd.prog 51) [1, 1, 0, 0]) (by kernel_rfl) (fun n' a' h' => ∃ (k : Int) (DD : Nat → Prop) (g0 : Nat → Value), a' = { tmps := #[(Value.func (.yield l) #[] #[]), (vP bx 0), vZ, (g0 3), (g0 4), (vP t 0), (vB true), (vB false), (vP t 0), (vP t 0), (vP t 1), (vL a722 ms.length cc723), (vI ((ms.length : Nat))), (vI k), (g0 14), (g0 15), (g0 16), (g0 17), (g0 18), (g0 19), (g0 20), (g0 21), (g0 22), (g0 23), (g0 24), (g0 25), (g0 26), (g0 27), (g0 28), (g0 29)], defers := [] } ∧ Chg D0 h h' ∧ n' = ms.length - k.toNat ∧ (0 ≤ k ∧ k ≤ (ms.length : Nat)) ∧ I ((opn ms k.toNat).length) DD h' ∧ (∀ z, DD z → D0 z ∨ h.size ≤ z)) ?_ (ms.length - (0 : Int).toNat) ⟨0, D0, (fun i => ([vU, vU, vU, vZ, vZ, vU, vU, vU, vU, vU, vU, vU, vU, vU, vZ, vZ, vZ, vZ, vZ, vZ, vZ, vZ, vZ, vZ, vZ, vZ, vZ, vZ, vZ, vZ] : List Value).getD i undef), by as_aux_lemma => kernel_rfl, (Chg.refl (O := D0) h), rfl, by omega, (hX _ _ _ _ h0 (Ext.refl h)), (fun z hz => .inl hz)⟩
  rintro n' _ h728 ⟨k, DD, g0, rfl, x733, m732, i729, i730, i731⟩
  by_cases c734 : ((k) : Int) < ((ms.length : Nat))
  · obtain ⟨i735, v736, e737, l738, g739⟩ := list_at ms (e := (k)) (by omega) (by first | omega | (simp only [List.length_set, List.length_append, List.length_singleton]; omega))
    obtain ⟨b740, o741, k742, q743, a744⟩ := (T.own.slice movec_size).at movec_size g739
    obtain ⟨b748, eb749⟩ : ∃ zq, zq = h728.size := ⟨_, rfl⟩
    obtain ⟨h746, e747⟩ : ∃ zq, zq = h728.push (.cells #[(vS .empty), (vS .empty), (vI 0), (vI 0), (vI 0), (vS .empty)] 32 (0, 0)) := ⟨_, rfl⟩
    have f750 := push_new e747
    rw [← eb749] at f750
    have x753 : Ext h728 h746 := by rw [e747]; exact Ext.push _ _
    have o754 : h.size ≤ b748 := by have := x733.size; omega
    have x755 := x733.trans (Chg.ext x753)
    have sx756 := (Ext.refl h728).trans x753
    have o757 : h728.size ≤ b748 := by have := (Ext.refl h728).size; omega
    obtain ⟨h758, e759⟩ : ∃ zq, zq = h746.setIfInBounds b748 (.cells #[(vS v736.rf), (vS v736.rt), (vI (v736.f)), (vI (v736.t)), (vI (v736.st)), (vS v736.d)] 32 (0, 0)) := ⟨_, rfl⟩
    have f760 := set_same e759 f750
    have x762 := x755.then (Chg.set e759) (fun b hb => by subst hb; exact (.inr o754))
    have sx763 := Ext.setNew sx756 e759 o757
    by_cases c764 : ((v736.st) : Int) = 3
    · refine wc_upd (n := 200) (T := ⟨fun r i => match r, i with | 2, 0 => some ((vB true), h728) | 3, 1 => some ((vP b740 o741), h728) | 3, 2 => some ((vA #[(vS v736.rf), (vS v736.rt), (vI v736.f), (vI v736.t), (vI v736.st), (vS v736.d)]), h728) | 3, 3 => some ((vP b748 0), h746) | 3, 5 => some (undef, h758) | 4, 1 => some ((vI v736.st), h758) | 4, 2 => some ((vB false), h758) | 5, 0 => some ((vI ((k) + 1)), h758) | _, _ => none, fun _ => none, none⟩) (x := .normal) (h1 := h758) [(14, (vB true)), (15, (vI k)), (16, (vP b740 o741)), (17, (vA #[(vS v736.rf), (vS v736.rt), (vI v736.f), (vI v736.t), (vI v736.st), (vS v736.d)])), (4, (vP b748 0)), (3, (vI k)), (18, (vP b748 4)), (19, (vI v736.st)), (20, (vB false)), (21, (vB false)), (22, vZ), (23, vZ), (24, vZ), (25, vZ), (26, vZ), (27, vZ), (28, (vB false)), (29, (vI ((k) + 1))), (13, (vI ((k) + 1)))]
        (fun q => (binA Tryd.prog .lss 3 (vI k) (vI ((ms.length : Nat))) = some (vB true) ∧ h728 = h728) ∧ (indexAddrA Tryd.prog 48 (vL a722 ms.length cc723) (vI k) = some (vP b740 o741) ∧ h728 = h728) ∧ (loadT Tryd.prog h728 32 (vP b740 o741) = some (vA #[(vS v736.rf), (vS v736.rt), (vI v736.f), (vI v736.t), (vI v736.st), (vS v736.d)]) ∧ h728 = h728) ∧ ((vP b748 0) = (Value.pointer (some ⟨h728.size, 0, none⟩)) ∧ h746 = h728.push (.cells #[(vS .empty), (vS .empty), (vI 0), (vI 0), (vI 0), (vS .empty)] 32 (0, 0))) ∧ (storeT Tryd.prog h746 32 (vP b748 0) (vA #[(vS v736.rf), (vS v736.rt), (vI v736.f), (vI v736.t), (vI v736.st), (vS v736.d)]) = some h758 ∧ (undef : Value) = undef) ∧ (loadT Tryd.prog h758 3 (vP b748 4) = some (vI v736.st) ∧ h758 = h758) ∧ (binA Tryd.prog .neq 3 (vI v736.st) (vI 3) = some (vB false) ∧ h758 = h758) ∧ (binA Tryd.prog .add 3 (vI k) (vI 1) = some (vI ((k) + 1)) ∧ h758 = h758) ∧ q) (by intro K'; as_aux_lemma => kernel_rfl) (fun _ q => ⟨⟨cmp_lss (decide_eq_true c734), rfl⟩, ⟨a744 und48 size32 e737, rfl⟩, ⟨(k742.keep fun b r hb q => x733.same b r q ((fun b hb => (fun b hb => hF b ((T.foot b).2 (.inr hb))) b (blk_of hb q743)) b hb)).agg (j := 0) agg32 size32 (show 0 + 6 ≤ 6 by decide) (by kernel_rfl), rfl⟩, ⟨by rw [eb749], e747⟩, ⟨by rw [e759]; exact store_cells size32 rfl f750 (by decide) (by simp) rfl (by kernel_rfl), rfl⟩, ⟨load_cell agg3 f760 rfl, rfl⟩, ⟨cmp_neq (decide_eq_false (not_not_intro c764)), rfl⟩, ⟨add_i64 (by omega) (by omega), rfl⟩, q⟩) ?_
      exact ⟨ms.length - (k + 1).toNat, by omega, ⟨k + 1, DD, (fun i => ([vU, vU, vU, (vI k), (vP b748 0), vU, vU, vU, vU, vU, vU, vU, vU, vU, (vB true), (vI k), (vP b740 o741), (vA #[(vS v736.rf), (vS v736.rt), (vI v736.f), (vI v736.t), (vI v736.st), (vS v736.d)]), (vP b748 4), (vI v736.st), (vB false), (vB false), vZ, vZ, vZ, vZ, vZ, vZ, (vB false), (vI ((k) + 1))] : List Value).getD i undef), by as_aux_lemma => kernel_rfl, x762, rfl, by omega, (by have q := (hX _ _ _ _ i730 sx763); rw [show (opn ms k.toNat).length = (opn ms (k + 1).toNat).length from (by rw [show (k + 1).toNat = i735 + 1 by omega, opn_next g739, if_pos c764, show i735 = k.toNat by omega]; simp)] at q; exact q), i731⟩⟩
    · have yk := opn_at (k := i735) g739 (by assumption)
      have ey : (k : Int) + 1 = (i735 : Int) + 1 := by omega
      rw [show i735 = k.toNat by omega] at yk
      rw [show ((k.toNat : Nat) : Int) + 1 = k + 1 by omega] at yk
      obtain ⟨bb765, h766, D767, s768, c769, n770, q771⟩ := hy ((opn ms k.toNat).length) (k + 1, v736) _ h758 yk (hX _ _ _ _ i730 sx763)
      have z773 : h.size ≤ h758.size := x762.size
      have x772 := x762.then c769 i731
      have d774 : ∀ z, D767 z → D0 z ∨ h.size ≤ z := fun z hz => (n770 z hz).elim (i731 z) (fun w => .inr (by omega))
      rcases bb765 with _ | _
      · rw [if_neg (by decide)] at q771
        refine wc_upd (n := 200) (T := ⟨fun r i => match r, i with | 2, 0 => some ((vB true), h728) | 3, 1 => some ((vP b740 o741), h728) | 3, 2 => some ((vA #[(vS v736.rf), (vS v736.rt), (vI v736.f), (vI v736.t), (vI v736.st), (vS v736.d)]), h728) | 3, 3 => some ((vP b748 0), h746) | 3, 5 => some (undef, h758) | 4, 1 => some ((vI v736.st), h758) | 4, 2 => some ((vB true), h758) | 4, 6 => some ((vI ((k) + 1)), h758) | 4, 7 => some ((vA #[(vS v736.rf), (vS v736.rt), (vI v736.f), (vI v736.t), (vI v736.st), (vS v736.d)]), h758) | 4, 8 => some ((vB false), h766) | _, _ => none, fun _ => none, none⟩) (x := .ret) (h1 := h766) [(14, (vB true)), (15, (vI k)), (16, (vP b740 o741)), (17, (vA #[(vS v736.rf), (vS v736.rt), (vI v736.f), (vI v736.t), (vI v736.st), (vS v736.d)])), (4, (vP b748 0)), (3, (vI k)), (18, (vP b748 4)), (19, (vI v736.st)), (20, (vB true)), (21, (vB true)), (22, (Value.func (.yield l) #[] #[])), (23, (vI k)), (24, (vI ((k) + 1))), (25, (vA #[(vS v736.rf), (vS v736.rt), (vI v736.f), (vI v736.t), (vI v736.st), (vS v736.d)])), (26, (vB false)), (27, (vB true)), (28, (vB true))]
          (fun q => (binA Tryd.prog .lss 3 (vI k) (vI ((ms.length : Nat))) = some (vB true) ∧ h728 = h728) ∧ (indexAddrA Tryd.prog 48 (vL a722 ms.length cc723) (vI k) = some (vP b740 o741) ∧ h728 = h728) ∧ (loadT Tryd.prog h728 32 (vP b740 o741) = some (vA #[(vS v736.rf), (vS v736.rt), (vI v736.f), (vI v736.t), (vI v736.st), (vS v736.d)]) ∧ h728 = h728) ∧ ((vP b748 0) = (Value.pointer (some ⟨h728.size, 0, none⟩)) ∧ h746 = h728.push (.cells #[(vS .empty), (vS .empty), (vI 0), (vI 0), (vI 0), (vS .empty)] 32 (0, 0))) ∧ (storeT Tryd.prog h746 32 (vP b748 0) (vA #[(vS v736.rf), (vS v736.rt), (vI v736.f), (vI v736.t), (vI v736.st), (vS v736.d)]) = some h758 ∧ (undef : Value) = undef) ∧ (loadT Tryd.prog h758 3 (vP b748 4) = some (vI v736.st) ∧ h758 = h758) ∧ (binA Tryd.prog .neq 3 (vI v736.st) (vI 3) = some (vB true) ∧ h758 = h758) ∧ (binA Tryd.prog .add 3 (vI k) (vI 1) = some (vI ((k) + 1)) ∧ h758 = h758) ∧ (loadT Tryd.prog h758 32 (vP b748 0) = some (vA #[(vS v736.rf), (vS v736.rt), (vI v736.f), (vI v736.t), (vI v736.st), (vS v736.d)]) ∧ h758 = h758) ∧ SoundYield Tryd.prog l #[(vI ((k) + 1)), (vA #[(vS v736.rf), (vS v736.rt), (vI v736.f), (vI v736.t), (vI v736.st), (vS v736.d)])] h758 (vB false) h766 ∧ q) (by intro K'; as_aux_lemma => kernel_rfl) (fun _ q => ⟨⟨cmp_lss (decide_eq_true c734), rfl⟩, ⟨a744 und48 size32 e737, rfl⟩, ⟨(k742.keep fun b r hb q => x733.same b r q ((fun b hb => (fun b hb => hF b ((T.foot b).2 (.inr hb))) b (blk_of hb q743)) b hb)).agg (j := 0) agg32 size32 (show 0 + 6 ≤ 6 by decide) (by kernel_rfl), rfl⟩, ⟨by rw [eb749], e747⟩, ⟨by rw [e759]; exact store_cells size32 rfl f750 (by decide) (by simp) rfl (by kernel_rfl), rfl⟩, ⟨load_cell agg3 f760 rfl, rfl⟩, ⟨cmp_neq (decide_eq_true c764), rfl⟩, ⟨add_i64 (by omega) (by omega), rfl⟩, ⟨load_agg agg32 size32 f760 (by simp) (by kernel_rfl), rfl⟩, s768, q⟩) ?_
        refine end_at (T := ⟨fun _ _ => none, fun _ => none, none⟩) (A := K vZ h766) (by kernel_rfl) ?_
        exact hK _ _ (⟨x772, .inr q771⟩)
      · rw [if_pos rfl] at q771
        refine wc_upd (n := 200) (T := ⟨fun r i => match r, i with | 2, 0 => some ((vB true), h728) | 3, 1 => some ((vP b740 o741), h728) | 3, 2 => some ((vA #[(vS v736.rf), (vS v736.rt), (vI v736.f), (vI v736.t), (vI v736.st), (vS v736.d)]), h728) | 3, 3 => some ((vP b748 0), h746) | 3, 5 => some (undef, h758) | 4, 1 => some ((vI v736.st), h758) | 4, 2 => some ((vB true), h758) | 4, 6 => some ((vI ((k) + 1)), h758) | 4, 7 => some ((vA #[(vS v736.rf), (vS v736.rt), (vI v736.f), (vI v736.t), (vI v736.st), (vS v736.d)]), h758) | 4, 8 => some ((vB true), h766) | 5, 0 => some ((vI ((k) + 1)), h766) | _, _ => none, fun _ => none, none⟩) (x := .normal) (h1 := h766) [(14, (vB true)), (15, (vI k)), (16, (vP b740 o741)), (17, (vA #[(vS v736.rf), (vS v736.rt), (vI v736.f), (vI v736.t), (vI v736.st), (vS v736.d)])), (4, (vP b748 0)), (3, (vI k)), (18, (vP b748 4)), (19, (vI v736.st)), (20, (vB true)), (21, (vB true)), (22, (Value.func (.yield l) #[] #[])), (23, (vI k)), (24, (vI ((k) + 1))), (25, (vA #[(vS v736.rf), (vS v736.rt), (vI v736.f), (vI v736.t), (vI v736.st), (vS v736.d)])), (26, (vB true)), (27, (vB false)), (28, (vB false)), (29, (vI ((k) + 1))), (13, (vI ((k) + 1)))]
          (fun q => (binA Tryd.prog .lss 3 (vI k) (vI ((ms.length : Nat))) = some (vB true) ∧ h728 = h728) ∧ (indexAddrA Tryd.prog 48 (vL a722 ms.length cc723) (vI k) = some (vP b740 o741) ∧ h728 = h728) ∧ (loadT Tryd.prog h728 32 (vP b740 o741) = some (vA #[(vS v736.rf), (vS v736.rt), (vI v736.f), (vI v736.t), (vI v736.st), (vS v736.d)]) ∧ h728 = h728) ∧ ((vP b748 0) = (Value.pointer (some ⟨h728.size, 0, none⟩)) ∧ h746 = h728.push (.cells #[(vS .empty), (vS .empty), (vI 0), (vI 0), (vI 0), (vS .empty)] 32 (0, 0))) ∧ (storeT Tryd.prog h746 32 (vP b748 0) (vA #[(vS v736.rf), (vS v736.rt), (vI v736.f), (vI v736.t), (vI v736.st), (vS v736.d)]) = some h758 ∧ (undef : Value) = undef) ∧ (loadT Tryd.prog h758 3 (vP b748 4) = some (vI v736.st) ∧ h758 = h758) ∧ (binA Tryd.prog .neq 3 (vI v736.st) (vI 3) = some (vB true) ∧ h758 = h758) ∧ (binA Tryd.prog .add 3 (vI k) (vI 1) = some (vI ((k) + 1)) ∧ h758 = h758) ∧ (loadT Tryd.prog h758 32 (vP b748 0) = some (vA #[(vS v736.rf), (vS v736.rt), (vI v736.f), (vI v736.t), (vI v736.st), (vS v736.d)]) ∧ h758 = h758) ∧ SoundYield Tryd.prog l #[(vI ((k) + 1)), (vA #[(vS v736.rf), (vS v736.rt), (vI v736.f), (vI v736.t), (vI v736.st), (vS v736.d)])] h758 (vB true) h766 ∧ (binA Tryd.prog .add 3 (vI k) (vI 1) = some (vI ((k) + 1)) ∧ h766 = h766) ∧ q) (by intro K'; as_aux_lemma => kernel_rfl) (fun _ q => ⟨⟨cmp_lss (decide_eq_true c734), rfl⟩, ⟨a744 und48 size32 e737, rfl⟩, ⟨(k742.keep fun b r hb q => x733.same b r q ((fun b hb => (fun b hb => hF b ((T.foot b).2 (.inr hb))) b (blk_of hb q743)) b hb)).agg (j := 0) agg32 size32 (show 0 + 6 ≤ 6 by decide) (by kernel_rfl), rfl⟩, ⟨by rw [eb749], e747⟩, ⟨by rw [e759]; exact store_cells size32 rfl f750 (by decide) (by simp) rfl (by kernel_rfl), rfl⟩, ⟨load_cell agg3 f760 rfl, rfl⟩, ⟨cmp_neq (decide_eq_true c764), rfl⟩, ⟨add_i64 (by omega) (by omega), rfl⟩, ⟨load_agg agg32 size32 f760 (by simp) (by kernel_rfl), rfl⟩, s768, ⟨add_i64 (by omega) (by omega), rfl⟩, q⟩) ?_
        exact ⟨ms.length - (k + 1).toNat, by omega, ⟨k + 1, D767, (fun i => ([vU, vU, vU, (vI k), (vP b748 0), vU, vU, vU, vU, vU, vU, vU, vU, vU, (vB true), (vI k), (vP b740 o741), (vA #[(vS v736.rf), (vS v736.rt), (vI v736.f), (vI v736.t), (vI v736.st), (vS v736.d)]), (vP b748 4), (vI v736.st), (vB true), (vB true), (Value.func (.yield l) #[] #[]), (vI k), (vI ((k) + 1)), (vA #[(vS v736.rf), (vS v736.rt), (vI v736.f), (vI v736.t), (vI v736.st), (vS v736.d)]), (vB true), (vB false), (vB false), (vI ((k) + 1))] : List Value).getD i undef), by as_aux_lemma => kernel_rfl, x772, rfl, by omega, (by have q := (hX _ _ _ _ q771 (Ext.refl h766)); rw [show (opn ms k.toNat).length + 1 = (opn ms (k + 1).toNat).length from (by rw [show (k + 1).toNat = i735 + 1 by omega, opn_next g739, if_neg c764, show i735 = k.toNat by omega]; simp)] at q; exact q), d774⟩⟩
  · refine wc_upd (n := 200) (T := ⟨fun r i => match r, i with | 2, 0 => some ((vB false), h728) | _, _ => none, fun _ => none, none⟩) (x := (.exit 0)) (h1 := h728) [(14, (vB false))]
      (fun q => (binA Tryd.prog .lss 3 (vI k) (vI ((ms.length : Nat))) = some (vB false) ∧ h728 = h728) ∧ q) (by intro K'; as_aux_lemma => kernel_rfl) (fun _ q => ⟨⟨cmp_lss (decide_eq_false c734), rfl⟩, q⟩) ?_
    refine end_at (T := ⟨fun _ _ => none, fun _ => none, none⟩) (A := K vZ h728) (by kernel_rfl) ?_
    exact hK _ _ (⟨x733, .inl ⟨DD, (by have q := (hX _ _ _ _ i730 (Ext.refl h728)); rw [show k.toNat = ms.length by omega] at q; exact q), i731⟩⟩)
end C32
