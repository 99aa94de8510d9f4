/- Moves, in plain terms. -/
import Derived.Test.YtghcfpoccafbjaaDoorKd
import Derived.KernelRfl
open Go Go.AM Go.Proofs
namespace C32
/-- A move. -/
structure MoveM where
  rf : ByteArray
  rt : ByteArray
  f : Int
  t : Int
  st : Int
  d : ByteArray
def movec (x : MoveM) : Array Value := #[.string x.rf, .string x.rt, .int .i64 x.f, .int .i64 x.t, .int .i64 x.st, .string x.d]
theorem movec_size (x : MoveM) : (movec x).size = 6 := rfl
def noMove : MoveM := ⟨.empty, .empty, 0, 0, 0, .empty⟩
/-- The open ones of the first k moves, with their numbers. -/
def opn (l : List MoveM) : Nat → List (Int × MoveM)
  | 0 => []
  | k + 1 => opn l k ++ (match l[k]? with
    | some m => if m.st = 3 then [] else [((k : Int) + 1, m)]
    | none => [])
theorem opn_next {l : List MoveM} {k : Nat} {m : MoveM} (hx : l[k]? = some m) : opn l (k + 1) = opn l k ++ if m.st = 3 then [] else [((k : Int) + 1, m)] := by simp only [opn, hx]
theorem opn_pre (l : List MoveM) {k : Nat} : ∀ n, k ≤ n → ∃ r, opn l n = opn l k ++ r
  | 0, h => ⟨[], by rw [show k = 0 by omega]; simp⟩
  | n + 1, h => by
    by_cases e : k = n + 1
    · exact ⟨[], by rw [e]; simp⟩
    · obtain ⟨r, hr⟩ := opn_pre l n (k := k) (by omega)
      exact ⟨r ++ _, by simp only [opn, hr, List.append_assoc]; rfl⟩
theorem opn_at {l : List MoveM} {k : Nat} {m : MoveM} (hx : l[k]? = some m) (hm : ¬ m.st = 3) : (opn l l.length)[(opn l k).length]? = some ((k : Int) + 1, m) := by
  obtain ⟨r, hr⟩ := opn_pre l (k := k + 1) l.length (List.getElem?_eq_some_iff.1 hx).1
  rw [hr, opn_next hx, if_neg hm]; simp
theorem opn_mem {l : List MoveM} {y : Int × MoveM} : ∀ {k : Nat}, y ∈ opn l k → ∃ j, j < k ∧ l[j]? = some y.2 ∧ y.1 = (j : Int) + 1 ∧ ¬ y.2.st = 3
  | 0, h => by cases h
  | k + 1, h => by
    simp only [opn] at h
    rcases List.mem_append.1 h with h | h
    · obtain ⟨j, hj, q⟩ := opn_mem h; exact ⟨j, by omega, q⟩
    · split at h
      · rename_i m hm
        split at h
        · cases h
        · rename_i c
          rw [List.mem_singleton.1 h]; exact ⟨k, by omega, hm, rfl, c⟩
      · cases h
theorem mem_opn {l : List MoveM} {j k : Nat} {m : MoveM} (hj : j < k) (hx : l[j]? = some m) (hm : ¬ m.st = 3) : ((j : Int) + 1, m) ∈ opn l k := by
  obtain ⟨r, hr⟩ := opn_pre l (k := j + 1) k hj
  rw [hr, opn_next hx, if_neg hm]; simp
theorem opn_len (l : List MoveM) : ∀ k, (opn l k).length ≤ k
  | 0 => Nat.le_refl _
  | k + 1 => by
    have := opn_len l k
    simp only [opn, List.length_append]
    split
    · split <;> simp <;> omega
    · simp; omega
/-- What the calls of a table give, and the table behind them. -/
def shareB (l : List MoveM) (r0 r1 : ByteArray) : Bool := (opn l l.length).any fun y => (rmeet y.2.rf y.2.rt r0 r1).2.2.1
def startE (l : List MoveM) (r0 r1 : ByteArray) (f t : Int) : Int := if rchk r0 r1 = 0 ∧ (1 ≤ f ∧ f < 8) ∧ (1 ≤ t ∧ t < 8) ∧ ¬ f = t then (if shareB l r0 r1 = true then 17 else if 64 ≤ l.length then 4 else 0) else 2
def startN (l : List MoveM) (r0 r1 : ByteArray) (f t : Int) : Int := if startE l r0 r1 f t = 0 then (l.length : Int) + 1 else 0
def startL (l : List MoveM) (r0 r1 : ByteArray) (f t : Int) : List MoveM := if startE l r0 r1 f t = 0 then l ++ [⟨r0, r1, f, t, 1, .empty⟩] else l
def findE (l : List MoveM) (n : Int) : Int := if n < 1 ∨ (l.length : Int) < n then 3 else 0
def getM (l : List MoveM) (n : Int) : MoveM := if n < 1 ∨ (l.length : Int) < n then noMove else l.getD (n - 1).toNat noMove
def givenE (l : List MoveM) (n : Int) (d : ByteArray) : Int := if findE l n = 0 then (if (65536 : Int) < (d.size : Nat) then 11 else if (getM l n).st = 1 then 0 else 9) else 3
def givenL (l : List MoveM) (n : Int) (d : ByteArray) : List MoveM := if givenE l n d = 0 then l.set (n - 1).toNat { getM l n with st := 2, d := d } else l
def takenE (l : List MoveM) (n : Int) : Int := if findE l n = 0 then (if (getM l n).st = 2 then 0 else 9) else 3
def takenL (l : List MoveM) (n : Int) : List MoveM := if takenE l n = 0 then l.set (n - 1).toNat { getM l n with st := 3, d := .empty } else l
def busyB (l : List MoveM) (k : ByteArray) : Bool := (opn l l.length).any fun y => rhas y.2.rf y.2.rt k
def openL (l : List MoveM) : List Int := (opn l l.length).map Prod.fst
theorem getM_at {l : List MoveM} {n : Int} {j : Nat} {m : MoveM} (hx : l[j]? = some m) (e : n = (j : Int) + 1) : getM l n = m := by
  have := (List.getElem?_eq_some_iff.1 hx).1
  unfold getM
  rw [if_neg (by omega), show (n - 1).toNat = j by omega, List.getD_eq_getElem?_getD, hx]; rfl
theorem findE_at {l : List MoveM} {n : Int} (h1 : 1 ≤ n) (h2 : n ≤ (l.length : Int)) : findE l n = 0 := if_neg (by omega)
theorem findE_out {l : List MoveM} {n : Int} (h : n < 1 ∨ (l.length : Int) < n) : findE l n = 3 := if_pos h
theorem getM_out {l : List MoveM} {n : Int} (h : n < 1 ∨ (l.length : Int) < n) : getM l n = noMove := if_pos h
theorem take_next {α : Type} {l : List α} {k : Nat} {y : α} (h : l[k]? = some y) : l.take (k + 1) = l.take k ++ [y] := by rw [List.take_add_one, h]; rfl
theorem any_next {α : Type} {l : List α} {k : Nat} {y : α} {F : α → Bool} (h : l[k]? = some y) (ha : (l.take k).any F = false) (hf : F y = false) : (l.take (k + 1)).any F = false := by
  rw [take_next h, List.any_append, ha]; simp [hf]
theorem any_opn {l : List MoveM} {k : Nat} {m : MoveM} {F : Int × MoveM → Bool} (hx : l[k]? = some m) (ha : (opn l k).any F = false) (hf : ¬ m.st = 3 → F ((k : Int) + 1, m) = false) : (opn l (k + 1)).any F = false := by
  rw [opn_next hx, List.any_append, ha]
  by_cases c : m.st = 3
  · rw [if_pos c]; rfl
  · rw [if_neg c]; simp [hf c]
/-- A table: its row, and the row of its list. -/
structure TabRow (T E : TypeId) (h : Heap) (O : Nat → Prop) (t : Nat) (l : List MoveM) (a : Option Addr) (c : Nat) : Prop where
  row : h[t]? = some (.cells #[.bool true, .slice a l.length c] T (0, 0))
  own : OwnAt h E movec l (.slice a l.length c)
  foot : ∀ b, O b ↔ b = t ∨ blk (.slice a l.length c) b
def TabAt (T E : TypeId) (h : Heap) (O : Nat → Prop) (t : Nat) (l : List MoveM) : Prop := ∃ a c, TabRow T E h O t l a c
section
variable {T E : TypeId} {h h1 : Heap} {O : Nat → Prop} {t : Nat} {l : List MoveM}
theorem TabAt.keep (k : TabAt T E h O t l) (w : ∀ b r, O b → h[b]? = some r → h1[b]? = some r) : TabAt T E h1 O t l := by
  obtain ⟨a, c, k⟩ := k
  exact ⟨a, c, w _ _ ((k.foot _).2 (.inl rfl)) k.row, k.own.keep fun b r hb q => w b r ((k.foot _).2 (.inr hb)) q, k.foot⟩
theorem TabAt.celled (k : TabAt T E h O t l) : Celled h O := by
  obtain ⟨a, c, k⟩ := k
  intro b hb
  rcases (k.foot b).1 hb with rfl | hb
  · exact ⟨_, _, _, k.row⟩
  · exact k.own.celled b hb
theorem TabAt.blk_lt (k : TabAt T E h O t l) {b : Nat} (hb : O b) : b < h.size := by
  obtain ⟨cs, e, fr, hr⟩ := k.celled b hb; exact row_lt hr
theorem tab_new {a : Option Addr} {c : Nat} (hr : h[t]? = some (.cells #[.bool true, .slice a l.length c] T (0, 0))) (ho : OwnAt h E movec l (.slice a l.length c)) : TabAt T E h (fun b => b = t ∨ blk (.slice a l.length c) b) t l := ⟨a, c, hr, ho, fun _ => Iff.rfl⟩
end
end C32
