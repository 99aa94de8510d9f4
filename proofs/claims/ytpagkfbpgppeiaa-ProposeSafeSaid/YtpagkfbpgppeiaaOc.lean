/- Rounds of votes: what the walk asks. -/
import Derived.Test.YtpagkfbpgppeiaaOb
import Derived.Test.YtpagkfbpgppeiaaMq
import Derived.KernelRfl
open Go Go.AM Go.Proofs
namespace C14
/-- A round of the script: who asks, who promises, who accepts. -/
structure ArrM where
  a : Int
  b : Int
  c : Int
def arrc (x : ArrM) : Array Value := #[.int .u8 x.a, .int .u8 x.b, .int .u8 x.c]
theorem arrc_size (x : ArrM) : (arrc x).size = 3 := rfl
def arrR (x : ArrM) : Prop := (0 ≤ x.a ∧ x.a ≤ 255) ∧ (0 ≤ x.b ∧ x.b ≤ 255) ∧ 0 ≤ x.c ∧ x.c ≤ 255
theorem mul_i64 {t : TypeId} {a b : Int} (h0 : -9223372036854775808 ≤ a * b) (h1 : a * b ≤ 9223372036854775807) : binA Try.prog .mul t (.int .i64 a) (.int .i64 b) = some (.int .i64 (a * b)) := by
  have : IntKind.i64.wrap (a * b) = a * b := by rw [IntKind.wrap_i64]; omega
  simp [binA, intBinA, this]
theorem add_u8 {t : TypeId} {a b : Int} (h0 : 0 ≤ a + b) (h1 : a + b ≤ 255) : binA Try.prog .add t (.int .u8 a) (.int .u8 b) = some (.int .u8 (a + b)) := by
  have : IntKind.u8.wrap (a + b) = a + b := by rw [IntKind.wrap_u8]; omega
  simp [binA, intBinA, this]
theorem quo_u8 {t : TypeId} {a : Int} (h0 : 0 ≤ a) (h1 : a ≤ 255) : binA Try.prog .quo t (.int .u8 a) (.int .u8 26) = some (.int .u8 (a / 26)) := by
  have e : IntKind.u8.wrap (a / 26) = a / 26 := by rw [IntKind.wrap_u8]; omega
  simp [binA, intBinA, Int.tdiv_eq_ediv_of_nonneg h0, e]
theorem shr8 {x k : Int} (h0 : 0 ≤ k) : binA Try.prog .shr 5 (.int .u8 x) (.int .i64 k) = some (.int .u8 (shrR x k)) := by
  have e : ¬ k < 0 := by omega
  simp [binA, shiftA, shrR, e]
theorem and8 {x k : Int} : binA Try.prog .and 5 (.int .u8 (shrR x k)) (.int .u8 1) = some (.int .u8 (bitR x k)) := rfl
/-- What a conversion of bytes to a text asks. -/
def OConv (h : Heap) (s d : TypeId) (x v : Value) (h1 : Heap) : Prop := match withH h (bytesStrA Try.prog h s d x) with
  | some (v', h') => v = v' ∧ h1 = h'
  | none => False
theorem conv_two {h : Heap} {b : Nat} {x y : Int} {t : TypeId} {fr : Nat × Nat} (hb : h[b]? = some (.cells #[.int .u8 x, .int .u8 y] t fr)) : OConv h 43 9 (.slice (some ⟨b, 0, none⟩) 2 2) (.string (two x y)) h := by
  have e1 : Try.prog.underlying 43 = some (.slice 5) := by kernel_rfl
  have e2 : Try.prog.underlying 9 = some .string := by kernel_rfl
  have e3 : Try.prog.underlying 5 = some (.int .u8) := by kernel_rfl
  have e4 : loadN h ⟨b, 0, none⟩ 2 = some #[.int .u8 x, .int .u8 y] := by simp [loadN, hb]
  have e5 : bytesStrA Try.prog h 43 9 (.slice (some ⟨b, 0, none⟩) 2 2) = some (.string (two x y)) := by
    simp only [bytesStrA, e1, e2, e3, e4]
    rfl
  unfold OConv; rw [e5]; exact ⟨rfl, rfl⟩
/-- What a make of a slice asks. -/
def OMade (h : Heap) (t : TypeId) (l c v : Value) (h1 : Heap) : Prop := match makeSliceA Try.prog h t l c with
  | some (v', h') => v = v' ∧ h1 = h'
  | none => False
theorem OMade.of {h : Heap} {t : TypeId} {l c v : Value} {h1 : Heap} (e : makeSliceA Try.prog h t l c = some (v, h1)) : OMade h t l c v h1 := by unfold OMade; rw [e]; exact ⟨rfl, rfl⟩
theorem empty_size {s : ByteArray} : s.size = 0 ↔ s = .empty := by
  constructor
  · intro h
    cases s with | mk a =>
    have : a.size = 0 := h
    have : a = #[] := Array.size_eq_zero_iff.1 this
    subst this; rfl
  · rintro rfl; rfl
def PromLe (i : Int) (ps : List BalM) : Prop := ∀ (j : Nat) (x : BalM), ps[j]? = some x → x.rd ≤ i
theorem PromLe.ok {i nd : Int} {ps : List BalM} (h : PromLe i ps) : PromOk i nd ps := fun j x hx => .inl (h j x hx)
theorem PromOk.le {i nd : Int} {ps : List BalM} (h : PromOk i nd ps) : PromLe (i + 1) ps := fun j x hx => by rcases h j x hx with q | q <;> omega
theorem rep_at {α : Type} {n j : Nat} {x y : α} (h : (List.replicate n x)[j]? = some y) : y = x := by
  rw [List.getElem?_replicate] at h
  split at h
  · exact (Option.some.inj h).symm
  · cases h
theorem votes_new {n : Int} (hn : 1 ≤ n) : Votes n 0 (List.replicate n.toNat noVote) := ⟨by rw [List.length_replicate]; omega, fun j x hx => by rw [rep_at hx]; exact .inl rfl⟩
theorem chosen_new (n : Int) (hs : List VoteM) : Chosen n 0 hs .empty := .inl rfl
theorem prom_new (n : Nat) : PromLe 0 (List.replicate n ⟨0, 0⟩) := fun j x hx => by rw [rep_at hx]; exact Int.le_refl 0
theorem keys_new (i : Int) : KeysLe [] i := fun e he => by cases he
theorem KeysLe.next {cm : List (VoteM × Int)} {i : Int} (h : KeysLe cm i) : KeysLe cm (i + 1) := fun e he => by have := h e he; omega
theorem Votes.next {n i : Int} {hs : List VoteM} (V : Votes n i hs) : Votes n (i + 1) hs := ⟨V.len, fun j x hx => (V.ok j x hx).imp id fun q => by omega⟩
theorem cnt_le (q : Nat → Bool) : ∀ n, cntP q n ≤ n
  | 0 => Nat.le_refl _
  | n + 1 => by
    have := cnt_le q n
    simp only [cntP]
    cases q n <;> simp <;> omega
section
variable {hs : List VoteM} {j : Nat} {k : Int} {x : VoteM}
theorem ent_nil (hx : hs[j]? = some x) (e1 : k = (j : Int)) (h : x.v = .empty) : entS hs k.toNat = [] := by
  have e : k.toNat = j := by omega
  unfold entS
  rw [e, hx]
  simp only [h]; rfl
theorem ent_one (hx : hs[j]? = some x) (e1 : k = (j : Int)) (h : ¬ x.v = .empty) : entS hs k.toNat = [] ++ [EntM.mk 0 x.rd x.nd x.v] := by
  have e : k.toNat = j := by omega
  have h2 : ¬ x.v.size = 0 := fun w => h (empty_size.1 w)
  unfold entS
  rw [e, hx]
  simp only [if_neg h2]; rfl
end
section
variable {n i nd b : Int} {hs : List VoteM} {m : PropM} {k : Int} {xs : List EntM}
theorem add_fine (hn : 1 ≤ n ∧ n ≤ 7) (hi : 0 ≤ i ∧ i ≤ 40) (V : Votes n i hs) (hk : 0 ≤ k ∧ k < n) (hm : m = tellM (newM n (i + 1) nd 0) hs b k.toNat) (he : entS hs k.toNat = xs) : addE m k xs 0 = 0 := by
  subst hm; subst he; exact tell_add hn hi V hk
theorem tell_step (h0 : 0 ≤ k) (hm : m = tellM (newM n (i + 1) nd 0) hs b k.toNat) (hb : ¬ bitR b k = 0) (he : entS hs k.toNat = xs) : m.told k.toNat xs 0 = tellM (newM n (i + 1) nd 0) hs b (k + 1).toNat := by
  have e : (k + 1).toNat = k.toNat + 1 := by omega
  have e2 : ((k.toNat : Nat) : Int) = k := by omega
  rw [e]
  simp only [tellM]
  rw [e2, if_neg hb, he, ← hm]
theorem tell_skip (h0 : 0 ≤ k) (hm : m = tellM (newM n (i + 1) nd 0) hs b k.toNat) (hb : bitR b k = 0) : m = tellM (newM n (i + 1) nd 0) hs b (k + 1).toNat := by
  have e : (k + 1).toNat = k.toNat + 1 := by omega
  have e2 : ((k.toNat : Nat) : Int) = k := by omega
  rw [e]
  simp only [tellM]
  rw [e2, if_pos hb, ← hm]
theorem ready_new (hn : 1 ≤ n) (hm : (newM n (i + 1) nd 0).ok) : false = readyB (newM n (i + 1) nd 0) := by
  have r := ready_cnt hm
  rw [cnt_new] at r
  have e : (newM n (i + 1) nd 0).n = n := rfl
  rw [r, decide_eq_false]
  rw [e]; omega
/-- What is found out, in short. -/
theorem vals_sum {ch : ByteArray} (hn : 1 ≤ n ∧ n ≤ 7) (V : Votes n i hs) (C : Chosen n i hs ch) (hm : m.ok) (em : m = tellM (newM n (i + 1) nd 0) hs b k.toNat) (ek : k = n) (hr : readyB m = true) :
    (valuesM m).length ≤ 1 ∧ ((valuesM m).length = 0 → ch = .empty) ∧ ∀ (j : Nat) (x : EntM), (valuesM m)[j]? = some x → x.slot = 0 ∧ x.rd = i + 1 ∧ x.nd = nd ∧ x.val.size = 2 ∧ (ch = .empty ∨ x.val = ch) := by
  subst ek
  rcases tell_vals hn V C hm em hr with ⟨e, ec⟩ | ⟨v, e, ev, ec⟩
  · rw [e]
    exact ⟨by simp, fun _ => empty_size.1 ec, fun j x hx => by cases hx⟩
  · rw [e]
    refine ⟨by simp, fun w => by simp at w, fun j x hx => ?_⟩
    cases j with
    | zero =>
      simp only [List.getElem?_cons_zero, Option.some.injEq] at hx
      subst hx
      exact ⟨rfl, rfl, rfl, ev, ec.imp empty_size.1 id⟩
    | succ j => simp at hx
end
theorem bits_pos {b k : Int} : 0 ≤ bitR b k := by
  unfold bitR; rw [IntKind.wrap_u8]; omega
theorem two_ne {s : ByteArray} (h : s.size = 2) : ¬ s = .empty := fun w => by rw [w] at h; cases h
section
variable {n i nd : Int} {val ch : ByteArray} {hs : List VoteM} {cm : List (VoteM × Int)} {k : Int}
/-- What holds while the nodes of a round accept. -/
structure AccM (n i nd : Int) (val ch : ByteArray) (hs : List VoteM) (cm : List (VoteM × Int)) (k : Int) : Prop where
  acc : Acc n i nd val hs k.toNat
  cho : Chosen n (i + 1) hs ch
  hval : ch.size = 0 ∨ ch = val
  keys : KeysLe cm (i + 1)
  cnt : lk cm ⟨i + 1, nd, val⟩ = ((cntP (geB hs (i + 1)) n.toNat : Nat) : Int)
  len : ((cm.length : Nat) : Int) ≤ 8 * i + k
theorem AccM.start (V : Votes n i hs) (C : Chosen n i hs ch) (hv : ch = .empty ∨ val = ch) (K : KeysLe cm i) (hl : ((cm.length : Nat) : Int) ≤ 8 * i) : AccM n i nd val ch hs cm 0 :=
  ⟨Acc.start V, C.next, hv.imp empty_size.2 Eq.symm, K.next, by rw [lk_none rfl cm K, cnt_start V]; rfl, by omega⟩
theorem AccM.skip (A : AccM n i nd val ch hs cm k) (h0 : 0 ≤ k) : AccM n i nd val ch hs cm (k + 1) :=
  ⟨by rw [show (k + 1).toNat = k.toNat + 1 by omega]; exact A.acc.skip, A.cho, A.hval, A.keys, A.cnt, by have := A.len; omega⟩
theorem AccM.range (A : AccM n i nd val ch hs cm k) (hn : n ≤ 7) (h1 : 0 ≤ n) : 0 ≤ lk cm ⟨i + 1, nd, val⟩ ∧ lk cm ⟨i + 1, nd, val⟩ ≤ 7 := by
  have := cnt_le (geB hs (i + 1)) n.toNat
  rw [A.cnt]; omega
theorem AccM.set (A : AccM n i nd val ch hs cm k) (hv : val.size = 2) (hi : 0 ≤ i) (hd : 0 ≤ nd ∧ nd < n) (hk : 0 ≤ k ∧ k < n) {j : Nat} (ej : k = (j : Int)) {c : Int} (ec : c = lk cm ⟨i + 1, nd, val⟩ + 1) :
    (AccM n i nd val ch (hs.set j ⟨i + 1, nd, val⟩) (put cm ⟨i + 1, nd, val⟩ c) (k + 1)) ∧ (n < 2 * c → AccM n i nd val val (hs.set j ⟨i + 1, nd, val⟩) (put cm ⟨i + 1, nd, val⟩ c) (k + 1)) := by
  have e : k.toNat = j := by omega
  have a1 := A.acc
  rw [e] at a1
  have hc := a1.cnt hv (by omega)
  have a2 := a1.set hv hi hd
  have ek : (k + 1).toNat = j + 1 := by omega
  have keys : KeysLe (put cm ⟨i + 1, nd, val⟩ c) (i + 1) := put_keys (Int.le_refl _) cm A.keys
  have cnt : lk (put cm ⟨i + 1, nd, val⟩ c) ⟨i + 1, nd, val⟩ = ((cntP (geB (hs.set j ⟨i + 1, nd, val⟩) (i + 1)) n.toNat : Nat) : Int) := by
    rw [lk_put, hc, ec, A.cnt]; omega
  have len : (((put cm ⟨i + 1, nd, val⟩ c).length : Nat) : Int) ≤ 8 * i + (k + 1) := by
    have := put_len ⟨i + 1, nd, val⟩ c cm
    have := A.len; omega
  refine ⟨⟨by rw [ek]; exact a2, A.cho.set A.hval hv a1.votes.len (by omega), A.hval, keys, cnt, len⟩, fun w => ⟨by rw [ek]; exact a2, a2.chosen ?_, .inr rfl, keys, cnt, len⟩⟩
  rw [← cnt, lk_put]; exact w
end
end C14
